import Derived.Test.YtkedcbligiebkaaY4
import Derived.Test.YtkedcbligiebkaaY3
import Derived.Test.YtkedcbligiebkaaY5
set_option linter.all false
open List renaming flatMap->hD,getElem_cons_succ->nA,getElem_cons_zero->nB,getElem_toArray->nD
open Option.some renaming inj->hH
open Go.Value renaming bool->hJ
open Bool renaming eq_false_iff->nE
namespace Go.Proofs.Ytkedcbligiebkaa
open Go.KL
def gDe:Sch:=.fl 0 (.fx 1 .nil .stop)
def gDf:Sch:=.fx 0 (.fl 1 .nil) .stop
def gDg:Sch:=.fx 0 (.fl 1 (.fl 2 .nil)) .stop
def gDh:Sch:=.fl 0 (.fx 1 (.fx 2 .nil .stop) .stop)
def gDi:Sch:=.fx 3 (.fl 4 (.fx 5 .nil .stop)) .stop
def gDj:Sch:=.fl 0 (.fx 1 (.fl 2 .nil) .stop)
def gDk:Sch:=.fx 8 (.fx 9 (.fl 10 .nil) .stop) .stop
def gDl:Sch:=.fl 0 (.fx 1 (.fl 2 (.fl 3 .nil)) .stop)
def gDm:Sch:=.fl 0 (.fl 1 (.fx 2 (.fx 3 (.fx 4 .nil .stop) .stop) .stop))
def gDn:Sch:=.fl 0 (.fl 1 (.fx 2 (.fx 3 (.fl 4 .nil) .stop) .stop))
def gDo:Sch:=.fl 0 (.fl 1 (.fx 2 (.fl 3 (.fl 4 .nil)) .stop))
set_option maxHeartbeats 4000000
theorem wGH (O:wAD) (aj:Option Addr) (ao:Nat) (ak:Option Addr) (ap:Nat) (am:Option Addr) (aq:Nat) (an:Option Addr) (au:Nat) (p1:Int) (w:World) (U:PHeap) (hS:St0 w U []) (bn:Sl U 1 aj ao O.Starts.length (hD KL.encI O.Starts)) (bo:Sl U 2 ak ap O.Splits.length (hD wAE O.Splits)) (bp:Sl U 3 am aq O.Clocks.length (hD wAP O.Clocks)) (bq:Sl U 4 an au O.Readings.length (hD wAH O.Readings)) {r:(Option wAd) × Int} (hm:wCg O p1=some r):Gv Try.prog 23 [.agg #[.slice aj O.Starts.length ao,.slice ak O.Splits.length ap,.slice am O.Clocks.length aq,.slice an O.Readings.length au],jV p1] w (wBz w [] U (fun U_ L_ v=>match r.1 with | none=>v=.tuple #[.pointer none,jV r.2]/\L_=[] | some d=>∃ (b0:Nat) (A0p00:Option Addr) (c0p00:Nat) (A0p01:Option Addr) (c0p01:Nat) (A0p02:Option Addr) (c0p02:Nat) (A0p03:Option Addr) (c0p03:Nat) (m0p1:Nat) (es0p1:Array MapEntry) (ck0p1:Nat) (A0p2:Option Addr) (c0p2:Nat),v=.tuple #[.pointer (some ⟨b0,0,none⟩),jV r.2]/\L_=[.blk b0 94 [.slice A0p00 d.Race.Starts.length c0p00,.slice A0p01 d.Race.Splits.length c0p01,.slice A0p02 d.Race.Clocks.length c0p02,.slice A0p03 d.Race.Readings.length c0p03,.map (some m0p1),.slice A0p2 d.edges.length c0p2],.obj m0p1 (.map es0p1 ck0p1)]/\Sl U_ 1 A0p00 c0p00 d.Race.Starts.length (hD KL.encI d.Race.Starts)/\Sl U_ 2 A0p01 c0p01 d.Race.Splits.length (hD wAE d.Race.Splits)/\Sl U_ 3 A0p02 c0p02 d.Race.Clocks.length (hD wAP d.Race.Clocks)/\Sl U_ 4 A0p03 c0p03 d.Race.Readings.length (hD wAH d.Race.Readings)/\MpR es0p1 wCX wCj d.number/\Sl U_ 7 A0p2 c0p2 d.edges.length (hD wAU d.edges))):=by
 unfold wCg at hm
 refine Gv.of Try.func23 Z Try.ntmps23 Try.results23 Z (sR gDg Z ?_)
 let B0:List Value:=[.slice aj O.Starts.length ao,.slice ak O.Splits.length ap,.slice am O.Clocks.length aq,.slice an O.Readings.length au]
 refine ZD (cs:=B0) rfl rfl rfl rfl rfl rfl (by rfl) hS ?_
 intro W1 b2 aV
 refine oA Z Z (oA Z Z (eN (sR (wDt (.fx 3 (.fx 4 (fC5_8 (.nil)) .stop) .stop)) Z (oL Z (aV.ldBA (j:=0) Z Z Z ZP zz (vs:=B0) Z Z) (oM Z Z ?_)))))
 let B1:List Value:=[jV 0,jV p1]
 refine oR Z (zq (pv:=[(0,jV 0),(1,jV p1)]) (z:=[jV 0,jV 0]) (cs:=B1) Z (wAC Z (wAC Z wAR)) Try.zeroValue54 wGE Z Z) (ZF (pv:=[(0,.agg B1.toArray)]) (zs:=[jV 0,jV 0]) (cs:=B1) Z Z Z Z Z (wAC Z wAR) Try.runUnderlying82 yM Try.zeroValue54 Z Z Z Z Z aV ?_)
 intro W5 b6 bk
 have bm:sW w U U [.row (some ⟨b6,0,none⟩) 1 54 2 (hD wBv [(⟨0,p1⟩:wAW)]),.blk b2 45 B0] W5:=bk
 have q:=bm.freezeR (k:=0) (n:=[(⟨0,p1⟩:wAW)].length) rfl (wAG (f:=wBv) (sz:=2) (fun _=>rfl) [(⟨0,p1⟩:wAW)]) (by decide)
 obtain ⟨aI,ai,br,bg⟩:=q
 have bh:sW w U aI [.blk b2 45 B0] W5:=bg
 have aX:=bn.le ai
 have aY:=bo.le ai
 have aZ:=bp.le ai
 have a7:=bq.le ai
 have q:=bnd hm
 obtain ⟨⟨bt,aW⟩,a8,ac⟩:=q
 try dsimp only at ac
 refine zL 0 Z Z Z Z (zK Z Z Try.call19 (zB Z (zB Z zQ)) Z) bh (fun hs=>wEu O aj ao ak ap am aq an au [(⟨0,p1⟩:wAW)] (some ⟨b6,0,none⟩) 1 W5 aI hs aX aY aZ a7 br a8) (.inr Z) ?_
 rintro af bu bx aJ bw aU aT
 rcases bt with _ | ae
 try dsimp only at ac
 obtain ⟨rfl,rfl⟩:=aT
 have bi:sW w U af [.blk b2 45 B0] aJ:=aU
 refine oR Z (zn Z Z (v:=.pointer none) Z) (oR Z (zn Z Z (v:=jV aW) Z) (oA Z Z (oA Z Z (eN (zT ?_)))))
 cases ac
 exact ⟨rfl,_,(wEz rfl rfl),af,_,(bi.pick [] _ (by decide) rfl),rfl,rfl⟩
 try dsimp only at ac
 obtain ⟨ax,az,aM,aE,aN,aF,aO,aG,aP,ay,aS,aQ,aH,aR,rfl,rfl,a9,ba,bb,bc,be,bf⟩:=aT
 have bj:sW w U af [.blk ax 94 [.slice az ae.Race.Starts.length aM,.slice aE ae.Race.Splits.length aN,.slice aF ae.Race.Clocks.length aO,.slice aG ae.Race.Readings.length aP,.map (some ay),.slice aH ae.edges.length aR],.obj ay (.map aS aQ),.blk b2 45 B0] aJ:=aU
 refine oR Z (zn Z Z (v:=.pointer (some ⟨ax,0,none⟩)) Z) (oR Z (zn Z Z (v:=jV aW) Z) (oA Z Z (oA Z Z (eN (zT ?_)))))
 cases ac
 exact ⟨rfl,_,(wEz rfl rfl),af,_,(bj.pick [0,1] _ (by decide) rfl),ax,az,aM,aE,aN,aF,aO,aG,aP,ay,aS,aQ,aH,aR,rfl,rfl,a9,ba,bb,bc,be,bf⟩
theorem wDz (O:wAd) (ap:Nat) (ao:Option Addr) (aq:Nat) (ax:Option Addr) (aF:Nat) (ay:Option Addr) (aG:Nat) (az:Option Addr) (aH:Nat) (aa:Nat) (ab:Array MapEntry) (ac:Nat) (aE:Option Addr) (aI:Nat) (p1:Int) (w:World) (U:PHeap) (hS:St0 w U [.blk ap 94 [.slice ao O.Race.Starts.length aq,.slice ax O.Race.Splits.length aF,.slice ay O.Race.Clocks.length aG,.slice az O.Race.Readings.length aH,.map (some aa),.slice aE O.edges.length aI],.obj aa (.map ab ac)]) (cD:Sl U 1 ao aq O.Race.Starts.length (hD KL.encI O.Race.Starts)) (cE:Sl U 2 ax aF O.Race.Splits.length (hD wAE O.Race.Splits)) (cG:Sl U 3 ay aG O.Race.Clocks.length (hD wAP O.Race.Clocks)) (cH:Sl U 4 az aH O.Race.Readings.length (hD wAH O.Race.Readings)) (a7:MpR ab wCX wCj O.number) (cI:Sl U 7 aE aI O.edges.length (hD wAU O.edges)) {r:(Arr Int 64)} (hm:wBQ O p1=some r):Gv Try.prog 24 [.pointer (some ⟨ap,0,none⟩),jV p1] w (wBz w [.blk ap 94 [.slice ao O.Race.Starts.length aq,.slice ax O.Race.Splits.length aF,.slice ay O.Race.Clocks.length aG,.slice az O.Race.Readings.length aH,.map (some aa),.slice aE O.edges.length aI],.obj aa (.map ab ac)] U (fun U_ L_ v=>v=.agg (hD KL.encI r.l).toArray/\L_=[.blk ap 94 [.slice ao O.Race.Starts.length aq,.slice ax O.Race.Splits.length aF,.slice ay O.Race.Clocks.length aG,.slice az O.Race.Readings.length aH,.map (some aa),.slice aE O.edges.length aI],.obj aa (.map ab ac)])):=by
 unfold wBQ at hm
 refine Gv.of Try.func24 Z Try.ntmps24 Try.results24 Z (sR (.fx 0 .nil .stop) Z (zY (cs:=hD KL.encI (Arr.fill 64 0).l) Z Z Z Z Z Try.zeroValue76 Z hS ?_))
 intro W3 b4 cu
 let B0:Res:=.blk ap 94 [.slice ao O.Race.Starts.length aq,.slice ax O.Race.Splits.length aF,.slice ay O.Race.Clocks.length aG,.slice az O.Race.Readings.length aH,.map (some aa),.slice aE O.edges.length aI]
 have cA:SW w [B0,.obj aa (.map ab ac)] U U [.blk b4 76 (hD KL.encI (Arr.fill 64 0).l),B0,.obj aa (.map ab ac)] W3:=cu
 refine eN (sR (.fx 0 .nil .stop) Z (zY (cs:=hD KL.encI (Arr.fill 64 0).l) Z Z Z Z Z Try.zeroValue76 Z cA ?_))
 intro W8 b9 co
 have bw:SW w [B0,.obj aa (.map ab ac)] U U [.blk b9 76 (hD KL.encI (Arr.fill 64 0).l),.blk b4 76 (hD KL.encI (Arr.fill 64 0).l),B0,.obj aa (.map ab ac)] W8:=co
 refine eN (zJ (sR fL7 Z (oM Z Z (oR Z (ZY Z Z) (oR Z (zI Z Z ZH Z zz) (oR Z (zI Z Z zX Z ZE) (oL Z (bw.ldB (j:=2) Z Z Z ZI (v:=.slice ao O.Race.Starts.length aq) Z) (oR Z (ZB Z Z zD) (oM Z Z (eN (zU (bnK hm fun ak cJ cV=>?_))))))))))))
 have q:=wBN cJ
 obtain ⟨ba,cK⟩:=q
 replace ba:=zH ba
 refine CK.forN' (fun af aJ σ_ w_=>∃ (U_:PHeap),σ_ 17=jV (↑af:Int)/\σ_ 0=.pointer (some ⟨ap,0,none⟩)/\σ_ 1=jV p1/\σ_ 4=.pointer (some ⟨b4,0,none⟩)/\σ_ 5=.pointer (some ⟨b9,0,none⟩)/\σ_ 16=jV (↑O.Race.Starts.length:Int)/\PHeap.Le U U_/\SW w [B0,.obj aa (.map ab ac)] U U_ [.blk b9 76 (hD KL.encI aJ.l),.blk b4 76 (hD KL.encI (Arr.fill 64 0).l),B0,.obj aa (.map ab ac)] w_) cK ?_ ?_ ?_
 exact ⟨U,Z,Z,Z,Z,Z,Z,(zM _),bw⟩
 rintro af aJ dq dw bg a8 ⟨be,aX,aR,bo,bW,bX,bp,aw,aZ⟩ cX
 have bj:Hid ((↑af:Int) < (↑O.Race.Starts.length:Int)):=zH (wBG a8)
 replace a8:=zH a8
 have cQ:Hid (w64 ((↑af:Int) + 1)=(↑(af + 1):Int)):=zH (by have h1:=ba.out;have h2:=bj.out;rw [wAY] <;> omega)
 refine sR fL1 Z (oR Z (zO Z aX bp) (eN (zJ (cT Z bj (kN (zJ (zU (sR fL2 Z (oM Z aX (oA Z Z (eN (sR (wLT (.fx 9 (wLV (.fx 14 (.fx 15 (.fl 16 (.fl 17 .nil)) .stop) .stop)) .stop)) Z (oM Z aR (oM Z aR (oR Z (ZY Z Z) (oR Z (zI Z Z ZH Z Zr) (oL Z (aZ.ldB (j:=2) Z Z Z Zu (v:=.map (some aa)) Z) (oM Z Z (oM Z bo (oR Z (zq (pv:=[(0,jV (↑af:Int)),(1,jV p1)]) (z:=[jV 0,jV 0]) (cs:=[jV (↑af:Int),jV p1]) Z (wAC Z (wAC Z wAR)) zj wBW Z Z) (oL Z (aZ.lookup1 (j:=3) (mk:=wCX) (mv:=wCj) (a:=(⟨(↑af:Int),p1⟩:wAB)) (z:=0) Z Z Z Z (wBY ZG) wDS ZN a7) ?_)))))))))))))))))))))
 have cb:=cD.le aw
 have cc:=cE.le aw
 have cd:=cG.le aw
 have ci:=cH.le aw
 have cj:=cI.le aw
 have q:=bnd cX
 obtain ⟨⟨aj,c9,da⟩,cm,bB⟩:=q
 try dsimp only at bB
 have cw:SW w [B0,.obj aa (.map ab ac)] U be [B0,.obj aa (.map ab ac),.blk b9 76 (hD KL.encI aJ.l),.blk b4 76 (hD KL.encI (Arr.fill 64 0).l)] bg:=aZ.pick [2,3,0,1] _ (by decide) rfl
 refine zL 2 Z Z Z Z (zK Z Z Try.call34 (zB Z (zB Z (zB Z zQ))) Z) cw (fun hs=>wBO O ap ao aq ax aF ay aG az aH aa ab ac aE aI (wAs O.number (⟨(↑af:Int),p1⟩:wAB) 0) false bg be hs cb cc cd ci a7 cj cm) (.inl Z) ?_
 rintro aO db dp bG c6 cx ⟨aK,aQ,aV,aW,rfl,rfl⟩
 let B1:Res:=.row aK aQ 3 1 (hD KL.encI aj.far)
 let B2:Res:=.row aV aW 3 1 (hD KL.encI aj.by_)
 have cy:SW w [B0,.obj aa (.map ab ac)] U aO [B1,B2,B0,.obj aa (.map ab ac),.blk b9 76 (hD KL.encI aJ.l),.blk b4 76 (hD KL.encI (Arr.fill 64 0).l)] bG:=cx
 refine oM Z Z (oR Z (zn Z Z (v:=.agg #[.slice aK aj.far.length aQ,.slice aV aj.by_.length aW]) Z) (oR Z (zn Z Z (v:=jV c9) Z) (oR Z (zn Z Z (v:=.bool da) Z) (zY (cs:=[.slice none 0 0,.slice none 0 0]) Z Z Z Z Z Zd Z cy ?_))))
 intro dg aP cz
 let B3:List Value:=[.slice aK aj.far.length aQ,.slice aV aj.by_.length aW]
 refine za (j:=0) (vs:=B3) Z Z Z Z cz Z Z Z Z Zs (zA Z) Z Z Z ?_
 intro bH cB
 have bA:SW w [B0,.obj aa (.map ab ac)] U aO [.blk aP 88 B3,B1,B2,B0,.obj aa (.map ab ac),.blk b9 76 (hD KL.encI aJ.l),.blk b4 76 (hD KL.encI (Arr.fill 64 0).l)] bH:=cB
 refine oA Z Z (oA Z Z (eN (sR fL7 Z (oM Z aR (oR Z (ZY Z Z) (oR Z (zI Z Z ZH Z zz) (oR Z (zI Z Z zX Z ZE) (oL Z (bA.ldB (j:=3) Z Z Z ZI (v:=.slice ao O.Race.Starts.length aq) Z) (oR Z (ZB Z Z zD) (oM Z Z (eN (zU (bnK bB fun dt cL cW=>?_)))))))))))))
 have q:=wBN cL
 obtain ⟨bb,cM⟩:=q
 replace bb:=zH bb
 refine CK.forN' (fun ag av σ_ w_=>∃ (U_:PHeap),σ_ 40=jV (↑ag:Int)/\σ_ 0=.pointer (some ⟨ap,0,none⟩)/\σ_ 1=jV p1/\σ_ 4=.pointer (some ⟨b4,0,none⟩)/\σ_ 5=.pointer (some ⟨b9,0,none⟩)/\σ_ 6=jV (↑af:Int)/\σ_ 7=.pointer (some ⟨aP,0,none⟩)/\σ_ 16=jV (↑O.Race.Starts.length:Int)/\σ_ 17=jV (↑af:Int)/\σ_ 39=jV (↑O.Race.Starts.length:Int)/\PHeap.Le aO U_/\SW w [B0,.obj aa (.map ab ac)] U U_ [B1,B2,.blk aP 88 B3,B0,.obj aa (.map ab ac),.blk b9 76 (hD KL.encI av.l),.blk b4 76 (hD KL.encI (Arr.fill 64 0).l)] w_) cM ?_ ?_ ?_
 exact ⟨aO,rfl,aR,bo,bW,bX,rfl,rfl,bp,aX,rfl,(zM _),(bA.pick [1,2,0,3,4,5,6] _ (by decide) rfl)⟩
 rintro ag av dr dx bh a9 ⟨bf,aY,bq,br,bY,bt,bu,bk,bL,bM,bm,c8,cC⟩ cY
 have bi:Hid ((↑ag:Int) < (↑O.Race.Starts.length:Int)):=zH (wBG a9)
 replace a9:=zH a9
 have cP:Hid (w64 ((↑ag:Int) + 1)=(↑(ag + 1):Int)):=zH (by have h1:=bb.out;have h2:=bi.out;rw [wAY] <;> omega)
 refine sR fL1 rfl (zb rfl rfl rfl rfl (fun _=>zO rfl aY bm) (eN (zJ (cT Z bi (kN (zJ (zU (sR fL2 rfl (zN rfl rfl rfl rfl rfl aY (yF rfl rfl rfl rfl rfl rfl (eN (zw zx [3,3,3,1,3,3,3,1,3,3,3,1,3,1,3,3,0] (wMM (.fx 16 .nil .stop)) (by kernel_rfl) ?_))))))))))))
 have au:=cC.drew
 generalize hw_W107:({ bh with drawn:=bh.drawn + 1 }:World)=dd at au ⊢
 refine oM Z bu (oM Z Z (oR Z (zI Z bk ZS Z ZE) (oL Z (au.ldB (j:=2) Z Z Z ZI (v:=.slice aK aj.far.length aQ) Z) (oM Z bq (oR Z (ZY Z Z) (oR Z (zI Z Z ZH Z Zr) (oL Z (au.ldB (j:=3) Z Z Z Zu (v:=.map (some aa)) Z) (oM Z Z (oM Z br (oR Z (zq (pv:=[(0,jV (↑ag:Int)),(1,jV p1)]) (z:=[jV 0,jV 0]) (cs:=[jV (↑ag:Int),jV p1]) Z (wAC Z (wAC Z wAR)) zj wBW Z Z) (oL Z (au.lookup1 (j:=4) (mk:=wCX) (mv:=wCj) (a:=(⟨(↑ag:Int),p1⟩:wAB)) (z:=0) Z Z Z Z (wBY ZG) wDS ZN a7) (bnK cY fun _ aS cR=>?_))))))))))))
 obtain ⟨dh,bv⟩:=au.rowSome (j:=0) rfl (by rw [wAG (f:=KL.encI) (sz:=1) (fun _=>rfl) aj.far];have hz:=wAM aS;omega)
 refine oR Z (zr Z Z bv Z zD zC (wAn aS) (wAo aS)) ?_
 have cN:=wAk (xs:=aj.far) (wAM aS)
 refine zt rfl rfl rfl rfl (au.ldR (j:=0) rfl bv rfl rfl zE (wAO (sz:=1) (fun _=>rfl) _ _ 0 _ cN (by first | omega | rfl | simp) rfl)) rfl (bnK cR fun _ aT cS=>zb rfl rfl rfl rfl (fun _=>Runs.iaA rfl bt rfl Try.runUnderlying76 Try.sizeOf75 (wAn aT) (wAo aT)) (bnK cS fun _ aU cU=>zb rfl rfl rfl rfl (fun _=>Runs.iaA rfl rfl rfl Try.runUnderlying75 zC (wAn aU) (wAo aU)) ?_))
 have cO:=Arr.at_ av (k:=(af * 8 + ag)) (by have hz0:=wAM aT;have hz1:=wAM aU;omega)
 refine za (j:=5) (vs:=[jV (gd aj.far (wAs O.number (⟨(↑ag:Int),p1⟩:wAB) 0).toNat)]) (cs':=hD KL.encI (av.set (af * 8 + ag) (gd aj.far (wAs O.number (⟨(↑ag:Int),p1⟩:wAB) 0).toNat)).l) rfl rfl rfl rfl au rfl rfl rfl rfl zC (by have hz0:=wAM aT;have hz1:=wAM aU;simp only [List.length_append,List.length_cons,List.length_nil,wBg (f:=KL.encI) (sz:=1) (N:=64) av (fun _=>rfl) rfl];omega) rfl (wBf (sz:=1) (fo:=0) (fun _=>rfl) _ _ _ _ cO (by first | omega | rfl | simp) (zA rfl) rfl) rfl ?_
 intro bD cp
 have cq:SW w [B0,.obj aa (.map ab ac)] U bf [B1,B2,.blk aP 88 B3,B0,.obj aa (.map ab ac),.blk b9 76 (hD KL.encI (av.set (af * 8 + ag) (gd aj.far (wAs O.number (⟨(↑ag:Int),p1⟩:wAB) 0).toNat)).l),.blk b4 76 (hD KL.encI (Arr.fill 64 0).l)] bD:=cp
 refine zW (zd (zF (rR fL2 Z (oR Z (ZJ (zR Z aY Z) (congrArg (jV) cP.out)) (oM Z Z (zW ?_))))))
 cases cU
 exact zF ⟨Z,⟨bf,Z,bq,br,bY,bt,bu,bk,bL,bM,bm,c8,cq⟩⟩
 rintro du de ⟨bC,bZ,bN,bO,bP,bQ,di,dk,bR,bS,bT,cZ,cr⟩
 have bJ:Hid (¬ ((↑(((↑O.Race.Starts.length:Int):Int) - 0).toNat:Int) < (↑O.Race.Starts.length:Int))):=zH (wAp)
 refine sR fL1 Z (oR Z (zO Z bZ bT) (eN (zJ (cF Z bJ (ZM (zc (zc (ZC (zd (zF (rR fL2 Z (oR Z (ZJ (zR Z bS Z) (congrArg (jV) cQ.out)) (oM Z Z (zW ?_))))))))))))))
 cases cW
 exact zF ⟨rfl,⟨bC,rfl,bN,bO,bP,bQ,bR,((aw.trans c6).trans cZ),(cr.pick [5,6,3,4] _ (by decide) rfl)⟩⟩
 rintro dv df ⟨bc,ca,dl,dm,bn,bU,bV,dn,bx⟩
 have bK:Hid (¬ ((↑(((↑O.Race.Starts.length:Int):Int) - 0).toNat:Int) < (↑O.Race.Starts.length:Int))):=zH (wAp)
 refine sR fL1 rfl (zb rfl rfl rfl rfl (fun _=>zO rfl ca bV) (eN (zJ (cF Z bK (ZM (zc (zc (ZC (zF (sR gDe rfl (zt rfl rfl rfl rfl (bx.ldBA (j:=0) rfl rfl bU Try.isAgg76 Try.sizeOf76 (vs:=hD KL.encI ak.l) (wLl ak (fun _=>rfl) rfl) (wBg ak (fun _=>rfl) rfl)) rfl (za (j:=1) (vs:=hD KL.encI ak.l) rfl rfl rfl rfl bx rfl bn rfl rfl (fun w=>by rw [wBg (f:=KL.encI) (sz:=1) (N:=64) ak (fun _=>rfl) rfl];exact Try.sizeOf76 w) (by rw [wBg (f:=KL.encI) (sz:=1) (N:=64) ak (fun _=>rfl) rfl,wBg (f:=KL.encI) (sz:=1) (N:=64) (Arr.fill 64 0) (fun _=>rfl) rfl];exact zA rfl) (wEt (fun _=>rfl) _) (wHh _ _ (by rw [wBg (f:=KL.encI) (sz:=1) (N:=64) ak (fun _=>rfl) rfl,wBg (f:=KL.encI) (sz:=1) (N:=64) (Arr.fill 64 0) (fun _=>rfl) rfl])) rfl ?_))))))))))))
 intro bE ct
 have bz:SW w [B0,.obj aa (.map ab ac)] U bc [.blk b9 76 (hD KL.encI ak.l),.blk b4 76 (hD KL.encI ak.l),B0,.obj aa (.map ab ac)] bE:=ct
 refine eN (zT ?_)
 have hE:=hH cV;first | subst r | cases hE
 exact ⟨rfl,_,(wIJ (v:=.agg (hD KL.encI ak.l).toArray) ⟨⟨_,bn,(wBL Try.isAgg76 Try.sizeOf76 (bz.blkAt (k:=1) rfl) (wLl ak (fun _=>rfl) rfl) (wBg ak (fun _=>rfl) rfl))⟩,trivial⟩),bc,_,(bz.pick [2,3] _ (by decide) rfl),rfl,rfl⟩
theorem wGI (O:wAD) (aH:Option Addr) (aI:Nat) (aZ:Option Addr) (a9:Nat) (a7:Option Addr) (ba:Nat) (a8:Option Addr) (bb:Nat) (p1:Int) (w:World) (U:PHeap) (hS:St0 w U []) (dw:Sl U 1 aH aI O.Starts.length (hD KL.encI O.Starts)) (dx:Sl U 2 aZ a9 O.Splits.length (hD wAE O.Splits)) (dy:Sl U 3 a7 ba O.Clocks.length (hD wAP O.Clocks)) (dz:Sl U 4 a8 bb O.Readings.length (hD wAH O.Readings)) {r:(List wAA) × Int} (hm:wBm O p1=some r):Gv Try.prog 11 [.agg #[.slice aH O.Starts.length aI,.slice aZ O.Splits.length a9,.slice a7 O.Clocks.length ba,.slice a8 O.Readings.length bb],jV p1] w (wBz w [] U (fun U_ L_ v=>∃ (A0:Option Addr) (c0:Nat),v=.tuple #[.slice A0 r.1.length c0,jV r.2]/\L_=[.row A0 c0 37 2 (hD wAE r.1)])):=by
 unfold wBm at hm
 refine Gv.of Try.func11 Z Try.ntmps11 Try.results11 Z (sR gDg Z ?_)
 let B0:List Value:=[.slice aH O.Starts.length aI,.slice aZ O.Splits.length a9,.slice a7 O.Clocks.length ba,.slice a8 O.Readings.length bb]
 refine ZD (cs:=B0) rfl rfl rfl rfl rfl rfl (by rfl) hS ?_
 intro W1 b2 bW
 refine oA Z Z (oA Z Z (eN (sR (.fl 0 (.fl 1 (.fx 2 (wMT (.nil)) .stop))) Z (oL Z (bW.ldBA (j:=0) Z Z Z ZP zz (vs:=B0) Z Z) (oM Z Z ?_)))))
 have q:=bnd hm
 obtain ⟨⟨x5,x6⟩,h7,aQ⟩:=q
 try dsimp only at aQ
 refine zL 0 Z Z Z Z (zK Z Z Try.call23 (zB Z (zB Z zQ)) Z) bW (fun hs=>wGH O aH aI aZ a9 a7 ba a8 bb p1 W1 U hs dw dx dy dz h7) (.inr Z) ?_
 rintro U9 d6 eC bj ep bT bR
 rcases x5 with _ | aJ
 try dsimp only at aQ
 obtain ⟨rfl,rfl⟩:=bR
 have dm:sW w U U9 [.blk b2 45 B0] bj:=bT
 refine oM Z Z (oR Z (zn Z Z (v:=.pointer none) Z) (oR Z (zn Z Z (v:=jV x6) Z) (oA Z Z (oA Z Z (eN (zJ (sR fL2 Z (oM Z Z (oR Z (Zo Z Z Z) (eN (ifc aQ ?_ ?_)))))))))))
 intro bp dS
 refine zl (zy (fun h=>h bp.out)) (kN (sR gDm Z (oM Z Z (oM Z Z ?_))))
 cases dS
 intro bp dT
 refine cT Z bp (sR fL3 Z (oM Z Z (oA Z Z (oA Z Z (eN (zT (zP ?_)))))))
 have dn:=dm.nilrow 37 2
 cases dT
 exact ⟨rfl,_,(wEz rfl rfl),U9,_,(dn.pick [0] _ (by decide) rfl),none,0,rfl,rfl⟩
 try dsimp only at aQ
 obtain ⟨bk,bz,bJ,bA,bK,bB,bL,bD,bN,ae,ag,af,bE,bO,rfl,rfl,cR,cS,cU,cV,cW,cX⟩:=bR
 let B1:Res:=.blk bk 94 [.slice bz aJ.Race.Starts.length bJ,.slice bA aJ.Race.Splits.length bK,.slice bB aJ.Race.Clocks.length bL,.slice bD aJ.Race.Readings.length bN,.map (some ae),.slice bE aJ.edges.length bO]
 have bX:sW w U U9 [B1,.obj ae (.map ag af),.blk b2 45 B0] bj:=bT
 refine oM Z Z (oR Z (zn Z Z (v:=.pointer (some ⟨bk,0,none⟩)) Z) (oR Z (zn Z Z (v:=jV x6) Z) (oA Z Z (oA Z Z (eN (zJ (sR fL2 Z (oM Z Z (oR Z (Zo Z Z Z) (eN (ifc aQ ?_ ?_)))))))))))
 intro bq dU
 refine zl (zy (fun h=>h bq.out)) (kN (sR gDm Z (oM Z Z (oM Z Z (bnK dU fun aa cY dV=>zL 2 Z Z Z Z (zK Z Z Try.call24 (zB Z (zB Z zQ)) Z) bX (fun hs=>wDz aJ bk bz bJ bA bK bB bL bD bN ae ag af bE bO p1 bj U9 hs cR cS cU cV cW cX cY) (.inl Z) ?_)))))
 rintro aM d7 eD cu eB dp ⟨rfl,rfl⟩
 have dq:sW w U aM [B1,.obj ae (.map ag af),.blk b2 45 B0] cu:=dp
 refine zY (cs:=hD KL.encI (Arr.fill 64 0).l) Z Z Z Z Z Try.zeroValue76 Z dq ?_
 intro cw aj dr
 have dt:sW w U aM [.blk aj 76 (hD KL.encI (Arr.fill 64 0).l),B1,.obj ae (.map ag af),.blk b2 45 B0] cw:=dr
 refine za (j:=0) (vs:=hD KL.encI aa.l) rfl rfl rfl rfl dt rfl rfl rfl rfl (fun w=>by rw [wBg (f:=KL.encI) (sz:=1) (N:=64) aa (fun _=>rfl) rfl];exact Try.sizeOf76 w) (by rw [wBg (f:=KL.encI) (sz:=1) (N:=64) aa (fun _=>rfl) rfl,wBg (f:=KL.encI) (sz:=1) (N:=64) (Arr.fill 64 0) (fun _=>rfl) rfl];exact zA rfl) (wEt (fun _=>rfl) _) (wHh _ _ (by rw [wBg (f:=KL.encI) (sz:=1) (N:=64) aa (fun _=>rfl) rfl,wBg (f:=KL.encI) (sz:=1) (N:=64) (Arr.fill 64 0) (fun _=>rfl) rfl])) rfl ?_
 intro cx du
 have bY:sW w U aM [.blk aj 76 (hD KL.encI aa.l),B1,.obj ae (.map ag af),.blk b2 45 B0] cx:=du
 refine eN (sR fL1 Z (oA Z Z (eN (zJ (sR fL4 Z (oR Z (zI Z Z zX Z ZE) (oL Z (bY.ldB (j:=3) Z Z Z ZI (v:=.slice aH O.Starts.length aI) Z) (oR Z (ZB Z Z zD) (oM Z Z (eN (zU (bnK dV fun eG dC dW=>?_))))))))))))
 have q:=wBN dC
 obtain ⟨bw,dD⟩:=q
 replace bw:=zH bw
 refine CK.forN' (fun am aG σ_ w_=>∃ (U_:PHeap) (aK:Option Addr) (aO:Nat),σ_ 28=jV (↑am:Int)/\σ_ 2=.pointer (some ⟨b2,0,none⟩)/\σ_ 8=.pointer (some ⟨aj,0,none⟩)/\σ_ 9=.slice aK aG.length aO/\σ_ 27=jV (↑O.Starts.length:Int)/\PHeap.Le aM U_/\sW w U U_ [.blk aj 76 (hD KL.encI aa.l),B1,.obj ae (.map ag af),.blk b2 45 B0,.row aK aO 37 2 (hD wAE aG)] w_) dD ?_ ?_ ?_
 have dv:=bY.nilrow 37 2
 exact ⟨aM,none,0,rfl,rfl,rfl,rfl,rfl,(zM _),(dv.pick [1,2,3,4,0] _ (by decide) rfl)⟩
 rintro am aG eF eL ej bu ⟨bi,aK,aO,br,bP,cC,cD,bQ,dZ,c6⟩ dX
 have bH:Hid ((↑am:Int) < (↑O.Starts.length:Int)):=zH (wBG bu)
 replace bu:=zH bu
 have dH:Hid (w64 ((↑am:Int) + 1)=(↑(am + 1):Int)):=zH (by have h1:=bw.out;have h2:=bH.out;rw [wAY] <;> omega)
 refine sR fL1 Z (oR Z (zO Z br bQ) (eN (zJ (cT Z bH (kN (zJ (zU (sR fL2 Z (oM Z br (oA Z Z (eN (sR gDh Z ?_))))))))))))
 let B2:List Value:=[jV 0,jV 0]
 let B3:List Value:=[jV 1,jV 1]
 refine oR Z (zq (pv:=[(0,jV 1),(1,jV 1)]) (z:=B2) (cs:=B3) Z (wAC Z (wAC Z wAR)) ZX wDe Z Z) (zY (cs:=B2) Z Z Z Z Z ZX Z c6 ?_)
 intro d8 aq c8
 refine za (j:=0) (vs:=B3) Z Z Z Z c8 Z Z Z Z zi (zA Z) Z Z Z ?_
 intro cm c9
 let B4:Res:=.row aK aO 37 2 (hD wAE aG)
 have bS:sW w U bi [.blk aq 37 B3,.blk aj 76 (hD KL.encI aa.l),B1,.obj ae (.map ag af),.blk b2 45 B0,B4] cm:=c9
 refine eN (zJ (sR fL4 Z (oR Z (zI Z bP zX Z ZE) (oL Z (bS.ldB (j:=4) Z Z Z ZI (v:=.slice aH O.Starts.length aI) Z) (oR Z (ZB Z Z zD) (oM Z Z (eN (zU ?_))))))))
 have q:=bnd dX
 obtain ⟨⟨bc,be⟩,dA,bZ⟩:=q
 try dsimp only at bZ
 have q:=wBN dA
 obtain ⟨bv,dB⟩:=q
 replace bv:=zH bv
 refine CK.forN' (fun au (az,ap) σ_ w_=>∃ (U_:PHeap),σ_ 35=jV (↑au:Int)/\σ_ 2=.pointer (some ⟨b2,0,none⟩)/\σ_ 8=.pointer (some ⟨aj,0,none⟩)/\σ_ 9=.slice aK aG.length aO/\σ_ 10=jV (↑am:Int)/\σ_ 11=.pointer (some ⟨aq,0,none⟩)/\σ_ 27=jV (↑O.Starts.length:Int)/\σ_ 28=jV (↑am:Int)/\σ_ 34=jV (↑O.Starts.length:Int)/\PHeap.Le bi U_/\sW w U U_ [.blk aq 37 [jV az,jV ap],.blk aj 76 (hD KL.encI aa.l),B1,.obj ae (.map ag af),.blk b2 45 B0,B4] w_) dB ?_ ?_ ?_
 exact ⟨bi,Z,bP,cC,cD,Z,Z,bQ,br,Z,(zM _),bS⟩
 rintro au ⟨az,ap⟩ eE eH d9 bt ⟨av,aF,aR,aw,aS,ax,ak,aT,aU,aP,aX,ay⟩ ca
 try dsimp only at ca
 have bI:Hid ((↑au:Int) < (↑O.Starts.length:Int)):=zH (wBG bt)
 replace bt:=zH bt
 have aW:Hid (w64 ((↑au:Int) + 1)=(↑(au + 1):Int)):=zH (by have h1:=bv.out;have h2:=bI.out;rw [wAY] <;> omega)
 refine sR fL1 Z (oR Z (zO Z aF aP) (eN (zJ (cT Z bI (kN (zJ (zU (sR fL2 Z (oM Z aF (oA Z Z (eN (zJ (sR fL6 Z (oM Z ax (oM Z Z (bnK ca fun _ an dI=>oR Z (Runs.iaA Z aw Z Try.runUnderlying76 Try.sizeOf75 (wAn an) (wAo an)) (bnK dI fun _ ao dJ=>oR Z (Runs.iaA Z Z Z Try.runUnderlying75 zC (wAn ao) (wAo ao)) ?_)))))))))))))))))
 have dE:=Arr.at_ aa (k:=(am * 8 + au)) (by have hz0:=wAM an;have hz1:=wAM ao;omega)
 refine zt rfl rfl rfl rfl (ay.ldB (j:=1) rfl rfl rfl zE (wAO (sz:=1) (fun _=>rfl) _ _ 0 _ dE (by first | omega | rfl | simp) rfl)) rfl (zb rfl rfl rfl rfl (fun _=>zO rfl rfl rfl) (eN (ifc dJ ?_ ?_)))
 intro bm dK
 refine cT Z bm (rR (wDL (.fx 4 .nil .stop)) Z (oR Z (zI Z ak zZ Z zC) (oL Z (ay.ldB (j:=0) Z Z Z zE (v:=jV az) Z) (oR Z (zR Z Z Z) (oR Z (zI Z ak zZ Z zC) (za (j:=0) (vs:=[jV (w64 (az + 1))]) Z Z Z Z ay Z Z Z Z zC (zA Z) Z Z Z ?_))))))
 intro co da
 have aV:sW w U av [.blk aq 37 [jV (w64 (az + 1)),jV ap],.blk aj 76 (hD KL.encI aa.l),B1,.obj ae (.map ag af),.blk b2 45 B0,B4] co:=da
 refine eN (sR fL6 Z (oM Z Z (oM Z ax (oR Z (Runs.iaA Z aw Z Try.runUnderlying76 Try.sizeOf75 (wAn ao) (wAo ao)) (oR Z (Runs.iaA Z Z Z Try.runUnderlying75 zC (wAn an) (wAo an)) ?_)))))
 have dF:=Arr.at_ aa (k:=(au * 8 + am)) (by have hz0:=wAM ao;have hz1:=wAM an;omega)
 refine zt rfl rfl rfl rfl (aV.ldB (j:=1) rfl rfl rfl zE (wAO (sz:=1) (fun _=>rfl) _ _ 0 _ dF (by first | omega | rfl | simp) rfl)) rfl (zb rfl rfl rfl rfl (fun _=>Zz rfl rfl rfl) (eN (ifc dK ?_ ?_)))
 intro bn dL
 refine cT Z bn (rR (wDL (.fx 4 .nil .stop)) Z (oR Z (zI Z ak zZ Z zC) (oL Z (aV.ldB (j:=0) Z Z Z zE (v:=jV ap) Z) (oR Z (zR Z Z Z) (oR Z (zI Z ak zZ Z zC) (za (j:=0) (vs:=[jV (w64 (ap + 1))]) Z Z Z Z aV Z Z Z Z zC (zA Z) Z Z Z ?_))))))
 intro cp db
 have dd:sW w U av [.blk aq 37 [jV (w64 (az + 1)),jV (w64 (ap + 1))],.blk aj 76 (hD KL.encI aa.l),B1,.obj ae (.map ag af),.blk b2 45 B0,B4] cp:=db
 refine zW (zd (zF (rR fL2 Z (oR Z (ZJ (zR Z aF Z) (congrArg (jV) aW.out)) (oM Z Z (zW ?_))))))
 cases dL
 exact zF ⟨Z,⟨av,Z,aR,aw,aS,ax,ak,aT,aU,aP,aX,dd⟩⟩
 intro bn dM
 refine cF Z bn (ZL (zd (zF (rR fL2 Z (oR Z (ZJ (zR Z aF Z) (congrArg (jV) aW.out)) (oM Z Z (zW ?_)))))))
 cases dM
 exact zF ⟨Z,⟨av,Z,aR,aw,aS,ax,ak,aT,aU,aP,aX,aV⟩⟩
 intro bm dN
 refine cF Z bm (kN (sR fL6 Z (oM Z Z (oM Z ax (oR Z (Runs.iaA Z aw Z Try.runUnderlying76 Try.sizeOf75 (wAn ao) (wAo ao)) (oR Z (Runs.iaA Z Z Z Try.runUnderlying75 zC (wAn an) (wAo an)) ?_))))))
 have dG:=Arr.at_ aa (k:=(au * 8 + am)) (by have hz0:=wAM ao;have hz1:=wAM an;omega)
 refine zt rfl rfl rfl rfl (ay.ldB (j:=1) rfl rfl rfl zE (wAO (sz:=1) (fun _=>rfl) _ _ 0 _ dG (by first | omega | rfl | simp) rfl)) rfl (zb rfl rfl rfl rfl (fun _=>Zz rfl rfl rfl) (eN (ifc dN ?_ ?_)))
 intro bo dO
 refine cT Z bo (rR (wDL (.fx 4 .nil .stop)) Z (oR Z (zI Z ak zZ Z zC) (oL Z (ay.ldB (j:=0) Z Z Z zE (v:=jV ap) Z) (oR Z (zR Z Z Z) (oR Z (zI Z ak zZ Z zC) (za (j:=0) (vs:=[jV (w64 (ap + 1))]) Z Z Z Z ay Z Z Z Z zC (zA Z) Z Z Z ?_))))))
 intro cq de
 have df:sW w U av [.blk aq 37 [jV az,jV (w64 (ap + 1))],.blk aj 76 (hD KL.encI aa.l),B1,.obj ae (.map ag af),.blk b2 45 B0,B4] cq:=de
 refine zW (zd (zF (rR fL2 Z (oR Z (ZJ (zR Z aF Z) (congrArg (jV) aW.out)) (oM Z Z (zW ?_))))))
 cases dO
 exact zF ⟨Z,⟨av,Z,aR,aw,aS,ax,ak,aT,aU,aP,aX,df⟩⟩
 intro bo dP
 refine cF Z bo (ZL (zd (zF (rR fL2 Z (oR Z (ZJ (zR Z aF Z) (congrArg (jV) aW.out)) (oM Z Z (zW ?_)))))))
 cases dP
 exact zF ⟨Z,⟨av,Z,aR,aw,aS,ax,ak,aT,aU,aP,aX,ay⟩⟩
 rintro eI ef ⟨bh,cO,cE,cG,cH,ek,cI,cJ,cK,cL,dY,bU⟩
 have cz:Hid (¬ ((↑(((↑O.Starts.length:Int):Int) - 0).toNat:Int) < (↑O.Starts.length:Int))):=zH (wAp)
 refine sR fL1 Z (oR Z (zO Z cO cL) (eN (zJ (cF Z cz (ZM (zc (zc (ZC (zF (rR gDn Z (oM Z cH ?_)))))))))))
 let B5:List Value:=[jV bc,jV be]
 refine oL Z (bU.ldBA (j:=0) Z Z cI Zi zi (vs:=B5) Z Z) (ZF (pv:=[(0,.agg B5.toArray)]) (zs:=B2) (cs:=B5) Z Z Z Z Z (wAC Z wAR) ze zi ZX Z Z Z Z Z bU ?_)
 intro cr cy dg
 let B6:Res:=.row (some ⟨cy,0,none⟩) 1 37 2 (hD wAE [(⟨bc,be⟩:wAA)])
 have bV:sW w U bh [B6,.blk aq 37 B5,.blk aj 76 (hD KL.encI aa.l),B1,.obj ae (.map ag af),.blk b2 45 B0,B4] cr:=dg
 refine bnK bZ fun cb cQ dQ=>Zy (j:=6) (enc:=wAE) (xs:=aG) (ys:=[(⟨bc,be⟩:wAA)]) (zs:=cb) rfl rfl rfl rfl rfl Try.underlying42 wHk rfl rfl rfl rfl rfl rfl bV rfl rfl rfl (bV.srcR (j:=0) rfl (by decide) (wAG (f:=wAE) (sz:=2) (fun _=>rfl) [(⟨bc,be⟩:wAA)])) (fun _=>rfl) (fun _=>rfl) cQ rfl ?_
 intro bC bM ct dh
 have di:sW w U bh [B6,.blk aq 37 B5,.blk aj 76 (hD KL.encI aa.l),B1,.obj ae (.map ag af),.blk b2 45 B0,.row bC bM 37 2 (hD wAE cb)] ct:=dh
 refine oA Z Z (zW (zd (zF (rR fL2 Z (oR Z (ZJ (zR Z cK Z) (congrArg (jV) dH.out)) (oM Z Z (zW ?_)))))))
 cases dQ
 exact zF ⟨rfl,⟨bh,bC,bM,rfl,cE,cG,rfl,cJ,(dZ.trans dY),(di.pick [2,3,4,5,6] _ (by decide) rfl)⟩⟩
 rintro eJ eh ⟨ci,cd,cA,cP,en,eo,cM,cN,ez,dk⟩
 have cB:Hid (¬ ((↑(((↑O.Starts.length:Int):Int) - 0).toNat:Int) < (↑O.Starts.length:Int))):=zH (wAp)
 refine sR fL1 Z (oR Z (zO Z cP cN) (eN (zJ (cF Z cB (ZM (zc (zc (ZC (zF (sR fL3 Z (oM Z cM (oA Z Z (oA Z Z (eN (zT ?_)))))))))))))))
 cases dW
 exact ⟨rfl,_,(wEz rfl rfl),ci,_,(dk.pick [4] _ (by decide) rfl),cd,cA,rfl,rfl⟩
 intro bq dR
 refine cT Z bq (sR fL3 Z (oM Z Z (oA Z Z (oA Z Z (eN (zT (zP ?_)))))))
 have dl:=bX.nilrow 37 2
 cases dR
 exact ⟨rfl,_,(wEz rfl rfl),U9,_,(dl.pick [0] _ (by decide) rfl),none,0,rfl,rfl⟩
end Go.Proofs.Ytkedcbligiebkaa
namespace Go.Proofs.Ytkedcbligiebkaa
open Go.KL
set_option maxHeartbeats 4000000
theorem wDf (O:wAA) (p1:(wAA->Option Bool)) (ag:Nat) (ac:Value) (w:World) (U:PHeap) (hS:St0 w U []) (ao:Cl U ag 0 [ac]) (ap:FnOK Try.prog U ac wKe wKf p1) {r:Bool} (hm:wAv O p1=some r):Gv Try.prog 36 [.agg #[jV O.Lo,jV O.Hi],.pointer (some ⟨ag,0,none⟩)] w (wBz w [] U (fun U_ L_ v=>v=.bool r/\L_=[])):=by
 unfold wAv at hm
 refine Gv.of Try.func36 Z Try.ntmps36 Try.results36 Z (sR gDf Z ?_)
 let B0:List Value:=[jV O.Lo,jV O.Hi]
 refine ZD (cs:=B0) rfl rfl rfl rfl rfl rfl (by rfl) hS ?_
 intro W1 b2 ab
 refine oA Z Z (eN (sR gDo Z (oL Z (ab.ldC (f:=0) ao (v:=ac) Z Z Try.isAgg79 Z) (oL Z (ab.ldBA (j:=0) Z Z Z Zi zi (vs:=B0) Z Z) (bnK hm fun x5 h6 aq=>yI (a:=O) Z Z Z Z Z Z (zB Z zQ) ab ap Z h6 ?_)))))
 rintro U8 L9 ax ai aw am ⟨rfl,rfl⟩
 have an:sW w U U8 [.blk b2 37 B0] ai:=am
 refine oR Z (ZV Z Z) (oA Z Z (eN (zT ?_)))
 cases aq
 exact ⟨rfl,_,(ZK rfl),U8,_,(an.pick [] _ (by decide) rfl),rfl,rfl⟩
theorem wCQ (O:List wAA) (ak:Option Addr) (am:Nat) (p1:(wAA->Option Bool)) (an:Value) (w:World) (U:PHeap) (hS:St0 w U []) (aT:Sl U 2 ak am O.length (hD wAE O)) (aU:FnOK Try.prog U an wKe wKf p1) {r:Int} (hm:wAj O p1=some r):Gv Try.prog 47 [.slice ak O.length am,an] w (wBz w [] U (fun U_ L_ v=>v=jV r/\L_=[])):=by
 unfold wAj at hm
 refine Gv.of Try.func47 Z Try.ntmps47 Try.results47 Z (sR fL1 Z (oA Z Z (eN (zJ (sR fL3 Z (oM Z Z (oR Z (ZB Z Z ze) (oM Z Z (eN (zU ?_))))))))))
 have q:=wBx hm
 obtain ⟨r3,af⟩:=q
 have q:=wBw af
 obtain ⟨ai,aX⟩:=q
 replace ai:=zH ai
 refine yE (fun k2 _ σ_ w_=>∃ (U_:PHeap),σ_ 8=jV (↑k2:Int)/\σ_ 0=.slice ak O.length am/\σ_ 1=an/\σ_ 7=jV (↑O.length:Int)/\PHeap.Le U U_/\sW w U U_ [] w_) aX ?_ ?_ ?_
 exact ⟨U,Z,Z,Z,Z,(zM _),hS⟩
 rintro k2 ⟨⟩ br bu W8 ag ⟨bf,ae,aq,au,av,aj,ax⟩ aE aV
 try dsimp only at aE
 have ap:Hid ((↑k2:Int) < (↑O.length:Int)):=zH (wBG ag)
 replace ag:=zH ag
 have aY:Hid (w64 ((↑k2:Int) + 1)=(↑(k2 + 1):Int)):=zH (by have h1:=ai.out;have h2:=ap.out;rw [wAY] <;> omega)
 refine sR fL1 Z (oR Z (zO Z ae av) (eN (zJ (cT Z ap (kN (zJ (zU (sR fL2 Z (oM Z ae (oA Z Z (eN (sR (wDD (.fx 5 .nil .stop)) Z (oM Z au (oM Z aq (oM Z Z (bnK aE fun ao aw aZ=>?_))))))))))))))))
 have aM:=aT.le aj
 have q:=aM.el (fun _=>rfl) (wAr aw)
 obtain ⟨bi,bn,aP,aQ⟩:=q
 refine oR Z (Zb Z Z aP Z ze zi (wCz aw)) (oL Z (ax.ldCA (f:=0) aQ Z Z Zi zi (us:=[jV ao.Lo,jV ao.Hi]) Z Z) (bnK aZ fun bq aN a7=>?_))
 have aO:=aU.le aj
 refine yI (a:=ao) Z Z Z Z Z Z (zB Z zQ) ax aO Z aN ?_
 rintro ab be bp aH bb aR ⟨rfl,rfl⟩
 have ay:sW w U ab [] aH:=aR
 refine eN (ifc a7 ?_ ?_)
 intro ac a8
 refine ZA (congrArg hJ ac.out) (sR fL2 Z (oM Z Z (oA Z Z (eN (zT (zV (zP ?_)))))))
 have q:=wAV a8
 obtain ⟨bc,a9,aJ⟩:=q
 have q:=wBA hm af (aV bc aJ)
 obtain rfl:=q
 refine zP (zV (zP ?_))
 cases a9
 exact ⟨Z,_,(ZK Z),ab,_,ay,Z,Z⟩
 intro ac ba
 refine zl (congrArg hJ (nE.2 ac.out)) (ZL (zd (zF (rR fL2 Z (oR Z (ZJ (zR Z ae Z) (congrArg (jV) aY.out)) (oM Z Z (zW ?_)))))))
 have q:=hH ba
 obtain rfl:=q
 exact zF ⟨Z,_,Z,⟨ab,Z,aq,au,av,(aj.trans bb),ay⟩⟩
 rintro ⟨⟩ bt bg ⟨aG,aL,bj,bk,aK,bm,aS⟩ aW
 have az:=wCl hm af aW
 try dsimp only at az
 have aI:Hid (¬ ((↑(((↑O.length:Int):Int) - 0).toNat:Int) < (↑O.length:Int))):=zH (wAp)
 refine sR fL1 Z (oR Z (zO Z aL aK) (eN (zJ (cF Z aI (ZM (zc (zc (ZC (zF (sR fL1 Z (oA Z Z (eN (zT ?_)))))))))))))
 cases az
 exact ⟨Z,_,(ZK Z),aG,_,aS,Z,Z⟩
theorem wCG (O:List wAA) (ab:Option Addr) (ac:Nat) (p1:(wAA->Option Bool)) (ae:Value) (w:World) (U:PHeap) (hS:St0 w U []) (an:Sl U 2 ab ac O.length (hD wAE O)) (ao:FnOK Try.prog U ae wKe wKf p1) {r:Bool} (hm:wAg O p1=some r):Gv Try.prog 35 [.slice ab O.length ac,ae] w (wBz w [] U (fun U_ L_ v=>v=.bool r/\L_=[])):=by
 unfold wAg at hm
 refine Gv.of Try.func35 Z Try.ntmps35 Try.results35 Z (sR fL1 Z (oA Z Z (eN (sR gDo Z (oM Z Z (oM Z Z (bnK hm fun x1 h2 ag=>zL 0 Z Z Z Z (zK Z Z Try.call47 (zB Z (zB Z zQ)) Z) hS (fun hs=>wCQ O ab ac p1 ae w U hs an ao h2) (.inr Z) ?_)))))))
 rintro U4 L5 v6 W7 aq am ⟨rfl,rfl⟩
 have ak:sW w U U4 [] W7:=am
 refine oR Z (Runs.geq Z Z Z) (oA Z Z (eN (zT ?_)))
 first | (obtain rfl:=hH ag) | cases ag
 exact ⟨Z,_,(ZK Z),U4,_,ak,Z,Z⟩
theorem wDq (p0:List wAA) (ag:Option Addr) (ai:Nat) (p1:(wAA->Option Bool)) (ae:Value) (w:World) (U:PHeap) (hS:St0 w U []) (aG:Sl U 2 ag ai p0.length (hD wAE p0)) (am:FnOK Try.prog U ae wKe wKf p1) {r:Bool} (hm:wBM p0 p1=some r):Gv Try.prog 25 [.slice ag p0.length ai,ae] w (wBz w [] U (fun U_ L_ v=>v=.bool r/\L_=[])):=by
 unfold wBM at hm
 refine Gv.of Try.func25 Z Try.ntmps25 Try.results25 Z (sR gDf Z (ZD (cs:=[ae]) Z Z Z Z Z Z (FnOK.cells am) hS ?_))
 intro W1 O az
 have q:=az.freeze (k:=0) rfl
 obtain ⟨U5,an,aa,aE⟩:=q
 replace aa:=Cl.of aa
 have aF:sW w U U5 [] W1:=aE
 replace aa:Cl U5 O 0 [ae]:=aa
 refine oA Z Z (eN (sR gDo Z (oM Z Z (oR Z (Runs.mkf Z zQ (zB Z zQ)) ?_))))
 have aq:=aG.le an
 have au:=am.le an
 have aw:FnOK Try.prog U5 (.func (.func 36) #[] #[.pointer (some ⟨O,0,none⟩)]) wKe wKf (fun x=>wAv x p1):=⟨36,[],[.pointer (some ⟨O,0,none⟩)],rfl,Try.call36,fun U1 w1 x y vs le hs ha hm=>by obtain rfl:=ha;exact wDf x p1 O ae w1 U1 hs (aa.le le) (au.le le) hm⟩
 refine bnK hm fun aM av aH=>zL 0 Z Z Z Z (zK Z Z Try.call35 (zB Z (zB Z zQ)) Z) aF (fun hs=>wCG p0 ag ai (fun x=>wAv x p1) (.func (.func 36) #[] #[.pointer (some ⟨O,0,none⟩)]) W1 U5 hs aq aw av) (.inr Z) ?_
 rintro aj aJ aL ap aK ax ⟨rfl,rfl⟩
 have ay:sW w U aj [] ap:=ax
 refine oR Z (ZV Z Z) (oA Z Z (eN (zT ?_)))
 cases aH
 exact ⟨Z,_,(ZK Z),aj,_,ay,Z,Z⟩
theorem wEm (O:wAA) (w:World) (U:PHeap) (hS:St0 w U [])  {r:Bool} (hm:wBU O=some r):Gv Try.prog 26 [.agg #[jV O.Lo,jV O.Hi]] w (wBz w [] U (fun U_ L_ v=>v=.bool r/\L_=[])):=by
 unfold wBU at hm
 refine Gv.of Try.func26 rfl Try.ntmps26 Try.results26 rfl (sR gDf rfl (ZD (cs:=[jV O.Lo,jV O.Hi]) rfl rfl rfl rfl rfl rfl (by rfl) hS ?_))
 intro W1 b2 aa
 refine oA Z Z (eN (sR fL6 Z (oR Z (zI Z Z zZ Z zC) (oL Z (aa.ldB (j:=0) Z Z Z zE (v:=jV O.Lo) Z) (oR Z (zI Z Z zZ Z zC) (oL Z (aa.ldB (j:=0) Z Z Z zE (v:=jV O.Hi) Z) (oR Z (Runs.leq Z Z Z) (oA Z Z (eN (zT ?_))))))))))
 first | (obtain rfl:=hH hm) | cases hm
 exact ⟨rfl,_,(ZK rfl),U,_,(aa.pick [] _ (by decide) rfl),rfl,rfl⟩
theorem wFT (p0:List wAA) (aq:Option Addr) (au:Nat) (w:World) (U:PHeap) (hS:St0 w U []) (bD:Sl U 2 aq au p0.length (hD wAE p0)) {r:(List wAA) × Int} (hm:wBk p0=some r):Gv Try.prog 12 [.slice aq p0.length au] w (wBz w [] U (fun U_ L_ v=>∃ (A0:Option Addr) (c0:Nat),v=.tuple #[.slice A0 r.1.length c0,jV r.2]/\L_=[.row A0 c0 37 2 (hD wAE r.1)])):=by
 unfold wBk at hm
 refine Gv.of Try.func12 Z Try.ntmps12 Try.results12 Z (sR fL2 Z (oA Z Z (oA Z Z (eN (zJ (zU (sR fL4 Z (oM Z Z (oR Z (ZB Z Z ze) (oR Z (Zz Z Z Z) (oA Z Z (eN ?_))))))))))))
 by_cases c1:40 < (↑p0.length:Int)
 have bE:=hm;rw [if_pos c1] at bE;replace c1:=zH c1
 refine cT Z c1 (sR fL2 Z (oA Z Z (oA Z Z (eN (zT (zV (zP ?_)))))))
 have cS:=hS.nilrow 37 2
 cases bE
 exact ⟨Z,_,(wEz Z Z),U,_,cS,none,0,Z,Z⟩
 have bF:=hm;rw [if_neg c1] at bF;replace c1:=zH c1
 refine cF Z c1 (sR gDl Z (oM Z Z ?_))
 have cD:FnOK Try.prog U (.func (.func 26) #[] #[]) wKe wKf wBU:=⟨26,[],[],rfl,Try.call26,fun U1 w1 x y vs le hs ha hm=>by obtain rfl:=ha;exact wEm x w1 U1 hs  hm⟩
 refine bnK bF fun x7 h8 dv=>zL 0 Z Z Z Z (zK Z Z Try.call25 (zB Z (zB Z zQ)) Z) hS (fun hs=>wDq p0 aq au wBU (.func (.func 26) #[] #[]) w U hs bD cD h8) (.inr Z) ?_
 rintro aU dA dS bN dx cI ⟨rfl,rfl⟩
 have bz:sW w U aU [] bN:=cI
 refine oR Z (ZV Z Z) (oA Z Z (eN (ifc dv ?_ ?_)))
 intro bc dp
 refine zl (nC bc.out) (ZL (zd (zF (sR fL1 Z (oA Z Z (eN (zJ (sR fL3 Z (oM Z Z (oR Z (ZB Z Z ze) (oM Z Z (eN (zU (bnK dp fun dW c8 dt=>?_))))))))))))))
 have q:=wBN c8
 obtain ⟨bg,c9⟩:=q
 replace bg:=zH bg
 refine CK.forN' (fun aw aF σ_ w_=>∃ (U_:PHeap) (aH:Option Addr) (aL:Nat),σ_ 20=jV (↑aw:Int)/\σ_ 0=.slice aq p0.length au/\σ_ 4=.slice aH aF.length aL/\σ_ 18=.slice aq p0.length au/\σ_ 19=jV (↑p0.length:Int)/\PHeap.Le aU U_/\sW w U U_ [.row aH aL 37 2 (hD wAE aF)] w_) c9 ?_ ?_ ?_
 have cU:=bz.nilrow 37 2
 exact ⟨aU,none,0,Z,Z,Z,Z,Z,(zM _),cU⟩
 rintro aw aF dV d5 dF bf ⟨aV,aH,aL,aX,bq,cq,br,bt,bI,bC⟩ dw
 have bp:Hid ((↑aw:Int) < (↑p0.length:Int)):=zH (wBG bf)
 replace bf:=zH bf
 have dd:Hid (w64 ((↑aw:Int) + 1)=(↑(aw + 1):Int)):=zH (by have h1:=bg.out;have h2:=bp.out;rw [wAY] <;> omega)
 refine sR fL1 Z (oR Z (zO Z aX bt) (eN (zJ (cT Z bp (kN (zJ (zU (sR (wDt gDi) Z (oM Z aX (bnK dw fun ay bv du=>?_))))))))))
 have cx:=bD.le dx
 have bw:=cx.le bI
 have q:=bw.el (fun _=>rfl) (wAr bv)
 obtain ⟨dJ,dR,cA,cC⟩:=q
 refine oR Z (Zb Z br cA aX ze zi (wCz bv)) (oL Z (bC.ldCA (f:=0) cC Z Z Zi zi (us:=[jV ay.Lo,jV ay.Hi]) Z Z) ?_)
 let B0:List Value:=[jV 0,jV 0]
 refine zY (cs:=B0) Z Z Z Z Z ZX Z bC ?_
 intro dG ae cV
 refine oA Z Z ?_
 let B1:List Value:=[jV ay.Lo,jV ay.Hi]
 refine za (j:=0) (vs:=B1) Z Z Z Z cV Z Z Z Z zi (zA Z) Z Z Z ?_
 intro bU cW
 let B2:Res:=.row aH aL 37 2 (hD wAE aF)
 have cX:sW w U aV [.blk ae 37 B1,B2] bU:=cW
 refine eN (sR gDh Z ?_)
 let B3:List Value:=[jV 1,jV 1]
 refine oR Z (zq (pv:=[(0,jV 1),(1,jV 1)]) (z:=B0) (cs:=B3) Z (wAC Z (wAC Z wAR)) ZX wDe Z Z) (zY (cs:=B0) Z Z Z Z Z ZX Z cX ?_)
 intro dH aj cY
 refine za (j:=0) (vs:=B3) Z Z Z Z cY Z Z Z Z zi (zA Z) Z Z Z ?_
 intro bV cZ
 have c6:sW w U aV [.blk aj 37 B3,.blk ae 37 B1,B2] bV:=cZ
 refine eN (zJ (sR fL3 Z (oM Z bq (oR Z (ZB Z Z ze) (oM Z Z (eN (zU ?_)))))))
 have q:=bnd du
 obtain ⟨⟨aY,aZ⟩,da,bG⟩:=q
 try dsimp only at bG
 have q:=wBN da
 obtain ⟨bh,db⟩:=q
 replace bh:=zH bh
 refine CK.forN' (fun aT (av,ag) σ_ w_=>∃ (U_:PHeap),σ_ 28=jV (↑aT:Int)/\σ_ 0=.slice aq p0.length au/\σ_ 4=.slice aH aF.length aL/\σ_ 5=jV (↑aw:Int)/\σ_ 6=.pointer (some ⟨ae,0,none⟩)/\σ_ 7=.pointer (some ⟨aj,0,none⟩)/\σ_ 18=.slice aq p0.length au/\σ_ 19=jV (↑p0.length:Int)/\σ_ 20=jV (↑aw:Int)/\σ_ 26=.slice aq p0.length au/\σ_ 27=jV (↑p0.length:Int)/\PHeap.Le aV U_/\sW w U U_ [.blk aj 37 [jV av,jV ag],.blk ae 37 B1,B2] w_) db ?_ ?_ ?_
 exact ⟨aV,Z,bq,cq,Z,Z,Z,br,bt,aX,Z,Z,(zM _),c6⟩
 rintro aT ⟨av,ag⟩ dU dX dB be ⟨ai,ap,aM,aN,ak,ao,ab,aO,aP,aQ,az,aE,aG,bx⟩ bH
 try dsimp only at bH
 have bn:Hid ((↑aT:Int) < (↑p0.length:Int)):=zH (wBG be)
 replace be:=zH be
 have aS:Hid (w64 ((↑aT:Int) + 1)=(↑(aT + 1):Int)):=zH (by have h1:=bh.out;have h2:=bn.out;rw [wAY] <;> omega)
 refine sR fL1 Z (oR Z (zO Z ap aE) (eN (zJ (cT Z bn (kN (zJ (zU (sR (wDt gDi) Z (oM Z ap (bnK bH fun ax bu de=>?_))))))))))
 have cu:=bw.le aG
 have q:=cu.el (fun _=>rfl) (wAr bu)
 obtain ⟨dI,dQ,cz,cB⟩:=q
 refine oR Z (Zb Z az cz ap ze zi (wCz bu)) (oL Z (bx.ldCA (f:=0) cB Z Z Zi zi (us:=[jV ax.Lo,jV ax.Hi]) Z Z) (zY (cs:=B0) Z Z Z Z Z ZX Z bx ?_))
 intro dC aW cE
 refine oA Z Z ?_
 let B4:List Value:=[jV ax.Lo,jV ax.Hi]
 refine za (j:=0) (vs:=B4) Z Z Z Z cE Z Z Z Z zi (zA Z) Z Z Z ?_
 intro bO cG
 have af:sW w U ai [.blk aW 37 B4,.blk aj 37 [jV av,jV ag],.blk ae 37 B1,B2] bO:=cG
 refine eN (zJ (sR wMJ Z (oM Z Z (oM Z ak (oR Z (Zo Z Z Z) (oM Z Z (ifc de ?_ ?_)))))))
 intro O df
 refine Zj Z Z Z (ZR Z Z (zy (fun h=>h O.out)) Z) (Zj Z Z Z (ZR Z Z (zy (fun h=>h O.out)) Z) (Zj Z Z Z (ZR Z Z (zy (fun h=>h O.out)) Z) (Zj Z Z Z (ZR Z Z (zy (fun h=>h O.out)) Z) (Zj Z Z Z (ZR Z Z (zy (fun h=>h O.out)) Z) (oR Z (zm Z (zy (fun h=>h O.out)) Z) (eN (zl Z (kN (sR wMJ Z (oM Z Z (oM Z ak (oR Z (Zo Z Z Z) (oM Z Z (Zj Z Z Z (ZR Z Z (zy (fun h=>h O.out)) Z) (Zj Z Z Z (ZR Z Z (zy (fun h=>h O.out)) Z) (Zj Z Z Z (ZR Z Z (zy (fun h=>h O.out)) Z) (Zj Z Z Z (ZR Z Z (zy (fun h=>h O.out)) Z) (Zj Z Z Z (ZR Z Z (zy (fun h=>h O.out)) Z) (oR Z (zm Z (zy (fun h=>h O.out)) Z) (eN (zl Z (ZL (zd (zF (rR fL2 Z (oR Z (ZJ (zR Z ap Z) (congrArg (jV) aS.out)) (oM Z Z (zW ?_))))))))))))))))))))))))))))
 cases df
 exact zF ⟨rfl,⟨ai,rfl,aM,aN,ak,ao,ab,aO,aP,aQ,az,aE,aG,(af.pick [1,2,3] _ (by decide) rfl)⟩⟩
 intro O dg
 refine rU Z (wT Z O) (zI Z Z zZ Z zC) (zt Z Z Z (wT Z O) (af.ldB (j:=0) Z Z Z zE (v:=jV ax.Hi) Z) Z (rU Z (wT Z O) (zI Z ao zZ Z zC) (zt Z Z Z (wT Z O) (af.ldB (j:=2) Z Z Z zE (v:=jV ay.Lo) Z) Z (rU Z (wT Z O) (zO Z Z Z) (oR Z (zk Z (ZW O.out) Z) (eN (ifc dg ?_ ?_)))))))
 intro a9 dh
 refine cT Z a9 (rR (wDL (.fx 4 .nil .stop)) Z (oR Z (zI Z ab zZ Z zC) (oL Z (af.ldB (j:=1) Z Z Z zE (v:=jV av) Z) (oR Z (zR Z Z Z) (oR Z (zI Z ab zZ Z zC) (za (j:=1) (vs:=[jV (w64 (av + 1))]) Z Z Z Z af Z Z Z Z zC (zA Z) Z Z Z ?_))))))
 intro bP cH
 have aR:sW w U ai [.blk aW 37 B4,.blk aj 37 [jV (w64 (av + 1)),jV ag],.blk ae 37 B1,B2] bP:=cH
 refine eN (sR wMJ Z (oM Z Z (oM Z ak (oR Z (Zo Z Z Z) (oM Z Z (rU Z (wT Z O) (zI Z Z zZ Z zC) (zt Z Z Z (wT Z O) (aR.ldB (j:=0) Z Z Z zE (v:=jV ax.Lo) Z) Z (rU Z (wT Z O) (zI Z ao zZ Z zC) (zt Z Z Z (wT Z O) (aR.ldB (j:=2) Z Z Z zE (v:=jV ay.Hi) Z) Z (rU Z (wT Z O) (zO Z Z Z) (oR Z (zk Z (ZW O.out) Z) (eN (ifc dh ?_ ?_)))))))))))))
 intro ba di
 refine cT Z ba (rR (wDL (.fx 4 .nil .stop)) Z (oR Z (zI Z ab zZ Z zC) (oL Z (aR.ldB (j:=1) Z Z Z zE (v:=jV ag) Z) (oR Z (zR Z Z Z) (oR Z (zI Z ab zZ Z zC) (za (j:=1) (vs:=[jV (w64 (ag + 1))]) Z Z Z Z aR Z Z Z Z zC (zA Z) Z Z Z ?_))))))
 intro bQ cJ
 have cK:sW w U ai [.blk aW 37 B4,.blk aj 37 [jV (w64 (av + 1)),jV (w64 (ag + 1))],.blk ae 37 B1,B2] bQ:=cJ
 refine zW (zd (zF (rR fL2 Z (oR Z (ZJ (zR Z ap Z) (congrArg (jV) aS.out)) (oM Z Z (zW ?_))))))
 cases di
 exact zF ⟨rfl,⟨ai,rfl,aM,aN,ak,ao,ab,aO,aP,aQ,az,aE,aG,(cK.pick [1,2,3] _ (by decide) rfl)⟩⟩
 intro ba dk
 refine cF Z ba (ZL (zd (zF (rR fL2 Z (oR Z (ZJ (zR Z ap Z) (congrArg (jV) aS.out)) (oM Z Z (zW ?_)))))))
 cases dk
 exact zF ⟨rfl,⟨ai,rfl,aM,aN,ak,ao,ab,aO,aP,aQ,az,aE,aG,(aR.pick [1,2,3] _ (by decide) rfl)⟩⟩
 intro a9 dl
 refine cF Z a9 (kN (sR wMJ Z (oM Z Z (oM Z ak (oR Z (Zo Z Z Z) (oM Z Z (rU Z (wT Z O) (zI Z Z zZ Z zC) (zt Z Z Z (wT Z O) (af.ldB (j:=0) Z Z Z zE (v:=jV ax.Lo) Z) Z (rU Z (wT Z O) (zI Z ao zZ Z zC) (zt Z Z Z (wT Z O) (af.ldB (j:=2) Z Z Z zE (v:=jV ay.Hi) Z) Z (rU Z (wT Z O) (zO Z Z Z) (oR Z (zk Z (ZW O.out) Z) (eN (ifc dl ?_ ?_))))))))))))))
 intro bb dm
 refine cT Z bb (rR (wDL (.fx 4 .nil .stop)) Z (oR Z (zI Z ab zZ Z zC) (oL Z (af.ldB (j:=1) Z Z Z zE (v:=jV ag) Z) (oR Z (zR Z Z Z) (oR Z (zI Z ab zZ Z zC) (za (j:=1) (vs:=[jV (w64 (ag + 1))]) Z Z Z Z af Z Z Z Z zC (zA Z) Z Z Z ?_))))))
 intro bR cL
 have cM:sW w U ai [.blk aW 37 B4,.blk aj 37 [jV av,jV (w64 (ag + 1))],.blk ae 37 B1,B2] bR:=cL
 refine zW (zd (zF (rR fL2 Z (oR Z (ZJ (zR Z ap Z) (congrArg (jV) aS.out)) (oM Z Z (zW ?_))))))
 cases dm
 exact zF ⟨rfl,⟨ai,rfl,aM,aN,ak,ao,ab,aO,aP,aQ,az,aE,aG,(cM.pick [1,2,3] _ (by decide) rfl)⟩⟩
 intro bb dn
 refine cF Z bb (ZL (zd (zF (rR fL2 Z (oR Z (ZJ (zR Z ap Z) (congrArg (jV) aS.out)) (oM Z Z (zW ?_)))))))
 cases dn
 exact zF ⟨rfl,⟨ai,rfl,aM,aN,ak,ao,ab,aO,aP,aQ,az,aE,aG,(af.pick [1,2,3] _ (by decide) rfl)⟩⟩
 rintro dY dD ⟨a8,cr,ca,cb,dK,dL,cc,cd,ci,cj,dM,cm,dy,bA⟩
 have bX:Hid (¬ ((↑(((↑p0.length:Int):Int) - 0).toNat:Int) < (↑p0.length:Int))):=zH (wAp)
 refine sR fL1 Z (oR Z (zO Z cr cm) (eN (zJ (cF Z bX (ZM (zc (zc (ZC (zF (rR gDn Z (oM Z cb ?_)))))))))))
 let B5:List Value:=[jV aY,jV aZ]
 refine oL Z (bA.ldBA (j:=0) Z Z cc Zi zi (vs:=B5) Z Z) (ZF (pv:=[(0,.agg B5.toArray)]) (zs:=B0) (cs:=B5) Z Z Z Z Z (wAC Z wAR) ze zi ZX Z Z Z Z Z bA ?_)
 intro bS bW cN
 let B6:Res:=.row (some ⟨bW,0,none⟩) 1 37 2 (hD wAE [(⟨aY,aZ⟩:wAA)])
 have bB:sW w U a8 [B6,.blk aj 37 B5,.blk ae 37 B1,B2] bS:=cN
 refine bnK bG fun bJ cw dq=>Zy (j:=3) (enc:=wAE) (xs:=aF) (ys:=[(⟨aY,aZ⟩:wAA)]) (zs:=bJ) rfl rfl rfl rfl rfl Try.underlying42 wHk rfl rfl rfl rfl rfl rfl bB rfl rfl rfl (bB.srcR (j:=0) rfl (by decide) (wAG (f:=wAE) (sz:=2) (fun _=>rfl) [(⟨aY,aZ⟩:wAA)])) (fun _=>rfl) (fun _=>rfl) cw rfl ?_
 intro bj bo bT cO
 have cP:sW w U a8 [B6,.blk aj 37 B5,.blk ae 37 B1,.row bj bo 37 2 (hD wAE bJ)] bT:=cO
 refine oA Z Z (zW (zd (zF (rR fL2 Z (oR Z (ZJ (zR Z cj Z) (congrArg (jV) dd.out)) (oM Z Z (zW ?_)))))))
 cases dq
 exact zF ⟨rfl,⟨a8,bj,bo,rfl,ca,rfl,cd,ci,(bI.trans dy),(cP.pick [3] _ (by decide) rfl)⟩⟩
 rintro dZ dE ⟨bM,bK,bY,ct,dN,co,dO,cp,dP,cQ⟩
 have bZ:Hid (¬ ((↑(((↑p0.length:Int):Int) - 0).toNat:Int) < (↑p0.length:Int))):=zH (wAp)
 refine sR fL1 Z (oR Z (zO Z ct cp) (eN (zJ (cF Z bZ (ZM (zc (zc (ZC (zF (sR fL3 Z (oM Z co (oA Z Z (oA Z Z (eN (zT ?_)))))))))))))))
 cases dt
 exact ⟨Z,_,(wEz Z Z),bM,_,cQ,bK,bY,Z,Z⟩
 intro bc dr
 refine ZA (nF (bc.out)) (sR fL2 Z (oA Z Z (oA Z Z (eN (zT (zV (zP ?_)))))))
 have cR:=bz.nilrow 37 2
 cases dr
 exact ⟨Z,_,(wEz Z Z),aU,_,cR,none,0,Z,Z⟩
theorem wEA (p0:List Int) (fQ:Option Addr) (fR:Nat) (p1:Int) (w:World) (U:PHeap) (hS:St0 w U []) (sk:Sl U 1 fQ fR p0.length (hD KL.encB8 p0)) {r:Bool} (hm:wBe p0 p1=some r):Gv Try.prog 3 [.slice fQ p0.length fR,jV p1] w (wBz w [] U (fun U_ L_ v=>v=.bool r/\L_=[])):=by
 unfold wBe at hm
 refine Gv.of Try.func3 Z Try.ntmps3 Try.results3 Z (sR fL1 Z (oA Z Z (eN (sR gDj Z (oM Z Z (bnK hm fun x1 h2 t6=>zL 0 Z Z Z Z (zK Z Z Try.call4 (zB Z zQ) Z) hS (fun hs=>wFN p0 fQ fR w U hs sk h2) (.inr Z) ?_))))))
 rintro U4 L5 v6 W7 ws r5 ⟨ab,ge,ic,rfl,rfl,o5⟩
 have qG:sW w U U4 [.blk ab 61 [.slice ge x1.bytes.length ic,jV x1.next,.int .u32 x1.state]] W7:=r5
 refine oA Z Z (eN (sR fL1 Z (oA Z Z (eN (zJ (sR gDj Z (oM Z Z ?_)))))))
 have q:=bnd t6
 obtain ⟨⟨dy,fT⟩,o9,jy⟩:=q
 try dsimp only at jy
 refine zL 1 Z Z Z Z (zK Z Z Try.call5 (zB Z (zB Z (zB Z zQ))) Z) qG (fun hs=>wAx x1 ab ge ic 1 6 W7 U4 hs o5 o9) (.inl Z) ?_
 rintro dY vq wD lB wo qW ⟨gj,ij,rfl,rfl,pj⟩
 have qZ:sW w U dY [.blk ab 61 [.slice gj fT.bytes.length ij,jV fT.next,.int .u32 fT.state]] lB:=qW
 refine oM Z Z (eN (zU ?_))
 have q:=bnd jy
 obtain ⟨⟨jY,jZ,j0,dJ⟩,sA,jH⟩:=q
 try dsimp only at jH
 have q:=wBN sA
 obtain ⟨fH,sB⟩:=q
 replace fH:=zH fH
 refine CK.forN' (fun a8 (cD,f5,f6,cE) σ_ w_=>∃ (U_:PHeap) (cQ:Option Addr) (dg:Nat) (cR:Option Addr) (dh:Nat),σ_ 34=jV (↑a8:Int)/\σ_ 1=jV p1/\σ_ 5=.pointer (some ⟨ab,0,none⟩)/\σ_ 6=.slice cR cE.length dh/\σ_ 33=jV dy/\PHeap.Le dY U_/\sW w U U_ [.blk ab 61 [.slice cQ cD.length dg,jV f5,.int .u32 f6],.row cR dh 29 2 (hD wAb cE)] w_/\Sl U_ 1 cQ dg cD.length (hD KL.encB8 cD)) sB ?_ ?_ ?_
 have rL:=qZ.nilrow 29 2
 exact ⟨dY,gj,ij,none,0,rfl,rfl,rfl,rfl,rfl,(zM _),(rL.pick [1,0] _ (by decide) rfl),pj⟩
 rintro a8 ⟨cD,f5,f6,cE⟩ wR xl lS fz ⟨lm,cQ,dg,cR,dh,eW,n7,iW,og,iX,uK,rX,pM⟩ jP
 try dsimp only at jP
 have iv:Hid ((↑a8:Int) < dy):=zH (wBG fz)
 replace fz:=zH fz
 have jq:Hid (w64 ((↑a8:Int) + 1)=(↑(a8 + 1):Int)):=zH (by have h1:=fH.out;have h2:=iv.out;rw [wAY] <;> omega)
 refine sR fL1 Z (oR Z (zO Z eW iX) (eN (zJ (cT Z iv (kN (zJ (zU (sR fL2 Z (oM Z eW (oA Z Z (eN (rR (wDL (.fx 4 (wIb gDk) .stop)) Z (oM Z og (oM Z Z (oR Z (ZJ (zR Z Z Z) (congrArg (jV) jq.out)) (oM Z iW ?_))))))))))))))))
 have q:=bnd jP
 obtain ⟨⟨cN,f8⟩,p8,jJ⟩:=q
 try dsimp only at jJ
 refine zL 1 Z Z Z Z (zK Z Z Try.call6 (zB Z (zB Z zQ)) Z) rX (fun hs=>wBX (⟨cD,f5,f6⟩:wAL) ab cQ dg 60 lS lm hs pM p8) (.inl Z) ?_
 rintro da vl wx lq uu qm ⟨gb,g8,rfl,rfl,oO⟩
 let B0:Res:=.blk ab 61 [.slice gb f8.bytes.length g8,jV f8.next,.int .u32 f8.state]
 let B1:Res:=.row cR dh 29 2 (hD wAb cE)
 have qp:sW w U da [B0,B1] lq:=qm
 refine oR Z (Runs.mulw Z Z Z) (oR Z (zR Z Z Z) ?_)
 let B2:List Value:=[jV (↑(a8 + 1):Int),jV (w64 (9000 + (w64 (11 * cN))))]
 refine oR Z (zq (pv:=[(0,jV (↑(a8 + 1):Int)),(1,jV (w64 (9000 + (w64 (11 * cN)))))]) (z:=[jV 0,jV 0]) (cs:=B2) Z (wAC Z (wAC Z wAR)) Try.zeroValue29 wJo Z Z) (ZF (pv:=[(0,.agg B2.toArray)]) (zs:=[jV 0,jV 0]) (cs:=B2) Z Z Z Z Z (wAC Z wAR) ZZ Zh Try.zeroValue29 Z Z Z Z Z qp ?_)
 intro lv lU qx
 let B3:Res:=.row (some ⟨lU,0,none⟩) 1 29 2 (hD wAb ([(⟨(↑(a8 + 1):Int),w64 (9000 + (w64 (11 * cN)))⟩:wAI)]:List wAI))
 have jg:sW w U da [B3,B0,B1] lv:=qx
 refine bnK jJ fun jX o3 tp=>Zy (j:=2) (enc:=wAb) (xs:=cE) (ys:=([(⟨(↑(a8 + 1):Int),w64 (9000 + (w64 (11 * cN)))⟩:wAI)]:List wAI)) (zs:=jX) rfl rfl rfl rfl rfl Try.underlying25 wLp rfl rfl rfl rfl rfl rfl jg rfl rfl rfl (jg.srcR (j:=0) rfl (by decide) (wAG (f:=wAb) (sz:=2) (fun _=>rfl) ([(⟨(↑(a8 + 1):Int),w64 (9000 + (w64 (11 * cN)))⟩:wAI)]:List wAI))) (fun _=>rfl) (fun _=>rfl) o3 rfl ?_
 intro gf ib lw qB
 have qC:sW w U da [B3,B0,.row gf ib 29 2 (hD wAb jX)] lw:=qB
 refine oA Z Z (zW (zd (zF (rR fL2 Z (oR Z (ZJ (zR Z eW Z) (congrArg (jV) jq.out)) (oM Z Z (zW ?_)))))))
 cases tp
 exact zF ⟨rfl,⟨da,gb,g8,gf,ib,rfl,n7,iW,rfl,iX,(uK.trans uu),(qC.pick [1,2] _ (by decide) rfl),oO⟩⟩
 rintro xe lx ⟨lb,gg,ie,gh,ig,ou,mP,iG,iH,mQ,wl,qF,o6⟩
 have l4:Hid (¬ ((↑((dy:Int) - 0).toNat:Int) < dy)):=zH (wAp)
 refine sR fL1 Z (oR Z (zO Z ou mQ) (eN (zJ (cF Z l4 (ZM (zc (zc (ZC (zF (sR (.fl 0 (.fl 1 (.fx 2 (.fl 3 (.fl 4 (.fx 5 (wKp (.nil)) .stop))) .stop))) Z (oM Z iH (oM Z mP (bnK jH fun fS o7 tZ=>zL 0 Z Z Z Z (zK Z Z Try.call8 (zB Z (zB Z zQ)) Z) qF (fun hs=>wEf p1 50 lx lb hs o7) (.inr Z) ?_)))))))))))))
 rintro lc vo wA d9 uA qH ⟨rfl,rfl⟩
 let B4:Res:=.blk ab 61 [.slice gg jY.length ie,jV jZ,.int .u32 j0]
 let B5:Res:=.row gh ig 29 2 (hD wAb dJ)
 have qI:sW w U lc [B4,B5] d9:=qH
 refine oR Z (zR Z Z Z) ?_
 let B6:List Value:=[jV 0,jV 0]
 refine oR Z (zq (pv:=[(0,jV (w64 (fS + 1))),(1,jV 500)]) (z:=B6) (cs:=[jV (w64 (fS + 1)),jV 500]) Z (wAC Z (wAC Z wAR)) Try.zeroValue35 wJp Z Z) ?_
 have q:=qI.freezeT (k:=1) (n:=dJ.length) rfl (wAG (f:=wAb) (sz:=2) (fun _=>rfl) dJ) (by decide)
 obtain ⟨gJ,wm,uo,qJ,uO⟩:=q
 have qK:sW w U gJ [B4] d9:=qJ
 have q:=bnd tZ
 obtain ⟨⟨ap,vf⟩,o8,jx⟩:=q
 try dsimp only at jx
 refine zL 0 Z Z Z Z (zK Z Z Try.call7 (zB Z (zB Z zQ)) Z) qK (fun hs=>wFP dJ gh ig (⟨w64 (fS + 1),500⟩:wAX) d9 gJ hs uo o8) (.inr Z) ?_
 rintro lf vp wB gU uB qL ⟨bY,co,rfl,rfl⟩
 let B7:Res:=.row bY co 47 3 (hD wAy ap)
 have qM:sW w U lf [B7,B4] gU:=qL
 have q:=uO _ _ _ uB qM
 obtain ⟨bv,uC,qN⟩:=q
 have e7:sW w U bv [B5,B7,B4] gU:=qN
 refine oM Z Z (oR Z (zn Z Z (v:=.slice bY ap.length co) Z) (oR Z (zn Z Z (v:=jV vf) Z) (oA Z Z (oA Z Z (eN (zJ (sR fL9 Z (oM Z Z (oR Z (Zo Z Z Z) (oM Z Z (ifc jx ?_ ?_)))))))))))
 intro aP t4
 refine zN Z Z Z (zS Z Z (zy (fun h=>h aP.out))) Z Z (zb Z Z Z (zS Z Z (zy (fun h=>h aP.out))) (fun _=>ZB Z Z Try.runUnderlying30) (zN Z Z Z (zS Z Z (zy (fun h=>h aP.out))) Z iH (zb Z Z Z (zS Z Z (zy (fun h=>h aP.out))) (fun _=>ZB Z Z ZZ) (zb Z Z Z (zS Z Z (zy (fun h=>h aP.out))) (fun _=>Zo Z Z Z) (oR Z (zm Z (zy (fun h=>h aP.out)) Z) (eN (ifc t4 ?_ ?_)))))))
 intro eF t5
 refine zl (zy (fun h=>h eF.out)) (kN (sR (wDt (.fx 3 (.fl 4 (.fx 5 (.fx 6 .nil .stop) .stop)) .stop)) Z ?_))
 let B8:List Value:=[jV 0,jV 0,jV 0]
 let B9:List Value:=[jV 0,jV 0,jV 3]
 refine oR Z (zq (pv:=[(1,jV 3)]) (z:=B8) (cs:=B9) Z (wAC Z wAR) Try.zeroValue39 wHi Z Z) (oR Z (zq (pv:=[(0,jV (-20)),(1,jV 20)]) (z:=B6) (cs:=[jV (-20),jV 20]) Z (wAC Z (wAC Z wAR)) ZX wDe Z Z) ?_)
 let gu:List Value:=[jV (-20),jV 20,jV 3]
 refine oR Z (zq (pv:=[(0,.agg #[jV (-20),jV 20]),(1,jV 3)]) (z:=B8) (cs:=gu) Z (wAC Z (wAC Z wAR)) Try.zeroValue39 wHi Z Z) (ZF (pv:=[(0,.agg B9.toArray),(1,.agg gu.toArray)]) (zs:=[jV 0,jV 0,jV 0,jV 0,jV 0,jV 0]) (cs:=[jV 0,jV 0,jV 3,jV (-20),jV 20,jV 3]) Z Z Z Z Z (wAC Z (wAC Z wAR)) Zk yL Try.zeroValue39 Z Z Z Z Z e7 ?_)
 intro ly aq qO
 let ae:Res:=.row (some ⟨aq,0,none⟩) 2 39 3 (hD wAP ([(⟨(⟨0,0⟩:wAA),3⟩:wAF),(⟨(⟨-20,20⟩:wAA),3⟩:wAF)]:List wAF))
 have qP:sW w U bv [ae,B5,B7,B4] ly:=qO
 let cb:List Value:=[.slice none 0 0,.slice none 0 0,.slice (some ⟨aq,0,none⟩) 2 2,.slice none 0 0]
 let gv:List Value:=[.slice none 0 0,.slice none 0 0,.slice none 0 0,.slice none 0 0]
 refine oR Z (zq (pv:=[(2,.slice (some ⟨aq,0,none⟩) 2 2)]) (z:=gv) (cs:=cb) Z (wAC Z wAR) Try.zeroValue45 wJq Z Z) (zY (cs:=gv) Z Z Z Z Z Try.zeroValue45 Z qP ?_)
 intro vF aa qQ
 refine za (j:=0) (vs:=cb) Z Z Z Z qQ Z Z Z Z zz (zA Z) Z Z Z ?_
 intro ef qR
 have qS:sW w U bv [.blk aa 45 cb,ae,B5,B7,B4] ef:=qR
 refine eN (zJ (sR gDj Z (oM Z iG ?_)))
 have pc:=o6.le uA
 have pd:=pc.le uC
 have q:=bnd t5
 obtain ⟨⟨dz,fU⟩,pe,jz⟩:=q
 try dsimp only at jz
 have qT:sW w U bv [B4,.blk aa 45 cb,ae,B5,B7] ef:=qS.pick [4,0,1,2,3] _ (by decide) rfl
 refine zL 1 Z Z Z Z (zK Z Z Try.call5 (zB Z (zB Z (zB Z zQ))) Z) qT (fun hs=>wAx (⟨jY,jZ,j0⟩:wAL) ab gg ie 1 3 ef bv hs pd pe) (.inl Z) ?_
 rintro dZ vr wC lA wn qU ⟨gi,ii,rfl,rfl,pf⟩
 have qV:sW w U dZ [.blk ab 61 [.slice gi fU.bytes.length ii,jV fU.next,.int .u32 fU.state],.blk aa 45 cb,ae,B5,B7] lA:=qU
 refine oM Z Z (eN (zU ?_))
 have q:=bnd jz
 obtain ⟨⟨wX,wY,wZ,O⟩,sq,jA⟩:=q
 try dsimp only at jA
 have q:=wBN sq
 obtain ⟨fD,sr⟩:=q
 replace fD:=zH fD
 refine CK.forN' (fun cA (cB,fV,fW,bH) σ_ w_=>∃ (U_:PHeap) (cO:Option Addr) (de:Nat) (bM:Option Addr) (bS:Nat),σ_ 73=jV (↑cA:Int)/\σ_ 5=.pointer (some ⟨ab,0,none⟩)/\σ_ 8=.slice bY ap.length co/\σ_ 10=.pointer (some ⟨aa,0,none⟩)/\σ_ 72=jV dz/\PHeap.Le dZ U_/\sW w U U_ [.blk ab 61 [.slice cO cB.length de,jV fV,.int .u32 fW],.row bM bS 37 2 (hD wAE bH),ae,.blk aa 45 [.slice none 0 0,.slice bM bH.length bS,.slice (some ⟨aq,0,none⟩) (([(⟨(⟨0,0⟩:wAA),3⟩:wAF),(⟨(⟨-20,20⟩:wAA),3⟩:wAF)]:List wAF).length) 2,.slice none 0 0],B7] w_/\Sl U_ 1 cO de cB.length (hD KL.encB8 cB)) sr ?_ ?_ ?_
 have qX:=qV.nilrow 37 2
 exact ⟨dZ,gi,ii,none,0,rfl,iG,rfl,rfl,rfl,(zM _),(qX.pick [1,0,3,2,5] _ (by decide) rfl),pf⟩
 rintro cA ⟨cB,fV,fW,bH⟩ wO xf lD ft ⟨lg,cO,de,bM,bS,i7,eL,mR,eM,iI,uD,qY,pk⟩ jM
 try dsimp only at jM
 have ik:Hid ((↑cA:Int) < dz):=zH (wBG ft)
 replace ft:=zH ft
 have sV:Hid (w64 ((↑cA:Int) + 1)=(↑(cA + 1):Int)):=zH (by have h1:=fD.out;have h2:=ik.out;rw [wAY] <;> omega)
 refine sR fL1 Z (oR Z (zO Z i7 iI) (eN (zJ (cT Z ik (kN (zJ (zU (sR gDl Z (oM Z eL ?_)))))))))
 have q:=bnd jM
 obtain ⟨⟨a9,dA⟩,pm,jB⟩:=q
 try dsimp only at jB
 refine zL 1 Z Z Z Z (zK Z Z Try.call5 (zB Z (zB Z (zB Z zQ))) Z) qY (fun hs=>wAx (⟨cB,fV,fW⟩:wAL) ab cO de 2 5 lD lg hs pk pm) (.inl Z) ?_
 rintro gK vt wE eh uE q5 ⟨gk,il,rfl,rfl,pn⟩
 let cc:Res:=.blk aa 45 [.slice none 0 0,.slice bM bH.length bS,.slice (some ⟨aq,0,none⟩) (([(⟨(⟨0,0⟩:wAA),3⟩:wAF),(⟨(⟨-20,20⟩:wAA),3⟩:wAF)]:List wAF).length) 2,.slice none 0 0]
 let cV:Res:=.row bM bS 37 2 (hD wAE bH)
 have q6:sW w U gK [.blk ab 61 [.slice gk dA.bytes.length il,jV dA.next,.int .u32 dA.state],cV,ae,cc,B7] eh:=q5
 refine zb rfl rfl rfl rfl (fun _=>Runs.mulw rfl rfl rfl) (yF rfl rfl rfl rfl rfl rfl (eN (zw zx [3,1004,3,3,3,1005,3,3,3,2,0,3,0,ab] (wDD (.fx 5 (fC6_8 (.fx 9 (.fx 10 (.fl 11 (.fx 12 .nil .stop)) .stop) .stop)) .stop)) (by kernel_rfl) ?_)))
 have e8:=q6.drew
 generalize hw_W333:({ eh with drawn:=eh.drawn + 1 }:World)=lE at e8 ⊢
 refine zb rfl rfl rfl rfl (fun _=>zI rfl eM zX rfl yB) (OKS.mt (T:=[ab]) [0] [1,2,3,4] [cV,ae,cc,B7] rfl rfl rfl rfl e8 rfl ⟨⟨0,by decide,_,rfl,rfl⟩,trivial⟩ (by decide) rfl (by decide) (fun _ sh=>(sh.ldB (j:=2) rfl rfl rfl yP (v:=.slice bM bH.length bS) rfl)) rfl (zN rfl rfl rfl rfl rfl rfl (zN rfl rfl rfl rfl rfl rfl (zN rfl rfl rfl rfl rfl eL ?_))))
 have q:=bnd jB
 obtain ⟨⟨cK,fY⟩,po,jC⟩:=q
 try dsimp only at jC
 refine OKS.callHT 1 rfl rfl rfl rfl (zK rfl rfl Try.call6 (zB rfl (zB rfl zQ)) rfl) e8 (fun hs=>wBX dA ab gk il 15 lE gK hs pn po) rfl (T:=[ab]) rfl ⟨fun b h=>(by cases h;exact .head _),trivial⟩ ?_
 rintro ci vu wG lF uF q7 ⟨gm,im,rfl,rfl,pp⟩
 let cW:Res:=.blk ab 61 [.slice gm fY.bytes.length im,jV fY.next,.int .u32 fY.state]
 have q8:sW w U ci [cW,cV,ae,cc,B7] lF:=q7
 refine oR Z (Runs.mulw Z Z Z) (oR Z (zR Z Z Z) ?_)
 let dO:List Value:=[jV (w64 (100 * a9)),jV (w64 ((w64 (100 * a9)) + (w64 (20 * cK))))]
 refine oR Z (zq (pv:=[(0,jV (w64 (100 * a9))),(1,jV (w64 ((w64 (100 * a9)) + (w64 (20 * cK)))))]) (z:=B6) (cs:=dO) Z (wAC Z (wAC Z wAR)) ZX wDe Z Z) (ZF (pv:=[(0,.agg dO.toArray)]) (zs:=B6) (cs:=dO) Z Z Z Z Z (wAC Z wAR) ze zi ZX Z Z Z Z Z q8 ?_)
 intro lG lV q9
 let dP:Res:=.row (some ⟨lV,0,none⟩) 1 37 2 (hD wAE ([(⟨w64 (100 * a9),w64 ((w64 (100 * a9)) + (w64 (20 * cK)))⟩:wAA)]:List wAA))
 have jh:sW w U ci [dP,cW,cV,ae,cc,B7] lG:=q9
 refine bnK jC fun dB pq t7=>Zy (j:=2) (enc:=wAE) (xs:=bH) (ys:=([(⟨w64 (100 * a9),w64 ((w64 (100 * a9)) + (w64 (20 * cK)))⟩:wAA)]:List wAA)) (zs:=dB) rfl rfl rfl rfl rfl Try.underlying42 wHk rfl rfl rfl rfl rfl rfl jh rfl rfl rfl (jh.srcR (j:=0) rfl (by decide) (wAG (f:=wAE) (sz:=2) (fun _=>rfl) ([(⟨w64 (100 * a9),w64 ((w64 (100 * a9)) + (w64 (20 * cK)))⟩:wAA)]:List wAA))) (fun _=>rfl) (fun _=>rfl) pq rfl ?_
 intro cP df lH rc
 let gw:Res:=.row cP df 37 2 (hD wAE dB)
 have rd:sW w U ci [dP,cW,gw,ae,cc,B7] lH:=rc
 refine oR Z (zI Z eM zX Z yB) (za (j:=4) (vs:=[.slice cP dB.length df]) Z Z Z Z rd Z Z Z Z yB (zA Z) Z Z Z ?_)
 intro lI re
 have rf:sW w U ci [dP,cW,gw,ae,.blk aa 45 [.slice none 0 0,.slice cP dB.length df,.slice (some ⟨aq,0,none⟩) (([(⟨(⟨0,0⟩:wAA),3⟩:wAF),(⟨(⟨-20,20⟩:wAA),3⟩:wAF)]:List wAF).length) 2,.slice none 0 0],B7] lI:=re
 refine zW (zd (zF (rR fL2 Z (oR Z (ZJ (zR Z i7 Z) (congrArg (jV) sV.out)) (oM Z Z (zW ?_))))))
 cases t7
 exact zF ⟨rfl,⟨ci,gm,im,cP,df,rfl,eL,mR,eM,iI,((uD.trans uE).trans uF),(rf.pick [1,2,3,4,5] _ (by decide) rfl),pp⟩⟩
 rintro xg vG ⟨gL,j3,l5,aw,ax,ov,mS,mT,mU,mV,wp,rh,pu⟩
 have l6:Hid (¬ ((↑((dz:Int) - 0).toNat:Int) < dz)):=zH (wAp)
 refine sR fL1 Z (oR Z (zO Z ov mV) (eN (zJ (cF Z l6 (ZM (zc (zc (ZC (zF (zJ (sR fL3 Z (oM Z mT (oR Z (ZB Z Z Try.runUnderlying30) (oM Z Z (eN (zU ?_))))))))))))))))
 have q:=bnd jA
 obtain ⟨⟨vi,vj,vk,aF,dI⟩,ss,aN⟩:=q
 try dsimp only at aN
 have q:=wBN ss
 obtain ⟨fE,su⟩:=q
 replace fE:=zH fE
 let ay:Res:=.row aw ax 37 2 (hD wAE O)
 refine CK.forN' (fun ao (cC,fZ,f4,bI,bW) σ_ w_=>∃ (U_:PHeap) (bZ:Option Addr) (cp:Nat) (bN:Option Addr) (bT:Nat) (bn:Option Addr) (bx:Nat),σ_ 93=jV (↑ao:Int)/\σ_ 5=.pointer (some ⟨ab,0,none⟩)/\σ_ 10=.pointer (some ⟨aa,0,none⟩)/\σ_ 91=.slice bY ap.length co/\σ_ 92=jV (↑ap.length:Int)/\PHeap.Le gL U_/\sW w U U_ [.blk ab 61 [.slice bZ cC.length cp,jV fZ,.int .u32 f4],.row bN bT 3 1 (hD KL.encI bI),ay,ae,.row bn bx 50 4 (hD wAH bW),.blk aa 45 [.slice bN bI.length bT,.slice aw O.length ax,.slice (some ⟨aq,0,none⟩) (([(⟨(⟨0,0⟩:wAA),3⟩:wAF),(⟨(⟨-20,20⟩:wAA),3⟩:wAF)]:List wAF).length) 2,.slice bn bW.length bx],B7] w_/\Sl U_ 1 bZ cp cC.length (hD KL.encB8 cC)) su ?_ ?_ ?_
 have ri:=rh.nilrow 3 1
 have rj:=ri.nilrow 50 4
 exact ⟨gL,j3,l5,none,0,none,0,rfl,mS,mU,rfl,rfl,(zM _),(rj.pick [2,1,3,4,0,5,6] _ (by decide) rfl),pu⟩
 rintro ao ⟨cC,fZ,f4,bI,bW⟩ wP xh vH fu ⟨bR,bZ,cp,bN,bT,bn,bx,dp,mW,dl,iJ,iK,uG,e9,py⟩ jN
 try dsimp only at jN
 have io:Hid ((↑ao:Int) < (↑ap.length:Int)):=zH (wBG fu)
 replace fu:=zH fu
 have sX:Hid (w64 ((↑ao:Int) + 1)=(↑(ao + 1):Int)):=zH (by have h1:=fE.out;have h2:=io.out;rw [wAY] <;> omega)
 refine sR fL1 Z (oR Z (zO Z dp iK) (eN (zJ (cT Z io (kN (zJ (zU (sR (wDt gDi) Z (oM Z dp (bnK jN fun _ eZ t8=>?_))))))))))
 obtain ⟨vW,jb⟩:=e9.rowSome (j:=6) rfl (by rw [wAG (f:=wAy) (sz:=3) (fun _=>rfl) ap];have hz:=wAM eZ;omega)
 refine oR Z (Zb Z iJ jb dp Try.runUnderlying30 Try.sizeOf47 (wAM eZ)) ?_
 have sQ:=wAk (xs:=ap) (wAM eZ)
 let aG:List Value:=[jV ((gd ap ao).Bib),jV ((gd ap ao).Time),jV ((gd ap ao).Gate)]
 refine zt rfl rfl rfl rfl (e9.ldRA (j:=6) rfl jb rfl rfl Try.isAgg47 Try.sizeOf47 (vs:=aG) (wDd (sz:=3) (fun _=>rfl) _ _ _ sQ (by first | omega | rfl | simp) rfl) rfl) rfl (zY (cs:=B8) rfl rfl rfl rfl rfl Try.zeroValue47 rfl e9 ?_)
 intro vI aM rk
 refine oA Z Z (za (j:=0) (vs:=aG) Z Z Z Z rk Z Z Z Z Try.sizeOf47 (zA Z) Z Z Z ?_)
 intro lJ rn
 let dR:Res:=.blk aa 45 [.slice bN bI.length bT,.slice aw O.length ax,.slice (some ⟨aq,0,none⟩) (([(⟨(⟨0,0⟩:wAA),3⟩:wAF),(⟨(⟨-20,20⟩:wAA),3⟩:wAF)]:List wAF).length) 2,.slice bn bW.length bx]
 let cX:Res:=.blk ab 61 [.slice bZ cC.length cp,jV fZ,.int .u32 f4]
 let cY:Res:=.row bn bx 50 4 (hD wAH bW)
 let gA:Res:=.row bN bT 3 1 (hD KL.encI bI)
 have fb:sW w U bR [.blk aM 47 aG,cX,gA,ay,ae,cY,dR,B7] lJ:=rn
 refine eN (sR (wDL (.fx 4 (.fx 5 (.fl 6 (.fx 7 .nil .stop)) .stop) .stop)) Z (oR Z (zI Z dl zX Z ZE) (oL Z (fb.ldB (j:=6) Z Z Z ZI (v:=.slice bN bI.length bT) Z) (oR Z (zI Z Z Try.runUnderlying47 Z zC) (oL Z (fb.ldB (j:=0) Z Z Z zE (v:=jV ((gd ap ao).Time)) Z) (ZF (pv:=[(0,jV ((gd ap ao).Time))]) (zs:=[jV 0]) (cs:=[jV ((gd ap ao).Time)]) Z Z Z Z Z (wAC Z wAR) zD zC ZN Z Z Z Z Z fb ?_))))))
 intro lK lW ro
 let dS:Res:=.row (some ⟨lW,0,none⟩) 1 3 1 (hD KL.encI ([(gd ap ao).Time]:List Int))
 have ji:sW w U bR [dS,.blk aM 47 aG,cX,gA,ay,ae,cY,dR,B7] lK:=ro
 refine bnK t8 fun bK pz t9=>Zy (j:=3) (enc:=KL.encI) (xs:=bI) (ys:=([(gd ap ao).Time]:List Int)) (zs:=bK) rfl rfl rfl rfl rfl Try.underlying41 wIw rfl rfl rfl rfl rfl rfl ji rfl rfl rfl (ji.srcR (j:=0) rfl (by decide) (wAG (f:=KL.encI) (sz:=1) (fun _=>rfl) ([(gd ap ao).Time]:List Int))) (fun _=>rfl) (fun _=>rfl) pz rfl ?_
 intro bo bz lL rp
 let aT:Res:=.row bo bz 3 1 (hD KL.encI bK)
 have rq:sW w U bR [dS,.blk aM 47 aG,cX,aT,ay,ae,cY,dR,B7] lL:=rp
 refine oR Z (zI Z dl zX Z ZE) (za (j:=7) (vs:=[.slice bo bK.length bz]) Z Z Z Z rq Z Z Z Z ZE (zA Z) Z Z Z ?_)
 intro lM rv
 have fc:sW w U bR [dS,.blk aM 47 aG,cX,aT,ay,ae,cY,.blk aa 45 [.slice bo bK.length bz,.slice aw O.length ax,.slice (some ⟨aq,0,none⟩) (([(⟨(⟨0,0⟩:wAA),3⟩:wAF),(⟨(⟨-20,20⟩:wAA),3⟩:wAF)]:List wAF).length) 2,.slice bn bW.length bx],B7] lM:=rv
 refine eN (sR fL3 Z (oR Z (zI Z Z Try.runUnderlying47 Z zC) (oL Z (fc.ldB (j:=1) Z Z Z zE (v:=jV ((gd ap ao).Time)) Z) (oA Z Z (eN (sR fL4 Z (oR Z (zI Z dl zX Z yB) (oL Z (fc.ldB (j:=7) Z Z Z yP (v:=.slice aw O.length ax) Z) (oR Z (ZB Z Z ze) (oM Z Z (eN (zU ?_))))))))))))
 have q:=bnd t9
 obtain ⟨⟨w5,w6,w7,w8,w9⟩,sv,jD⟩:=q
 try dsimp only at jD
 have q:=wBN sv
 obtain ⟨fG,sw⟩:=q
 replace fG:=zH fG
 refine CK.forN' (fun aI (bX,dC,dD,bJ,bL) σ_ w_=>∃ (U_:PHeap) (ca:Option Addr) (cq:Nat) (bp:Option Addr) (bA:Nat),σ_ 110=jV (↑aI:Int)/\σ_ 5=.pointer (some ⟨ab,0,none⟩)/\σ_ 10=.pointer (some ⟨aa,0,none⟩)/\σ_ 12=jV (↑ao:Int)/\σ_ 14=jV bL/\σ_ 91=.slice bY ap.length co/\σ_ 92=jV (↑ap.length:Int)/\σ_ 93=jV (↑ao:Int)/\σ_ 108=.slice aw O.length ax/\σ_ 109=jV (↑O.length:Int)/\PHeap.Le bR U_/\sW w U U_ [.blk aM 47 aG,.blk ab 61 [.slice ca bX.length cq,jV dC,.int .u32 dD],aT,ay,ae,.row bp bA 50 4 (hD wAH bJ),.blk aa 45 [.slice bo bK.length bz,.slice aw O.length ax,.slice (some ⟨aq,0,none⟩) (([(⟨(⟨0,0⟩:wAA),3⟩:wAF),(⟨(⟨-20,20⟩:wAA),3⟩:wAF)]:List wAF).length) 2,.slice bp bJ.length bA],B7] w_/\Sl U_ 1 ca cq bX.length (hD KL.encB8 bX)) sw ?_ ?_ ?_
 exact ⟨bR,bZ,cp,bn,bx,rfl,mW,dl,rfl,rfl,iJ,iK,dp,rfl,rfl,(zM _),(fc.pick [1,2,3,4,5,6,7,8] _ (by decide) rfl),py⟩
 rintro aI ⟨bX,dC,dD,bJ,bL⟩ wQ xi vJ fw ⟨d5,ca,cq,bp,bA,ct,cr,dm,eO,mX,iL,iM,iN,eQ,eT,jR,fd,pA⟩ jO
 try dsimp only at jO
 have ip:Hid ((↑aI:Int) < (↑O.length:Int)):=zH (wBG fw)
 replace fw:=zH fw
 have fm:Hid (w64 ((↑aI:Int) + 1)=(↑(aI + 1):Int)):=zH (by have h1:=fG.out;have h2:=ip.out;rw [wAY] <;> omega)
 refine sR fL1 Z (oR Z (zO Z ct eT) (eN (zJ (cT Z ip (kN (zJ (zU (sR (wDt gDi) Z (oM Z ct (bnK jO fun _ e6 ua=>?_))))))))))
 obtain ⟨vX,jc⟩:=fd.rowSome (j:=3) rfl (by rw [wAG (f:=wAE) (sz:=2) (fun _=>rfl) O];have hz:=wAM e6;omega)
 refine oR Z (Zb Z eQ jc ct ze zi (wAM e6)) ?_
 have sS:=wAk (xs:=O) (wAM e6)
 let aV:List Value:=[jV ((gd O aI).Lo),jV ((gd O aI).Hi)]
 refine zt rfl rfl rfl rfl (fd.ldRA (j:=3) rfl jc rfl rfl Zi zi (vs:=aV) (wDd (sz:=2) (fun _=>rfl) _ _ _ sS (by first | omega | rfl | simp) rfl) rfl) rfl (zY (cs:=B6) rfl rfl rfl rfl rfl ZX rfl fd ?_)
 intro vK bc rx
 refine oA Z Z (za (j:=0) (vs:=aV) Z Z Z Z rx Z Z Z Z zi (zA Z) Z Z Z ?_)
 intro ej ry
 let bg:Res:=.blk aa 45 [.slice bo bK.length bz,.slice aw O.length ax,.slice (some ⟨aq,0,none⟩) (([(⟨(⟨0,0⟩:wAA),3⟩:wAF),(⟨(⟨-20,20⟩:wAA),3⟩:wAF)]:List wAF).length) 2,.slice bp bJ.length bA]
 let bq:Res:=.row bp bA 50 4 (hD wAH bJ)
 let gC:Res:=.blk ab 61 [.slice ca bX.length cq,jV dC,.int .u32 dD]
 have ff:sW w U d5 [.blk bc 37 aV,.blk aM 47 aG,gC,aT,ay,ae,bq,bg,B7] ej:=ry
 refine eN (sR (wHD (.fx 6 (.fl 7 (.fl 8 .nil)) .stop)) Z (oM Z mX (oM Z cr (oR Z (zI Z Z zZ Z zC) (oL Z (ff.ldB (j:=0) Z Z Z zE (v:=jV ((gd O aI).Lo)) Z) (oR Z (zI Z Z zZ Z zC) (oL Z (ff.ldB (j:=0) Z Z Z zE (v:=jV ((gd O aI).Hi)) Z) ?_)))))))
 have q:=bnd ua
 obtain ⟨⟨cL,dE⟩,pB,jE⟩:=q
 try dsimp only at jE
 have rz:sW w U d5 [gC,.blk bc 37 aV,.blk aM 47 aG,aT,ay,ae,bq,bg,B7] ej:=ff.pick [2,0,1,3,4,5,6,7,8] _ (by decide) rfl
 refine zL 1 Z Z Z Z (zK Z Z Try.call5 (zB Z (zB Z (zB Z zQ))) Z) rz (fun hs=>wAx (⟨bX,dC,dD⟩:wAL) ab ca cq ((gd O aI).Lo) ((gd O aI).Hi) ej d5 hs pA pB) (.inl Z) ?_
 rintro gN vw wH gV jS rA ⟨gp,iq,rfl,rfl,pC⟩
 have rB:sW w U gN [.blk ab 61 [.slice gp dE.bytes.length iq,jV dE.next,.int .u32 dE.state],.blk bc 37 aV,.blk aM 47 aG,aT,ay,ae,bq,bg,B7] gV:=rA
 refine oR Z (zR Z Z Z) (oA Z Z (eN (sR gDe Z (oM Z cr ?_))))
 have q:=bnd jE
 obtain ⟨⟨wM,dF⟩,pD,jF⟩:=q
 try dsimp only at jF
 refine zL 1 Z Z Z Z (zK Z Z Try.call9 (zB Z (zB Z zQ)) Z) rB (fun hs=>wDj dE ab gp iq 2 gV gN hs pC pD) (.inl Z) ?_
 rintro d6 vx wJ ek jT rC ⟨dM,eG,rfl,rfl,i8⟩
 have jj:sW w U d6 [.blk ab 61 [.slice dM dF.bytes.length eG,jV dF.next,.int .u32 dF.state],.blk bc 37 aV,.blk aM 47 aG,aT,ay,ae,bq,bg,B7] ek:=rC
 refine eN (ifc jF ?_ ?_)
 intro eH ub
 refine ZA (congrArg hJ eH.out) (zw zx [3,1004,3,3,3,3,3,1005,3,3,2,0,3,0,ab] (wHE (.fx 7 (.fl 8 (.fl 9 (.fx 10 (.fx 11 (.fl 12 (.fx 13 .nil .stop)) .stop) .stop))) .stop)) (by kernel_rfl) ?_)
 have fg:=jj.drew
 generalize hw_W654:({ ek with drawn:=ek.drawn + 1 }:World)=lN at fg ⊢
 refine zb rfl rfl rfl rfl (fun _=>zI rfl dm zX rfl yC) (OKS.mt (T:=[ab]) [0] [1,2,3,4,5,6,7,8] [.blk bc 37 aV,.blk aM 47 aG,aT,ay,ae,bq,bg,B7] rfl rfl rfl rfl fg rfl ⟨⟨0,by decide,_,rfl,rfl⟩,trivial⟩ (by decide) rfl (by decide) (fun _ sj=>(sj.ldB (j:=6) rfl rfl rfl yQ (v:=.slice bp bJ.length bA) rfl)) rfl (zN rfl rfl rfl rfl rfl eO (zN rfl rfl rfl rfl rfl rfl (zb rfl rfl rfl rfl (fun _=>ZJ (zR rfl rfl rfl) (congrArg (jV) fm.out)) (zN rfl rfl rfl rfl rfl rfl (zN rfl rfl rfl rfl rfl cr ?_))))))
 have q:=bnd ub
 obtain ⟨⟨cM,f7⟩,pF,jG⟩:=q
 try dsimp only at jG
 refine OKS.callHT 1 rfl rfl rfl rfl (zK rfl rfl Try.call5 (zB rfl (zB rfl (zB rfl zQ))) rfl) fg (fun hs=>wAx dF ab dM eG (-3) 3 lN d6 hs i8 pF) rfl (T:=[ab]) rfl ⟨fun b h=>(by cases h;exact .head _),trivial⟩ ?_
 rintro cj vy wK lO uH rD ⟨gq,ir,rfl,rfl,pG⟩
 let cZ:Res:=.blk ab 61 [.slice gq f7.bytes.length ir,jV f7.next,.int .u32 f7.state]
 have rE:sW w U cj [cZ,.blk bc 37 aV,.blk aM 47 aG,aT,ay,ae,bq,bg,B7] lO:=rD
 refine oR Z (zR Z Z Z) ?_
 let dT:List Value:=[jV (↑ao:Int),jV (↑(aI + 1):Int),jV 0,jV (w64 ((w64 (bL + cL)) + cM))]
 let gD:List Value:=[jV 0,jV 0,jV 0,jV 0]
 refine oR Z (zq (pv:=[(0,jV (↑ao:Int)),(1,jV (↑(aI + 1):Int)),(3,jV (w64 ((w64 (bL + cL)) + cM)))]) (z:=gD) (cs:=dT) Z (wAC Z (wAC Z (wAC Z wAR))) Try.zeroValue50 wJs Z Z) (ZF (pv:=[(0,.agg dT.toArray)]) (zs:=gD) (cs:=dT) Z Z Z Z Z (wAC Z wAR) Zq Zw Try.zeroValue50 Z Z Z Z Z rE ?_)
 intro lP lX rF
 let dU:Res:=.row (some ⟨lX,0,none⟩) 1 50 4 (hD wAH ([(⟨(↑ao:Int),(↑(aI + 1):Int),0,w64 ((w64 (bL + cL)) + cM)⟩:wAJ)]:List wAJ))
 have jk:sW w U cj [dU,cZ,.blk bc 37 aV,.blk aM 47 aG,aT,ay,ae,bq,bg,B7] lP:=rF
 refine bnK jG fun dG pH uc=>Zy (j:=7) (enc:=wAH) (xs:=bJ) (ys:=([(⟨(↑ao:Int),(↑(aI + 1):Int),0,w64 ((w64 (bL + cL)) + cM)⟩:wAJ)]:List wAJ)) (zs:=dG) rfl rfl rfl rfl rfl Try.underlying43 wLr rfl rfl rfl rfl rfl rfl jk rfl rfl rfl (jk.srcR (j:=0) rfl (by decide) (wAG (f:=wAH) (sz:=4) (fun _=>rfl) ([(⟨(↑ao:Int),(↑(aI + 1):Int),0,w64 ((w64 (bL + cL)) + cM)⟩:wAJ)]:List wAJ))) (fun _=>rfl) (fun _=>rfl) pH rfl ?_
 intro cS di lQ rG
 let gE:Res:=.row cS di 50 4 (hD wAH dG)
 have rH:sW w U cj [dU,cZ,.blk bc 37 aV,.blk aM 47 aG,aT,ay,ae,gE,bg,B7] lQ:=rG
 refine oR Z (zI Z dm zX Z yC) (za (j:=8) (vs:=[.slice cS dG.length di]) Z Z Z Z rH Z Z Z Z yC (zA Z) Z Z Z ?_)
 intro lR rI
 have rJ:sW w U cj [dU,cZ,.blk bc 37 aV,.blk aM 47 aG,aT,ay,ae,gE,.blk aa 45 [.slice bo bK.length bz,.slice aw O.length ax,.slice (some ⟨aq,0,none⟩) (([(⟨(⟨0,0⟩:wAA),3⟩:wAF),(⟨(⟨-20,20⟩:wAA),3⟩:wAF)]:List wAF).length) 2,.slice cS dG.length di],B7] lR:=rI
 refine zW (zd (zF (rR fL2 Z (oR Z (ZJ (zR Z ct Z) (congrArg (jV) fm.out)) (oM Z Z (zW ?_))))))
 cases uc
 exact zF ⟨rfl,⟨cj,gq,ir,cS,di,rfl,cr,dm,eO,rfl,iL,iM,iN,eQ,eT,(((jR.trans jS).trans jT).trans uH),(rJ.pick [3,1,4,5,6,7,8,9] _ (by decide) rfl),pG⟩⟩
 intro eH ud
 refine zl (congrArg hJ (nE.2 eH.out)) (ZL (zd (zF (rR fL2 Z (oR Z (ZJ (zR Z ct Z) (congrArg (jV) fm.out)) (oM Z Z (zW ?_)))))))
 cases ud
 exact zF ⟨rfl,⟨d6,dM,eG,bp,bA,rfl,cr,dm,eO,rfl,iL,iM,iN,eQ,eT,((jR.trans jS).trans jT),(jj.pick [2,0,3,4,5,6,7,8] _ (by decide) rfl),i8⟩⟩
 rintro xj vL ⟨li,j4,ma,j5,mb,ow,mY,mZ,wb,wc,m3,m4,m5,wd,m6,uI,rK,pI⟩
 have mc:Hid (¬ ((↑(((↑O.length:Int):Int) - 0).toNat:Int) < (↑O.length:Int))):=zH (wAp)
 refine sR fL1 Z (oR Z (zO Z ow m6) (eN (zJ (cF Z mc (ZM (zc (zc (ZC (zd (zF (rR fL2 Z (oR Z (ZJ (zR Z m5 Z) (congrArg (jV) sX.out)) (oM Z Z (zW ?_))))))))))))))
 cases jD
 exact zF ⟨rfl,⟨li,j4,ma,bo,bz,j5,mb,rfl,mY,mZ,m3,m4,(uG.trans uI),(rK.pick [1,2,3,4,5,6,7] _ (by decide) rfl),pI⟩⟩
 rintro xk vM ⟨lj,j6,md,aU,aW,aK,aL,ox,we,iO,wg,m7,wq,jl,wi⟩
 have me:Hid (¬ ((↑(((↑ap.length:Int):Int) - 0).toNat:Int) < (↑ap.length:Int))):=zH (wAp)
 refine sR fL1 Z (oR Z (zO Z ox m7) (eN (zJ (cF Z me (ZM (zc (zc (ZC (zF (sR fL4 Z (oR Z (zI Z iO zX Z yB) (oL Z (jl.ldB (j:=5) Z Z Z yP (v:=.slice aw O.length ax) Z) (oR Z (ZB Z Z ze) (oA Z Z (eN (zJ (sR gDg Z (ZF (pv:=[(0,jV 0),(1,jV 1)]) (zs:=B6) (cs:=[jV 0,jV 1]) Z Z Z Z Z (wAC Z (wAC Z wAR)) zD zC ZN Z Z Z Z Z jl ?_))))))))))))))))))
 intro dd cm rM
 let ak:Res:=.row (some ⟨cm,0,none⟩) 2 3 1 (hD KL.encI ([0,1]:List Int))
 let am:Res:=.blk ab 61 [.slice j6 vi.length md,jV vj,.int .u32 vk]
 let c6:Res:=.blk aa 45 [.slice aU aF.length aW,.slice aw O.length ax,.slice (some ⟨aq,0,none⟩) (([(⟨(⟨0,0⟩:wAA),3⟩:wAF),(⟨(⟨-20,20⟩:wAA),3⟩:wAF)]:List wAF).length) 2,.slice aK dI.length aL]
 let c8:Res:=.row aK aL 50 4 (hD wAH dI)
 have rN:sW w U lj [ak,am,.row aU aW 3 1 (hD KL.encI aF),ay,ae,c8,c6,B7] dd:=rM
 refine oR Z (ZB Z Z zD) (oM Z Z (eN (zU ?_)))
 have q:=rN.freezeR (k:=2) (n:=aF.length) rfl (wAG (f:=KL.encI) (sz:=1) (fun _=>rfl) aF) (by decide)
 obtain ⟨lk,wr,fL,rO⟩:=q
 have rP:sW w U lk [ak,am,ay,ae,c8,c6,B7] dd:=rO
 have q:=rP.freezeR (k:=2) (n:=O.length) rfl (wAG (f:=wAE) (sz:=2) (fun _=>rfl) O) (by decide)
 obtain ⟨ll,fO,jK,rQ⟩:=q
 have rS:sW w U ll [ak,am,ae,c8,c6,B7] dd:=rQ
 have q:=rS.freezeR (k:=2) (n:=([(⟨(⟨0,0⟩:wAA),3⟩:wAF),(⟨(⟨-20,20⟩:wAA),3⟩:wAF)]:List wAF).length) rfl (wAG (f:=wAP) (sz:=3) (fun _=>rfl) ([(⟨(⟨0,0⟩:wAA),3⟩:wAF),(⟨(⟨-20,20⟩:wAA),3⟩:wAF)]:List wAF)) (by decide)
 obtain ⟨d7,cH,jL,rT⟩:=q
 have rV:sW w U d7 [ak,am,c8,c6,B7] dd:=rT
 have q:=wBx aN
 obtain ⟨wv,aR⟩:=q
 have q:=wBw aR
 obtain ⟨fI,sC⟩:=q
 replace fI:=zH fI
 refine yE (fun aJ bf σ_ w_=>∃ (U_:PHeap),σ_ 145=jV (↑aJ:Int)/\σ_ 10=.pointer (some ⟨aa,0,none⟩)/\σ_ 17=jV (↑O.length:Int)/\σ_ 143=.slice (some ⟨cm,0,none⟩) (([0,1]:List Int).length) 2/\σ_ 144=jV 2/\PHeap.Le d7 U_/\sW w U U_ [am,.row aK aL 50 4 (hD wAH bf),.blk aa 45 [.slice aU aF.length aW,.slice aw O.length ax,.slice (some ⟨aq,0,none⟩) (([(⟨(⟨0,0⟩:wAA),3⟩:wAF),(⟨(⟨-20,20⟩:wAA),3⟩:wAF)]:List wAF).length) 2,.slice aK bf.length aL],ak] w_/\bf.length=dI.length) sC ?_ ?_ ?_
 exact ⟨d7,rfl,iO,rfl,rfl,rfl,(zM _),(rV.pick [1,2,3,0] _ (by decide) rfl),rfl⟩
 rintro aJ bf wS xm vN fy ⟨gO,eV,iP,m8,iQ,iR,bj,fh,pJ⟩ uq aY
 have it:Hid ((↑aJ:Int) < 2):=zH (wBG fy)
 replace fy:=zH fy
 have sY:Hid (w64 ((↑aJ:Int) + 1)=(↑(aJ + 1):Int)):=zH (by have h1:=fI.out;have h2:=it.out;rw [wAY] <;> omega)
 refine sR fL1 Z (oR Z (zO Z eV iR) (eN (zJ (cT Z it (kN (zJ (zU (sR fL3 Z (bnK uq fun _ i9 ue=>oR Z (Zb Z iQ Z eV zD zC (wAM i9)) ?_)))))))))
 have sT:=wAk (xs:=([0,1]:List Int)) (wAM i9)
 refine zt rfl rfl rfl rfl (fh.ldR (j:=3) rfl rfl rfl rfl zE (wAO (sz:=1) (fun _=>rfl) _ _ 0 _ sT (by first | omega | rfl | simp) rfl)) rfl (yF rfl rfl rfl rfl rfl rfl (eN (zJ (sR fL4 rfl (zb rfl rfl rfl rfl (fun _=>zI rfl iP zX rfl yC) (zt rfl rfl rfl rfl (fh.ldB (j:=2) rfl rfl rfl yQ (v:=.slice aK bf.length aL) rfl) rfl (zb rfl rfl rfl rfl (fun _=>ZB rfl rfl Zq) (zN rfl rfl rfl rfl rfl rfl (eN (zU (bnK ue fun bm sD cz=>?_)))))))))))
 have q:=wBN sD
 obtain ⟨fJ,sE⟩:=q
 replace fJ:=zH fJ
 refine CK.forN' (fun az au σ_ w_=>∃ (U_:PHeap),σ_ 152=jV (↑az:Int)/\σ_ 10=.pointer (some ⟨aa,0,none⟩)/\σ_ 17=jV (↑O.length:Int)/\σ_ 19=jV (gd ([0,1]:List Int) aJ)/\σ_ 143=.slice (some ⟨cm,0,none⟩) (([0,1]:List Int).length) 2/\σ_ 144=jV 2/\σ_ 145=jV (↑aJ:Int)/\σ_ 151=jV (↑bf.length:Int)/\PHeap.Le gO U_/\sW w U U_ [am,.row aK aL 50 4 (hD wAH au),.blk aa 45 [.slice aU aF.length aW,.slice aw O.length ax,.slice (some ⟨aq,0,none⟩) (([(⟨(⟨0,0⟩:wAA),3⟩:wAF),(⟨(⟨-20,20⟩:wAA),3⟩:wAF)]:List wAF).length) 2,.slice aK au.length aL],ak] w_/\au.length=dI.length) sE ?_ ?_ ?_
 exact ⟨gO,Z,iP,m8,Z,iQ,iR,eV,Z,(zM _),fh,pJ⟩
 rintro az au wU xn vO fA ⟨d8,eX,iS,m9,iT,n4,n5,n6,iU,uJ,fj,pK⟩ ur
 have iu:Hid ((↑az:Int) < (↑bf.length:Int)):=zH (wBG fA)
 replace fA:=zH fA
 have sZ:Hid (w64 ((↑az:Int) + 1)=(↑(az + 1):Int)):=zH (by have h1:=fJ.out;have h2:=iu.out;rw [wAY] <;> omega)
 refine sR fL1 Z (oR Z (zO Z eX iU) (eN (zJ (cT Z iu (kN (zJ (zU (sR fL2 Z (oM Z eX (oA Z Z (eN (rR (wHD (.fx 6 .nil .stop)) Z (oR Z (zI Z iS zX Z yC) (oL Z (fj.ldB (j:=2) Z Z Z yQ (v:=.slice aK au.length aL) Z) (oM Z Z (oM Z iT (bnK ur fun _ dq uf=>?_)))))))))))))))))
 obtain ⟨vY,jd⟩:=fj.rowSome (j:=1) rfl (by rw [wAG (f:=wAH) (sz:=4) (fun _=>rfl) au];have hz:=wAM dq;omega)
 refine oR Z (Zb Z Z jd Z Zq Zw (wAM dq)) (oR Z (zI Z Z Zf Z zC) ?_)
 have sU:=wAk (xs:=au) (wAM dq)
 refine yA (j:=1) (vs:=[jV (gd ([0,1]:List Int) aJ)]) (cs':=hD wAH (List.set au az (⟨(gd au az).Skier,(gd au az).Mat,(gd ([0,1]:List Int) aJ),(gd au az).Time⟩:wAJ))) rfl rfl rfl rfl fj rfl jd rfl rfl rfl zC (by rw [wAG (f:=wAH) (sz:=4) (fun _=>rfl)];have hz:=wAM dq;show _ + 1 <= _;first | omega | (simp only [Int.toNat_natCast];omega) | (simp only [nD,nA,nB];omega)) rfl (wBf (sz:=4) (fo:=2) (fun _=>rfl) _ _ _ _ sU (by first | omega | (simp only [Int.toNat_natCast];omega) | (simp only [nD,nA,nB];omega)) (zA rfl) rfl) rfl ?_
 intro gX rW
 let dV:Res:=.row aK aL 50 4 (hD wAH (List.set au az (⟨(gd au az).Skier,(gd au az).Mat,(gd ([0,1]:List Int) aJ),(gd au az).Time⟩:wAJ)))
 have rY:sW w U d8 [am,dV,.blk aa 45 [.slice aU aF.length aW,.slice aw O.length ax,.slice (some ⟨aq,0,none⟩) (([(⟨(⟨0,0⟩:wAA),3⟩:wAF),(⟨(⟨-20,20⟩:wAA),3⟩:wAF)]:List wAF).length) 2,.slice aK au.length aL],ak] gX:=rW
 have rZ:sW w U d8 [am,dV,.blk aa 45 [.slice aU aF.length aW,.slice aw O.length ax,.slice (some ⟨aq,0,none⟩) (([(⟨(⟨0,0⟩:wAA),3⟩:wAF),(⟨(⟨-20,20⟩:wAA),3⟩:wAF)]:List wAF).length) 2,.slice aK ((List.set au az (⟨(gd au az).Skier,(gd au az).Mat,(gd ([0,1]:List Int) aJ),(gd au az).Time⟩:wAJ)).length) aL],ak] gX:=by simpa only [ak,am,dV,List.length_set] using rY
 refine zW (zd (zF (rR fL2 Z (oR Z (ZJ (zR Z eX Z) (congrArg (jV) sZ.out)) (oM Z Z (zW ?_))))))
 cases uf
 exact zF ⟨Z,⟨d8,Z,iS,m9,iT,n4,n5,n6,iU,uJ,rZ,(List.length_set.trans pK)⟩⟩
 rintro xo vP ⟨gP,oy,iV,n8,n9,oa,oc,od,oe,bk,jm,pL⟩
 have mf:Hid (¬ ((↑(((↑bf.length:Int):Int) - 0).toNat:Int) < (↑bf.length:Int))):=zH (wAp)
 refine sR fL1 Z (oR Z (zO Z oy oe) (eN (zJ (cF Z mf (ZM (zc (zc (ZC (zF (sR fL1 Z (oA Z Z (eN (zJ (sR fL4 Z (oR Z (zI Z iV zX Z ZE) (oL Z (jm.ldB (j:=2) Z Z Z ZI (v:=.slice aU aF.length aW) Z) (oR Z (ZB Z Z zD) (oM Z Z (eN (zU ?_))))))))))))))))))))
 have q:=wBx cz
 obtain ⟨ww,cx⟩:=q
 have q:=wBw cx
 obtain ⟨fK,sF⟩:=q
 replace fK:=zH fK
 let aH:List Value:=[.slice aU aF.length aW,.slice aw O.length ax,.slice (some ⟨aq,0,none⟩) (([(⟨(⟨0,0⟩:wAA),3⟩:wAF),(⟨(⟨-20,20⟩:wAA),3⟩:wAF)]:List wAF).length) 2,.slice aK bm.length aL]
 let a7:Res:=.row aK aL 50 4 (hD wAH bm)
 refine yE (fun bi cG σ_ w_=>∃ (U_:PHeap) (cU:Option Addr) (dk:Nat),σ_ 165=jV (↑bi:Int)/\σ_ 10=.pointer (some ⟨aa,0,none⟩)/\σ_ 17=jV (↑O.length:Int)/\σ_ 19=jV (gd ([0,1]:List Int) aJ)/\σ_ 21=.slice cU cG.length dk/\σ_ 143=.slice (some ⟨cm,0,none⟩) (([0,1]:List Int).length) 2/\σ_ 144=jV 2/\σ_ 145=jV (↑aJ:Int)/\σ_ 164=jV (↑aF.length:Int)/\PHeap.Le gP U_/\sW w U U_ [am,a7,.blk aa 45 aH,.row cU dk 37 2 (hD wAE cG),ak] w_) sF ?_ ?_ ?_
 have r6:=jm.nilrow 37 2
 exact ⟨gP,none,0,rfl,iV,n8,n9,rfl,oa,oc,od,rfl,(zM _),(r6.pick [1,2,3,0,4] _ (by decide) rfl)⟩
 rintro bi cG wV xp gY fB ⟨vB,cU,dk,eY,eU,iY,oh,oi,oj,ol,om,iZ,cI,jo⟩ ut fk
 have iw:Hid ((↑bi:Int) < (↑aF.length:Int)):=zH (wBG fB)
 replace fB:=zH fB
 have s6:Hid (w64 ((↑bi:Int) + 1)=(↑(bi + 1):Int)):=zH (by have h1:=fK.out;have h2:=iw.out;rw [wAY] <;> omega)
 refine sR fL1 Z (oR Z (zO Z eY iZ) (eN (zJ (cT Z iw (kN (zJ (zU (sR fL2 Z (oM Z eY (oA Z Z (eN (sR (wDL (.fx 4 (wIb gDk) .stop)) Z (oL Z (jo.ldBA (j:=2) Z Z eU ZP zz (vs:=aH) Z Z) (oM Z Z (oM Z iY (oR Z (zq (pv:=[(0,jV (↑bi:Int)),(1,jV (↑O.length:Int))]) (z:=B6) (cs:=[jV (↑bi:Int),jV (↑O.length:Int)]) Z (wAC Z (wAC Z wAR)) Try.zeroValue54 wGE Z Z) ?_))))))))))))))))
 have q:=jo.freezeT (k:=1) (n:=bm.length) rfl (wAG (f:=wAH) (sz:=4) (fun _=>rfl) bm) (by decide)
 obtain ⟨gQ,fP,up,r7,uP⟩:=q
 let cd:Res:=.row cU dk 37 2 (hD wAE cG)
 have r8:sW w U gQ [am,.blk aa 45 aH,cd,ak] gY:=r7
 have pN:=fL.le fO
 have pO:=pN.le cH
 have pP:=pO.le bj
 have pQ:=pP.le bk
 have pR:=pQ.le cI
 have pS:=pR.le fP
 have pT:=jK.le cH
 have pU:=pT.le bj
 have pV:=pU.le bk
 have pW:=pV.le cI
 have pX:=pW.le fP
 have pY:=jL.le bj
 have pZ:=pY.le bk
 have p5:=pZ.le cI
 have p6:=p5.le fP
 have q:=bnd ut
 obtain ⟨⟨ba,vg⟩,p7,jI⟩:=q
 try dsimp only at jI
 refine zL 0 Z Z Z Z (zK Z Z Try.call10 (zB Z (zB Z zQ)) Z) r8 (fun hs=>wGl (⟨aF,O,([(⟨(⟨0,0⟩:wAA),3⟩:wAF),(⟨(⟨-20,20⟩:wAA),3⟩:wAF)]:List wAF),bm⟩:wAD) aU aW aw ax (some ⟨aq,0,none⟩) 2 aK aL (⟨(↑bi:Int),(↑O.length:Int)⟩:wAW) gY gQ hs pS pX p6 up p7) (.inr Z) ?_
 rintro ln vz wL gZ uL r9 ⟨rfl,rfl⟩
 have sa:sW w U ln [am,.blk aa 45 aH,cd,ak] gZ:=r9
 have q:=uP _ _ _ uL sa
 obtain ⟨bh,jU,sc⟩:=q
 have sd:sW w U bh [a7,am,.blk aa 45 aH,cd,ak] gZ:=sc
 refine oM Z Z (oR Z (zn Z Z (v:=.agg #[jV ba.Lo,jV ba.Hi]) Z) (oR Z (zn Z Z (v:=jV vg) Z) (zY (cs:=B6) Z Z Z Z Z ZX Z sd ?_)))
 intro vQ eo se
 let bt:List Value:=[jV ba.Lo,jV ba.Hi]
 refine za (j:=0) (vs:=bt) Z Z Z Z se Z Z Z Z zi (zA Z) Z Z Z ?_
 intro en sf
 have sg:sW w U bh [.blk eo 37 bt,a7,am,.blk aa 45 aH,cd,ak] en:=sf
 refine yF rfl rfl rfl rfl rfl rfl (eN (zJ (zJ (zw zx [3,3,3,3,1,3,1,3,3,3,3,1,3,1,3,3,1,3,3] fL19 (by kernel_rfl) ?_))))
 have aX:=sg.drew
 generalize hw_W978:({ en with drawn:=en.drawn + 1 }:World)=vR at aX ⊢
 refine oM Z Z (oR Z (Zo Z Z Z) (oM Z Z (ifc jI ?_ ?_)))
 intro aQ ug
 refine zb Z Z Z (zS Z Z (zy (fun h=>h aQ.out))) (fun _=>zI Z Z zZ Z zC) (zt Z Z Z (zS Z Z (zy (fun h=>h aQ.out))) (aX.ldB (j:=0) Z Z Z zE (v:=jV ba.Lo) Z) Z (zb Z Z Z (zS Z Z (zy (fun h=>h aQ.out))) (fun _=>zI Z Z zZ Z zC) (zt Z Z Z (zS Z Z (zy (fun h=>h aQ.out))) (aX.ldB (j:=0) Z Z Z zE (v:=jV ba.Hi) Z) Z (zb Z Z Z (zS Z Z (zy (fun h=>h aQ.out))) (fun _=>Zz Z Z Z) (oR Z (zm Z (zy (fun h=>h aQ.out)) Z) (oM Z Z (ifc ug ?_ ?_)))))))
 intro av uh
 refine oT Z av (oT Z av (oT Z av (oT Z av (oT Z av (oT Z av (oT Z av (oT Z av (oR Z (zk Z (ZW av.out) Z) (eN (ZA Z (sR fL1 Z (oA Z Z (eN (zT (zP (zV (zP ?_)))))))))))))))))
 have q:=wAV uh
 obtain ⟨vb,ui,mA⟩:=q
 have q:=wBA cz cx (fk vb mA)
 obtain rfl:=q
 refine zP (zV (zP (zV (zP ?_))))
 have q:=wAV ui
 obtain ⟨vc,uj,mB⟩:=q
 have q:=wBA aN aR (aY vc mB)
 obtain rfl:=q
 refine zP (zV (zP ?_))
 have hE:=hH uj;first | subst r | cases hE
 exact ⟨rfl,_,(ZK rfl),bh,_,(aX.pick [] _ (by decide) rfl),rfl,rfl⟩
 intro av uk
 refine rU Z (wF Z av) (zI Z Z zZ Z zC) (zt Z Z Z (wF Z av) (aX.ldB (j:=0) Z Z Z zE (v:=jV ba.Lo) Z) Z (rU Z (wF Z av) (zI Z eU zX Z ZE) (zt Z Z Z (wF Z av) (aX.ldB (j:=3) Z Z Z ZI (v:=.slice aU aF.length aW) Z) Z (zN Z Z Z (wF Z av) Z Z (bnK uk fun vh ja ul=>?_)))))
 have p9:=fL.le fO
 have qa:=p9.le cH
 have qb:=qa.le bj
 have qc:=qb.le bk
 have qd:=qc.le cI
 have qe:=qd.le jU
 have q:=qe.el (fun _=>rfl) (wAr ja)
 obtain ⟨vZ,wt,qf,qh⟩:=q
 refine rU Z (wF Z av) (Zb Z Z qf Z zD zC (wCz ja)) (zt Z Z Z (wF Z av) (aX.ldC (f:=0) qh (v:=jV vh) Z Z zE Z) Z (rU Z (wF Z av) (Runs.leq Z Z Z) (oR Z (zm Z (zy av.out) Z) (eN (ifc ul ?_ ?_)))))
 intro ep s7
 refine cT Z ep (sR fL1 Z (oA Z Z (eN (zT (zP (zV (zP ?_)))))))
 have q:=wAV s7
 obtain ⟨uQ,s8,mg⟩:=q
 have q:=wBA cz cx (fk uQ mg)
 obtain rfl:=q
 refine zP (zV (zP (zV (zP ?_))))
 have q:=wAV s8
 obtain ⟨uR,s9,mh⟩:=q
 have q:=wBA aN aR (aY uR mh)
 obtain rfl:=q
 refine zP (zV (zP ?_))
 have hE:=hH s9;first | subst r | cases hE
 exact ⟨rfl,_,(ZK rfl),bh,_,(aX.pick [] _ (by decide) rfl),rfl,rfl⟩
 intro ep tc
 refine cF Z ep (kN (rR gDn Z (oM Z oi (oL Z (aX.ldBA (j:=0) Z Z Z Zi zi (vs:=bt) Z Z) (ZF (pv:=[(0,.agg bt.toArray)]) (zs:=B6) (cs:=bt) Z Z Z Z Z (wAC Z wAR) ze zi ZX Z Z Z Z Z aX ?_)))))
 intro lp lT qi
 let gF:Res:=.row (some ⟨lT,0,none⟩) 1 37 2 (hD wAE ([ba]:List wAA))
 have je:sW w U bh [gF,.blk eo 37 bt,a7,am,.blk aa 45 aH,cd,ak] lp:=qi
 refine bnK tc fun jW oz td=>Zy (j:=5) (enc:=wAE) (xs:=cG) (ys:=([ba]:List wAA)) (zs:=jW) rfl rfl rfl rfl rfl Try.underlying42 wHk rfl rfl rfl rfl rfl rfl je rfl rfl rfl (je.srcR (j:=0) rfl (by decide) (wAG (f:=wAE) (sz:=2) (fun _=>rfl) ([ba]:List wAA))) (fun _=>rfl) (fun _=>rfl) oz rfl ?_
 intro f9 g6 lu qj
 have qk:sW w U bh [gF,.blk eo 37 bt,a7,am,.blk aa 45 aH,.row f9 g6 37 2 (hD wAE jW),ak] lu:=qj
 refine oA Z Z (zW (zd (zF (rR fL2 Z (oR Z (ZJ (zR Z eY Z) (congrArg (jV) s6.out)) (oM Z Z (zW ?_)))))))
 have q:=hH td
 obtain rfl:=q
 exact zF ⟨rfl,_,rfl,⟨bh,f9,g6,rfl,eU,iY,oh,rfl,oj,ol,om,iZ,(cI.trans jU),(qk.pick [3,2,4,5,6] _ (by decide) rfl)⟩⟩
 intro aQ te
 refine oT Z aQ (oT Z aQ (oT Z aQ (oT Z aQ (oT Z aQ (oR Z (zk Z (ZW aQ.out) Z) (oM Z Z (oN Z (oN Z (oN Z (oN Z (oN Z (oN Z (oN Z (oN Z (oR Z (zk Z Z Z) (eN (ZA Z (sR fL1 Z (oA Z Z (eN (zT (zP (zV (zP ?_))))))))))))))))))))))))
 have q:=wAV te
 obtain ⟨uS,tf,mi⟩:=q
 have q:=wBA cz cx (fk uS mi)
 obtain rfl:=q
 refine zP (zV (zP (zV (zP ?_))))
 have q:=wAV tf
 obtain ⟨uT,tg,mj⟩:=q
 have q:=wBA aN aR (aY uT mj)
 obtain rfl:=q
 refine zP (zV (zP ?_))
 have hE:=hH tg;first | subst r | cases hE
 exact ⟨rfl,_,(ZK rfl),bh,_,(aX.pick [] _ (by decide) rfl),rfl,rfl⟩
 rintro dH xa gR ⟨vA,ga,g7,oo,iz,iA,mC,mD,mE,mF,mG,mH,dv,jf⟩ sl
 have th:=wCl cz cx sl
 have lY:Hid (¬ ((↑(((↑aF.length:Int):Int) - 0).toNat:Int) < (↑aF.length:Int))):=zH (wAp)
 refine sR fL1 Z (oR Z (zO Z oo mH) (eN (zJ (cF Z lY (ZM (zc (zc (ZC (zF (sR (.fl 0 (.fl 1 (.fx 2 (wMT (.nil)) .stop))) Z (oL Z (jf.ldBA (j:=2) Z Z iz ZP zz (vs:=aH) Z Z) (oM Z iA ?_))))))))))))
 have q:=jf.freezeT (k:=1) (n:=bm.length) rfl (wAG (f:=wAH) (sz:=4) (fun _=>rfl) bm) (by decide)
 obtain ⟨gH,fN,um,qn,uM⟩:=q
 let c9:Res:=.row ga g7 37 2 (hD wAE dH)
 have qo:sW w U gH [am,.blk aa 45 aH,c9,ak] gR:=qn
 have oB:=fL.le fO
 have oC:=oB.le cH
 have oD:=oC.le bj
 have oE:=oD.le bk
 have oG:=oE.le dv
 have oH:=oG.le fN
 have oI:=jK.le cH
 have oJ:=oI.le bj
 have oK:=oJ.le bk
 have oP:=oK.le dv
 have oQ:=oP.le fN
 have oS:=jL.le bj
 have oU:=oS.le bk
 have oV:=oU.le dv
 have oW:=oV.le fN
 have q:=bnd th
 obtain ⟨⟨aE,vd⟩,oZ,jr⟩:=q
 try dsimp only at jr
 refine zL 0 Z Z Z Z (zK Z Z Try.call11 (zB Z (zB Z zQ)) Z) qo (fun hs=>wGI (⟨aF,O,([(⟨(⟨0,0⟩:wAA),3⟩:wAF),(⟨(⟨-20,20⟩:wAA),3⟩:wAF)]:List wAF),bm⟩:wAD) aU aW aw ax (some ⟨aq,0,none⟩) 2 aK aL (↑O.length:Int) gR gH hs oH oQ oW um oZ) (.inr Z) ?_
 rintro j7 vm wy db uv qq ⟨dK,ez,rfl,rfl⟩
 let bO:Res:=.row dK ez 37 2 (hD wAE aE)
 have qr:sW w U j7 [bO,am,.blk aa 45 aH,c9,ak] db:=qq
 have q:=uM _ _ _ uv qr
 obtain ⟨j8,uw,qs⟩:=q
 have qt:sW w U j8 [a7,bO,am,.blk aa 45 aH,c9,ak] db:=qs
 refine oM Z Z (oR Z (zn Z Z (v:=.slice dK aE.length ez) Z) (oR Z (zn Z Z (v:=jV vd) Z) (oA Z Z (oA Z Z (eN (sR (.fl 0 (.fx 1 (wMR (.nil)) .stop)) Z (oM Z mD ?_)))))))
 have q:=qt.freezeT (k:=4) (n:=dH.length) rfl (wAG (f:=wAE) (sz:=2) (fun _=>rfl) dH) (by decide)
 obtain ⟨gI,wj,un,qu,uN⟩:=q
 have qv:sW w U gI [a7,bO,am,.blk aa 45 aH,ak] db:=qu
 have q:=bnd jr
 obtain ⟨⟨aS,ve⟩,o0,jt⟩:=q
 try dsimp only at jt
 refine zL 0 Z Z Z Z (zK Z Z Try.call12 (zB Z zQ) Z) qv (fun hs=>wFT dH ga g7 db gI hs un o0) (.inr Z) ?_
 rintro j9 vn wz gS ux qw ⟨dL,eB,rfl,rfl⟩
 let dW:Res:=.row dL eB 37 2 (hD wAE aS)
 have qy:sW w U j9 [dW,a7,bO,am,.blk aa 45 aH,ak] gS:=qw
 have q:=uN _ _ _ ux qy
 obtain ⟨bQ,uy,qz⟩:=q
 have du:sW w U bQ [c9,dW,a7,bO,am,.blk aa 45 aH,ak] gS:=qz
 refine oM Z Z (oR Z (zn Z Z (v:=.slice dL aS.length eB) Z) (oR Z (zn Z Z (v:=jV ve) Z) (oA Z Z (oA Z Z (eN (zJ (sR fL13 Z (oM Z Z (oR Z (Zo Z Z Z) (oM Z Z (ifc jt ?_ ?_)))))))))))
 intro bw tj
 refine zN Z Z Z (zS Z Z (zy (fun h=>h bw.out))) Z Z (zb Z Z Z (zS Z Z (zy (fun h=>h bw.out))) (fun _=>Zo Z Z Z) (oR Z (zm Z (zy (fun h=>h bw.out)) Z) (oM Z Z (ifc tj ?_ ?_))))
 intro aO tl
 refine zN Z Z Z (zS Z Z (zy (fun h=>h aO.out))) Z Z (zb Z Z Z (zS Z Z (zy (fun h=>h aO.out))) (fun _=>ZB Z Z ze) (zN Z Z Z (zS Z Z (zy (fun h=>h aO.out))) Z Z (zb Z Z Z (zS Z Z (zy (fun h=>h aO.out))) (fun _=>ZB Z Z ze) (zb Z Z Z (zS Z Z (zy (fun h=>h aO.out))) (fun _=>Zo Z Z Z) (oR Z (zm Z (zy (fun h=>h aO.out)) Z) (eN (ifc tl ?_ ?_)))))))
 intro eC bG
 refine zl (zy (fun h=>h eC.out)) (kN (sR fL3 Z (oM Z Z (oR Z (ZB Z Z ze) (oM Z Z (eN (zU ?_)))))))
 have q:=wBx bG
 obtain ⟨wu,bF⟩:=q
 have q:=wBw bF
 obtain ⟨fC,so⟩:=q
 replace fC:=zH fC
 refine yE (fun aZ _ σ_ w_=>∃ (U_:PHeap),σ_ 226=jV (↑aZ:Int)/\σ_ 10=.pointer (some ⟨aa,0,none⟩)/\σ_ 17=jV (↑O.length:Int)/\σ_ 19=jV (gd ([0,1]:List Int) aJ)/\σ_ 25=.slice dK aE.length ez/\σ_ 27=.slice dL aS.length eB/\σ_ 143=.slice (some ⟨cm,0,none⟩) (([0,1]:List Int).length) 2/\σ_ 144=jV 2/\σ_ 145=jV (↑aJ:Int)/\σ_ 225=jV (↑aE.length:Int)/\PHeap.Le bQ U_/\sW w U U_ [am,a7,.blk aa 45 aH,bO,dW,ak] w_) so ?_ ?_ ?_
 exact ⟨bQ,rfl,iz,iA,mC,rfl,rfl,mE,mF,mG,rfl,(zM _),(du.pick [4,2,5,3,1,6] _ (by decide) rfl)⟩
 rintro aZ ⟨⟩ wN xb gT fq ⟨bu,dn,iB,iC,eI,bB,bC,iD,iE,iF,eJ,jQ,qA⟩ fM cy
 try dsimp only at fM
 have g9:Hid ((↑aZ:Int) < (↑aE.length:Int)):=zH (wBG fq)
 replace fq:=zH fq
 have jp:Hid (w64 ((↑aZ:Int) + 1)=(↑(aZ + 1):Int)):=zH (by have h1:=fC.out;have h2:=g9.out;rw [wAY] <;> omega)
 refine sR fL1 rfl (zb rfl rfl rfl rfl (fun _=>zO rfl dn eJ) (eN (zJ (cT Z g9 (kN (zJ (zU (sR fL2 rfl (zN rfl rfl rfl rfl rfl dn (yF rfl rfl rfl rfl rfl rfl (eN (zJ (zw zx [3,3,3,3,3,3,1,3,3,3,1,3,3,3,3,3,3,3,1,3,3,3,3,1,3,3,3,3,3,3,3,1,3,3,3,3,1,3,3] fL39 (by kernel_rfl) ?_)))))))))))))
 have an:=qA.drew
 generalize hw_W1153:({ gT with drawn:=gT.drawn + 1 }:World)=vC at an ⊢
 refine oM Z eI (oR Z (Runs.eql Z Z Z) (oM Z Z ?_))
 by_cases af:(gd ([0,1]:List Int) aJ)=0
 have ju:=fM;rw [if_pos af] at ju;replace af:=zH af
 refine zN Z Z Z (wT Z af) Z bB (zN Z Z Z (wT Z af) Z Z (bnK ju fun _ bD tn=>?_))
 obtain ⟨vS,bU⟩:=an.rowSome (j:=3) rfl (by rw [wAG (f:=wAE) (sz:=2) (fun _=>rfl) aE];have hz:=wAM bD;omega)
 refine rU Z (wT Z af) (Zb Z Z bU Z ze zi (wAM bD)) ?_
 have sG:=wAk (xs:=aE) (wAM bD)
 refine zt rfl rfl rfl (zS rfl rfl (ZW af.out)) (an.ldRA (j:=3) rfl bU rfl rfl Zi zi (vs:=[jV ((gd aE aZ).Lo),jV ((gd aE aZ).Hi)]) (wDd (sz:=2) (fun _=>rfl) _ _ _ sG (by first | omega | rfl | simp) rfl) rfl) rfl (zN rfl rfl rfl (zS rfl rfl (ZW af.out)) rfl bC (zN rfl rfl rfl (zS rfl rfl (ZW af.out)) rfl rfl (bnK tn fun _ bE tq=>?_)))
 obtain ⟨vT,bV⟩:=an.rowSome (j:=4) rfl (by rw [wAG (f:=wAE) (sz:=2) (fun _=>rfl) aS];have hz:=wAM bE;omega)
 refine rU Z (wT Z af) (Zb Z Z bV Z ze zi (wAM bE)) ?_
 have sH:=wAk (xs:=aS) (wAM bE)
 refine zt rfl rfl rfl (zS rfl rfl (ZW af.out)) (an.ldRA (j:=4) rfl bV rfl rfl Zi zi (vs:=[jV ((gd aS aZ).Lo),jV ((gd aS aZ).Hi)]) (wDd (sz:=2) (fun _=>rfl) _ _ _ sH (by first | omega | rfl | simp) rfl) rfl) rfl (zb rfl rfl rfl (zS rfl rfl (ZW af.out)) (fun _=>ZJ (Runs.neS (enc:=wAE) (a:=(gd aE aZ)) (b:=(gd aS aZ)) rfl rfl rfl eqT37 eqG37) (congrArg hJ (decide_not).symm)) (zb rfl rfl rfl rfl (fun _=>zk rfl (ZW af.out) rfl) (zN rfl rfl rfl rfl rfl rfl (ifc tq ?_ ?_))))
 intro ag tr
 refine zN Z Z Z (zS Z Z (zy (fun h=>h ag.out))) Z bB (zN Z Z Z (zS Z Z (zy (fun h=>h ag.out))) Z Z (zb Z Z Z (zS Z Z (zy (fun h=>h ag.out))) (fun _=>Zb Z Z bU Z ze zi (wAM bD)) (zb Z Z Z (zS Z Z (zy (fun h=>h ag.out))) (fun _=>zI Z Z zZ Z zC) ?_)))
 have sI:=wAk (xs:=aE) (wAM bD)
 refine zt rfl rfl rfl (zS rfl rfl (zy (fun h=>h ag.out))) (an.ldR (j:=3) rfl bU rfl rfl zE (wAO (sz:=2) (fun _=>rfl) _ _ 0 _ sI (by first | omega | rfl | simp) rfl)) rfl (zN rfl rfl rfl (zS rfl rfl (zy (fun h=>h ag.out))) rfl bC (zN rfl rfl rfl (zS rfl rfl (zy (fun h=>h ag.out))) rfl rfl (zb rfl rfl rfl (zS rfl rfl (zy (fun h=>h ag.out))) (fun _=>Zb rfl rfl bV rfl ze zi (wAM bE)) (zb rfl rfl rfl (zS rfl rfl (zy (fun h=>h ag.out))) (fun _=>zI rfl rfl zZ rfl zC) ?_))))
 have sJ:=wAk (xs:=aS) (wAM bE)
 refine zt rfl rfl rfl (zS rfl rfl (zy (fun h=>h ag.out))) (an.ldR (j:=4) rfl bV rfl rfl zE (wAO (sz:=2) (fun _=>rfl) _ _ 0 _ sJ (by first | omega | rfl | simp) rfl)) rfl (zb rfl rfl rfl (zS rfl rfl (zy (fun h=>h ag.out))) (fun _=>zO rfl rfl rfl) (zb rfl rfl rfl rfl (fun _=>zm rfl (zy (fun h=>h ag.out)) rfl) (zN rfl rfl rfl rfl rfl rfl (ifc tr ?_ ?_))))
 intro ai tt
 refine oT Z ai (oT Z ai (oT Z ai (oT Z ai (oT Z ai (oT Z ai (oT Z ai (oT Z ai (oT Z ai (oT Z ai (oT Z ai (oR Z (zk Z (ZW ai.out) Z) (eN (ZA Z (sR fL1 Z (oA Z Z (eN (zT (zV (zP ?_)))))))))))))))))))
 have q:=wAV tt
 obtain ⟨uU,tu,ml⟩:=q
 have q:=wBA bG bF (cy uU ml)
 obtain rfl:=q
 refine zP (zV (zV (zP ?_)))
 have q:=wAV tu
 obtain ⟨uV,tv,mm⟩:=q
 have q:=wBA aN aR (aY uV mm)
 obtain rfl:=q
 refine zP (zV (zP ?_))
 have hE:=hH tv;first | subst r | cases hE
 exact ⟨rfl,_,(ZK rfl),bu,_,(an.pick [] _ (by decide) rfl),rfl,rfl⟩
 intro ai tw
 refine zN Z Z Z (wF Z ai) Z bB (zN Z Z Z (wF Z ai) Z Z (rU Z (wF Z ai) (Zb Z Z bU Z ze zi (wAM bD)) (rU Z (wF Z ai) (zI Z Z zZ Z zC) ?_)))
 have sK:=wAk (xs:=aE) (wAM bD)
 refine zt rfl rfl rfl (zS rfl rfl (zy ai.out)) (an.ldR (j:=3) rfl bU rfl rfl zE (wAO (sz:=2) (fun _=>rfl) _ _ 1 _ sK (by first | omega | rfl | simp) rfl)) rfl (zN rfl rfl rfl (zS rfl rfl (zy ai.out)) rfl bC (zN rfl rfl rfl (zS rfl rfl (zy ai.out)) rfl rfl (zb rfl rfl rfl (zS rfl rfl (zy ai.out)) (fun _=>Zb rfl rfl bV rfl ze zi (wAM bE)) (zb rfl rfl rfl (zS rfl rfl (zy ai.out)) (fun _=>zI rfl rfl zZ rfl zC) ?_))))
 have sL:=wAk (xs:=aS) (wAM bE)
 refine zt rfl rfl rfl (zS rfl rfl (zy ai.out)) (an.ldR (j:=4) rfl bV rfl rfl zE (wAO (sz:=2) (fun _=>rfl) _ _ 1 _ sL (by first | omega | rfl | simp) rfl)) rfl (zb rfl rfl rfl (zS rfl rfl (zy ai.out)) (fun _=>Zz rfl rfl rfl) (zb rfl rfl rfl rfl (fun _=>zm rfl (zy ai.out) rfl) (eN (ifc tw ?_ ?_))))
 intro eD tx
 refine cT Z eD (sR fL1 Z (oA Z Z (eN (zT (zV (zP ?_))))))
 have q:=wAV tx
 obtain ⟨uW,tz,mn⟩:=q
 have q:=wBA bG bF (cy uW mn)
 obtain rfl:=q
 refine zP (zV (zV (zP ?_)))
 have q:=wAV tz
 obtain ⟨uX,tB,mo⟩:=q
 have q:=wBA aN aR (aY uX mo)
 obtain rfl:=q
 refine zP (zV (zP ?_))
 have hE:=hH tB;first | subst r | cases hE
 exact ⟨rfl,_,(ZK rfl),bu,_,(an.pick [] _ (by decide) rfl),rfl,rfl⟩
 intro eD tC
 refine cF Z eD (ZL (zd (zF (rR fL2 Z (oR Z (ZJ (zR Z dn Z) (congrArg (jV) jp.out)) (oM Z Z (zW ?_)))))))
 have q:=hH tC
 obtain rfl:=q
 exact zF ⟨Z,_,Z,⟨bu,Z,iB,iC,eI,bB,bC,iD,iE,iF,eJ,jQ,an⟩⟩
 intro ag tD
 refine oT Z ag (oT Z ag (oT Z ag (oT Z ag (oT Z ag (oT Z ag (oT Z ag (oT Z ag (oT Z ag (oT Z ag (oT Z ag (oR Z (zk Z (ZW ag.out) Z) (oM Z Z (oN Z (oN Z (oN Z (oN Z (oN Z (oN Z (oN Z (oN Z (oN Z (oN Z (oN Z (oR Z (zk Z Z Z) (eN (ZA Z (sR fL1 Z (oA Z Z (eN (zT (zV (zP ?_))))))))))))))))))))))))))))))))
 have q:=wAV tD
 obtain ⟨uY,tE,mp⟩:=q
 have q:=wBA bG bF (cy uY mp)
 obtain rfl:=q
 refine zP (zV (zV (zP ?_)))
 have q:=wAV tE
 obtain ⟨uZ,tF,mq⟩:=q
 have q:=wBA aN aR (aY uZ mq)
 obtain rfl:=q
 refine zP (zV (zP ?_))
 have hE:=hH tF;first | subst r | cases hE
 exact ⟨rfl,_,(ZK rfl),bu,_,(an.pick [] _ (by decide) rfl),rfl,rfl⟩
 have jv:=fM;rw [if_neg af] at jv;replace af:=zH af
 refine oF Z af (oF Z af (oF Z af (oF Z af (oF Z af (oF Z af (oF Z af (oF Z af (oF Z af (oR Z (zm Z (zy af.out) Z) (oM Z Z (zN Z Z Z (zS Z Z Z) Z bB (zN Z Z Z (zS Z Z Z) Z Z (bnK jv fun _ cu tG=>?_)))))))))))))
 obtain ⟨vU,dr⟩:=an.rowSome (j:=3) rfl (by rw [wAG (f:=wAE) (sz:=2) (fun _=>rfl) aE];have hz:=wAM cu;omega)
 refine zb Z Z Z (zS Z Z Z) (fun _=>Zb Z Z dr Z ze zi (wAM cu)) (zb Z Z Z (zS Z Z Z) (fun _=>zI Z Z zZ Z zC) ?_)
 have sM:=wAk (xs:=aE) (wAM cu)
 refine zt rfl rfl rfl (zS rfl rfl rfl) (an.ldR (j:=3) rfl dr rfl rfl zE (wAO (sz:=2) (fun _=>rfl) _ _ 0 _ sM (by first | omega | rfl | simp) rfl)) rfl (zN rfl rfl rfl (zS rfl rfl rfl) rfl bC (zN rfl rfl rfl (zS rfl rfl rfl) rfl rfl (bnK tG fun _ cw tH=>?_)))
 obtain ⟨vV,dt⟩:=an.rowSome (j:=4) rfl (by rw [wAG (f:=wAE) (sz:=2) (fun _=>rfl) aS];have hz:=wAM cw;omega)
 refine zb Z Z Z (zS Z Z Z) (fun _=>Zb Z Z dt Z ze zi (wAM cw)) (zb Z Z Z (zS Z Z Z) (fun _=>zI Z Z zZ Z zC) ?_)
 have sN:=wAk (xs:=aS) (wAM cw)
 refine zt rfl rfl rfl (zS rfl rfl rfl) (an.ldR (j:=4) rfl dt rfl rfl zE (wAO (sz:=2) (fun _=>rfl) _ _ 0 _ sN (by first | omega | rfl | simp) rfl)) rfl (zb rfl rfl rfl (zS rfl rfl rfl) (fun _=>zO rfl rfl rfl) (zb rfl rfl rfl rfl (fun _=>zm rfl rfl rfl) (zN rfl rfl rfl rfl rfl rfl (ifc tH ?_ ?_))))
 intro aj tI
 refine oT Z aj (oT Z aj (oT Z aj (oT Z aj (oT Z aj (oT Z aj (oT Z aj (oT Z aj (oT Z aj (oT Z aj (oT Z aj (oR Z (zk Z (ZW aj.out) Z) (eN (ZA Z (sR fL1 Z (oA Z Z (eN (zT (zV (zP ?_)))))))))))))))))))
 have q:=wAV tI
 obtain ⟨u3,tJ,mr⟩:=q
 have q:=wBA bG bF (cy u3 mr)
 obtain rfl:=q
 refine zP (zV (zV (zP ?_)))
 have q:=wAV tJ
 obtain ⟨u4,tK,ms⟩:=q
 have q:=wBA aN aR (aY u4 ms)
 obtain rfl:=q
 refine zP (zV (zP ?_))
 have hE:=hH tK;first | subst r | cases hE
 exact ⟨rfl,_,(ZK rfl),bu,_,(an.pick [] _ (by decide) rfl),rfl,rfl⟩
 intro aj tL
 refine zN Z Z Z (wF Z aj) Z bB (zN Z Z Z (wF Z aj) Z Z (rU Z (wF Z aj) (Zb Z Z dr Z ze zi (wAM cu)) (rU Z (wF Z aj) (zI Z Z zZ Z zC) ?_)))
 have sO:=wAk (xs:=aE) (wAM cu)
 refine zt rfl rfl rfl (zS rfl rfl (zy aj.out)) (an.ldR (j:=3) rfl dr rfl rfl zE (wAO (sz:=2) (fun _=>rfl) _ _ 1 _ sO (by first | omega | rfl | simp) rfl)) rfl (zN rfl rfl rfl (zS rfl rfl (zy aj.out)) rfl bC (zN rfl rfl rfl (zS rfl rfl (zy aj.out)) rfl rfl (zb rfl rfl rfl (zS rfl rfl (zy aj.out)) (fun _=>Zb rfl rfl dt rfl ze zi (wAM cw)) (zb rfl rfl rfl (zS rfl rfl (zy aj.out)) (fun _=>zI rfl rfl zZ rfl zC) ?_))))
 have sP:=wAk (xs:=aS) (wAM cw)
 refine zt rfl rfl rfl (zS rfl rfl (zy aj.out)) (an.ldR (j:=4) rfl dt rfl rfl zE (wAO (sz:=2) (fun _=>rfl) _ _ 1 _ sP (by first | omega | rfl | simp) rfl)) rfl (zb rfl rfl rfl (zS rfl rfl (zy aj.out)) (fun _=>Zz rfl rfl rfl) (zb rfl rfl rfl rfl (fun _=>zm rfl (zy aj.out) rfl) (eN (ifc tL ?_ ?_))))
 intro eE tM
 refine cT Z eE (sR fL1 Z (oA Z Z (eN (zT (zV (zP ?_))))))
 have q:=wAV tM
 obtain ⟨u5,tN,mu⟩:=q
 have q:=wBA bG bF (cy u5 mu)
 obtain rfl:=q
 refine zP (zV (zV (zP ?_)))
 have q:=wAV tN
 obtain ⟨u6,tO,mw⟩:=q
 have q:=wBA aN aR (aY u6 mw)
 obtain rfl:=q
 refine zP (zV (zP ?_))
 have hE:=hH tO;first | subst r | cases hE
 exact ⟨rfl,_,(ZK rfl),bu,_,(an.pick [] _ (by decide) rfl),rfl,rfl⟩
 intro eE tP
 refine cF Z eE (ZL (zd (zF (rR fL2 Z (oR Z (ZJ (zR Z dn Z) (congrArg (jV) jp.out)) (oM Z Z (zW ?_)))))))
 have q:=hH tP
 obtain rfl:=q
 exact zF ⟨Z,_,Z,⟨bu,Z,iB,iC,eI,bB,bC,iD,iE,iF,eJ,jQ,an⟩⟩
 rintro ⟨⟩ xc vD ⟨k7,oq,mI,mJ,v2,v3,v4,mK,mL,mM,mN,uz,qD⟩ sm
 have jw:=wCl bG bF sm
 try dsimp only at jw
 have lZ:Hid (¬ ((↑(((↑aE.length:Int):Int) - 0).toNat:Int) < (↑aE.length:Int))):=zH (wAp)
 refine sR fL1 Z (oR Z (zO Z oq mN) (eN (zJ (cF Z lZ (ZM (zc (zc (ZC (zd (zF (rR fL2 Z (oR Z (ZJ (zR Z mM Z) (congrArg (jV) sY.out)) (oM Z Z (zW ?_))))))))))))))
 have q:=hH jw
 obtain rfl:=q
 exact zF ⟨rfl,_,rfl,⟨k7,rfl,mI,mJ,mK,mL,(((((bj.trans bk).trans dv).trans uw).trans uy).trans uz),(qD.pick [0,1,2,5] _ (by decide) rfl),pL⟩⟩
 intro eC tQ
 refine cT Z eC (sR fL1 Z (oA Z Z (eN (zT (zP (zV (zP ?_)))))))
 have q:=wAV tQ
 obtain ⟨u7,tR,mx⟩:=q
 have q:=wBA aN aR (aY u7 mx)
 obtain rfl:=q
 refine zP (zV (zP ?_))
 have hE:=hH tR;first | subst r | cases hE
 exact ⟨rfl,_,(ZK rfl),bQ,_,(du.pick [] _ (by decide) rfl),rfl,rfl⟩
 intro aO tS
 refine oT Z aO (oT Z aO (oT Z aO (oT Z aO (oT Z aO (oR Z (zk Z (ZW aO.out) Z) (eN (ZA Z (sR fL1 Z (oA Z Z (eN (zT (zP (zV (zP ?_))))))))))))))
 have q:=wAV tS
 obtain ⟨u9,tT,my⟩:=q
 have q:=wBA aN aR (aY u9 my)
 obtain rfl:=q
 refine zP (zV (zP ?_))
 have hE:=hH tT;first | subst r | cases hE
 exact ⟨rfl,_,(ZK rfl),bQ,_,(du.pick [] _ (by decide) rfl),rfl,rfl⟩
 intro bw tU
 refine oT Z bw (oT Z bw (oR Z (zk Z (ZW bw.out) Z) (oM Z Z (oN Z (oN Z (oN Z (oN Z (oN Z (oR Z (zk Z Z Z) (eN (ZA Z (sR fL1 Z (oA Z Z (eN (zT (zP (zV (zP ?_))))))))))))))))))
 have q:=wAV tU
 obtain ⟨va,tV,mz⟩:=q
 have q:=wBA aN aR (aY va mz)
 obtain rfl:=q
 refine zP (zV (zP ?_))
 have hE:=hH tV;first | subst r | cases hE
 exact ⟨rfl,_,(ZK rfl),bQ,_,(du.pick [] _ (by decide) rfl),rfl,rfl⟩
 rintro wW xd vE ⟨k9,ot,v5,v9,wa,mO,wk,qE,wh⟩ sn
 have tW:=wCl aN aR sn
 have l0:Hid (¬ ((↑((2:Int) - 0).toNat:Int) < 2)):=zH (wAp)
 refine sR fL1 Z (oR Z (zO Z ot mO) (eN (zJ (cF Z l0 (ZM (zc (zc (ZC (zF (sR fL1 Z (oA Z Z (eN (zT ?_)))))))))))))
 have hE:=hH tW;first | subst r | cases hE
 exact ⟨rfl,_,(ZK rfl),k9,_,(qE.pick [] _ (by decide) rfl),rfl,rfl⟩
 intro eF tX
 refine cT Z eF (sR fL1 Z (oA Z Z (eN (zT (zP ?_)))))
 have hE:=hH tX;first | subst r | cases hE
 exact ⟨rfl,_,(ZK rfl),bv,_,(e7.pick [] _ (by decide) rfl),rfl,rfl⟩
 intro aP tY
 refine oT Z aP (oT Z aP (oT Z aP (oT Z aP (oT Z aP (oR Z (zk Z (ZW aP.out) Z) (eN (ZA Z (sR fL1 Z (oA Z Z (eN (zT (zP ?_))))))))))))
 have hE:=hH tY;first | subst r | cases hE
 exact ⟨rfl,_,(ZK rfl),bv,_,(e7.pick [] _ (by decide) rfl),rfl,rfl⟩
end Go.Proofs.Ytkedcbligiebkaa
