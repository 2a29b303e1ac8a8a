import Derived.Test.YtfcmijinklojbaaU6
import Derived.Test.YtfcmijinklojbaaU5
set_option linter.all false
open List renaming flatMap->hH,getElem_cons_succ->nE,getElem_cons_zero->nG,getElem_toArray->nH,set->nJ,length_set->nK
open Go.Value renaming bool->nA
open Bool renaming eq_false_iff->nB
open Option.some renaming inj->nD
open Int renaming toNat_natCast->nI
namespace Go.Proofs.Ytfcmijinklojbaa
open Go.KL
def gAz:Sch:=.fx 0 (.fl 1 .nil) .stop
def gBa:Sch:=.fx 2 (.fl 3 .nil) .stop
def gBb:Sch:=.fl 10 (.fx 12 .nil .stop)
def gBc:Sch:=.fx 1 (.fl 2 .nil) .stop
def gBd:Sch:=.fx 12 (.fl 13 .nil) .stop
def gBe:Sch:=.fx 7 (.fl 8 .nil) .stop
def gBf:Sch:=.fx 5 (.fl 6 .nil) .stop
def gBg:Sch:=.fx 3 (.fl 4 .nil) .stop
def gBh:Sch:=.fl 0 (.fl 1 (.fx 2 .nil .stop))
def gBi:Sch:=.fl 10 (.fx 11 (.fx 12 .nil .stop) .stop)
def gBj:Sch:=.fx 7 gBb .stop
def gBk:Sch:=.fx 0 gBc .stop
def gBl:Sch:=.fl 0 gBc
def gBm:Sch:=.fl 0 (.fx 1 (.fx 2 .nil .stop) .stop)
def gBn:Sch:=.fx 3 (.fx 4 (.fx 5 .nil .stop) .stop) .stop
def gBo:Sch:=.fx 6 gBe .stop
def gBp:Sch:=.fx 1 gBa .stop
def gBq:Sch:=.fl 0 (.fl 1 gBa)
def gBr:Sch:=.fx 4 gBj .stop
def gBs:Sch:=.fx 3 gBj .stop
def gBt:Sch:=.fx 5 (.fl 6 (.fl 7 (.fx 8 .nil .stop))) .stop
def gBu:Sch:=.fx 7 gBi (.fx 11 gBj .stop)
def gBv:Sch:=.fx 0 gBs .stop
def gBw:Sch:=.fx 3 gBu (.fx 11 gBs .stop)
def gBx:Sch:=.fx 3 gBr (.fx 4 gBs .stop)
set_option maxHeartbeats 4000000
theorem wFs (p0:wAC) (ak:Option Addr) (ap:Nat) (ae:Option Addr) (ah:Nat) (am:Option Addr) (aq:Nat) (w:World) (U:PHeap) (hS:St0 w U []) (bh:Sl U 1 ak ap p0.Shots.length (hH KL.encI p0.Shots)) (bi:Sl U 1 ae ah p0.Down.length (hH KL.encI p0.Down)) (bj:Sl U 2 am aq p0.Across.length (hH wAE p0.Across)) {r:Int} (hm:wCL p0=some r):Gv Try.prog 94 [.agg #[.slice ak p0.Shots.length ap,.slice ae p0.Down.length ah,.slice am p0.Across.length aq]] w (wCt w [] U (fun U_ L_ v=>v=jV r/\L_=[])):=by
 unfold wCL at hm
 refine Gv.of Try.func94 Z Try.ntmps94 Try.results94 Z (sR gAz Z ?_)
 let B0:List Value:=[.slice ak p0.Shots.length ap,.slice ae p0.Down.length ah,.slice am p0.Across.length aq]
 refine ZY (cs:=B0) rfl rfl rfl rfl rfl rfl (by rfl) hS ?_
 intro W1 b2 aY
 refine oA Z Z (eN (sR fL1 Z (oA Z Z (eN (zJ (sR fL1 Z (oA Z Z (eN (zi (CK.iter (fun (aW,au) σ_ w_=>∃ (U_:PHeap),σ_ 1=.pointer (some ⟨b2,0,none⟩)/\σ_ 3=jV aW/\σ_ 4=jV au/\PHeap.Le U U_/\sW w U U_ [.blk b2 54 B0] w_) hm ?_ ?_))))))))))
 exact ⟨U,Z,Z,Z,(zX _),aY⟩
 rintro ⟨aW,au⟩ bk bl bg ⟨az,aR,aS,aT,bb,ai⟩ aj aZ
 try dsimp only at aj
 refine zJ (sR fL5 Z (oM Z aT (oR Z (zK Z aR zY Z zZ) (oL Z (ai.ldB (j:=0) Z Z Z zd (v:=.slice ae p0.Down.length ah) Z) (oR Z (zr Z Z zA) (oR Z (zo Z Z Z) (eN ?_)))))))
 by_cases ab:au < (↑p0.Down.length:Int)
 have aU:=aj;rw [if_pos ab] at aU;replace ab:=zN ab
 refine cT Z ab (kN (zJ (zi (rR fL3 Z (oM Z aS (oR Z (Runs.mulw Z Z Z) (oA Z Z (zn (zp (zI (rR fL3 Z (oM Z aT (oR Z (zk Z Z Z) (oA Z Z (zn ?_)))))))))))))))
 have q:=nD aU
 obtain rfl:=q
 exact zI ⟨Z,_,Z,⟨az,aR,Z,Z,bb,ai⟩⟩
 have aV:=aj;rw [if_neg ab] at aV;replace ab:=zN ab
 refine cF Z ab (ZS (zq ?_))
 have q:=wAj aV
 obtain ⟨be,ba,aX⟩:=q
 have q:=aZ be aX
 obtain rfl:=q
 refine zq (ZJ (zI (sR fL2 Z (oM Z aS (oA Z Z (eN (zQ ?_)))))))
 have hE:=nD ba;first | subst r | cases hE
 exact ⟨rfl,_,(ZD rfl),az,_,(ai.pick [] _ (by decide) rfl),rfl,rfl⟩
theorem wBE (p0:Int) (p1:Int) (w:World) (U:PHeap) (hS:St0 w U [])  {r:Bool} (hm:wAW p0 p1=some r):Gv Try.prog 68 [jV p0,jV p1] w (wCt w [] U (fun U_ L_ v=>v=.bool r/\L_=[])):=by
 unfold wAW at hm
 refine Gv.of Try.func68 Z Try.ntmps68 Try.results68 Z (sR fL1 Z (oA Z Z (eN (zJ (sR fL1 Z (oA Z Z (eN (zi (bnK hm fun bm aZ be=>?_)))))))))
 have q:=wCQ aZ
 obtain ⟨ah,aY⟩:=q
 replace ah:=zN ah
 refine CK.forN' (fun k7 x6 σ_ w_=>∃ (U_:PHeap),σ_ 5=jV (↑k7:Int)/\σ_ 0=jV x6/\σ_ 1=jV p1/\PHeap.Le U U_/\sW w U U_ [] w_) aY ?_ ?_ ?_
 exact ⟨U,Z,Z,Z,(zX _),hS⟩
 rintro k7 x6 bl bn bh ae ⟨au,ak,aQ,aj,bg,aW⟩ bf
 have ai:Hid ((↑k7:Int) < p1):=zN (wCO ae)
 replace ae:=zN ae
 have ba:Hid (w64 ((↑k7:Int) + 1)=(↑(k7 + 1):Int)):=zN (by have h1:=ah.out;have h2:=ai.out;rw [wAM] <;> omega)
 refine zJ (sR fL3 Z (oM Z ak (oM Z aj (oR Z (zo Z Z Z) (eN (cT Z ai (kN (zJ (zi (rR fL3 Z (oM Z aQ (bnK bf fun bk aU bb=>oR Z (Runs.quo Z Z Z aU) (oA Z Z (zn (zp (zI (rR fL3 Z (oM Z ak (oR Z (ZI (zk Z Z Z) (congrArg (jV) ba.out)) (oA Z Z (zn ?_)))))))))))))))))))))
 cases bb
 exact zI ⟨Z,⟨au,Z,Z,aj,bg,aW⟩⟩
 rintro bo bi ⟨av,aT,aR,aS,bj,aX⟩
 have az:Hid (¬ ((↑((p1:Int) - 0).toNat:Int) < p1)):=zN (wBi)
 refine zJ (sR fL3 Z (oM Z aT (oM Z aS (oR Z (zo Z Z Z) (eN (cF Z az (ZS (zq (zq (ZJ (zI (sR fL4 Z (oM Z aR (bnK be fun x42 aV am=>oR Z (Runs.rem Z Z Z aV) (oR Z (Zg Z Z Z) (oA Z Z (eN (zQ ?_))))))))))))))))))
 first | (obtain rfl:=nD am) | cases am
 exact ⟨Z,_,(ZD Z),av,_,aX,Z,Z⟩
theorem wBw (p0:wAC) (aR:Option Addr) (aT:Nat) (aS:Option Addr) (aU:Nat) (aj:Option Addr) (ak:Nat) (p1:Int) (p2:Int) (w:World) (U:PHeap) (hS:St0 w U []) (bz:Sl U 1 aR aT p0.Shots.length (hH KL.encI p0.Shots)) (bA:Sl U 1 aS aU p0.Down.length (hH KL.encI p0.Down)) (bn:Sl U 2 aj ak p0.Across.length (hH wAE p0.Across)) {r:Bool} (hm:wAS p0 p1 p2=some r):Gv Try.prog 62 [.agg #[.slice aR p0.Shots.length aT,.slice aS p0.Down.length aU,.slice aj p0.Across.length ak],jV p1,jV p2] w (wCt w [] U (fun U_ L_ v=>v=.bool r/\L_=[])):=by
 unfold wAS at hm
 refine Gv.of Try.func62 Z Try.ntmps62 Try.results62 Z (sR gAz Z ?_)
 let B0:List Value:=[.slice aR p0.Shots.length aT,.slice aS p0.Down.length aU,.slice aj p0.Across.length ak]
 refine ZY (cs:=B0) rfl rfl rfl rfl rfl rfl (by rfl) hS ?_
 intro W1 b2 bm
 refine oA Z Z (eN (zJ (sR fL1 Z (oA Z Z (eN (zi (CK.iter (fun x8 σ_ w_=>∃ (U_:PHeap),σ_ 1=jV p1/\σ_ 2=jV p2/\σ_ 3=.pointer (some ⟨b2,0,none⟩)/\σ_ 7=jV x8/\PHeap.Le U U_/\sW w U U_ [.blk b2 54 B0] w_) hm ?_ ?_)))))))
 exact ⟨U,Z,Z,Z,Z,(zX _),bm⟩
 rintro x8 bC bD bv ⟨am,aq,au,av,az,bg,ae⟩ bf aZ
 refine zJ (sR fL5 Z (oM Z az (oR Z (zK Z av zY Z Zr) (oL Z (ae.ldB (j:=0) Z Z Z Zw (v:=.slice aj p0.Across.length ak) Z) (oR Z (zr Z Z Zj) (oR Z (zo Z Z Z) (eN ?_)))))))
 by_cases ab:x8 < (↑p0.Across.length:Int)
 have ba:=bf;rw [if_pos ab] at ba;replace ab:=zN ab
 refine cT Z ab (kN (zJ (zi (sR fL9 Z (oR Z (zK Z av zY Z Zr) (oL Z (ae.ldB (j:=0) Z Z Z Zw (v:=.slice aj p0.Across.length ak) Z) (oM Z az (bnK ba fun aV aQ bo=>?_))))))))
 have bj:=bn.le bg
 have q:=bj.el (fun _=>rfl) (wAV aQ)
 obtain ⟨bw,bB,bk,bl⟩:=q
 refine oR Z (ZP Z Z bk Z Zj Zx (wBp aQ) (wBs aQ)) (oL Z (ae.ldCA (f:=0) bl Z Z Try.isAgg124 Zx (us:=[jV aV.Skier,jV aV.Lane]) Z Z) (oM Z aq (oM Z au (oR Z (ZM (pv:=[(0,jV p1),(1,jV p2)]) (z:=[jV 0,jV 0]) (cs:=[jV p1,jV p2]) Z (wAR Z (wAR Z wAo)) Try.zeroValue124 wOF Z Z) (oR Z (Runs.eqS (enc:=wAE) (a:=aV) (b:=(⟨p1,p2⟩:wAl)) Z Z Z wTI wTH) (eN (ifc bo ?_ ?_)))))))
 intro ap bp
 refine cT Z ap (sR fL1 Z (oA Z Z (eN (zQ (ZE (ze ?_))))))
 have q:=wAj bp
 obtain ⟨bs,bq,bh⟩:=q
 have q:=aZ bs bh
 obtain rfl:=q
 refine ze (ZE (ze ?_))
 have hE:=nD bq;first | subst r | cases hE
 exact ⟨rfl,_,(ZD rfl),am,_,(ae.pick [] _ (by decide) rfl),rfl,rfl⟩
 intro ap br
 refine cF Z ap (Za (zp (zI (rR fL3 Z (oM Z az (oR Z (zk Z Z Z) (oA Z Z (zn ?_))))))))
 have q:=nD br
 obtain rfl:=q
 exact zI ⟨Z,_,Z,⟨am,aq,au,av,Z,bg,ae⟩⟩
 have bb:=bf;rw [if_neg ab] at bb;replace ab:=zN ab
 refine cF Z ab (ZS (zq ?_))
 have q:=wAj bb
 obtain ⟨bt,be,bi⟩:=q
 have q:=aZ bt bi
 obtain rfl:=q
 refine zq (ZJ (zI (sR fL4 Z (oM Z aq (oM Z au (oR Z (Zg Z Z Z) (oA Z Z (eN (zQ ?_)))))))))
 first | (obtain rfl:=nD be) | cases be
 exact ⟨rfl,_,(ZD rfl),am,_,(ae.pick [] _ (by decide) rfl),rfl,rfl⟩
theorem wCm (p0:wAC) (bw:Option Addr) (bA:Nat) (bz:Option Addr) (bB:Nat) (bK:Option Addr) (bL:Nat) (p1:Int) (p2:Int) (p3:Int) (p4:Int) (w:World) (U:PHeap) (hS:St0 w U []) (bQ:Sl U 1 bw bA p0.Shots.length (hH KL.encI p0.Shots)) (cH:Sl U 1 bz bB p0.Down.length (hH KL.encI p0.Down)) (cI:Sl U 2 bK bL p0.Across.length (hH wAE p0.Across)) {r:Int} (hm:wAt p0 p1 p2 p3 p4=some r):Gv Try.prog 67 [.agg #[.slice bw p0.Shots.length bA,.slice bz p0.Down.length bB,.slice bK p0.Across.length bL],jV p1,jV p2,jV p3,jV p4] w (wCt w [] U (fun U_ L_ v=>v=jV r/\L_=[])):=by
 unfold wAt at hm
 refine Gv.of Try.func67 Z Try.ntmps67 Try.results67 Z (sR gAz Z ?_)
 let B0:List Value:=[.slice bw p0.Shots.length bA,.slice bz p0.Down.length bB,.slice bK p0.Across.length bL]
 refine ZY (cs:=B0) rfl rfl rfl rfl rfl rfl (by rfl) hS ?_
 intro W1 b2 fg
 refine oA Z Z (eN (sR fL1 Z (oA Z Z (eN (zJ (sR fL1 Z (oA Z Z (eN (zi (CK.iter (fun (bG,aS) σ_ w_=>∃ (U_:PHeap),σ_ 1=jV p1/\σ_ 2=jV p2/\σ_ 3=jV p3/\σ_ 4=jV p4/\σ_ 5=.pointer (some ⟨b2,0,none⟩)/\σ_ 11=jV bG/\σ_ 12=jV aS/\PHeap.Le U U_/\sW w U U_ [.blk b2 54 B0] w_) hm ?_ ?_))))))))))
 exact ⟨U,Z,Z,Z,Z,Z,Z,Z,(zX _),fg⟩
 rintro ⟨bG,aS⟩ g6 g9 de ⟨bR,bZ,cB,cC,cD,bO,b5,bJ,bj,cm⟩ cq fm
 try dsimp only at cq
 refine zJ (sR fL5 Z (oM Z bJ (oR Z (zK Z bO zY Z zZ) (oL Z (cm.ldB (j:=0) Z Z Z zd (v:=.slice bw p0.Shots.length bA) Z) (oR Z (zr Z Z zA) (oR Z (zo Z Z Z) (eN ?_)))))))
 by_cases bl:aS < (↑p0.Shots.length:Int)
 have cP:=cq;rw [if_pos bl] at cP;replace bl:=zN bl
 refine cT Z bl (kN (bnK cP fun x32 gp gf=>yB (fun σ_ w_=>∃ (U_:PHeap),σ_ 1=jV p1/\σ_ 2=jV p2/\σ_ 3=jV p3/\σ_ 4=jV p4/\σ_ 5=.pointer (some ⟨b2,0,none⟩)/\σ_ 11=jV x32/\σ_ 12=jV aS/\PHeap.Le bR U_/\sW w U U_ [.blk b2 54 B0] w_) ?_ ?_))
 refine zi (zJ (sR gBh Z (oM Z bZ (oM Z bJ (bnK gp fun gX eP gg=>zM 0 Z Z Z Z (zL Z Z yF (zB Z (zB Z zS)) Z) cm (fun hs=>wBE p1 aS de bR hs eP) (.inr Z) ?_)))))
 rintro bI gD gS dh am fj ⟨rfl,rfl⟩
 have bP:sW w U bI [.blk b2 54 B0] dh:=fj
 refine eN (ifc gg ?_ ?_)
 intro bY gh
 refine ZB (congrArg nA bY.out) (rR fL8 Z (oM Z b5 (oR Z (zK Z bO zY Z zZ) (oL Z (bP.ldB (j:=0) Z Z Z zd (v:=.slice bz p0.Down.length bB) Z) (oM Z bJ (bnK gh fun x48 cg gi=>?_))))))
 have eQ:=cH.le bj
 have cG:=eQ.le am
 have q:=cG.el (fun _=>rfl) (wAV cg)
 obtain ⟨gL,gO,eW,eZ⟩:=q
 refine oR Z (ZP Z Z eW Z zA zD (wBp cg) (wBs cg)) (oL Z (bP.ldC (f:=0) eZ (v:=jV x48) Z Z zO Z) (oR Z (zk Z Z Z) (oA Z Z (eN (sR fL1 Z (oA Z Z (eN (zJ (sR fL1 Z (oA Z Z (eN (zi (CK.iter (fun (bV,x64) σ_ w_=>∃ (U_:PHeap),σ_ 1=jV p1/\σ_ 2=jV p2/\σ_ 3=jV p3/\σ_ 4=jV p4/\σ_ 5=.pointer (some ⟨b2,0,none⟩)/\σ_ 11=jV (w64 (bG + x48))/\σ_ 12=jV aS/\σ_ 13=.bool bV/\σ_ 14=jV x64/\PHeap.Le bI U_/\sW w U U_ [.blk b2 54 B0] w_) gi ?_ ?_)))))))))))))
 exact ⟨bI,bZ,cB,cC,cD,bO,Z,bJ,Z,Z,(zX _),bP⟩
 rintro ⟨bV,x64⟩ g8 ii dm ⟨bF,be,bf,bg,bh,aQ,bo,aq,cE,bi,bs,bq⟩ ct fu
 try dsimp only at ct
 refine zJ (sR fL5 Z (oM Z bi (oR Z (zK Z aQ zY Z zZ) (oL Z (bq.ldB (j:=0) Z Z Z zd (v:=.slice bz p0.Down.length bB) Z) (oR Z (zr Z Z zA) (oR Z (zo Z Z Z) (eN ?_)))))))
 by_cases bm:x64 < (↑p0.Down.length:Int)
 have cR:=ct;rw [if_pos bm] at cR;replace bm:=zN bm
 refine cT Z bm (kN (bnK cR fun dq cW gj=>yB (fun σ_ w_=>∃ (U_:PHeap),σ_ 1=jV p1/\σ_ 2=jV p2/\σ_ 3=jV p3/\σ_ 4=jV p4/\σ_ 5=.pointer (some ⟨b2,0,none⟩)/\σ_ 11=jV (w64 (bG + x48))/\σ_ 12=jV aS/\σ_ 13=.bool dq/\σ_ 14=jV x64/\PHeap.Le bF U_/\sW w U U_ [.blk b2 54 B0] w_) ?_ ?_))
 refine zi (rR (wEX (.fx 4 (wTZ (.fx 9 (wOu (.nil)) .stop)) .stop)) Z (oM Z cE (oM Z Z ?_)))
 by_cases ab:bV=true
 have cS:=cW;rw [if_pos ab] at cS;replace ab:=zN ab
 refine zG Z Z Z (zF Z Z (congrArg nA ab.out) Z) (zG Z Z Z (zF Z Z (congrArg nA ab.out) Z) (ZV Z Z Z (zF Z Z (congrArg nA ab.out) Z) (zG Z Z Z (zF Z Z (congrArg nA ab.out) Z) (zG Z Z Z (wAG Z Z Z) (zG Z Z Z (wAG Z Z Z) (zG Z Z Z (wAG Z Z Z) (ZV Z Z Z (wAG Z Z Z) (zG Z Z Z (zF Z Z (congrArg nA ab.out) Z) (zG Z Z Z (zF Z Z (congrArg nA ab.out) Z) (zG Z Z Z (wAG Z Z Z) (zG Z Z Z (wAG Z Z Z) (zG Z Z Z (wAG Z Z Z) (zG Z Z Z (wAG Z Z Z) (zG Z Z Z (wAG Z Z Z) (zG Z Z Z (wAG Z Z Z) (zG Z Z Z (wAG Z Z Z) (zG Z Z Z (wAG Z Z Z) (zG Z Z Z (wAG Z Z Z) (zG Z Z Z (zF Z Z (congrArg nA ab.out) Z) (oR Z (zU Z (congrArg nA ab.out) Z) (oA Z Z (zn (zp ?_)))))))))))))))))))))))
 cases cS
 exact zI ⟨Z,⟨bF,be,bf,bg,bh,aQ,bo,aq,Z,bi,(zX _),bq⟩⟩
 have cU:=cW;rw [if_neg ab] at cU;replace ab:=zN ab
 refine zW Z Z Z (zE Z Z (congrArg nA (nB.2 ab.out))) Z be (zW Z Z Z (zE Z Z (congrArg nA (nB.2 ab.out))) Z bi (bnK cU fun gZ eT gm=>zM 0 Z Z Z (zE Z Z (congrArg nA (nB.2 ab.out))) (zL Z Z yF (zB Z (zB Z zS)) Z) bq (fun hs=>wBE p1 x64 dm bF hs eT) (.inr Z) ?_))
 rintro bT gE gT cy bC e8 ⟨rfl,rfl⟩
 have ci:sW w U bT [.blk b2 54 B0] cy:=e8
 refine zW Z Z Z (zE Z Z (congrArg nA (nB.2 ab.out))) Z Z (ifc gm ?_ ?_)
 intro au fw
 refine zy Z Z Z (zE Z Z (congrArg nA au.out)) (ci.ldBA (j:=0) Z Z aQ ZK zz (vs:=B0) Z Z) Z (zW Z Z Z (zE Z Z (congrArg nA au.out)) Z aq (zW Z Z Z (zE Z Z (congrArg nA au.out)) Z bi ?_))
 have dW:=bQ.le bj
 have dX:=dW.le am
 have dY:=dX.le bs
 have dZ:=dY.le bC
 have d4:=cG.le bs
 have d5:=d4.le bC
 have d6:=cI.le bj
 have d7:=d6.le am
 have d8:=d7.le bs
 have d9:=d8.le bC
 refine bnK fw fun x116 eb fy=>zM 0 Z Z Z (zE Z Z (congrArg nA au.out)) (zL Z Z Try.call62 (zB Z (zB Z (zB Z zS))) Z) ci (fun hs=>wBw p0 bw bA bz bB bK bL aS x64 cy bT hs dZ d5 d9 eb) (.inr Z) ?_
 rintro bM gA gP da cu e9 ⟨rfl,rfl⟩
 have cj:sW w U bM [.blk b2 54 B0] da:=e9
 refine zV Z Z Z (zE Z Z (congrArg nA (nB.2 ab.out))) (fun _=>zU Z (congrArg nA au.out) Z) (zW Z Z Z (zE Z Z (congrArg nA (nB.2 ab.out))) Z Z (ifc fy ?_ ?_))
 intro ah fz
 refine zW Z Z Z (zE Z Z (congrArg nA ah.out)) Z aq (zW Z Z Z (zE Z Z (congrArg nA ah.out)) Z bg (zV Z Z Z (zE Z Z (congrArg nA ah.out)) (fun _=>Zg Z Z Z) (zW Z Z Z (zE Z Z (congrArg nA ah.out)) Z Z (ifc fz ?_ ?_))))
 intro aT fA
 refine zW Z Z Z (wT Z aT) Z bi (zW Z Z Z (wT Z aT) Z bh (rU Z (wT Z aT) (Zg Z Z Z) (zV Z Z Z (zE Z Z (congrArg nA ah.out)) (fun _=>zU Z (Zf aT.out) Z) (zV Z Z Z (zE Z Z (congrArg nA ah.out)) (fun _=>Runs.notP Z Z) (zV Z Z Z (zE Z Z (congrArg nA (nB.2 ab.out))) (fun _=>zU Z (congrArg nA ah.out) Z) (oR Z (zP Z (congrArg nA (nB.2 ab.out)) Z) (oA Z Z (zn (zp ?_)))))))))
 have q:=nD fA
 obtain rfl:=q
 exact zI ⟨Z,⟨bM,be,bf,bg,bh,aQ,bo,aq,Z,bi,(bC.trans cu),cj⟩⟩
 intro aT fB
 refine oF Z aT (oF Z aT (oF Z aT (zV Z Z Z (zE Z Z (congrArg nA ah.out)) (fun _=>zP Z (zm aT.out) Z) (zV Z Z Z (zE Z Z (congrArg nA ah.out)) (fun _=>ZR Z Z) (zV Z Z Z (zE Z Z (congrArg nA (nB.2 ab.out))) (fun _=>zU Z (congrArg nA ah.out) Z) (oR Z (zP Z (congrArg nA (nB.2 ab.out)) Z) (oA Z Z (zn (zp ?_)))))))))
 cases fB
 exact zI ⟨Z,⟨bM,be,bf,bg,bh,aQ,bo,aq,Z,bi,(bC.trans cu),cj⟩⟩
 intro ah fC
 refine zG Z Z Z (zF Z Z (congrArg nA (nB.2 ah.out)) Z) (zG Z Z Z (zF Z Z (congrArg nA (nB.2 ah.out)) Z) (zG Z Z Z (zF Z Z (congrArg nA (nB.2 ah.out)) Z) (zG Z Z Z (zF Z Z (congrArg nA (nB.2 ah.out)) Z) (zG Z Z Z (wAG Z Z Z) (zG Z Z Z (wAG Z Z Z) (zG Z Z Z (wAG Z Z Z) (zG Z Z Z (zF Z Z (congrArg nA (nB.2 ah.out)) Z) (zG Z Z Z (zF Z Z (congrArg nA (nB.2 ah.out)) Z) (zV Z Z Z (zE Z Z (congrArg nA (nB.2 ab.out))) (fun _=>zP Z (congrArg nA (nB.2 ah.out)) Z) (oR Z (zP Z (congrArg nA (nB.2 ab.out)) Z) (oA Z Z (zn (zp ?_)))))))))))))
 cases fC
 exact zI ⟨Z,⟨bM,be,bf,bg,bh,aQ,bo,aq,Z,bi,(bC.trans cu),cj⟩⟩
 intro au fD
 refine zG Z Z Z (zF Z Z (congrArg nA (nB.2 au.out)) Z) (zG Z Z Z (zF Z Z (congrArg nA (nB.2 au.out)) Z) (zG Z Z Z (zF Z Z (congrArg nA (nB.2 au.out)) Z) (ZV Z Z Z (zF Z Z (congrArg nA (nB.2 au.out)) Z) (zV Z Z Z (zE Z Z (congrArg nA (nB.2 ab.out))) (fun _=>zP Z (congrArg nA (nB.2 au.out)) Z) (zW Z Z Z (zE Z Z (congrArg nA (nB.2 ab.out))) Z Z (oN Z (oN Z (oN Z (oN Z (zG Z Z Z (wAG Z Z Z) (zG Z Z Z (wAG Z Z Z) (zG Z Z Z (wAG Z Z Z) (oN Z (oN Z (zV Z Z Z (zE Z Z (congrArg nA (nB.2 ab.out))) (fun _=>zP Z Z Z) (oR Z (zP Z (congrArg nA (nB.2 ab.out)) Z) (oA Z Z (zn (zp ?_)))))))))))))))))))
 cases fD
 exact zI ⟨Z,⟨bT,be,bf,bg,bh,aQ,bo,aq,Z,bi,bC,ci⟩⟩
 rintro ib gG ⟨cX,dw,dx,dy,dz,dA,dB,dC,dD,dE,gq,fb⟩
 refine rR fL3 Z (oM Z dE (oR Z (zk Z Z Z) (oA Z Z (zn ?_))))
 have q:=nD gj
 obtain rfl:=q
 exact zI ⟨Z,_,Z,⟨cX,dw,dx,dy,dz,dA,dB,dC,dD,Z,(bs.trans gq),fb⟩⟩
 have cJ:=ct;rw [if_neg bm] at cJ;replace bm:=zN bm
 refine cF Z bm (ZS (zq ?_))
 have q:=wAj cJ
 obtain ⟨gv,fE,dr⟩:=q
 have q:=fu gv dr
 obtain rfl:=q
 refine zq (ZJ (zI (sR fL6 Z (oM Z cE (oM Z Z (ifc fE ?_ ?_))))))
 intro aU fG
 refine zW Z Z Z (zE Z Z (congrArg nA aU.out)) Z aq (zW Z Z Z (zE Z Z (congrArg nA aU.out)) Z bf (zV Z Z Z (zE Z Z (congrArg nA aU.out)) (fun _=>ZL Z Z Z) (oR Z (zU Z (congrArg nA aU.out) Z) (eN (ifc fG ?_ ?_)))))
 intro bW fH
 refine zg (zm (fun h=>h bW.out)) (Za (zp ?_))
 cases fH
 exact zI ⟨Z,⟨bF,be,bf,bg,bh,aQ,bo,aq,(am.trans bs),bq⟩⟩
 intro bW fJ
 refine cT Z bW (rR fL8 Z (oM Z bo (oR Z (zK Z aQ zY Z zZ) (oL Z (bq.ldB (j:=0) Z Z Z zd (v:=.slice bw p0.Shots.length bA) Z) (oM Z aq (bnK fJ fun gy b9 fK=>?_))))))
 have ed:=bQ.le bj
 have ef:=ed.le am
 have ei:=ef.le bs
 have q:=ei.el (fun _=>rfl) (wAV b9)
 obtain ⟨gJ,gM,eU,eX⟩:=q
 refine oR Z (ZP Z Z eU Z zA zD (wBp b9) (wBs b9)) (oL Z (bq.ldC (f:=0) eX (v:=jV gy) Z Z zO Z) (oR Z (ZG Z Z Z) (oA Z Z (zn (zp ?_)))))
 cases fK
 exact zI ⟨Z,⟨bF,be,bf,bg,bh,aQ,Z,aq,(am.trans bs),bq⟩⟩
 intro aU fL
 refine zG Z Z Z (zF Z Z (congrArg nA (nB.2 aU.out)) Z) (zG Z Z Z (zF Z Z (congrArg nA (nB.2 aU.out)) Z) (zG Z Z Z (zF Z Z (congrArg nA (nB.2 aU.out)) Z) (oR Z (zP Z (congrArg nA (nB.2 aU.out)) Z) (eN (zg Z (Za (zp ?_)))))))
 cases fL
 exact zI ⟨Z,⟨bF,be,bf,bg,bh,aQ,bo,aq,(am.trans bs),bq⟩⟩
 intro bY fM
 refine zg (congrArg nA (nB.2 bY.out)) (kN (sR fL1 Z (oA Z Z (eN (zJ (sR fL1 Z (oA Z Z (eN (zi (CK.iter (fun (bU,bH) σ_ w_=>∃ (U_:PHeap),σ_ 1=jV p1/\σ_ 2=jV p2/\σ_ 3=jV p3/\σ_ 4=jV p4/\σ_ 5=.pointer (some ⟨b2,0,none⟩)/\σ_ 11=jV bG/\σ_ 12=jV aS/\σ_ 13=.bool bU/\σ_ 14=jV bH/\PHeap.Le bI U_/\sW w U U_ [.blk b2 54 B0] w_) fM ?_ ?_))))))))))
 exact ⟨bI,bZ,cB,cC,cD,bO,b5,bJ,Z,Z,(zX _),bP⟩
 rintro ⟨bU,bH⟩ g7 ic df ⟨bE,aX,aY,aZ,ba,az,bn,ap,cA,bb,br,bp⟩ cr ft
 try dsimp only at cr
 refine zJ (sR fL5 Z (oM Z bb (oR Z (zK Z az zY Z zZ) (oL Z (bp.ldB (j:=0) Z Z Z zd (v:=.slice bz p0.Down.length bB) Z) (oR Z (zr Z Z zA) (oR Z (zo Z Z Z) (eN ?_)))))))
 by_cases bk:bH < (↑p0.Down.length:Int)
 have cK:=cr;rw [if_pos bk] at cK;replace bk:=zN bk
 refine cT Z bk (kN (bnK cK fun dp cV fN=>yB (fun σ_ w_=>∃ (U_:PHeap),σ_ 1=jV p1/\σ_ 2=jV p2/\σ_ 3=jV p3/\σ_ 4=jV p4/\σ_ 5=.pointer (some ⟨b2,0,none⟩)/\σ_ 11=jV bG/\σ_ 12=jV aS/\σ_ 13=.bool dp/\σ_ 14=jV bH/\PHeap.Le bE U_/\sW w U U_ [.blk b2 54 B0] w_) ?_ ?_))
 refine zi (rR (wEX (.fx 4 (wTZ (.fx 9 (wOu (.nil)) .stop)) .stop)) Z (oM Z cA (oM Z Z ?_)))
 by_cases aa:bU=true
 have cM:=cV;rw [if_pos aa] at cM;replace aa:=zN aa
 refine zG Z Z Z (zF Z Z (congrArg nA aa.out) Z) (zG Z Z Z (zF Z Z (congrArg nA aa.out) Z) (ZV Z Z Z (zF Z Z (congrArg nA aa.out) Z) (zG Z Z Z (zF Z Z (congrArg nA aa.out) Z) (zG Z Z Z (wAG Z Z Z) (zG Z Z Z (wAG Z Z Z) (zG Z Z Z (wAG Z Z Z) (ZV Z Z Z (wAG Z Z Z) (zG Z Z Z (zF Z Z (congrArg nA aa.out) Z) (zG Z Z Z (zF Z Z (congrArg nA aa.out) Z) (zG Z Z Z (wAG Z Z Z) (zG Z Z Z (wAG Z Z Z) (zG Z Z Z (wAG Z Z Z) (zG Z Z Z (wAG Z Z Z) (zG Z Z Z (wAG Z Z Z) (zG Z Z Z (wAG Z Z Z) (zG Z Z Z (wAG Z Z Z) (zG Z Z Z (wAG Z Z Z) (zG Z Z Z (wAG Z Z Z) (zG Z Z Z (zF Z Z (congrArg nA aa.out) Z) (oR Z (zU Z (congrArg nA aa.out) Z) (oA Z Z (zn (zp ?_)))))))))))))))))))))))
 cases cM
 exact zI ⟨Z,⟨bE,aX,aY,aZ,ba,az,bn,ap,Z,bb,(zX _),bp⟩⟩
 have cN:=cV;rw [if_neg aa] at cN;replace aa:=zN aa
 refine zW Z Z Z (zE Z Z (congrArg nA (nB.2 aa.out))) Z aX (zW Z Z Z (zE Z Z (congrArg nA (nB.2 aa.out))) Z bb (bnK cN fun gU ej fO=>zM 0 Z Z Z (zE Z Z (congrArg nA (nB.2 aa.out))) (zL Z Z yF (zB Z (zB Z zS)) Z) bp (fun hs=>wBE p1 bH df bE hs ej) (.inr Z) ?_))
 rintro bS gB gQ cz bD fc ⟨rfl,rfl⟩
 have cn:sW w U bS [.blk b2 54 B0] cz:=fc
 refine zW Z Z Z (zE Z Z (congrArg nA (nB.2 aa.out))) Z Z (ifc fO ?_ ?_)
 intro av fP
 refine zy Z Z Z (zE Z Z (congrArg nA av.out)) (cn.ldBA (j:=0) Z Z az ZK zz (vs:=B0) Z Z) Z (zW Z Z Z (zE Z Z (congrArg nA av.out)) Z ap (zW Z Z Z (zE Z Z (congrArg nA av.out)) Z bb ?_))
 have en:=bQ.le bj
 have eu:=en.le am
 have ey:=eu.le br
 have ez:=ey.le bD
 have eA:=cH.le bj
 have eC:=eA.le am
 have eE:=eC.le br
 have eF:=eE.le bD
 have eG:=cI.le bj
 have eH:=eG.le am
 have eI:=eH.le br
 have eJ:=eI.le bD
 refine bnK fP fun gW eK fQ=>zM 0 Z Z Z (zE Z Z (congrArg nA av.out)) (zL Z Z Try.call62 (zB Z (zB Z (zB Z zS))) Z) cn (fun hs=>wBw p0 bw bA bz bB bK bL aS bH cz bS hs ez eF eJ eK) (.inr Z) ?_
 rintro bN gC gR dg cw fd ⟨rfl,rfl⟩
 have cp:sW w U bN [.blk b2 54 B0] dg:=fd
 refine zV Z Z Z (zE Z Z (congrArg nA (nB.2 aa.out))) (fun _=>zU Z (congrArg nA av.out) Z) (zW Z Z Z (zE Z Z (congrArg nA (nB.2 aa.out))) Z Z (ifc fQ ?_ ?_))
 intro ai fR
 refine zW Z Z Z (zE Z Z (congrArg nA ai.out)) Z ap (zW Z Z Z (zE Z Z (congrArg nA ai.out)) Z aZ (zV Z Z Z (zE Z Z (congrArg nA ai.out)) (fun _=>Zg Z Z Z) (zW Z Z Z (zE Z Z (congrArg nA ai.out)) Z Z (ifc fR ?_ ?_))))
 intro aV fS
 refine zW Z Z Z (wT Z aV) Z bb (zW Z Z Z (wT Z aV) Z ba (rU Z (wT Z aV) (Zg Z Z Z) (zV Z Z Z (zE Z Z (congrArg nA ai.out)) (fun _=>zU Z (Zf aV.out) Z) (zV Z Z Z (zE Z Z (congrArg nA ai.out)) (fun _=>Runs.notP Z Z) (zV Z Z Z (zE Z Z (congrArg nA (nB.2 aa.out))) (fun _=>zU Z (congrArg nA ai.out) Z) (oR Z (zP Z (congrArg nA (nB.2 aa.out)) Z) (oA Z Z (zn (zp ?_)))))))))
 have q:=nD fS
 obtain rfl:=q
 exact zI ⟨Z,⟨bN,aX,aY,aZ,ba,az,bn,ap,Z,bb,(bD.trans cw),cp⟩⟩
 intro aV fT
 refine oF Z aV (oF Z aV (oF Z aV (zV Z Z Z (zE Z Z (congrArg nA ai.out)) (fun _=>zP Z (zm aV.out) Z) (zV Z Z Z (zE Z Z (congrArg nA ai.out)) (fun _=>ZR Z Z) (zV Z Z Z (zE Z Z (congrArg nA (nB.2 aa.out))) (fun _=>zU Z (congrArg nA ai.out) Z) (oR Z (zP Z (congrArg nA (nB.2 aa.out)) Z) (oA Z Z (zn (zp ?_)))))))))
 cases fT
 exact zI ⟨Z,⟨bN,aX,aY,aZ,ba,az,bn,ap,Z,bb,(bD.trans cw),cp⟩⟩
 intro ai fU
 refine zG Z Z Z (zF Z Z (congrArg nA (nB.2 ai.out)) Z) (zG Z Z Z (zF Z Z (congrArg nA (nB.2 ai.out)) Z) (zG Z Z Z (zF Z Z (congrArg nA (nB.2 ai.out)) Z) (zG Z Z Z (zF Z Z (congrArg nA (nB.2 ai.out)) Z) (zG Z Z Z (wAG Z Z Z) (zG Z Z Z (wAG Z Z Z) (zG Z Z Z (wAG Z Z Z) (zG Z Z Z (zF Z Z (congrArg nA (nB.2 ai.out)) Z) (zG Z Z Z (zF Z Z (congrArg nA (nB.2 ai.out)) Z) (zV Z Z Z (zE Z Z (congrArg nA (nB.2 aa.out))) (fun _=>zP Z (congrArg nA (nB.2 ai.out)) Z) (oR Z (zP Z (congrArg nA (nB.2 aa.out)) Z) (oA Z Z (zn (zp ?_)))))))))))))
 cases fU
 exact zI ⟨Z,⟨bN,aX,aY,aZ,ba,az,bn,ap,Z,bb,(bD.trans cw),cp⟩⟩
 intro av fV
 refine zG Z Z Z (zF Z Z (congrArg nA (nB.2 av.out)) Z) (zG Z Z Z (zF Z Z (congrArg nA (nB.2 av.out)) Z) (zG Z Z Z (zF Z Z (congrArg nA (nB.2 av.out)) Z) (ZV Z Z Z (zF Z Z (congrArg nA (nB.2 av.out)) Z) (zV Z Z Z (zE Z Z (congrArg nA (nB.2 aa.out))) (fun _=>zP Z (congrArg nA (nB.2 av.out)) Z) (zW Z Z Z (zE Z Z (congrArg nA (nB.2 aa.out))) Z Z (oN Z (oN Z (oN Z (oN Z (zG Z Z Z (wAG Z Z Z) (zG Z Z Z (wAG Z Z Z) (zG Z Z Z (wAG Z Z Z) (oN Z (oN Z (zV Z Z Z (zE Z Z (congrArg nA (nB.2 aa.out))) (fun _=>zP Z Z Z) (oR Z (zP Z (congrArg nA (nB.2 aa.out)) Z) (oA Z Z (zn (zp ?_)))))))))))))))))))
 cases fV
 exact zI ⟨Z,⟨bS,aX,aY,aZ,ba,az,bn,ap,Z,bb,bD,cn⟩⟩
 rintro ie gH ⟨cY,dF,dG,dH,dI,dJ,dK,dL,dM,dO,gt,ff⟩
 refine rR fL3 Z (oM Z dO (oR Z (zk Z Z Z) (oA Z Z (zn ?_))))
 have q:=nD fN
 obtain rfl:=q
 exact zI ⟨Z,_,Z,⟨cY,dF,dG,dH,dI,dJ,dK,dL,dM,Z,(br.trans gt),ff⟩⟩
 have cO:=cr;rw [if_neg bk] at cO;replace bk:=zN bk
 refine cF Z bk (ZS (zq ?_))
 have q:=wAj cO
 obtain ⟨gw,fW,dt⟩:=q
 have q:=ft gw dt
 obtain rfl:=q
 refine zq (ZJ (zI (sR fL6 Z (oM Z cA (oM Z Z (ifc fW ?_ ?_))))))
 intro aW fY
 refine zW Z Z Z (zE Z Z (congrArg nA aW.out)) Z ap (zW Z Z Z (zE Z Z (congrArg nA aW.out)) Z aY (zV Z Z Z (zE Z Z (congrArg nA aW.out)) (fun _=>ZL Z Z Z) (oR Z (zU Z (congrArg nA aW.out) Z) (eN (ifc fY ?_ ?_)))))
 intro bX fZ
 refine zg (zm (fun h=>h bX.out)) (Za (zp ?_))
 cases fZ
 exact zI ⟨Z,⟨bE,aX,aY,aZ,ba,az,bn,ap,(am.trans br),bp⟩⟩
 intro bX ga
 refine cT Z bX (rR fL8 Z (oM Z bn (oR Z (zK Z az zY Z zZ) (oL Z (bp.ldB (j:=0) Z Z Z zd (v:=.slice bw p0.Shots.length bA) Z) (oM Z ap (bnK ga fun gz cf gb=>?_))))))
 have eL:=bQ.le bj
 have eM:=eL.le am
 have eO:=eM.le br
 have q:=eO.el (fun _=>rfl) (wAV cf)
 obtain ⟨gK,gN,eV,eY⟩:=q
 refine oR Z (ZP Z Z eV Z zA zD (wBp cf) (wBs cf)) (oL Z (bp.ldC (f:=0) eY (v:=jV gz) Z Z zO Z) (oR Z (ZG Z Z Z) (oA Z Z (zn (zp ?_)))))
 cases gb
 exact zI ⟨Z,⟨bE,aX,aY,aZ,ba,az,Z,ap,(am.trans br),bp⟩⟩
 intro aW gc
 refine zG Z Z Z (zF Z Z (congrArg nA (nB.2 aW.out)) Z) (zG Z Z Z (zF Z Z (congrArg nA (nB.2 aW.out)) Z) (zG Z Z Z (zF Z Z (congrArg nA (nB.2 aW.out)) Z) (oR Z (zP Z (congrArg nA (nB.2 aW.out)) Z) (eN (zg Z (Za (zp ?_)))))))
 cases gc
 exact zI ⟨Z,⟨bE,aX,aY,aZ,ba,az,bn,ap,(am.trans br),bp⟩⟩
 rintro ig gI ⟨cZ,dP,dQ,dR,dS,dT,dU,dV,gu,fh⟩
 refine rR fL3 Z (oM Z dV (oR Z (zk Z Z Z) (oA Z Z (zn ?_))))
 have q:=nD gf
 obtain rfl:=q
 exact zI ⟨Z,_,Z,⟨cZ,dP,dQ,dR,dS,dT,dU,Z,(bj.trans gu),fh⟩⟩
 have cQ:=cq;rw [if_neg bl] at cQ;replace bl:=zN bl
 refine cF Z bl (ZS (zq ?_))
 have q:=wAj cQ
 obtain ⟨gx,ge,du⟩:=q
 have q:=fm gx du
 obtain rfl:=q
 refine zq (ZJ (zI (sR fL2 Z (oM Z b5 (oA Z Z (eN (zQ ?_)))))))
 have hE:=nD ge;first | subst r | cases hE
 exact ⟨rfl,_,(ZD rfl),bR,_,(cm.pick [] _ (by decide) rfl),rfl,rfl⟩
theorem wBQ (p0:wAC) (ae:Option Addr) (aj:Nat) (ah:Option Addr) (ak:Nat) (ai:Option Addr) (am:Nat) (p1:Int) (p2:Int) (w:World) (U:PHeap) (hS:St0 w U []) (bw:Sl U 1 ae aj p0.Shots.length (hH KL.encI p0.Shots)) (bz:Sl U 1 ah ak p0.Down.length (hH KL.encI p0.Down)) (bA:Sl U 2 ai am p0.Across.length (hH wAE p0.Across)) {r:Bool} (hm:wAJ p0 p1 p2=some r):Gv Try.prog 61 [.agg #[.slice ae p0.Shots.length aj,.slice ah p0.Down.length ak,.slice ai p0.Across.length am],jV p1,jV p2] w (wCt w [] U (fun U_ L_ v=>v=.bool r/\L_=[])):=by
 unfold wAJ at hm
 refine Gv.of Try.func61 Z Try.ntmps61 Try.results61 Z (sR gAz Z ?_)
 let B0:List Value:=[.slice ae p0.Shots.length aj,.slice ah p0.Down.length ak,.slice ai p0.Across.length am]
 refine ZY (cs:=B0) rfl rfl rfl rfl rfl rfl (by rfl) hS ?_
 intro W1 b2 bt
 refine oA Z Z (eN (zJ (sR fL1 Z (oA Z Z (eN (zi (CK.iter (fun x8 σ_ w_=>∃ (U_:PHeap),σ_ 1=jV p1/\σ_ 2=jV p2/\σ_ 3=.pointer (some ⟨b2,0,none⟩)/\σ_ 7=jV x8/\PHeap.Le U U_/\sW w U U_ [.blk b2 54 B0] w_) hm ?_ ?_)))))))
 exact ⟨U,Z,Z,Z,Z,(zX _),bt⟩
 rintro x8 bT bU bk ⟨bj,aZ,ba,aU,aV,aq,bg⟩ bJ bi
 refine zJ (sR gBq Z (oM Z aV (oL Z (bg.ldBA (j:=0) Z Z aU ZK zz (vs:=B0) Z Z) ?_)))
 have bb:=bw.le aq
 have be:=bz.le aq
 have bf:=bA.le aq
 refine bnK bJ fun x26 bo bB=>zM 0 Z Z Z Z (zL Z Z Try.call94 (zB Z zS) Z) bg (fun hs=>wFs p0 ae aj ah ak ai am bk bj hs bb be bf bo) (.inr Z) ?_
 rintro aQ bN bQ aY au bu ⟨rfl,rfl⟩
 have aW:sW w U aQ [.blk b2 54 B0] aY:=bu
 refine oR Z (zo Z Z Z) (eN (ifc bB ?_ ?_))
 intro aS bC
 refine cT Z aS (kN (zJ (zi (sR (wEX (.fx 4 (.fl 5 .nil) .stop)) Z (oL Z (aW.ldBA (j:=0) Z Z aU ZK zz (vs:=B0) Z Z) (oM Z aV (oM Z aZ (oM Z ba ?_))))))))
 have bp:=bb.le au
 have bq:=be.le au
 have br:=bf.le au
 refine bnK bC fun bS bs bD=>zM 0 Z Z Z Z (zL Z Z Try.call67 (zB Z (zB Z (zB Z (zB Z (zB Z zS))))) Z) aW (fun hs=>wCm p0 ae aj ah ak ai am x8 (-1) p1 p2 aY aQ hs bp bq br bs) (.inr Z) ?_
 rintro aR bO bR bl bK bv ⟨rfl,rfl⟩
 have bh:sW w U aR [.blk b2 54 B0] bl:=bv
 refine oR Z (Zl Z Z Z) (eN (ifc bD ?_ ?_))
 intro aT bE
 refine cT Z aT (sR fL1 Z (oA Z Z (eN (zQ (ZE (ze ?_))))))
 have q:=wAj bE
 obtain ⟨bL,bF,bm⟩:=q
 have q:=bi bL bm
 obtain rfl:=q
 refine ze (ZE (ze ?_))
 have hE:=nD bF;first | subst r | cases hE
 exact ⟨rfl,_,(ZD rfl),aR,_,(bh.pick [] _ (by decide) rfl),rfl,rfl⟩
 intro aT bG
 refine cF Z aT (Za (zp (zI (rR fL3 Z (oM Z aV (oR Z (zk Z Z Z) (oA Z Z (zn ?_))))))))
 have q:=nD bG
 obtain rfl:=q
 exact zI ⟨Z,_,Z,⟨aR,aZ,ba,aU,Z,((aq.trans au).trans bK),bh⟩⟩
 intro aS bH
 refine cF Z aS (ZS (zq ?_))
 have q:=wAj bH
 obtain ⟨bM,bI,bn⟩:=q
 have q:=bi bM bn
 obtain rfl:=q
 refine zq (ZJ (zI (sR fL1 Z (oA Z Z (eN (zQ ?_))))))
 have hE:=nD bI;first | subst r | cases hE
 exact ⟨rfl,_,(ZD rfl),aQ,_,(aW.pick [] _ (by decide) rfl),rfl,rfl⟩
end Go.Proofs.Ytfcmijinklojbaa
namespace Go.Proofs.Ytfcmijinklojbaa
open Go.KL
set_option maxHeartbeats 4000000
theorem wDu (p0:wAC) (aS:Option Addr) (aU:Nat) (aT:Option Addr) (aV:Nat) (ak:Option Addr) (am:Nat) (p1:Int) (p2:Int) (p3:Int) (p4:Int) (w:World) (U:PHeap) (hS:St0 w U []) (cn:Sl U 1 aS aU p0.Shots.length (hH KL.encI p0.Shots)) (fw:Sl U 1 aT aV p0.Down.length (hH KL.encI p0.Down)) (lJ:Sl U 2 ak am p0.Across.length (hH wAE p0.Across)) {r:wAC} (hm:wBg p0 p1 p2 p3 p4=some r):Gv Try.prog 63 [.agg #[.slice aS p0.Shots.length aU,.slice aT p0.Down.length aV,.slice ak p0.Across.length am],jV p1,jV p2,jV p3,jV p4] w (wCt w [] U (fun U_ L_ v=>∃ (cP:Option Addr) (dE:Nat) (cQ:Option Addr) (dF:Nat) (cR:Option Addr) (dG:Nat),v=.agg #[.slice cP r.Shots.length dE,.slice cQ r.Down.length dF,.slice cR r.Across.length dG]/\L_=[.row cP dE 3 1 (hH KL.encI r.Shots),.row cQ dF 3 1 (hH KL.encI r.Down)]/\Sl U_ 2 cR dG r.Across.length (hH wAE r.Across))):=by
 unfold wBg at hm
 refine Gv.of Try.func63 Z Try.ntmps63 Try.results63 Z (sR (.fx 0 (.fx 1 .nil .stop) .stop) Z ?_)
 let B0:List Value:=[.slice aS p0.Shots.length aU,.slice aT p0.Down.length aV,.slice ak p0.Across.length am]
 refine ZY (cs:=B0) rfl rfl rfl rfl rfl rfl (by rfl) hS ?_
 intro W1 b2 jC
 let B1:List Value:=[.slice none 0 0,.slice none 0 0,.slice none 0 0]
 refine zx (cs:=B1) Z Z Z Z Z ZF Z jC ?_
 intro W5 b6 lx
 refine eN ?_
 have q:=bnd hm
 obtain ⟨⟨aQ,aR⟩,lS,fy⟩:=q
 try dsimp only at fy
 refine yB (fun σ_ w_=>∃ (U_:PHeap) (bk:Nat) (aY:Option Addr) (aZ:Nat) (aW:Option Addr) (aX:Nat),σ_ 1=jV p1/\σ_ 2=jV p2/\σ_ 3=jV p3/\σ_ 4=jV p4/\σ_ 10=.pointer (some ⟨b6,0,none⟩)/\σ_ 11=.pointer (some ⟨bk,0,none⟩)/\PHeap.Le U U_/\sW w U U_ [.blk b6 54 B1,.blk b2 54 B0,.blk bk 54 [.slice aY aQ.length aZ,.slice aW aR.length aX,.slice ak p0.Across.length am],.row aY aZ 3 1 (hH KL.encI aQ),.row aW aX 3 1 (hH KL.encI aR)] w_) ?_ ?_
 refine bnK lS fun aj cg lO=>bnK lO fun aq fd lP=>ZN ZO [2,3,1,2,2,3,1,2,3,1,3,2,0] (.fl 1 (.fl 2 (.fl 5 (.fl 6 (.fl 8 (.fl 9 (.fx 0 (.fx 3 (.fx 4 gBu (.fx 11 gBr .stop)) (.fx 4 gBw (.fx 11 gBx .stop))) (.fx 4 (.fx 0 gBw (.fx 11 gBv .stop)) (.fx 11 (.fx 0 gBx (.fx 4 gBv .stop)) .stop))))))))) (by kernel_rfl) ?_
 have bq:=lx.drew
 generalize hw_W56:({ W5 with drawn:=W5.drawn + 1 }:World)=mq at bq ⊢
 refine Zb (s:=.nil) (M:=fun σ_ w_=>∃ (U_:PHeap) (bZ:Nat) (br:Option Addr) (bA:Nat) (bs:Option Addr) (bB:Nat),σ_ 1=jV p1/\σ_ 2=jV p2/\σ_ 3=jV p3/\σ_ 4=jV p4/\σ_ 5=.pointer (some ⟨b2,0,none⟩)/\σ_ 10=.pointer (some ⟨b6,0,none⟩)/\σ_ 11=.pointer (some ⟨bZ,0,none⟩)/\σ_ 13=.pointer (some ⟨b2,0,none⟩)/\σ_ 14=.slice aS p0.Shots.length aU/\σ_ 15=.slice br aj.length bA/\σ_ 17=.pointer (some ⟨b2,1,none⟩)/\σ_ 18=.slice aT p0.Down.length aV/\σ_ 19=.slice bs aq.length bB/\σ_ 20=.pointer (some ⟨b2,2,none⟩)/\σ_ 21=.slice ak p0.Across.length am/\σ_ 22=.agg #[.slice br aj.length bA,.slice bs aq.length bB,.slice ak p0.Across.length am]/\PHeap.Le U U_/\sW w U U_ [.blk b6 54 B1,.blk b2 54 B0,.blk bZ 54 [.slice br aj.length bA,.slice bs aq.length bB,.slice ak p0.Across.length am],.row br bA 3 1 (hH KL.encI aj),.row bs bB 3 1 (hH KL.encI aq)] w_) ?_ fun fz=>?_
 rintro mO l7 ⟨fJ,bZ,br,bA,bs,bB,gq,gt,gu,gv,mE,gw,gx,mF,mG,mH,mI,mJ,mK,mL,mM,mN,lW,jy⟩
 refine zn ?_
 cases lP
 exact zI ⟨Z,⟨fJ,bZ,br,bA,bs,bB,gq,gt,gu,gv,gw,gx,lW,jy⟩⟩
 refine Zb (s:=.fx 12 .nil .stop) (M:=fun σ_ w_=>∃ (U_:PHeap) (bJ:Nat) (bf:Option Addr) (bm:Nat) (bg:Option Addr) (bn:Nat),σ_ 1=jV p1/\σ_ 2=jV p2/\σ_ 3=jV p3/\σ_ 4=jV p4/\σ_ 5=.pointer (some ⟨b2,0,none⟩)/\σ_ 10=.pointer (some ⟨b6,0,none⟩)/\σ_ 11=.pointer (some ⟨bJ,0,none⟩)/\σ_ 13=.pointer (some ⟨b2,0,none⟩)/\σ_ 14=.slice aS p0.Shots.length aU/\σ_ 15=.slice bf aj.length bm/\σ_ 17=.pointer (some ⟨b2,1,none⟩)/\σ_ 18=.slice aT p0.Down.length aV/\σ_ 19=.slice bg aq.length bn/\σ_ 20=.pointer (some ⟨b2,2,none⟩)/\σ_ 21=.slice ak p0.Across.length am/\σ_ 22=.agg #[.slice bf aj.length bm,.slice bg aq.length bn,.slice ak p0.Across.length am]/\PHeap.Le U U_/\sW w U U_ [.blk b6 54 B1,.blk b2 54 B0,.blk bJ 54 B1,.row bf bm 3 1 (hH KL.encI aj),.row bg bn 3 1 (hH KL.encI aq)] w_) ?_ fun lT=>?_
 rintro mP l8 ⟨df,bJ,bf,bm,bg,bn,gy,gz,gA,gB,gC,gD,dM,gE,gF,gG,gH,gI,gJ,gK,gL,dO,lX,jz⟩
 let B2:List Value:=[.slice bf aj.length bm,.slice bg aq.length bn,.slice ak p0.Across.length am]
 refine zt (j:=2) (vs:=B2) Z Z Z Z jz Z dM dO Z zz (zC Z) Z Z Z ?_
 intro fL jA
 have jB:sW w U df [.blk b6 54 B1,.blk b2 54 B0,.blk bJ 54 B2,.row bf bm 3 1 (hH KL.encI aj),.row bg bn 3 1 (hH KL.encI aq)] fL:=jA
 exact fz _ _ ⟨df,bJ,bf,bm,bg,bn,gy,gz,gA,gB,gC,gD,dM,gE,gF,gG,gH,gI,gJ,gK,gL,dO,lX,jB⟩
 refine Zb (s:=gBb) (M:=fun σ_ w_=>∃ (U_:PHeap) (bK:Nat) (bh:Option Addr) (bo:Nat) (bi:Option Addr) (bp:Nat),σ_ 1=jV p1/\σ_ 2=jV p2/\σ_ 3=jV p3/\σ_ 4=jV p4/\σ_ 5=.pointer (some ⟨b2,0,none⟩)/\σ_ 10=.pointer (some ⟨b6,0,none⟩)/\σ_ 11=.pointer (some ⟨bK,0,none⟩)/\σ_ 13=.pointer (some ⟨b2,0,none⟩)/\σ_ 14=.slice aS p0.Shots.length aU/\σ_ 15=.slice bh aj.length bo/\σ_ 17=.pointer (some ⟨b2,1,none⟩)/\σ_ 18=.slice aT p0.Down.length aV/\σ_ 19=.slice bi aq.length bp/\σ_ 20=.pointer (some ⟨b2,2,none⟩)/\σ_ 21=.slice ak p0.Across.length am/\PHeap.Le U U_/\sW w U U_ [.blk b6 54 B1,.blk b2 54 B0,.blk bK 54 B1,.row bh bo 3 1 (hH KL.encI aj),.row bi bp 3 1 (hH KL.encI aq)] w_) ?_ fun lU=>?_
 rintro mQ l9 ⟨dg,bK,bh,bo,bi,bp,gM,gN,gO,gP,gQ,gR,dP,gS,gT,dQ,gU,gW,dR,gX,dS,lY,jD⟩
 let B3:List Value:=[.slice bh aj.length bo,.slice bi aq.length bp,.slice ak p0.Across.length am]
 refine oR Z (ZM (pv:=[(0,.slice bh aj.length bo),(1,.slice bi aq.length bp),(2,.slice ak p0.Across.length am)]) (z:=B1) (cs:=B3) Z (wAR dQ (wAR dR (wAR dS wAo))) ZF wGQ Z Z) (zt (j:=2) (vs:=B3) Z Z Z Z jD Z dP Z Z zz (zC Z) Z Z Z ?_)
 intro fM jE
 have jG:sW w U dg [.blk b6 54 B1,.blk b2 54 B0,.blk bK 54 B3,.row bh bo 3 1 (hH KL.encI aj),.row bi bp 3 1 (hH KL.encI aq)] fM:=jE
 exact fz _ _ ⟨dg,bK,bh,bo,bi,bp,gM,gN,gO,gP,gQ,gR,dP,gS,gT,dQ,gU,gW,dR,gX,dS,Z,lY,jG⟩
 refine Zb (s:=gBj) (M:=fun σ_ w_=>∃ (U_:PHeap) (bL:Nat) (bH:Option Addr) (bS:Nat) (cw:Nat),σ_ 1=jV p1/\σ_ 2=jV p2/\σ_ 3=jV p3/\σ_ 4=jV p4/\σ_ 5=.pointer (some ⟨b2,0,none⟩)/\σ_ 10=.pointer (some ⟨b6,0,none⟩)/\σ_ 11=.pointer (some ⟨bL,0,none⟩)/\σ_ 13=.pointer (some ⟨b2,0,none⟩)/\σ_ 14=.slice aS p0.Shots.length aU/\σ_ 15=.slice bH aj.length bS/\σ_ 16=.slice (some ⟨cw,0,none⟩) (([]:List Int).length) 0/\σ_ 17=.pointer (some ⟨b2,1,none⟩)/\σ_ 18=.slice aT p0.Down.length aV/\σ_ 20=.pointer (some ⟨b2,2,none⟩)/\σ_ 21=.slice ak p0.Across.length am/\PHeap.Le U U_/\sW w U U_ [.blk b6 54 B1,.blk b2 54 B0,.blk bL 54 B1,.row bH bS 3 1 (hH KL.encI aj),.row (some ⟨cw,0,none⟩) 0 3 1 (hH KL.encI ([]:List Int))] w_) ?_ fun cJ=>?_
 rintro mR ma ⟨dh,bL,bH,bS,cw,gZ,g6,g7,g8,g9,ib,ic,ie,ig,ii,ij,ik,dT,im,io,fG,ff⟩
 have jr:=fw.le fG
 refine Zt (j:=4) (enc:=KL.encI) (ys:=p0.Down) (zs:=aq) Z Z Z Z Z Zd wFr Z Z Z Z Z Z ff Z ij dT (ff.srcS jr) (fun _=>Z) fd ?_
 intro cS dH fN jH
 have jJ:sW w U dh [.blk b6 54 B1,.blk b2 54 B0,.blk bL 54 B1,.row bH bS 3 1 (hH KL.encI aj),.row cS dH 3 1 (hH KL.encI aq)] fN:=jH
 exact lU _ _ ⟨dh,bL,bH,bS,cS,dH,gZ,g6,g7,g8,g9,ib,ic,ie,ig,ii,ik,dT,Z,im,io,fG,jJ⟩
 refine Zb (s:=gBi) (M:=fun σ_ w_=>∃ (U_:PHeap) (bt:Option Addr) (bC:Nat) (bu:Option Addr) (bD:Nat),σ_ 1=jV p1/\σ_ 2=jV p2/\σ_ 3=jV p3/\σ_ 4=jV p4/\σ_ 5=.pointer (some ⟨b2,0,none⟩)/\σ_ 10=.pointer (some ⟨b6,0,none⟩)/\σ_ 13=.pointer (some ⟨b2,0,none⟩)/\σ_ 14=.slice aS p0.Shots.length aU/\σ_ 15=.slice bt aj.length bC/\σ_ 17=.pointer (some ⟨b2,1,none⟩)/\σ_ 18=.slice aT p0.Down.length aV/\σ_ 19=.slice bu aq.length bD/\σ_ 20=.pointer (some ⟨b2,2,none⟩)/\σ_ 21=.slice ak p0.Across.length am/\PHeap.Le U U_/\sW w U U_ [.blk b6 54 B1,.blk b2 54 B0,.row bt bC 3 1 (hH KL.encI aj),.row bu bD 3 1 (hH KL.encI aq)] w_) ?_ fun lV=>?_
 rintro mS mb ⟨fK,bt,bC,bu,bD,ip,iq,ir,it,iu,iv,iw,iy,dU,iz,iA,dV,iB,dW,lZ,jK⟩
 refine oR Z (ZM (pv:=[(0,.slice bt aj.length bC),(1,.slice bu aq.length bD),(2,.slice ak p0.Across.length am)]) (z:=B1) (cs:=[.slice bt aj.length bC,.slice bu aq.length bD,.slice ak p0.Across.length am]) Z (wAR dU (wAR dV (wAR dW wAo))) ZF wGQ Z Z) (zx (cs:=B1) Z Z Z Z Z ZF Z jK ?_)
 intro md gg jL
 exact lT _ _ ⟨fK,gg,bt,bC,bu,bD,ip,iq,ir,it,iu,iv,rfl,iw,iy,dU,iz,iA,dV,iB,dW,rfl,lZ,(jL.pick [1,2,0,3,4] _ (by decide) rfl)⟩
 refine Zb (s:=gBs) (M:=fun σ_ w_=>∃ (U_:PHeap) (bM:Nat) (cy:Nat) (bN:Nat),σ_ 1=jV p1/\σ_ 2=jV p2/\σ_ 3=jV p3/\σ_ 4=jV p4/\σ_ 5=.pointer (some ⟨b2,0,none⟩)/\σ_ 10=.pointer (some ⟨b6,0,none⟩)/\σ_ 11=.pointer (some ⟨bM,0,none⟩)/\σ_ 12=.slice (some ⟨cy,0,none⟩) (([]:List Int).length) 0/\σ_ 13=.pointer (some ⟨b2,0,none⟩)/\σ_ 14=.slice aS p0.Shots.length aU/\σ_ 16=.slice (some ⟨bN,0,none⟩) (([]:List Int).length) 0/\σ_ 17=.pointer (some ⟨b2,1,none⟩)/\σ_ 18=.slice aT p0.Down.length aV/\σ_ 20=.pointer (some ⟨b2,2,none⟩)/\σ_ 21=.slice ak p0.Across.length am/\PHeap.Le U U_/\sW w U U_ [.blk b6 54 B1,.blk b2 54 B0,.blk bM 54 B1,.row (some ⟨cy,0,none⟩) 0 3 1 (hH KL.encI ([]:List Int)),.row (some ⟨bN,0,none⟩) 0 3 1 (hH KL.encI ([]:List Int))] w_) ?_ fun cK=>?_
 rintro mT mf ⟨dm,bM,cy,bN,iC,iE,iF,iG,iH,iI,iJ,iK,iL,dX,iM,iN,iO,iP,iQ,fH,fg⟩
 have jt:=cn.le fH
 refine Zt (j:=3) (enc:=KL.encI) (ys:=p0.Shots) (zs:=aj) Z Z Z Z Z Zd wFr Z Z Z Z Z Z fg Z iK dX (fg.srcS jt) (fun _=>Z) cg ?_
 intro cU dI fO jM
 have jN:sW w U dm [.blk b6 54 B1,.blk b2 54 B0,.blk bM 54 B1,.row cU dI 3 1 (hH KL.encI aj),.row (some ⟨bN,0,none⟩) 0 3 1 (hH KL.encI ([]:List Int))] fO:=jM
 exact cJ _ _ ⟨dm,bM,cU,dI,bN,iC,iE,iF,iG,iH,iI,iJ,iL,dX,Z,iM,iN,iO,iP,iQ,fH,jN⟩
 refine Zb (s:=gBr) (M:=fun σ_ w_=>∃ (U_:PHeap) (bO:Nat) (bI:Option Addr) (bT:Nat),σ_ 1=jV p1/\σ_ 2=jV p2/\σ_ 3=jV p3/\σ_ 4=jV p4/\σ_ 5=.pointer (some ⟨b2,0,none⟩)/\σ_ 10=.pointer (some ⟨b6,0,none⟩)/\σ_ 11=.pointer (some ⟨bO,0,none⟩)/\σ_ 13=.pointer (some ⟨b2,0,none⟩)/\σ_ 14=.slice aS p0.Shots.length aU/\σ_ 15=.slice bI aj.length bT/\σ_ 17=.pointer (some ⟨b2,1,none⟩)/\σ_ 18=.slice aT p0.Down.length aV/\σ_ 20=.pointer (some ⟨b2,2,none⟩)/\σ_ 21=.slice ak p0.Across.length am/\PHeap.Le U U_/\sW w U U_ [.blk b6 54 B1,.blk b2 54 B0,.blk bO 54 B1,.row bI bT 3 1 (hH KL.encI aj)] w_) ?_ fun fA=>?_
 rintro mU mg ⟨dp,bO,bI,bT,iR,iT,iU,iV,iW,iX,iY,iZ,i0,i5,i6,i7,i8,i9,l3,jO⟩
 refine ZU 1 Z Z Z Z Z zA zD jO ?_
 intro fP dw jP
 have jQ:sW w U dp [.row (some ⟨dw,0,none⟩) 0 3 1 (hH KL.encI ([]:List Int)),.blk b6 54 B1,.blk b2 54 B0,.blk bO 54 B1,.row bI bT 3 1 (hH KL.encI aj)] fP:=jP
 exact cJ _ _ ⟨dp,bO,bI,bT,dw,iR,iT,iU,iV,iW,iX,iY,iZ,i0,i5,rfl,i6,i7,i8,i9,l3,(jQ.pick [1,2,3,4,0] _ (by decide) rfl)⟩
 refine Zb (s:=gBu) (M:=fun σ_ w_=>∃ (U_:PHeap) (bv:Option Addr) (bE:Nat) (b5:Nat),σ_ 1=jV p1/\σ_ 2=jV p2/\σ_ 3=jV p3/\σ_ 4=jV p4/\σ_ 5=.pointer (some ⟨b2,0,none⟩)/\σ_ 10=.pointer (some ⟨b6,0,none⟩)/\σ_ 13=.pointer (some ⟨b2,0,none⟩)/\σ_ 14=.slice aS p0.Shots.length aU/\σ_ 15=.slice bv aj.length bE/\σ_ 16=.slice (some ⟨b5,0,none⟩) (([]:List Int).length) 0/\σ_ 17=.pointer (some ⟨b2,1,none⟩)/\σ_ 18=.slice aT p0.Down.length aV/\σ_ 20=.pointer (some ⟨b2,2,none⟩)/\σ_ 21=.slice ak p0.Across.length am/\PHeap.Le U U_/\sW w U U_ [.blk b6 54 B1,.blk b2 54 B0,.row bv bE 3 1 (hH KL.encI aj),.row (some ⟨b5,0,none⟩) 0 3 1 (hH KL.encI ([]:List Int))] w_) ?_ fun fB=>?_
 rintro mV mh ⟨ct,bv,bE,b5,dY,dZ,d4,d5,d6,d7,d8,d9,eb,ed,ef,cC,ei,ej,cM,cG⟩
 refine Zc ?_ ?_
 have ju:=fw.le cM
 refine Zt (j:=3) (enc:=KL.encI) (ys:=p0.Down) (zs:=aq) Z Z Z Z Z Zd wFr Z Z Z Z Z Z cG Z ed cC (cG.srcS ju) (fun _=>Z) fd ?_
 intro cV dJ fQ jR
 have jS:sW w U ct [.blk b6 54 B1,.blk b2 54 B0,.row bv bE 3 1 (hH KL.encI aj),.row cV dJ 3 1 (hH KL.encI aq)] fQ:=jR
 exact lV _ _ ⟨ct,bv,bE,cV,dJ,dY,dZ,d4,d5,d6,d7,d8,d9,eb,ef,cC,Z,ei,ej,cM,jS⟩
 refine zx (cs:=B1) Z Z Z Z Z ZF Z cG ?_
 intro mi gh jU
 exact cJ _ _ ⟨ct,gh,bv,bE,b5,dY,dZ,d4,d5,d6,d7,rfl,d8,d9,eb,ed,ef,cC,ei,ej,cM,(jU.pick [1,2,0,3,4] _ (by decide) rfl)⟩
 refine Zb (s:=gBv) (M:=fun σ_ w_=>∃ (U_:PHeap) (bP:Nat) (bQ:Nat),σ_ 1=jV p1/\σ_ 2=jV p2/\σ_ 3=jV p3/\σ_ 4=jV p4/\σ_ 5=.pointer (some ⟨b2,0,none⟩)/\σ_ 10=.pointer (some ⟨b6,0,none⟩)/\σ_ 11=.pointer (some ⟨bP,0,none⟩)/\σ_ 13=.pointer (some ⟨b2,0,none⟩)/\σ_ 14=.slice aS p0.Shots.length aU/\σ_ 16=.slice (some ⟨bQ,0,none⟩) (([]:List Int).length) 0/\σ_ 17=.pointer (some ⟨b2,1,none⟩)/\σ_ 18=.slice aT p0.Down.length aV/\σ_ 20=.pointer (some ⟨b2,2,none⟩)/\σ_ 21=.slice ak p0.Across.length am/\PHeap.Le U U_/\sW w U U_ [.blk b6 54 B1,.blk b2 54 B0,.blk bP 54 B1,.row (some ⟨bQ,0,none⟩) 0 3 1 (hH KL.encI ([]:List Int))] w_) ?_ fun fC=>?_
 rintro mW mn ⟨dq,bP,bQ,ja,jb,jc,jd,je,jf,jg,jh,ji,jj,jk,jl,jm,jo,l4,jW⟩
 refine ZU 1 Z Z Z Z Z zA zD jW ?_
 intro fR dx jX
 have jY:sW w U dq [.row (some ⟨dx,0,none⟩) 0 3 1 (hH KL.encI ([]:List Int)),.blk b6 54 B1,.blk b2 54 B0,.blk bP 54 B1,.row (some ⟨bQ,0,none⟩) 0 3 1 (hH KL.encI ([]:List Int))] fR:=jX
 exact cK _ _ ⟨dq,bP,dx,bQ,ja,jb,jc,jd,je,jf,jg,rfl,jh,ji,jj,jk,jl,jm,jo,l4,(jY.pick [1,2,3,0,4] _ (by decide) rfl)⟩
 refine Zb (s:=gBx) (M:=fun σ_ w_=>∃ (U_:PHeap) (bl:Nat) (bR:Nat),σ_ 1=jV p1/\σ_ 2=jV p2/\σ_ 3=jV p3/\σ_ 4=jV p4/\σ_ 5=.pointer (some ⟨b2,0,none⟩)/\σ_ 10=.pointer (some ⟨b6,0,none⟩)/\σ_ 11=.pointer (some ⟨bl,0,none⟩)/\σ_ 12=.slice (some ⟨bR,0,none⟩) (([]:List Int).length) 0/\σ_ 13=.pointer (some ⟨b2,0,none⟩)/\σ_ 14=.slice aS p0.Shots.length aU/\σ_ 17=.pointer (some ⟨b2,1,none⟩)/\σ_ 18=.slice aT p0.Down.length aV/\σ_ 20=.pointer (some ⟨b2,2,none⟩)/\σ_ 21=.slice ak p0.Across.length am/\PHeap.Le U U_/\sW w U U_ [.blk b6 54 B1,.blk b2 54 B0,.blk bl 54 B1,.row (some ⟨bR,0,none⟩) 0 3 1 (hH KL.encI ([]:List Int))] w_) ?_ fun fD=>?_
 rintro mX mp ⟨bX,bl,bR,en,eu,ey,ez,eA,eC,eE,eF,eG,cD,eH,eI,eJ,eK,cN,cH⟩
 refine Zc ?_ ?_
 have jv:=cn.le cN
 refine Zt (j:=3) (enc:=KL.encI) (ys:=p0.Shots) (zs:=aj) Z Z Z Z Z Zd wFr Z Z Z Z Z Z cH Z eF cD (cH.srcS jv) (fun _=>Z) cg ?_
 intro cW dK fS jZ
 have j0:sW w U bX [.blk b6 54 B1,.blk b2 54 B0,.blk bl 54 B1,.row cW dK 3 1 (hH KL.encI aj)] fS:=jZ
 exact fA _ _ ⟨bX,bl,cW,dK,en,eu,ey,ez,eA,eC,eE,eG,cD,Z,eH,eI,eJ,eK,cN,j0⟩
 refine ZU 1 Z Z Z Z Z zA zD cH ?_
 intro fT dy j5
 have j6:sW w U bX [.row (some ⟨dy,0,none⟩) 0 3 1 (hH KL.encI ([]:List Int)),.blk b6 54 B1,.blk b2 54 B0,.blk bl 54 B1,.row (some ⟨bR,0,none⟩) 0 3 1 (hH KL.encI ([]:List Int))] fT:=j5
 exact cK _ _ ⟨bX,bl,bR,dy,en,eu,ey,ez,eA,eC,eE,eF,eG,cD,rfl,eH,eI,eJ,eK,cN,(j6.pick [1,2,3,4,0] _ (by decide) rfl)⟩
 refine Zb (s:=gBw) (M:=fun σ_ w_=>∃ (U_:PHeap) (b9:Nat) (bz:Nat),σ_ 1=jV p1/\σ_ 2=jV p2/\σ_ 3=jV p3/\σ_ 4=jV p4/\σ_ 5=.pointer (some ⟨b2,0,none⟩)/\σ_ 10=.pointer (some ⟨b6,0,none⟩)/\σ_ 12=.slice (some ⟨b9,0,none⟩) (([]:List Int).length) 0/\σ_ 13=.pointer (some ⟨b2,0,none⟩)/\σ_ 14=.slice aS p0.Shots.length aU/\σ_ 16=.slice (some ⟨bz,0,none⟩) (([]:List Int).length) 0/\σ_ 17=.pointer (some ⟨b2,1,none⟩)/\σ_ 18=.slice aT p0.Down.length aV/\σ_ 20=.pointer (some ⟨b2,2,none⟩)/\σ_ 21=.slice ak p0.Across.length am/\PHeap.Le U U_/\sW w U U_ [.blk b6 54 B1,.blk b2 54 B0,.row (some ⟨b9,0,none⟩) 0 3 1 (hH KL.encI ([]:List Int)),.row (some ⟨bz,0,none⟩) 0 3 1 (hH KL.encI ([]:List Int))] w_) ?_ fun fE=>?_
 rintro mY mr ⟨cu,b9,bz,eL,eM,eO,eP,eQ,eT,eU,eV,cE,eW,eX,eY,eZ,e8,cO,cI⟩
 refine Zc ?_ ?_
 have jw:=cn.le cO
 refine Zt (j:=2) (enc:=KL.encI) (ys:=p0.Shots) (zs:=aj) Z Z Z Z Z Zd wFr Z Z Z Z Z Z cI Z eU cE (cI.srcS jw) (fun _=>Z) cg ?_
 intro cX dL fU j7
 have j8:sW w U cu [.blk b6 54 B1,.blk b2 54 B0,.row cX dL 3 1 (hH KL.encI aj),.row (some ⟨bz,0,none⟩) 0 3 1 (hH KL.encI ([]:List Int))] fU:=j7
 exact fB _ _ ⟨cu,cX,dL,bz,eL,eM,eO,eP,eQ,eT,eV,cE,Z,eW,eX,eY,eZ,e8,cO,j8⟩
 refine zx (cs:=B1) Z Z Z Z Z ZF Z cI ?_
 intro ms gi j9
 exact cK _ _ ⟨cu,gi,b9,bz,eL,eM,eO,eP,eQ,eT,rfl,eU,eV,cE,eW,eX,eY,eZ,e8,cO,(j9.pick [1,2,0,3,4] _ (by decide) rfl)⟩
 refine oR Z (zK Z Z zY Z zZ) (oL Z (bq.ldB (j:=1) Z Z Z zd (v:=.slice aS p0.Shots.length aU) Z) (oR Z (zK Z Z zY Z zZ) (oL Z (bq.ldB (j:=1) Z Z Z zd (v:=.slice aT p0.Down.length aV) Z) (oR Z (zK Z Z zY Z Zr) (oL Z (bq.ldB (j:=1) Z Z Z Zw (v:=.slice ak p0.Across.length am) Z) (Zc ?_ ?_))))))
 refine ZU 1 Z Z Z Z Z zA zD bq ?_
 intro fV cz lf
 let B4:Res:=.row (some ⟨cz,0,none⟩) 0 3 1 (hH KL.encI ([]:List Int))
 have cm:sW w U U [B4,.blk b6 54 B1,.blk b2 54 B0] fV:=lf
 refine Zc ?_ ?_
 refine Zt (j:=0) (enc:=KL.encI) (ys:=p0.Shots) (zs:=aj) Z Z Z Z Z Zd wFr Z Z Z Z Z Z cm Z Z Z (cm.srcS cn) (fun _=>Z) cg ?_
 intro cp cB fW lg
 let B5:Res:=.row cp cB 3 1 (hH KL.encI aj)
 have fh:sW w U U [B5,.blk b6 54 B1,.blk b2 54 B0] fW:=lg
 refine Zc ?_ ?_
 refine ZU 1 Z Z Z Z Z zA zD fh ?_
 intro fY dz lh
 have li:sW w U U [.row (some ⟨dz,0,none⟩) 0 3 1 (hH KL.encI ([]:List Int)),B5,.blk b6 54 B1,.blk b2 54 B0] fY:=lh
 exact fB _ _ ⟨U,cp,cB,dz,rfl,rfl,rfl,rfl,rfl,rfl,rfl,rfl,rfl,rfl,rfl,rfl,rfl,rfl,(zX _),(li.pick [2,3,1,0] _ (by decide) rfl)⟩
 refine zx (cs:=B1) Z Z Z Z Z ZF Z fh ?_
 intro mu gj lj
 exact fA _ _ ⟨U,gj,cp,cB,rfl,rfl,rfl,rfl,rfl,rfl,rfl,rfl,rfl,rfl,rfl,rfl,rfl,rfl,(zX _),(lj.pick [2,3,0,1] _ (by decide) rfl)⟩
 refine Zc ?_ ?_
 refine ZU 1 Z Z Z Z Z zA zD cm ?_
 intro fZ dA lm
 have lp:sW w U U [.row (some ⟨dA,0,none⟩) 0 3 1 (hH KL.encI ([]:List Int)),B4,.blk b6 54 B1,.blk b2 54 B0] fZ:=lm
 exact fE _ _ ⟨U,cz,dA,rfl,rfl,rfl,rfl,rfl,rfl,rfl,rfl,rfl,rfl,rfl,rfl,rfl,rfl,(zX _),(lp.pick [2,3,1,0] _ (by decide) rfl)⟩
 refine zx (cs:=B1) Z Z Z Z Z ZF Z cm ?_
 intro mw gm lq
 exact fD _ _ ⟨U,gm,cz,rfl,rfl,rfl,rfl,rfl,rfl,rfl,rfl,rfl,rfl,rfl,rfl,rfl,rfl,(zX _),(lq.pick [2,3,0,1] _ (by decide) rfl)⟩
 refine Zc ?_ ?_
 refine ZU 1 Z Z Z Z Z zA zD bq ?_
 intro ga cA ls
 let B6:Res:=.row (some ⟨cA,0,none⟩) 0 3 1 (hH KL.encI ([]:List Int))
 have fj:sW w U U [B6,.blk b6 54 B1,.blk b2 54 B0] ga:=ls
 refine Zc ?_ ?_
 refine ZU 1 Z Z Z Z Z zA zD fj ?_
 intro gb dB lu
 have lv:sW w U U [.row (some ⟨dB,0,none⟩) 0 3 1 (hH KL.encI ([]:List Int)),B6,.blk b6 54 B1,.blk b2 54 B0] gb:=lu
 exact fE _ _ ⟨U,dB,cA,rfl,rfl,rfl,rfl,rfl,rfl,rfl,rfl,rfl,rfl,rfl,rfl,rfl,rfl,(zX _),(lv.pick [2,3,0,1] _ (by decide) rfl)⟩
 refine zx (cs:=B1) Z Z Z Z Z ZF Z fj ?_
 intro my gp lw
 exact fC _ _ ⟨U,gp,cA,rfl,rfl,rfl,rfl,rfl,rfl,rfl,rfl,rfl,rfl,rfl,rfl,rfl,rfl,(zX _),(lw.pick [2,3,0,1] _ (by decide) rfl)⟩
 refine zx (cs:=B1) Z Z Z Z Z ZF Z bq ?_
 intro mz cf fm
 refine Zc ?_ ?_
 refine ZU 1 Z Z Z Z Z zA zD fm ?_
 intro gc dC ly
 have lz:sW w U U [.row (some ⟨dC,0,none⟩) 0 3 1 (hH KL.encI ([]:List Int)),.blk cf 54 B1,.blk b6 54 B1,.blk b2 54 B0] gc:=ly
 exact fD _ _ ⟨U,cf,dC,rfl,rfl,rfl,rfl,rfl,rfl,rfl,rfl,rfl,rfl,rfl,rfl,rfl,rfl,(zX _),(lz.pick [2,3,1,0] _ (by decide) rfl)⟩
 refine ZU 1 Z Z Z Z Z zA zD fm ?_
 intro ge dD lA
 have lB:sW w U U [.row (some ⟨dD,0,none⟩) 0 3 1 (hH KL.encI ([]:List Int)),.blk cf 54 B1,.blk b6 54 B1,.blk b2 54 B0] ge:=lA
 exact fC _ _ ⟨U,cf,dD,rfl,rfl,rfl,rfl,rfl,rfl,rfl,rfl,rfl,rfl,rfl,rfl,rfl,rfl,(zX _),(lB.pick [2,3,1,0] _ (by decide) rfl)⟩
 rintro mZ dt ⟨bw,bk,aY,aZ,aW,aX,e9,jp,fb,jq,fc,bU,l5,lC⟩
 refine zJ (ZN ZO [3,1,3,3,1,3,3,1,3,3,3,0] (wHz (.fx 11 .nil .stop)) (by kernel_rfl) ?_)
 have bF:=lC.drew
 generalize hw_W726:({ dt with drawn:=dt.drawn + 1 }:World)=mA at bF ⊢
 refine oR Z (zK Z bU zY Z zZ) (oL Z (bF.ldB (j:=2) Z Z Z zd (v:=.slice aY aQ.length aZ) Z) (oM Z e9 (oR Z (zK Z bU zY Z zZ) (oL Z (bF.ldB (j:=2) Z Z Z zd (v:=.slice aY aQ.length aZ) Z) (oM Z e9 (bnK fy fun _ bb lQ=>?_))))))
 obtain ⟨mC,ci⟩:=bF.rowSome (j:=3) rfl (by rw [wAI (f:=KL.encI) (sz:=1) (fun _=>rfl) aQ];have hz:=wAd bb;omega)
 refine oR Z (ZP Z Z ci Z zA zD (wCA bb) (wCB bb)) ?_
 have lK:=wDV (xs:=aQ) (wAd bb)
 refine zy rfl rfl rfl rfl (bF.ldR (j:=3) rfl ci rfl rfl zO (wDH (sz:=1) (fun _=>rfl) _ _ 0 _ lK (by first | omega | rfl | simp) rfl)) rfl (zW rfl rfl rfl rfl rfl jp (zV rfl rfl rfl rfl (fun _=>ZG rfl rfl rfl) (zV rfl rfl rfl rfl (fun _=>ZP rfl rfl ci rfl zA zD (wCA bb) (wCB bb)) ?_)))
 have lL:=wDV (xs:=aQ) (wAd bb)
 refine OKS.stR (j:=3) (vs:=[jV (w64 ((gd aQ p1.toNat) - p2))]) (cs':=hH KL.encI (nJ aQ p1.toNat (w64 ((gd aQ p1.toNat) - p2)))) rfl rfl rfl rfl bF rfl ci rfl rfl rfl zD (by rw [wAI (f:=KL.encI) (sz:=1) (fun _=>rfl)];have hz:=wAd bb;show _ + 1 <= _;first | omega | (simp only [nI];omega) | (simp only [nH,nE,nG];omega)) rfl (wEx (sz:=1) (fo:=0) (fun _=>rfl) _ _ _ _ lL (by first | omega | (simp only [nI];omega) | (simp only [nH,nE,nG];omega)) (zC rfl) rfl) rfl ?_
 intro bY lD
 let B7:Res:=.row aY aZ 3 1 (hH KL.encI (nJ aQ p1.toNat (w64 ((gd aQ p1.toNat) - p2))))
 let B8:Res:=.row aW aX 3 1 (hH KL.encI aR)
 have lE:sW w U bw [.blk b6 54 B1,.blk b2 54 B0,.blk bk 54 [.slice aY aQ.length aZ,.slice aW aR.length aX,.slice ak p0.Across.length am],B7,B8] bY:=lD
 let B9:Res:=.blk bk 54 [.slice aY ((nJ aQ p1.toNat (w64 ((gd aQ p1.toNat) - p2))).length) aZ,.slice aW aR.length aX,.slice ak p0.Across.length am]
 have lF:sW w U bw [.blk b6 54 B1,.blk b2 54 B0,B9,B7,B8] bY:=by simpa only [B0,B1,B7,B8,B9,nK] using lE
 refine eN (zJ (ZN ZO [3,1,3,3,1,3,3,1,3,3,3,0] (wHz (.fx 11 .nil .stop)) (by kernel_rfl) ?_))
 have bG:=lF.drew
 generalize hw_W738:({ bY with drawn:=bY.drawn + 1 }:World)=mB at bG ⊢
 refine oR Z (zK Z bU zY Z zZ) (oL Z (bG.ldB (j:=2) Z Z Z zd (v:=.slice aW aR.length aX) Z) (oM Z fb (oR Z (zK Z bU zY Z zZ) (oL Z (bG.ldB (j:=2) Z Z Z zd (v:=.slice aW aR.length aX) Z) (oM Z fb (bnK lQ fun _ be lR=>?_))))))
 obtain ⟨mD,cj⟩:=bG.rowSome (j:=4) rfl (by rw [wAI (f:=KL.encI) (sz:=1) (fun _=>rfl) aR];have hz:=wAd be;omega)
 refine oR Z (ZP Z Z cj Z zA zD (wCA be) (wCB be)) ?_
 have lM:=wDV (xs:=aR) (wAd be)
 refine zy rfl rfl rfl rfl (bG.ldR (j:=4) rfl cj rfl rfl zO (wDH (sz:=1) (fun _=>rfl) _ _ 0 _ lM (by first | omega | rfl | simp) rfl)) rfl (zW rfl rfl rfl rfl rfl jq (zV rfl rfl rfl rfl (fun _=>ZG rfl rfl rfl) (zV rfl rfl rfl rfl (fun _=>ZP rfl rfl cj rfl zA zD (wCA be) (wCB be)) ?_)))
 have lN:=wDV (xs:=aR) (wAd be)
 refine OKS.stR (j:=4) (vs:=[jV (w64 ((gd aR p3.toNat) - p4))]) (cs':=hH KL.encI (nJ aR p3.toNat (w64 ((gd aR p3.toNat) - p4)))) rfl rfl rfl rfl bG rfl cj rfl rfl rfl zD (by rw [wAI (f:=KL.encI) (sz:=1) (fun _=>rfl)];have hz:=wAd be;show _ + 1 <= _;first | omega | (simp only [nI];omega) | (simp only [nH,nE,nG];omega)) rfl (wEx (sz:=1) (fo:=0) (fun _=>rfl) _ _ _ _ lN (by first | omega | (simp only [nI];omega) | (simp only [nH,nE,nG];omega)) (zC rfl) rfl) rfl ?_
 intro du lG
 let bV:Res:=.row aW aX 3 1 (hH KL.encI (nJ aR p3.toNat (w64 ((gd aR p3.toNat) - p4))))
 have lH:sW w U bw [.blk b6 54 B1,.blk b2 54 B0,B9,B7,bV] du:=lG
 let ba:List Value:=[.slice aY ((nJ aQ p1.toNat (w64 ((gd aQ p1.toNat) - p2))).length) aZ,.slice aW ((nJ aR p3.toNat (w64 ((gd aR p3.toNat) - p4))).length) aX,.slice ak p0.Across.length am]
 have ft:sW w U bw [.blk b6 54 B1,.blk b2 54 B0,.blk bk 54 ba,B7,bV] du:=by simpa only [B0,B1,bV,ba,B7,B9,nK] using lH
 refine eN (sR (.fl 0 (.fx 1 .nil .stop)) Z (oL Z (ft.ldBA (j:=2) Z Z bU ZK zz (vs:=ba) Z Z) (zt (j:=0) (vs:=ba) Z Z Z Z ft Z fc Z Z zz (zC Z) Z Z Z ?_)))
 intro gf lI
 have fu:sW w U bw [.blk b6 54 ba,.blk b2 54 B0,.blk bk 54 ba,B7,bV] gf:=lI
 refine eN (zQ ?_)
 have jx:=lJ.le l5
 cases lR
 exact ⟨rfl,_,(wIh (v:=.agg ba.toArray) ⟨⟨_,fc,(wBR ZK zz (fu.blkAt (k:=0) rfl) (vs:=ba) rfl rfl)⟩,trivial⟩),bw,_,(fu.pick [3,4] _ (by decide) rfl),aY,aZ,aW,aX,ak,am,rfl,rfl,jx⟩
theorem wDF (p0:wAC) (aV:Option Addr) (aX:Nat) (aW:Option Addr) (aY:Nat) (ba:Option Addr) (bb:Nat) (p1:Int) (p2:Int) (w:World) (U:PHeap) (hS:St0 w U []) (cN:Sl U 1 aV aX p0.Shots.length (hH KL.encI p0.Shots)) (cO:Sl U 1 aW aY p0.Down.length (hH KL.encI p0.Down)) (cP:Sl U 2 ba bb p0.Across.length (hH wAE p0.Across)) {r:wAH × Int} (hm:wAX p0 p1 p2=some r):Gv Try.prog 20 [.agg #[.slice aV p0.Shots.length aX,.slice aW p0.Down.length aY,.slice ba p0.Across.length bb],jV p1,jV p2] w (wCt w [] U (fun U_ L_ v=>v=.tuple #[.agg #[jV r.1.Lo,jV r.1.Hi],jV r.2]/\L_=[])):=by
 unfold wAX at hm
 refine Gv.of Try.func20 Z Try.ntmps20 Try.results20 Z (sR gBk Z ?_)
 let B0:List Value:=[.slice aV p0.Shots.length aX,.slice aW p0.Down.length aY,.slice ba p0.Across.length bb]
 refine ZY (cs:=B0) rfl rfl rfl rfl rfl rfl (by rfl) hS ?_
 intro W1 b2 fE
 let B1:List Value:=[jV 0,jV 0]
 refine zx (cs:=B1) Z Z Z Z Z zw Z fE ?_
 intro W5 b6 cK
 refine oA Z Z (eN (zJ (sR gBl Z (oL Z (cK.ldBA (j:=1) Z Z Z ZK zz (vs:=B0) Z Z) (bnK hm fun x9 dT fR=>zM 0 Z Z Z Z (zL Z Z Try.call59 (zB Z zS) Z) cK (fun hs=>wCw p0 aV aX aW aY ba bb W5 U hs cN cO cP dT) (.inr Z) ?_)))))
 rintro bq gP ig cn bU eU ⟨rfl,rfl⟩
 have bP:sW w U bq [.blk b6 44 B1,.blk b2 54 B0] cn:=eU
 refine oA Z Z (eN (sR fL2 Z (oM Z Z (oR Z (ZL Z Z Z) (eN (ifc fR ?_ ?_))))))
 intro bG gb
 refine zg (zm (fun h=>h bG.out)) (kN (zJ (sR (wEQ (.fx 5 (wOt gBd) .stop)) Z (oM Z Z (oR Z (zK Z Z zY Z zZ) (oL Z (bP.ldB (j:=1) Z Z Z zd (v:=.slice aV p0.Shots.length aX) Z) (oR Z (zr Z Z zA) (oR Z (ZG Z Z Z) (bnK gb fun iv ei gh=>zM 0 Z Z Z Z (zL Z Z yE (zB Z (zB Z (zB Z zS))) Z) bP (fun hs=>wAm p1 0 (w64 ((↑p0.Shots.length:Int) - 1)) cn bq hs ei) (.inr Z) ?_)))))))))
 rintro br gU ip cq bX fC ⟨rfl,rfl⟩
 have bS:sW w U br [.blk b6 44 B1,.blk b2 54 B0] cq:=fC
 refine oM Z Z (ifc gh ?_ ?_)
 intro ap gx
 refine zG Z Z Z (zF Z Z (congrArg nA ap.out) Z) (zG Z Z Z (zF Z Z (congrArg nA ap.out) Z) (zG Z Z Z (zF Z Z (congrArg nA ap.out) Z) (zG Z Z Z (zF Z Z (congrArg nA ap.out) Z) (zG Z Z Z (zF Z Z (congrArg nA ap.out) Z) (ZV Z Z Z (zF Z Z (congrArg nA ap.out) Z) (oR Z (zU Z (congrArg nA ap.out) Z) (eN (ZB Z (sR gBl Z (oR Z (ZM (pv:=[]) (z:=B1) (cs:=B1) Z wAo zw wBl Z Z) (zt (j:=0) (vs:=B1) Z Z Z Z bS Z Z Z Z zH (zC Z) Z Z Z ?_)))))))))))
 intro dD fK
 have cI:sW w U br [.blk b6 44 B1,.blk b2 54 B0] dD:=fK
 refine oA Z Z (eN (zQ (ze ?_)))
 cases gx
 exact ⟨rfl,_,(wCZ (rs:=[.cell 6 44,.tmp 7]) (vs:=[.agg B1.toArray,jV 1]) ⟨⟨_,rfl,(wBR zf zH (cI.blkAt (k:=0) rfl) (vs:=B1) rfl rfl)⟩,⟨rfl,trivial⟩⟩ rfl),br,_,(cI.pick [] _ (by decide) rfl),rfl,rfl⟩
 intro ap gy
 refine zW Z Z Z (zE Z Z (congrArg nA (nB.2 ap.out))) Z Z (zV Z Z Z (zE Z Z (congrArg nA (nB.2 ap.out))) (fun _=>zK Z Z zY Z zZ) (zy Z Z Z (zE Z Z (congrArg nA (nB.2 ap.out))) (bS.ldB (j:=1) Z Z Z zd (v:=.slice aW p0.Down.length aY) Z) Z (zV Z Z Z (zE Z Z (congrArg nA (nB.2 ap.out))) (fun _=>zr Z Z zA) (zV Z Z Z (zE Z Z (congrArg nA (nB.2 ap.out))) (fun _=>ZG Z Z Z) (bnK gy fun x37 eC gz=>zM 0 Z Z Z (zE Z Z (congrArg nA (nB.2 ap.out))) (zL Z Z yE (zB Z (zB Z (zB Z zS))) Z) bS (fun hs=>wAm p2 0 (w64 ((↑p0.Down.length:Int) - 1)) cq br hs eC) (.inr Z) ?_)))))
 rintro bs gX iq cr bY fL ⟨rfl,rfl⟩
 have bT:sW w U bs [.blk b6 44 B1,.blk b2 54 B0] cr:=fL
 refine oR Z (zP Z (congrArg nA (nB.2 ap.out)) Z) (eN (ifc gz ?_ ?_))
 intro bJ gA
 refine ZB (congrArg nA bJ.out) (sR gBl Z (oR Z (ZM (pv:=[]) (z:=B1) (cs:=B1) Z wAo zw wBl Z Z) (zt (j:=0) (vs:=B1) Z Z Z Z bT Z Z Z Z zH (zC Z) Z Z Z ?_)))
 intro dE fM
 have cJ:sW w U bs [.blk b6 44 B1,.blk b2 54 B0] dE:=fM
 refine oA Z Z (eN (zQ (ze ?_)))
 cases gA
 exact ⟨rfl,_,(wCZ (rs:=[.cell 6 44,.tmp 7]) (vs:=[.agg B1.toArray,jV 1]) ⟨⟨_,rfl,(wBR zf zH (cJ.blkAt (k:=0) rfl) (vs:=B1) rfl rfl)⟩,⟨rfl,trivial⟩⟩ rfl),bs,_,(cJ.pick [] _ (by decide) rfl),rfl,rfl⟩
 intro bJ gB
 refine zg (congrArg nA (nB.2 bJ.out)) (kN (zJ (sR gBl Z (oL Z (bT.ldBA (j:=1) Z Z Z ZK zz (vs:=B0) Z Z) ?_))))
 have eE:=cN.le bU
 have eF:=eE.le bX
 have cB:=eF.le bY
 have eG:=cO.le bU
 have eH:=eG.le bX
 have cC:=eH.le bY
 have eI:=cP.le bU
 have eJ:=eI.le bX
 have bN:=eJ.le bY
 refine bnK gB fun iy eK gC=>zM 0 Z Z Z Z (zL Z Z Try.call61 (zB Z (zB Z (zB Z zS))) Z) bT (fun hs=>wBQ p0 aV aX aW aY ba bb (-1) (-1) cr bs hs cB cC bN eK) (.inr Z) ?_
 rintro bj gZ ir dG bB fN ⟨rfl,rfl⟩
 have cM:sW w U bj [.blk b6 44 B1,.blk b2 54 B0] dG:=fN
 refine oR Z (ZR Z Z) (eN (ifc gC ?_ ?_))
 intro bK gD
 refine zg (nC bK.out) (kN (sR gBm Z ?_))
 let B2:List Value:=[jV 9,jV 0]
 refine oR Z (ZM (pv:=[(0,jV 9)]) (z:=B1) (cs:=B2) Z (wAR Z wAo) zw wBl Z Z) (zx (cs:=B1) Z Z Z Z Z zw Z cM ?_)
 intro g8 au fO
 refine zt (j:=0) (vs:=B2) Z Z Z Z fO Z Z Z Z zH (zC Z) Z Z Z ?_
 intro dH fP
 have fQ:sW w U bj [.blk au 44 B2,.blk b6 44 B1,.blk b2 54 B0] dH:=fP
 refine eN (zJ (sR fL1 Z (oA Z Z (eN (zi (CK.iter (fun (aq,x95,x96) σ_ w_=>∃ (U_:PHeap),σ_ 1=jV p1/\σ_ 2=jV p2/\σ_ 3=.pointer (some ⟨b2,0,none⟩)/\σ_ 6=.pointer (some ⟨b6,0,none⟩)/\σ_ 9=.pointer (some ⟨au,0,none⟩)/\σ_ 10=jV x96/\PHeap.Le bj U_/\sW w U U_ [.blk au 44 [jV aq,jV x95],.blk b6 44 B1,.blk b2 54 B0] w_) gD ?_ ?_))))))
 exact ⟨bj,Z,Z,Z,Z,Z,Z,(zX _),fQ⟩
 rintro ⟨aq,x95,x96⟩ iz iB ct ⟨be,aQ,aR,aS,aZ,av,am,bo,az⟩ cV cQ
 try dsimp only at cV
 refine zJ (sR fL16 Z (oM Z am (oR Z (zK Z aS zY Z zZ) (oL Z (az.ldB (j:=2) Z Z Z zd (v:=.slice aV p0.Shots.length aX) Z) (oM Z aQ (bnK cV fun x113 bL fS=>?_))))))
 have dU:=cB.le bB
 have bv:=dU.le bo
 have q:=bv.el (fun _=>rfl) (wAV bL)
 obtain ⟨g9,ic,eL,eO⟩:=q
 refine oR Z (ZP Z Z eL Z zA zD (wBp bL) (wBs bL)) (oL Z (az.ldC (f:=0) eO (v:=jV x113) Z Z zO Z) (oR Z (Runs.leq Z Z Z) (oM Z Z (ifc fS ?_ ?_))))
 intro ak fT
 refine zW Z Z Z (wT Z ak) Z am (rU Z (wT Z ak) (zK Z aS zY Z zZ) (zy Z Z Z (wT Z ak) (az.ldB (j:=2) Z Z Z zd (v:=.slice aW p0.Down.length aY) Z) Z (zW Z Z Z (wT Z ak) Z aR (bnK fT fun gL bM fU=>?_))))
 have dV:=cC.le bB
 have bw:=dV.le bo
 have q:=bw.el (fun _=>rfl) (wAV bM)
 obtain ⟨ib,ie,eM,eP⟩:=q
 refine rU Z (wT Z ak) (ZP Z Z eM Z zA zD (wBp bM) (wBs bM)) (zy Z Z Z (wT Z ak) (az.ldC (f:=0) eP (v:=jV gL) Z Z zO Z) Z (rU Z (wT Z ak) (Runs.leq Z Z Z) (oR Z (zU Z (Zf ak.out) Z) (eN (ifc fU ?_ ?_)))))
 intro bE fV
 refine cT Z bE (kN ?_)
 have q:=bnd fV
 obtain ⟨⟨gM,gN⟩,cW,cR⟩:=q
 try dsimp only at cR
 refine yB (fun σ_ w_=>∃ (U_:PHeap),σ_ 1=jV p1/\σ_ 2=jV p2/\σ_ 3=.pointer (some ⟨b2,0,none⟩)/\σ_ 6=.pointer (some ⟨b6,0,none⟩)/\σ_ 9=.pointer (some ⟨au,0,none⟩)/\σ_ 10=jV x96/\PHeap.Le be U_/\sW w U U_ [.blk au 44 [jV gM,jV gN],.blk b6 44 B1,.blk b2 54 B0] w_) ?_ ?_
 refine zi (zJ (sR (wJu (.fx 6 (.fl 7 (.fl 8 .nil)) .stop)) Z (oM Z am (oR Z (Zl Z Z Z) (oM Z Z ?_)))))
 by_cases aj:0 < x96
 have cS:=cW;rw [if_pos aj] at cS;replace aj:=zN aj
 refine zy Z Z Z (wT Z aj) (az.ldBA (j:=2) Z Z aS ZK zz (vs:=B0) Z Z) Z (zW Z Z Z (wT Z aj) Z aQ (zW Z Z Z (wT Z aj) Z aR ?_))
 have dW:=bN.le bB
 have cA:=dW.le bo
 refine bnK cS fun it dX fW=>zM 0 Z Z Z (wT Z aj) (zL Z Z Try.call62 (zB Z (zB Z (zB Z zS))) Z) az (fun hs=>wBw p0 aV aX aW aY ba bb p1 p2 ct be hs bv bw cA dX) (.inr Z) ?_
 rintro bD gQ ii cp bk eQ ⟨rfl,rfl⟩
 let B3:Res:=.blk au 44 [jV aq,jV x95]
 have bO:sW w U bD [B3,.blk b6 44 B1,.blk b2 54 B0] cp:=eQ
 refine rU Z (wT Z aj) (ZR Z Z) (oR Z (zU Z (Zf aj.out) Z) (eN (ifc fW ?_ ?_)))
 intro bF fY
 refine zg (nC bF.out) (kN (sR (wEQ gBt) Z (oL Z (bO.ldBA (j:=2) Z Z aS ZK zz (vs:=B0) Z Z) (oM Z aQ (oM Z am (oM Z aR (oM Z am ?_)))))))
 have dY:=bv.le bk
 have dZ:=bw.le bk
 have d4:=cA.le bk
 refine bnK fY fun bf d5 fZ=>zM 0 Z Z Z Z (zL Z Z Try.call63 (zB Z (zB Z (zB Z (zB Z (zB Z zS))))) Z) bO (fun hs=>wDu p0 aV aX aW aY ba bb p1 x96 p2 x96 cp bD hs dY dZ d4 d5) (.inr Z) ?_
 rintro dg gR ij bt cX eT ⟨bZ,cu,b5,cw,de,dI,rfl,rfl,d6⟩
 let B4:Res:=.row b5 cw 3 1 (hH KL.encI bf.Down)
 have eV:sW w U dg [.row bZ cu 3 1 (hH KL.encI bf.Shots),B4,B3,.blk b6 44 B1,.blk b2 54 B0] bt:=eT
 refine oM Z aQ (oM Z aR ?_)
 have q:=eV.freezeR (k:=0) (n:=bf.Shots.length) rfl (wAI (f:=KL.encI) (sz:=1) (fun _=>rfl) bf.Shots) (by decide)
 obtain ⟨dh,bV,gE,eW⟩:=q
 have eX:sW w U dh [B4,B3,.blk b6 44 B1,.blk b2 54 B0] bt:=eW
 have q:=eX.freezeR (k:=0) (n:=bf.Down.length) rfl (wAI (f:=KL.encI) (sz:=1) (fun _=>rfl) bf.Down) (by decide)
 obtain ⟨cj,bz,gF,eY⟩:=q
 have eZ:sW w U cj [B3,.blk b6 44 B1,.blk b2 54 B0] bt:=eY
 have d7:=gE.le bz
 have d8:=d6.le bV
 have d9:=d8.le bz
 refine bnK fZ fun iu eb ga=>zM 0 Z Z Z Z (zL Z Z Try.call61 (zB Z (zB Z (zB Z zS))) Z) eZ (fun hs=>wBQ bf bZ cu b5 cw de dI p1 p2 bt cj hs d7 gF d9 eb) (.inr Z) ?_
 rintro bm gS ik dr cY e8 ⟨rfl,rfl⟩
 have bQ:sW w U bm [B3,.blk b6 44 B1,.blk b2 54 B0] dr:=e8
 refine eN (ifc ga ?_ ?_)
 intro bH gc
 refine ZB (congrArg nA bH.out) (sR (wEQ (.fx 5 .nil .stop)) Z (oR Z (zK Z av zh Z zD) (oL Z (bQ.ldB (j:=0) Z Z Z zO (v:=jV aq) Z) (oM Z am (oR Z (Runs.min Z Z Z) (oR Z (zK Z av zh Z zD) (zt (j:=0) (vs:=[jV (min aq x96)]) Z Z Z Z bQ Z Z Z Z zD (zC Z) Z Z Z ?_)))))))
 intro dt e9
 have fb:sW w U bm [.blk au 44 [jV (min aq x96),jV x95],.blk b6 44 B1,.blk b2 54 B0] dt:=e9
 refine eN (rR gBh Z (oM Z am (oR Z (zK Z av zh Z zD) (zt (j:=0) (vs:=[jV x96]) Z Z Z Z fb Z Z Z Z zD (zC Z) Z Z Z ?_))))
 intro du fc
 have fd:sW w U bm [.blk au 44 [jV (min aq x96),jV x96],.blk b6 44 B1,.blk b2 54 B0] du:=fc
 refine zn (zp ?_)
 cases gc
 exact zI ⟨Z,⟨bm,aQ,aR,aS,aZ,av,am,((((bk.trans cX).trans bV).trans bz).trans cY),fd⟩⟩
 intro bH ge
 refine zg (congrArg nA (nB.2 bH.out)) (Za (zp ?_))
 cases ge
 exact zI ⟨Z,⟨bm,aQ,aR,aS,aZ,av,am,((((bk.trans cX).trans bV).trans bz).trans cY),bQ⟩⟩
 intro bF gf
 refine ZB (nF (bF.out)) (ZS (zq (ZJ ?_)))
 cases gf
 exact zI ⟨Z,⟨bD,aQ,aR,aS,aZ,av,am,bk,bO⟩⟩
 have cU:=cW;rw [if_neg aj] at cU;replace aj:=zN aj
 refine oF Z aj (oF Z aj (oF Z aj (ZV Z Z Z (zF Z Z (zm aj.out) Z) (oF Z aj (oR Z (zP Z (zm aj.out) Z) (eN (zg Z (kN (sR (wEQ gBt) Z (oL Z (az.ldBA (j:=2) Z Z aS ZK zz (vs:=B0) Z Z) (oM Z aQ (oM Z am (oM Z aR (oM Z am ?_))))))))))))))
 have ed:=bN.le bB
 have ef:=ed.le bo
 refine bnK cU fun bg ej gg=>zM 0 Z Z Z Z (zL Z Z Try.call63 (zB Z (zB Z (zB Z (zB Z (zB Z zS))))) Z) az (fun hs=>wDu p0 aV aX aW aY ba bb p1 x96 p2 x96 ct be hs bv bw ef ej) (.inr Z) ?_
 rintro dm gT im bu cZ ff ⟨b9,cy,cf,cz,df,dJ,rfl,rfl,en⟩
 let B5:Res:=.blk au 44 [jV aq,jV x95]
 let B6:Res:=.row cf cz 3 1 (hH KL.encI bg.Down)
 have fg:sW w U dm [.row b9 cy 3 1 (hH KL.encI bg.Shots),B6,B5,.blk b6 44 B1,.blk b2 54 B0] bu:=ff
 refine oM Z aQ (oM Z aR ?_)
 have q:=fg.freezeR (k:=0) (n:=bg.Shots.length) rfl (wAI (f:=KL.encI) (sz:=1) (fun _=>rfl) bg.Shots) (by decide)
 obtain ⟨dp,bW,gG,fh⟩:=q
 have fj:sW w U dp [B6,B5,.blk b6 44 B1,.blk b2 54 B0] bu:=fh
 have q:=fj.freezeR (k:=0) (n:=bg.Down.length) rfl (wAI (f:=KL.encI) (sz:=1) (fun _=>rfl) bg.Down) (by decide)
 obtain ⟨cm,bA,gH,fm⟩:=q
 have ft:sW w U cm [B5,.blk b6 44 B1,.blk b2 54 B0] bu:=fm
 have eu:=gG.le bA
 have ey:=en.le bW
 have ez:=ey.le bA
 refine bnK gg fun iw eA gi=>zM 0 Z Z Z Z (zL Z Z Try.call61 (zB Z (zB Z (zB Z zS))) Z) ft (fun hs=>wBQ bg b9 cy cf cz df dJ p1 p2 bu cm hs eu gH ez eA) (.inr Z) ?_
 rintro bn gW io dw da fu ⟨rfl,rfl⟩
 have bR:sW w U bn [B5,.blk b6 44 B1,.blk b2 54 B0] dw:=fu
 refine eN (ifc gi ?_ ?_)
 intro bI gj
 refine ZB (congrArg nA bI.out) (sR (wEQ (.fx 5 .nil .stop)) Z (oR Z (zK Z av zh Z zD) (oL Z (bR.ldB (j:=0) Z Z Z zO (v:=jV aq) Z) (oM Z am (oR Z (Runs.min Z Z Z) (oR Z (zK Z av zh Z zD) (zt (j:=0) (vs:=[jV (min aq x96)]) Z Z Z Z bR Z Z Z Z zD (zC Z) Z Z Z ?_)))))))
 intro dx fw
 have fy:sW w U bn [.blk au 44 [jV (min aq x96),jV x95],.blk b6 44 B1,.blk b2 54 B0] dx:=fw
 refine eN (rR gBh Z (oM Z am (oR Z (zK Z av zh Z zD) (zt (j:=0) (vs:=[jV x96]) Z Z Z Z fy Z Z Z Z zD (zC Z) Z Z Z ?_))))
 intro dy fz
 have fA:sW w U bn [.blk au 44 [jV (min aq x96),jV x96],.blk b6 44 B1,.blk b2 54 B0] dy:=fz
 refine zn (zp ?_)
 cases gj
 exact zI ⟨Z,⟨bn,aQ,aR,aS,aZ,av,am,(((cZ.trans bW).trans bA).trans da),fA⟩⟩
 intro bI gm
 refine zg (congrArg nA (nB.2 bI.out)) (Za (zp ?_))
 cases gm
 exact zI ⟨Z,⟨bn,aQ,aR,aS,aZ,av,am,(((cZ.trans bW).trans bA).trans da),bR⟩⟩
 rintro iA g7 ⟨dq,dM,dO,dP,dQ,dR,dS,gI,fB⟩
 refine rR fL3 Z (oM Z dS (oR Z (zk Z Z Z) (oA Z Z (zn ?_))))
 have q:=nD cR
 obtain rfl:=q
 exact zI ⟨Z,_,Z,⟨dq,dM,dO,dP,dQ,dR,Z,(bo.trans gI),fB⟩⟩
 intro bE gp
 refine cF Z bE (ZS (zq ?_))
 have q:=wAj gp
 obtain ⟨gJ,gq,dK⟩:=q
 have q:=cQ gJ dK
 obtain rfl:=q
 refine zq (ZJ (zI (sR gBl Z ?_)))
 let B7:List Value:=[jV aq,jV x95]
 refine oL Z (az.ldBA (j:=0) Z Z av zf zH (vs:=B7) Z Z) (zt (j:=1) (vs:=B7) Z Z Z Z az Z aZ Z Z zH (zC Z) Z Z Z ?_)
 intro dz fD
 have cD:sW w U be [.blk au 44 B7,.blk b6 44 B7,.blk b2 54 B0] dz:=fD
 refine oA Z Z (eN (zQ ?_))
 cases gq
 exact ⟨rfl,_,(wCZ (rs:=[.cell 6 44,.tmp 7]) (vs:=[.agg B7.toArray,jV 0]) ⟨⟨_,aZ,(wBR zf zH (cD.blkAt (k:=1) rfl) (vs:=B7) rfl rfl)⟩,⟨rfl,trivial⟩⟩ rfl),be,_,(cD.pick [] _ (by decide) rfl),rfl,rfl⟩
 intro ak gt
 refine oF Z ak (oF Z ak (oF Z ak (oF Z ak (oF Z ak (oF Z ak (oF Z ak (oR Z (zP Z (zm ak.out) Z) (eN (zg Z (ZS (zq ?_)))))))))))
 have q:=wAj gt
 obtain ⟨gK,gu,dL⟩:=q
 have q:=cQ gK dL
 obtain rfl:=q
 refine zq (ZJ (zI (sR gBl Z ?_)))
 let B8:List Value:=[jV aq,jV x95]
 refine oL Z (az.ldBA (j:=0) Z Z av zf zH (vs:=B8) Z Z) (zt (j:=1) (vs:=B8) Z Z Z Z az Z aZ Z Z zH (zC Z) Z Z Z ?_)
 intro dA fG
 have cE:sW w U be [.blk au 44 B8,.blk b6 44 B8,.blk b2 54 B0] dA:=fG
 refine oA Z Z (eN (zQ ?_))
 cases gu
 exact ⟨rfl,_,(wCZ (rs:=[.cell 6 44,.tmp 7]) (vs:=[.agg B8.toArray,jV 0]) ⟨⟨_,aZ,(wBR zf zH (cE.blkAt (k:=1) rfl) (vs:=B8) rfl rfl)⟩,⟨rfl,trivial⟩⟩ rfl),be,_,(cE.pick [] _ (by decide) rfl),rfl,rfl⟩
 intro bK gv
 refine ZB (nF (bK.out)) (sR gBl Z (oR Z (ZM (pv:=[]) (z:=B1) (cs:=B1) Z wAo zw wBl Z Z) (zt (j:=0) (vs:=B1) Z Z Z Z cM Z Z Z Z zH (zC Z) Z Z Z ?_)))
 intro dB fH
 have cG:sW w U bj [.blk b6 44 B1,.blk b2 54 B0] dB:=fH
 refine oA Z Z (eN (zQ (ze ?_)))
 cases gv
 exact ⟨rfl,_,(wCZ (rs:=[.cell 6 44,.tmp 7]) (vs:=[.agg B1.toArray,jV 7]) ⟨⟨_,rfl,(wBR zf zH (cG.blkAt (k:=0) rfl) (vs:=B1) rfl rfl)⟩,⟨rfl,trivial⟩⟩ rfl),bj,_,(cG.pick [] _ (by decide) rfl),rfl,rfl⟩
 intro bG gw
 refine cT Z bG (sR gBq Z (oR Z (ZM (pv:=[]) (z:=B1) (cs:=B1) Z wAo zw wBl Z Z) (oM Z Z (zt (j:=0) (vs:=B1) Z Z Z Z bP Z Z Z Z zH (zC Z) Z Z Z ?_))))
 intro dC fJ
 have cH:sW w U bq [.blk b6 44 B1,.blk b2 54 B0] dC:=fJ
 refine oA Z Z (eN (zQ (ze ?_)))
 cases gw
 exact ⟨rfl,_,(wCZ (rs:=[.cell 6 44,.tmp 7]) (vs:=[.agg B1.toArray,jV x9]) ⟨⟨_,rfl,(wBR zf zH (cH.blkAt (k:=0) rfl) (vs:=B1) rfl rfl)⟩,⟨rfl,trivial⟩⟩ rfl),bq,_,(cH.pick [] _ (by decide) rfl),rfl,rfl⟩
end Go.Proofs.Ytfcmijinklojbaa
namespace Go.Proofs.Ytfcmijinklojbaa
open Go.KL
set_option maxHeartbeats 4000000
theorem wGv (p0:wAB) (bA:Option Addr) (bD:Nat) (bB:Option Addr) (bE:Nat) (bC:Option Addr) (bF:Nat) (p1:Int) (p2:Int) (w:World) (U:PHeap) (hS:St0 w U []) (fA:Sl U 1 bA bD p0.Shots.length (hH KL.encI p0.Shots)) (fB:Sl U 1 bB bE p0.Down.length (hH KL.encI p0.Down)) (fC:Sl U 2 bC bF p0.Across.length (hH wAA p0.Across)) {r:(List Int) × (List Int) × Int} (hm:wBy p0 p1 p2=some r):Gv Try.prog 21 [.agg #[.slice bA p0.Shots.length bD,.slice bB p0.Down.length bE,.slice bC p0.Across.length bF],jV p1,jV p2] w (wCt w [] U (fun U_ L_ v=>∃ (A0:Option Addr) (c0:Nat) (A1:Option Addr) (c1:Nat),v=.tuple #[.slice A0 r.1.length c0,.slice A1 r.2.1.length c1,jV r.2.2]/\L_=[.row A0 c0 3 1 (hH KL.encI r.1),.row A1 c1 3 1 (hH KL.encI r.2.1)])):=by
 unfold wBy at hm
 refine Gv.of Try.func21 Z Try.ntmps21 Try.results21 Z (sR (.fx 0 (fC1_3 (.nil)) .stop) Z ?_)
 let B0:List Value:=[.slice bA p0.Shots.length bD,.slice bB p0.Down.length bE,.slice bC p0.Across.length bF]
 refine ZY (cs:=B0) rfl rfl rfl rfl rfl rfl (by rfl) hS ?_
 intro W1 b2 dy
 refine oA Z Z (oA Z Z (oA Z Z (eN (sR (wDw (.fx 3 (wTX (.nil)) .stop)) Z (oL Z (dy.ldBA (j:=0) Z Z Z ZT zu (vs:=B0) Z Z) (oM Z Z (oM Z Z ?_)))))))
 have q:=bnd hm
 obtain ⟨⟨x5,x6⟩,h7,bs⟩:=q
 try dsimp only at bs
 refine zM 0 Z Z Z Z (zL Z Z Try.call49 (zB Z (zB Z (zB Z zS))) Z) dy (fun hs=>wEp p0 bA bD bB bE bC bF p1 p2 W1 U hs fA fB fC h7) (.inr Z) ?_
 rintro U9 fZ gA bQ gv dx dw
 rcases x5 with _ | x26
 try dsimp only at bs
 obtain ⟨rfl,rfl⟩:=dw
 have eW:sW w U U9 [.blk b2 26 B0] bQ:=dx
 refine oM Z Z (oR Z (ZC Z Z (v:=.pointer none) Z) (oR Z (ZC Z Z (v:=jV x6) Z) (oA Z Z (oA Z Z (eN (zJ (sR fL2 Z (oM Z Z (oR Z (ZL Z Z Z) (eN (ifc bs ?_ ?_)))))))))))
 intro cg fP
 refine zg (zm (fun h=>h cg.out)) (kN (sR (wDw gBn) Z (oM Z Z (oM Z Z (oM Z Z ?_)))))
 cases fP
 intro cg fQ
 refine cT Z cg (sR fL4 Z (oM Z Z (oA Z Z (oA Z Z (oA Z Z (eN (zQ (ze ?_))))))))
 have fd:=eW.nilrow 3 1
 have ff:=fd.nilrow 3 1
 cases fQ
 exact ⟨rfl,_,(wSA rfl rfl rfl),U9,_,(ff.pick [1,0] _ (by decide) rfl),none,0,none,0,rfl,rfl⟩
 try dsimp only at bs
 obtain ⟨ab,ah,ak,ai,am,aj,ap,aa,au,aq,rfl,rfl,cp,cq,cr,bn⟩:=dw
 have dz:sW w U U9 [.blk ab 99 ([.slice ah x26.Bout.Shots.length ak,.slice ai x26.Bout.Down.length am,.slice aj x26.Bout.Across.length ap,.map (some aa)] ++ ((hH KL.encI x26.hits.l) ++ ((hH KL.encI x26.used.l) ++ (hH KL.encT x26.met.l)))),.obj aa (.map au aq),.blk b2 26 B0] bQ:=dx
 refine oM Z Z (oR Z (ZC Z Z (v:=.pointer (some ⟨ab,0,none⟩)) Z) (oR Z (ZC Z Z (v:=jV x6) Z) (oA Z Z (oA Z Z (eN (zJ (sR fL2 Z (oM Z Z (oR Z (ZL Z Z Z) (eN (ifc bs ?_ ?_)))))))))))
 intro ci fR
 refine zg (zm (fun h=>h ci.out)) (kN (sR (wDw gBn) Z (oM Z Z (oM Z Z (oM Z Z (bnK fR fun x44 en fS=>zM 2 Z Z Z Z (zL Z Z Try.call48 (zB Z (zB Z (zB Z zS))) Z) dz (fun hs=>wDP x26 ab ah ak ai am aj ap aa au aq p1 p2 bQ U9 hs cp cq cr bn en) (.inl Z) ?_))))))
 rintro bm gh gH dH bo fg ⟨rfl,rfl⟩
 have fh:sW w U bm [.blk ab 99 ([.slice ah x26.Bout.Shots.length ak,.slice ai x26.Bout.Down.length am,.slice aj x26.Bout.Across.length ap,.map (some aa)] ++ ((hH KL.encI x26.hits.l) ++ ((hH KL.encI x26.used.l) ++ (hH KL.encT x26.met.l)))),.obj aa (.map au aq),.blk b2 26 B0] dH:=fg
 refine zx (cs:=[jV 0,jV 0]) Z Z Z Z Z zw Z fh ?_
 intro gm aS fj
 let B1:List Value:=[jV x44.Lo,jV x44.Hi]
 refine zt (j:=0) (vs:=B1) Z Z Z Z fj Z Z Z Z zH (zC Z) Z Z Z ?_
 intro br fm
 have bz:sW w U bm [.blk aS 44 B1,.blk ab 99 ([.slice ah x26.Bout.Shots.length ak,.slice ai x26.Bout.Down.length am,.slice aj x26.Bout.Across.length ap,.map (some aa)] ++ ((hH KL.encI x26.hits.l) ++ ((hH KL.encI x26.used.l) ++ (hH KL.encT x26.met.l)))),.obj aa (.map au aq),.blk b2 26 B0] br:=fm
 refine eN (zJ (sR fL3 Z (oR Z (zK Z Z zh Z zD) (oL Z (bz.ldB (j:=0) Z Z Z zO (v:=jV x44.Lo) Z) (oR Z (Zl Z Z Z) (eN (ifc fS ?_ ?_)))))))
 intro cj fT
 refine cT Z cj (rR (wJu gBo) Z (oM Z Z (oM Z Z (oM Z Z (oR Z (zK Z Z zh Z zD) (oL Z (bz.ldB (j:=0) Z Z Z zO (v:=jV x44.Lo) Z) (oR Z (ZG Z Z Z) ?_)))))))
 have dr:=cp.le bo
 have dt:=cq.le bo
 have du:=cr.le bo
 refine bnK fT fun ae eu fU=>?_
 have ft:sW w U bm [.blk ab 99 ([.slice ah x26.Bout.Shots.length ak,.slice ai x26.Bout.Down.length am,.slice aj x26.Bout.Across.length ap,.map (some aa)] ++ ((hH KL.encI x26.hits.l) ++ ((hH KL.encI x26.used.l) ++ (hH KL.encT x26.met.l)))),.obj aa (.map au aq),.blk aS 44 B1,.blk b2 26 B0] br:=bz.pick [1,2,0,3] _ (by decide) rfl
 refine zM 2 Z Z Z Z (zL Z Z Try.call64 (zB Z (zB Z (zB Z (zB Z zS)))) Z) ft (fun hs=>wCS x26 ab ah ak ai am aj ap aa au aq p1 p2 (w64 (x44.Lo - 1)) br bm hs dr dt du bn eu) (.inl Z) ?_
 rintro cP gi gI cX cC fu ⟨be,aZ,bf,ba,bg,bb,bh,aT,bj,bi,rfl,rfl,ez,eA,eC,eE⟩
 have fw:sW w U cP [.blk be 99 ([.slice aZ ae.Bout.Shots.length bf,.slice ba ae.Bout.Down.length bg,.slice bb ae.Bout.Across.length bh,.map (some aT)] ++ ((hH KL.encI ae.hits.l) ++ ((hH KL.encI ae.used.l) ++ (hH KL.encT ae.met.l)))),.obj aT (.map bj bi),.blk ab 99 ([.slice ah x26.Bout.Shots.length ak,.slice ai x26.Bout.Down.length am,.slice aj x26.Bout.Across.length ap,.map (some aa)] ++ ((hH KL.encI x26.hits.l) ++ ((hH KL.encI x26.used.l) ++ (hH KL.encT x26.met.l)))),.obj aa (.map au aq),.blk aS 44 B1,.blk b2 26 B0] cX:=fu
 have q:=bnd fU
 obtain ⟨⟨x93,az⟩,eF,dC⟩:=q
 try dsimp only at dC
 refine zM 2 Z Z Z Z (zL Z Z Try.call46 (zB Z zS) Z) fw (fun hs=>wBL ae be aZ bf ba bg bb bh aT bj bi cX cP hs ez eA eC eE eF) (.inl Z) ?_
 rintro bO gj gJ bP cz eG ⟨bv,bw,rfl,rfl,gq⟩
 let B2:Res:=.row bv bw 3 1 (hH KL.encI x93)
 have eH:sW w U bO [B2,.blk be 99 ([.slice aZ ae.Bout.Shots.length bf,.slice ba ae.Bout.Down.length bg,.slice bb ae.Bout.Across.length bh,.map (some aT)] ++ ((hH KL.encI az.1.l) ++ ((hH KL.encI az.2.1.l) ++ (hH KL.encT az.2.2.l)))),.obj aT (.map bj bi),.blk ab 99 ([.slice ah x26.Bout.Shots.length ak,.slice ai x26.Bout.Down.length am,.slice aj x26.Bout.Across.length ap,.map (some aa)] ++ ((hH KL.encI x26.hits.l) ++ ((hH KL.encI x26.used.l) ++ (hH KL.encT x26.met.l)))),.obj aa (.map au aq),.blk aS 44 B1,.blk b2 26 B0] bP:=eG
 refine OKS.ra rfl rfl rfl rfl rfl rfl (eN (zJ (zJ (ZN ZO [3,1004,3,3,3,1005,3,ab,aa] (wEQ gBf) (by kernel_rfl) ?_))))
 have ct:=eH.drew
 generalize hw_W127:({ bP with drawn:=bP.drawn + 1 }:World)=cQ at ct ⊢
 refine zV rfl rfl rfl rfl (fun _=>zK rfl rfl zh rfl zD) (OKS.mt (T:=[ab,aa]) [3,4] [0,1,2,5,6] [B2,.blk be 99 ([.slice aZ ae.Bout.Shots.length bf,.slice ba ae.Bout.Down.length bg,.slice bb ae.Bout.Across.length bh,.map (some aT)] ++ ((hH KL.encI az.1.l) ++ ((hH KL.encI az.2.1.l) ++ (hH KL.encT az.2.2.l)))),.obj aT (.map bj bi),.blk aS 44 B1,.blk b2 26 B0] rfl rfl rfl rfl ct rfl ⟨⟨3,by decide,_,rfl,rfl⟩,⟨4,by decide,_,rfl,rfl⟩,trivial⟩ (by decide) rfl (by decide) (fun _ fy=>(fy.ldB (j:=3) rfl rfl rfl zO (v:=jV x44.Hi) rfl)) rfl (zW rfl rfl rfl rfl rfl rfl (zW rfl rfl rfl rfl rfl rfl (zW rfl rfl rfl rfl rfl rfl ?_))))
 have dO:=dr.le cC
 have df:=dO.le cz
 have dP:=dt.le cC
 have dg:=dP.le cz
 have dQ:=du.le cC
 have dh:=dQ.le cz
 refine bnK dC fun gK dR fD=>?_
 have eI:sW w U bO [.blk ab 99 ([.slice ah x26.Bout.Shots.length ak,.slice ai x26.Bout.Down.length am,.slice aj x26.Bout.Across.length ap,.map (some aa)] ++ ((hH KL.encI x26.hits.l) ++ ((hH KL.encI x26.used.l) ++ (hH KL.encT x26.met.l)))),.obj aa (.map au aq),B2,.blk be 99 ([.slice aZ ae.Bout.Shots.length bf,.slice ba ae.Bout.Down.length bg,.slice bb ae.Bout.Across.length bh,.map (some aT)] ++ ((hH KL.encI az.1.l) ++ ((hH KL.encI az.2.1.l) ++ (hH KL.encT az.2.2.l)))),.obj aT (.map bj bi),.blk aS 44 B1,.blk b2 26 B0] cQ:=ct.pick [3,4,0,1,2,5,6] _ (by decide) rfl
 refine OKS.callHT 2 rfl rfl rfl rfl (zL rfl rfl Try.call65 (zB rfl (zB rfl (zB rfl zS))) rfl) eI (fun hs=>wCp x26 ab ah ak ai am aj ap aa au aq p1 p2 cQ bO hs df dg dh bn dR) rfl (T:=[ab,aa]) rfl ⟨fun b h=>(by cases h;exact .head _),fun b h=>(by cases h;exact .tail _ (.head _)),trivial⟩ ?_
 rintro bM ga gB cR cA eJ ⟨rfl,rfl⟩
 have cu:sW w U bM [.blk ab 99 ([.slice ah x26.Bout.Shots.length ak,.slice ai x26.Bout.Down.length am,.slice aj x26.Bout.Across.length ap,.map (some aa)] ++ ((hH KL.encI x26.hits.l) ++ ((hH KL.encI x26.used.l) ++ (hH KL.encT x26.met.l)))),.obj aa (.map au aq),B2,.blk be 99 ([.slice aZ ae.Bout.Shots.length bf,.slice ba ae.Bout.Down.length bg,.slice bb ae.Bout.Across.length bh,.map (some aT)] ++ ((hH KL.encI az.1.l) ++ ((hH KL.encI az.2.1.l) ++ (hH KL.encT az.2.2.l)))),.obj aT (.map bj bi),.blk aS 44 B1,.blk b2 26 B0] cR:=eJ
 refine oR Z (zo Z Z Z) (eN (ifc fD ?_ ?_))
 intro bT fE
 refine cT Z bT (CK.fresh fun bp bk=>?_)
 have dI:bp 1=jV p1:=(bk 1).trans rfl
 have dJ:bp 2=jV p2:=(bk 2).trans rfl
 have dK:bp 6=.slice bv x93.length bw:=(bk 6).trans rfl
 have gp:bp 7=.slice none 0 0:=(bk 7).trans rfl
 have dL:bp 9=.pointer (some ⟨ab,0,none⟩):=(bk 9).trans rfl
 have dM:bp 10=.pointer (some ⟨aS,0,none⟩):=(bk 10).trans rfl
 clear bk
 refine rR (wJu gBo) Z (oM Z dL (oM Z dI (oM Z dJ (oR Z (zK Z dM zh Z zD) (oL Z (cu.ldB (j:=5) Z Z Z zO (v:=jV x44.Hi) Z) (oR Z (zk Z Z Z) ?_))))))
 have dS:=df.le cA
 have dT:=dg.le cA
 have dU:=dh.le cA
 refine bnK fE fun aX dV fG=>zM 2 Z Z Z Z (zL Z Z Try.call64 (zB Z (zB Z (zB Z (zB Z zS)))) Z) cu (fun hs=>wCS x26 ab ah ak ai am aj ap aa au aq p1 p2 (w64 (x44.Hi + 1)) cR bM hs dS dT dU bn dV) (.inl Z) ?_
 rintro cK gb gC cS gw eK ⟨bR,bG,bU,bH,bV,bI,bW,bt,cm,bX,rfl,rfl,dW,dX,dY,dZ⟩
 have eL:sW w U cK [.blk bR 99 ([.slice bG aX.Bout.Shots.length bU,.slice bH aX.Bout.Down.length bV,.slice bI aX.Bout.Across.length bW,.map (some bt)] ++ ((hH KL.encI aX.hits.l) ++ ((hH KL.encI aX.used.l) ++ (hH KL.encT aX.met.l)))),.obj bt (.map cm bX),.blk ab 99 ([.slice ah x26.Bout.Shots.length ak,.slice ai x26.Bout.Down.length am,.slice aj x26.Bout.Across.length ap,.map (some aa)] ++ ((hH KL.encI x26.hits.l) ++ ((hH KL.encI x26.used.l) ++ (hH KL.encT x26.met.l)))),.obj aa (.map au aq),B2,.blk be 99 ([.slice aZ ae.Bout.Shots.length bf,.slice ba ae.Bout.Down.length bg,.slice bb ae.Bout.Across.length bh,.map (some aT)] ++ ((hH KL.encI az.1.l) ++ ((hH KL.encI az.2.1.l) ++ (hH KL.encT az.2.2.l)))),.obj aT (.map bj bi),.blk aS 44 B1,.blk b2 26 B0] cS:=eK
 have q:=bnd fG
 obtain ⟨⟨fV,cD⟩,d4,dA⟩:=q
 try dsimp only at dA
 refine zM 2 Z Z Z Z (zL Z Z Try.call46 (zB Z zS) Z) eL (fun hs=>wBL aX bR bG bU bH bV bI bW bt cm bX cS cK hs dW dX dY dZ d4) (.inl Z) ?_
 rintro cM gc gD dF gx eM ⟨cI,da,rfl,rfl,gt⟩
 have eO:sW w U cM [.row cI da 3 1 (hH KL.encI fV),.blk bR 99 ([.slice bG aX.Bout.Shots.length bU,.slice bH aX.Bout.Down.length bV,.slice bI aX.Bout.Across.length bW,.map (some bt)] ++ ((hH KL.encI cD.1.l) ++ ((hH KL.encI cD.2.1.l) ++ (hH KL.encT cD.2.2.l)))),.obj bt (.map cm bX),.blk ab 99 ([.slice ah x26.Bout.Shots.length ak,.slice ai x26.Bout.Down.length am,.slice aj x26.Bout.Across.length ap,.map (some aa)] ++ ((hH KL.encI x26.hits.l) ++ ((hH KL.encI x26.used.l) ++ (hH KL.encT x26.met.l)))),.obj aa (.map au aq),B2,.blk be 99 ([.slice aZ ae.Bout.Shots.length bf,.slice ba ae.Bout.Down.length bg,.slice bb ae.Bout.Across.length bh,.map (some aT)] ++ ((hH KL.encI az.1.l) ++ ((hH KL.encI az.2.1.l) ++ (hH KL.encT az.2.2.l)))),.obj aT (.map bj bi),.blk aS 44 B1,.blk b2 26 B0] dF:=eM
 refine oA Z Z (eN (sR fL5 Z (oM Z dK (oM Z Z (oA Z Z (oA Z Z (oA Z Z (eN (zQ ?_)))))))))
 cases dA
 exact ⟨rfl,_,(wSA rfl rfl rfl),cM,_,(eO.pick [5,0] _ (by decide) rfl),bv,bw,cI,da,rfl,rfl⟩
 intro bT fH
 refine cF Z bT (kN (sR fL5 Z (oM Z Z (oM Z Z (oA Z Z (oA Z Z (oA Z Z (eN (zQ ?_)))))))))
 have eP:=cu.nilrow 3 1
 cases fH
 exact ⟨rfl,_,(wSA rfl rfl rfl),bM,_,(eP.pick [3,0] _ (by decide) rfl),bv,bw,none,0,rfl,rfl⟩
 intro cj fJ
 refine cF Z cj (kN (zJ (zJ (ZN ZO [3,1004,3,3,3,1005,3,ab,aa] (wEQ gBf) (by kernel_rfl) ?_))))
 have cw:=bz.drew
 generalize hw_W220:({ br with drawn:=br.drawn + 1 }:World)=cU at cw ⊢
 refine zV rfl rfl rfl rfl (fun _=>zK rfl rfl zh rfl zD) (OKS.mt (T:=[ab,aa]) [1,2] [0,3] [.blk aS 44 B1,.blk b2 26 B0] rfl rfl rfl rfl cw rfl ⟨⟨1,by decide,_,rfl,rfl⟩,⟨2,by decide,_,rfl,rfl⟩,trivial⟩ (by decide) rfl (by decide) (fun _ fz=>(fz.ldB (j:=0) rfl rfl rfl zO (v:=jV x44.Hi) rfl)) rfl (zW rfl rfl rfl rfl rfl rfl (zW rfl rfl rfl rfl rfl rfl (zW rfl rfl rfl rfl rfl rfl ?_))))
 have dm:=cp.le bo
 have dp:=cq.le bo
 have dq:=cr.le bo
 refine bnK fJ fun gL d5 fK=>?_
 have eQ:sW w U bm [.blk ab 99 ([.slice ah x26.Bout.Shots.length ak,.slice ai x26.Bout.Down.length am,.slice aj x26.Bout.Across.length ap,.map (some aa)] ++ ((hH KL.encI x26.hits.l) ++ ((hH KL.encI x26.used.l) ++ (hH KL.encT x26.met.l)))),.obj aa (.map au aq),.blk aS 44 B1,.blk b2 26 B0] cU:=cw.pick [1,2,0,3] _ (by decide) rfl
 refine OKS.callHT 2 rfl rfl rfl rfl (zL rfl rfl Try.call65 (zB rfl (zB rfl (zB rfl zS))) rfl) eQ (fun hs=>wCp x26 ab ah ak ai am aj ap aa au aq p1 p2 cU bm hs dm dp dq bn d5) rfl (T:=[ab,aa]) rfl ⟨fun b h=>(by cases h;exact .head _),fun b h=>(by cases h;exact .tail _ (.head _)),trivial⟩ ?_
 rintro bN ge gE cV cB eT ⟨rfl,rfl⟩
 have cy:sW w U bN [.blk ab 99 ([.slice ah x26.Bout.Shots.length ak,.slice ai x26.Bout.Down.length am,.slice aj x26.Bout.Across.length ap,.map (some aa)] ++ ((hH KL.encI x26.hits.l) ++ ((hH KL.encI x26.used.l) ++ (hH KL.encT x26.met.l)))),.obj aa (.map au aq),.blk aS 44 B1,.blk b2 26 B0] cV:=eT
 refine oR Z (zo Z Z Z) (eN (ifc fK ?_ ?_))
 intro bY fL
 refine cT Z bY (rR (wJu gBo) Z (oM Z Z (oM Z Z (oM Z Z (oR Z (zK Z Z zh Z zD) (oL Z (cy.ldB (j:=2) Z Z Z zO (v:=jV x44.Hi) Z) (oR Z (zk Z Z Z) ?_)))))))
 have d6:=dm.le cB
 have d7:=dp.le cB
 have d8:=dq.le cB
 refine bnK fL fun aY d9 fM=>zM 2 Z Z Z Z (zL Z Z Try.call64 (zB Z (zB Z (zB Z (zB Z zS)))) Z) cy (fun hs=>wCS x26 ab ah ak ai am aj ap aa au aq p1 p2 (w64 (x44.Hi + 1)) cV bN hs d6 d7 d8 bn d9) (.inl Z) ?_
 rintro cN gf gF cW gy eU ⟨bS,bJ,bZ,bK,b5,bL,b9,bu,cn,cf,rfl,rfl,eb,ed,ef,ei⟩
 have eV:sW w U cN [.blk bS 99 ([.slice bJ aY.Bout.Shots.length bZ,.slice bK aY.Bout.Down.length b5,.slice bL aY.Bout.Across.length b9,.map (some bu)] ++ ((hH KL.encI aY.hits.l) ++ ((hH KL.encI aY.used.l) ++ (hH KL.encT aY.met.l)))),.obj bu (.map cn cf),.blk ab 99 ([.slice ah x26.Bout.Shots.length ak,.slice ai x26.Bout.Down.length am,.slice aj x26.Bout.Across.length ap,.map (some aa)] ++ ((hH KL.encI x26.hits.l) ++ ((hH KL.encI x26.used.l) ++ (hH KL.encT x26.met.l)))),.obj aa (.map au aq),.blk aS 44 B1,.blk b2 26 B0] cW:=eU
 have q:=bnd fM
 obtain ⟨⟨fW,cE⟩,ej,dB⟩:=q
 try dsimp only at dB
 refine zM 2 Z Z Z Z (zL Z Z Try.call46 (zB Z zS) Z) eV (fun hs=>wBL aY bS bJ bZ bK b5 bL b9 bu cn cf cW cN hs eb ed ef ei ej) (.inl Z) ?_
 rintro cO gg gG dG gz eX ⟨cJ,de,rfl,rfl,gu⟩
 have eY:sW w U cO [.row cJ de 3 1 (hH KL.encI fW),.blk bS 99 ([.slice bJ aY.Bout.Shots.length bZ,.slice bK aY.Bout.Down.length b5,.slice bL aY.Bout.Across.length b9,.map (some bu)] ++ ((hH KL.encI cE.1.l) ++ ((hH KL.encI cE.2.1.l) ++ (hH KL.encT cE.2.2.l)))),.obj bu (.map cn cf),.blk ab 99 ([.slice ah x26.Bout.Shots.length ak,.slice ai x26.Bout.Down.length am,.slice aj x26.Bout.Across.length ap,.map (some aa)] ++ ((hH KL.encI x26.hits.l) ++ ((hH KL.encI x26.used.l) ++ (hH KL.encT x26.met.l)))),.obj aa (.map au aq),.blk aS 44 B1,.blk b2 26 B0] dG:=eX
 refine oA Z Z (eN (sR fL5 Z (oM Z Z (oM Z Z (oA Z Z (oA Z Z (oA Z Z (eN (zQ ?_)))))))))
 have eZ:=eY.nilrow 3 1
 cases dB
 exact ⟨rfl,_,(wSA rfl rfl rfl),cO,_,(eZ.pick [0,1] _ (by decide) rfl),none,0,cJ,de,rfl,rfl⟩
 intro bY fN
 refine cF Z bY (kN (sR fL5 Z (oM Z Z (oM Z Z (oA Z Z (oA Z Z (oA Z Z (eN (zQ ?_)))))))))
 have e8:=cy.nilrow 3 1
 have e9:=e8.nilrow 3 1
 cases fN
 exact ⟨rfl,_,(wSA rfl rfl rfl),bN,_,(e9.pick [1,0] _ (by decide) rfl),none,0,none,0,rfl,rfl⟩
 intro ci fO
 refine cT Z ci (sR fL4 Z (oM Z Z (oA Z Z (oA Z Z (oA Z Z (eN (zQ (ze ?_))))))))
 have fb:=dz.nilrow 3 1
 have fc:=fb.nilrow 3 1
 cases fO
 exact ⟨rfl,_,(wSA rfl rfl rfl),U9,_,(fc.pick [1,0] _ (by decide) rfl),none,0,none,0,rfl,rfl⟩
theorem wFX (p0:wAC) (br:Option Addr) (bt:Nat) (aR:Option Addr) (aS:Nat) (bs:Option Addr) (bu:Nat) (p1:List Int) (am:Option Addr) (ap:Nat) (w:World) (U:PHeap) (hS:St0 w U []) (d7:Sl U 1 br bt p0.Shots.length (hH KL.encI p0.Shots)) (d8:Sl U 1 aR aS p0.Down.length (hH KL.encI p0.Down)) (d9:Sl U 2 bs bu p0.Across.length (hH wAE p0.Across)) (bk:Sl U 1 am ap p1.length (hH KL.encI p1)) {r:Int × Int} (hm:wCD p0 p1=some r):Gv Try.prog 66 [.agg #[.slice br p0.Shots.length bt,.slice aR p0.Down.length aS,.slice bs p0.Across.length bu],.slice am p1.length ap] w (wCt w [] U (fun U_ L_ v=>v=.tuple #[jV r.1,jV r.2]/\L_=[])):=by
 unfold wCD at hm
 refine Gv.of Try.func66 Z Try.ntmps66 Try.results66 Z (sR (.fx 0 (.fl 1 (.fl 2 .nil)) .stop) Z ?_)
 let B0:List Value:=[.slice br p0.Shots.length bt,.slice aR p0.Down.length aS,.slice bs p0.Across.length bu]
 refine ZY (cs:=B0) rfl rfl rfl rfl rfl rfl (by rfl) hS ?_
 intro W1 b2 cW
 refine oA Z Z (oA Z Z (eN (zJ (sR fL1 Z (oA Z Z (eN (zi ?_)))))))
 have q:=wDL hm
 obtain ⟨r7,bj⟩:=q
 have q:=wDK bj
 obtain ⟨bo,dm⟩:=q
 replace bo:=zN bo
 refine yD (fun k6 _ σ_ w_=>∃ (U_:PHeap),σ_ 6=jV (↑k6:Int)/\σ_ 1=.slice am p1.length ap/\σ_ 2=.pointer (some ⟨b2,0,none⟩)/\PHeap.Le U U_/\sW w U U_ [.blk b2 54 B0] w_) dm ?_ ?_ ?_
 exact ⟨U,Z,Z,Z,(zX _),cW⟩
 rintro k6 ⟨⟩ eA eG bz bl ⟨cf,bf,be,bH,bW,cV⟩ bS de
 try dsimp only at bS
 have bB:Hid ((↑k6:Int) < (↑p1.length:Int)):=zN (wCO bl)
 replace bl:=zN bl
 have dq:Hid (w64 ((↑k6:Int) + 1)=(↑(k6 + 1):Int)):=zN (by have h1:=bo.out;have h2:=bB.out;rw [wAM] <;> omega)
 refine zJ (sR fL4 rfl (zW rfl rfl rfl rfl rfl bf (zW rfl rfl rfl rfl rfl be (zV rfl rfl rfl rfl (fun _=>zr rfl rfl zA) (zV rfl rfl rfl rfl (fun _=>zo rfl rfl rfl) (eN (cT Z bB (kN (zJ (zi (zJ (ZN ZO [3,3,3,1,3,1,3,3,2] (wJF (.fx 8 .nil .stop)) (by kernel_rfl) ?_))))))))))))
 have az:=cV.drew
 generalize hw_W26:({ bz with drawn:=bz.drawn + 1 }:World)=cg at az ⊢
 refine oM Z be (oM Z bf (bnK bS fun b5 bL dD=>?_))
 have cH:=bk.le bW
 have q:=cH.el (fun _=>rfl) (wAV bL)
 obtain ⟨d5,ej,cO,cS⟩:=q
 refine oR Z (Ze Z Z cO Z zA zD (wCd bL)) (oL Z (az.ldC (f:=0) cS (v:=jV b5) Z Z zO Z) (oR Z (zK Z bH zY Z zZ) (oL Z (az.ldB (j:=0) Z Z Z zd (v:=.slice aR p0.Down.length aS) Z) (oR Z (zr Z Z zA) (oR Z (ZG Z Z Z) (bnK dD fun ez cI dE=>zM 0 Z Z Z Z (zL Z Z yE (zB Z (zB Z (zB Z zS))) Z) az (fun hs=>wAm b5 0 (w64 ((↑p0.Down.length:Int) - 1)) cg cf hs cI) (.inr Z) ?_))))))
 rintro aV dR ey ci dL cX ⟨rfl,rfl⟩
 have bP:sW w U aV [.blk b2 54 B0] ci:=cX
 refine eN (ifc dE ?_ ?_)
 intro aZ dF
 refine ZB (congrArg nA aZ.out) (sR fL2 Z (oA Z Z (oA Z Z (eN (zQ (ZE (ze ?_)))))))
 have q:=wAj dF
 obtain ⟨dP,dG,cr⟩:=q
 have q:=wDl hm bj (de dP cr)
 obtain rfl:=q
 refine ze (ZE (ze ?_))
 cases dG
 exact ⟨rfl,_,(wHH rfl rfl),aV,_,(bP.pick [] _ (by decide) rfl),rfl,rfl⟩
 intro aZ dH
 refine zg (congrArg nA (nB.2 aZ.out)) (Za (zp (zI (rR fL3 Z (oM Z bf (oR Z (ZI (zk Z Z Z) (congrArg (jV) dq.out)) (oA Z Z (zn ?_))))))))
 have q:=nD dH
 obtain rfl:=q
 exact zI ⟨Z,_,Z,⟨aV,Z,be,bH,(bW.trans dL),bP⟩⟩
 rintro ⟨⟩ eK dW ⟨bw,cB,bI,d6,bX,cY⟩ dg
 have aQ:=wEA hm bj dg
 try dsimp only at aQ
 have cn:Hid (¬ ((↑(((↑p1.length:Int):Int) - 0).toNat:Int) < (↑p1.length:Int))):=zN (wBi)
 refine zJ (sR fL4 Z (oM Z cB (oM Z bI (oR Z (zr Z Z zA) (oR Z (zo Z Z Z) (eN (cF Z cn (ZS (zq (zq (ZJ (zI (sR fL1 Z (oA Z Z (eN (zJ (sR fL1 Z (oA Z Z (eN (zi ?_))))))))))))))))))))
 have q:=wDL aQ
 obtain ⟨en,bi⟩:=q
 have q:=wDK bi
 obtain ⟨bn,dp⟩:=q
 replace bn:=zN bn
 refine yD (fun ah aT σ_ w_=>∃ (U_:PHeap),σ_ 8=jV (↑ah:Int)/\σ_ 1=.slice am p1.length ap/\σ_ 7=jV aT/\PHeap.Le bw U_/\sW w U U_ [.blk b2 54 B0] w_) dp ?_ ?_ ?_
 exact ⟨bw,Z,bI,Z,(zX _),cY⟩
 rintro ah aT eE eL bA bm ⟨aW,ak,aq,bJ,bq,cZ⟩ dK dh
 have bC:Hid ((↑ah:Int) < (↑p1.length:Int)):=zN (wCO bm)
 replace bm:=zN bm
 have dr:Hid (w64 ((↑ah:Int) + 1)=(↑(ah + 1):Int)):=zN (by have h1:=bn.out;have h2:=bC.out;rw [wAM] <;> omega)
 refine zJ (sR fL4 Z (oM Z ak (oM Z aq (oR Z (zr Z Z zA) (oR Z (zo Z Z Z) (eN (cT Z bC (kN (zJ (zi (zJ (bnK dK fun cj bU dI=>yB (fun σ_ w_=>∃ (U_:PHeap),σ_ 1=.slice am p1.length ap/\σ_ 7=jV aT/\σ_ 8=jV (↑ah:Int)/\σ_ 45=.bool cj/\PHeap.Le aW U_/\sW w U U_ [.blk b2 54 B0] w_) ?_ ?_))))))))))))
 refine ZN ZO [3,3,3,3,3,3,1,3,3,3,3,1,3,3] fL14 (by kernel_rfl) ?_
 have au:=cZ.drew
 generalize hw_W92:({ bA with drawn:=bA.drawn + 1 }:World)=dX at au ⊢
 refine oM Z ak (oR Z (Zl Z Z Z) (oM Z Z ?_))
 by_cases aa:0 < (↑ah:Int)
 have bR:=bU;rw [if_pos aa] at bR;replace aa:=zN aa
 refine zW Z Z Z (wT Z aa) Z aq (zW Z Z Z (wT Z aa) Z ak (bnK bR fun x95 bM dJ=>?_))
 have cJ:=bk.le bX
 have bN:=cJ.le bq
 have q:=bN.el (fun _=>rfl) (wAV bM)
 obtain ⟨dY,ed,cK,cP⟩:=q
 refine rU Z (wT Z aa) (Ze Z Z cK Z zA zD (wCd bM)) (zy Z Z Z (wT Z aa) (au.ldC (f:=0) cP (v:=jV x95) Z Z zO Z) Z (zW Z Z Z (wT Z aa) Z aq (zW Z Z Z (wT Z aa) Z ak (rU Z (wT Z aa) (ZG Z Z Z) (bnK dJ fun x104 bg dt=>?_)))))
 have q:=bN.el (fun _=>rfl) (wAV bg)
 obtain ⟨dZ,ef,cM,cQ⟩:=q
 refine rU Z (wT Z aa) (ZP Z Z cM Z zA zD (wBp bg) (wBs bg)) (zy Z Z Z (wT Z aa) (au.ldC (f:=0) cQ (v:=jV x104) Z Z zO Z) Z (rU Z (wT Z aa) (Runs.leq Z Z Z) (oR Z (zU Z (Zf aa.out) Z) (zn ?_))))
 have q:=nD dt
 obtain rfl:=q
 exact zI ⟨Z,⟨aW,aq,bJ,ak,Z,(zX _),au⟩⟩
 have bQ:=bU;rw [if_neg aa] at bQ;replace aa:=zN aa
 refine oF Z aa (oF Z aa (oF Z aa (oF Z aa (oF Z aa (oF Z aa (oF Z aa (oF Z aa (oF Z aa (oF Z aa (oR Z (zP Z (zm aa.out) Z) (zn ?_)))))))))))
 cases bQ
 exact zI ⟨Z,⟨aW,aq,bJ,ak,Z,(zX _),au⟩⟩
 rintro eH dT ⟨aU,ct,cu,cw,bD,bV,bO⟩
 refine ifc dI ?_ ?_
 intro aX du
 refine ZB (bD.trans (congrArg nA aX.out)) (sR fL2 Z (oA Z Z (oA Z Z (eN (zQ (ze (ZE (ze ?_))))))))
 have q:=wAj du
 obtain ⟨dM,dw,cp⟩:=q
 have q:=wDl aQ bi (dh dM cp)
 obtain rfl:=q
 refine ze (ZE (ze ?_))
 cases dw
 exact ⟨rfl,_,(wHH rfl rfl),aU,_,(bO.pick [] _ (by decide) rfl),rfl,rfl⟩
 intro aX dx
 refine zg (bD.trans (congrArg nA (nB.2 aX.out))) (kN (sR fL1 Z (oA Z Z (eN (zJ (sR fL1 Z (oA Z Z (eN (zi (CK.iter (fun (bY,bZ) σ_ w_=>∃ (U_:PHeap),σ_ 1=.slice am p1.length ap/\σ_ 7=jV aT/\σ_ 8=jV (↑ah:Int)/\σ_ 9=jV bY/\σ_ 10=jV bZ/\PHeap.Le aU U_/\sW w U U_ [.blk b2 54 B0] w_) dx ?_ ?_))))))))))
 exact ⟨aU,ct,cu,cw,Z,Z,(zX _),bO⟩
 rintro ⟨bY,bZ⟩ eC eI dU ⟨bv,ba,bE,bb,bF,bG,bp,bh⟩ bT da
 try dsimp only at bT
 refine zJ (sR fL6 Z (oM Z bG (oM Z ba (oM Z bb (bnK bT fun dQ bK dy=>?_)))))
 have cC:=bk.le bX
 have cD:=cC.le bq
 have cE:=cD.le bV
 have cG:=cE.le bp
 have q:=cG.el (fun _=>rfl) (wAV bK)
 obtain ⟨d4,ei,cN,cR⟩:=q
 refine oR Z (Ze Z Z cN Z zA zD (wCd bK)) (oL Z (bh.ldC (f:=0) cR (v:=jV dQ) Z Z zO Z) (oR Z (zo Z Z Z) (eN (ifc dy ?_ ?_))))
 intro aY dz
 refine cT Z aY (kN (zJ (zi (rR fL3 Z (oM Z bF (oR Z (Runs.mulw Z Z Z) (oA Z Z (zn (zp (zI (rR fL3 Z (oM Z bG (oR Z (zk Z Z Z) (oA Z Z (zn ?_)))))))))))))))
 have q:=nD dz
 obtain rfl:=q
 exact zI ⟨Z,_,Z,⟨bv,ba,bE,bb,Z,Z,bp,bh⟩⟩
 intro aY dA
 refine cF Z aY (ZS (zq ?_))
 have q:=wAj dA
 obtain ⟨dO,dB,cq⟩:=q
 have q:=da dO cq
 obtain rfl:=q
 refine zq (ZJ (zI (rR fL4 Z (oM Z bE (oM Z bF (oR Z (zk Z Z Z) (oA Z Z (zn (zp (zI (rR fL3 Z (oM Z bb (oR Z (ZI (zk Z Z Z) (congrArg (jV) dr.out)) (oA Z Z (zn ?_)))))))))))))))
 have q:=nD dB
 obtain rfl:=q
 exact zI ⟨Z,_,Z,⟨bv,Z,ba,Z,((bq.trans bV).trans bp),bh⟩⟩
 rintro eF eJ dV ⟨b9,cA,cy,cz,eb,cU⟩ df
 have dC:=wEA aQ bi df
 have cm:Hid (¬ ((↑(((↑p1.length:Int):Int) - 0).toNat:Int) < (↑p1.length:Int))):=zN (wBi)
 refine zJ (sR fL4 Z (oM Z cA (oM Z cy (oR Z (zr Z Z zA) (oR Z (zo Z Z Z) (eN (cF Z cm (ZS (zq (zq (ZJ (zI (sR fL3 Z (oM Z cz (oA Z Z (oA Z Z (eN (zQ ?_))))))))))))))))))
 cases dC
 exact ⟨rfl,_,(wHH rfl rfl),b9,_,(cU.pick [] _ (by decide) rfl),rfl,rfl⟩
theorem wCY (p0:wAC) (aR:Option Addr) (aS:Nat) (bi:Option Addr) (bj:Nat) (bt:Option Addr) (bu:Nat) (p1:Int) (p2:Int) (p3:List Int) (cI:Option Addr) (cJ:Nat) (w:World) (U:PHeap) (hS:St0 w U []) (fJ:Sl U 1 aR aS p0.Shots.length (hH KL.encI p0.Shots)) (fK:Sl U 1 bi bj p0.Down.length (hH KL.encI p0.Down)) (fL:Sl U 2 bt bu p0.Across.length (hH wAE p0.Across)) (lC:Sl U 1 cI cJ p3.length (hH KL.encI p3)) {r:wAH × Int} (hm:wAO p0 p1 p2 p3=some r):Gv Try.prog 22 [.agg #[.slice aR p0.Shots.length aS,.slice bi p0.Down.length bj,.slice bt p0.Across.length bu],jV p1,jV p2,.slice cI p3.length cJ] w (wCt w [] U (fun U_ L_ v=>v=.tuple #[.agg #[jV r.1.Lo,jV r.1.Hi],jV r.2]/\L_=[])):=by
 unfold wAO at hm
 refine Gv.of Try.func22 Z Try.ntmps22 Try.results22 Z (sR gBk Z ?_)
 let B0:List Value:=[.slice aR p0.Shots.length aS,.slice bi p0.Down.length bj,.slice bt p0.Across.length bu]
 refine ZY (cs:=B0) rfl rfl rfl rfl rfl rfl (by rfl) hS ?_
 intro W1 b2 jL
 let B1:List Value:=[jV 0,jV 0]
 refine zx (cs:=B1) Z Z Z Z Z zw Z jL ?_
 intro W5 b6 fG
 refine oA Z Z (eN (zJ (sR gBl Z (oL Z (fG.ldBA (j:=1) Z Z Z ZK zz (vs:=B0) Z Z) (bnK hm fun x9 gZ lG=>zM 0 Z Z Z Z (zL Z Z Try.call59 (zB Z zS) Z) fG (fun hs=>wCw p0 aR aS bi bj bt bu W5 U hs fJ fK fL gZ) (.inr Z) ?_)))))
 rintro cf oa pn dU cD jv ⟨rfl,rfl⟩
 have dC:sW w U cf [.blk b6 44 B1,.blk b2 54 B0] dU:=jv
 refine oA Z Z (eN (sR fL2 Z (oM Z Z (oR Z (ZL Z Z Z) (eN (ifc lG ?_ ?_))))))
 intro cW lM
 refine zg (zm (fun h=>h cW.out)) (kN (zJ (sR (wEQ (.fx 5 (wOt gBd) .stop)) Z (oM Z Z (oR Z (zK Z Z zY Z zZ) (oL Z (dC.ldB (j:=1) Z Z Z zd (v:=.slice aR p0.Shots.length aS) Z) (oR Z (zr Z Z zA) (oR Z (ZG Z Z Z) (bnK lM fun pK ip lQ=>zM 0 Z Z Z Z (zL Z Z yE (zB Z (zB Z (zB Z zS))) Z) dC (fun hs=>wAm p1 0 (w64 ((↑p0.Shots.length:Int) - 1)) dU cf hs ip) (.inr Z) ?_)))))))))
 rintro ci oh pu dZ cE jH ⟨rfl,rfl⟩
 have dF:sW w U ci [.blk b6 44 B1,.blk b2 54 B0] dZ:=jH
 refine oM Z Z (ifc lQ ?_ ?_)
 intro aW l8
 refine zG Z Z Z (zF Z Z (congrArg nA aW.out) Z) (zG Z Z Z (zF Z Z (congrArg nA aW.out) Z) (zG Z Z Z (zF Z Z (congrArg nA aW.out) Z) (zG Z Z Z (zF Z Z (congrArg nA aW.out) Z) (zG Z Z Z (zF Z Z (congrArg nA aW.out) Z) (ZV Z Z Z (zF Z Z (congrArg nA aW.out) Z) (oR Z (zU Z (congrArg nA aW.out) Z) (eN (ZB Z (sR gBl Z (oR Z (ZM (pv:=[]) (z:=B1) (cs:=B1) Z wAo zw wBl Z Z) (zt (j:=0) (vs:=B1) Z Z Z Z dF Z Z Z Z zH (zC Z) Z Z Z ?_)))))))))))
 intro gj jR
 have eY:sW w U ci [.blk b6 44 B1,.blk b2 54 B0] gj:=jR
 refine oA Z Z (eN (zQ (ze ?_)))
 cases l8
 exact ⟨rfl,_,(wCZ (rs:=[.cell 8 44,.tmp 9]) (vs:=[.agg B1.toArray,jV 1]) ⟨⟨_,rfl,(wBR zf zH (eY.blkAt (k:=0) rfl) (vs:=B1) rfl rfl)⟩,⟨rfl,trivial⟩⟩ rfl),ci,_,(eY.pick [] _ (by decide) rfl),rfl,rfl⟩
 intro aW mi
 refine zW Z Z Z (zE Z Z (congrArg nA (nB.2 aW.out))) Z Z (zV Z Z Z (zE Z Z (congrArg nA (nB.2 aW.out))) (fun _=>zK Z Z zY Z zZ) (zy Z Z Z (zE Z Z (congrArg nA (nB.2 aW.out))) (dF.ldB (j:=1) Z Z Z zd (v:=.slice bi p0.Down.length bj) Z) Z (zV Z Z Z (zE Z Z (congrArg nA (nB.2 aW.out))) (fun _=>zr Z Z zA) (zV Z Z Z (zE Z Z (congrArg nA (nB.2 aW.out))) (fun _=>ZG Z Z Z) (bnK mi fun x37 iE ms=>zM 0 Z Z Z (zE Z Z (congrArg nA (nB.2 aW.out))) (zL Z Z yE (zB Z (zB Z (zB Z zS))) Z) dF (fun hs=>wAm p2 0 (w64 ((↑p0.Down.length:Int) - 1)) dZ ci hs iE) (.inr Z) ?_)))))
 rintro cn ot pD d6 cG lf ⟨rfl,rfl⟩
 have dH:sW w U cn [.blk b6 44 B1,.blk b2 54 B0] d6:=lf
 refine oR Z (zP Z (congrArg nA (nB.2 aW.out)) Z) (eN (ifc ms ?_ ?_))
 intro dg mL
 refine ZB (congrArg nA dg.out) (sR gBl Z (oR Z (ZM (pv:=[]) (z:=B1) (cs:=B1) Z wAo zw wBl Z Z) (zt (j:=0) (vs:=B1) Z Z Z Z dH Z Z Z Z zH (zC Z) Z Z Z ?_)))
 intro gF lq
 have fw:sW w U cn [.blk b6 44 B1,.blk b2 54 B0] gF:=lq
 refine oA Z Z (eN (zQ (ze ?_)))
 cases mL
 exact ⟨rfl,_,(wCZ (rs:=[.cell 8 44,.tmp 9]) (vs:=[.agg B1.toArray,jV 1]) ⟨⟨_,rfl,(wBR zf zH (fw.blkAt (k:=0) rfl) (vs:=B1) rfl rfl)⟩,⟨rfl,trivial⟩⟩ rfl),cn,_,(fw.pick [] _ (by decide) rfl),rfl,rfl⟩
 intro dg mT
 refine zg (congrArg nA (nB.2 dg.out)) (kN (sR (.fl 0 (.fl 1 (.fx 2 (fC3_7 (.nil)) .stop))) Z (oL Z (dH.ldBA (j:=1) Z Z Z ZK zz (vs:=B0) Z Z) (oM Z Z ?_))))
 have iN:=fJ.le cD
 have iO:=iN.le cE
 have eG:=iO.le cG
 have iP:=fK.le cD
 have iQ:=iP.le cE
 have eH:=iQ.le cG
 have iR:=fL.le cD
 have iT:=iR.le cE
 have eI:=iT.le cG
 have iU:=lC.le cD
 have iV:=iU.le cE
 have eJ:=iV.le cG
 have q:=bnd mT
 obtain ⟨⟨x65,fU⟩,iW,fO⟩:=q
 try dsimp only at fO
 refine zM 0 Z Z Z Z (zL Z Z Try.call66 (zB Z (zB Z zS)) Z) dH (fun hs=>wFX p0 aR aS bi bj bt bu p3 cI cJ d6 cn hs eG eH eI eJ iW) (.inr Z) ?_
 rintro cp ox pG d7 cH lA ⟨rfl,rfl⟩
 have dI:sW w U cp [.blk b6 44 B1,.blk b2 54 B0] d7:=lA
 refine oM Z Z (oR Z (ZC Z Z (v:=jV x65) Z) (oR Z (ZC Z Z (v:=jV fU) Z) (oA Z Z (oA Z Z (eN (zJ (sR fL2 Z (oM Z Z (oR Z (ZL Z Z Z) (eN (ifc fO ?_ ?_)))))))))))
 intro dm mZ
 refine zg (zm (fun h=>h dm.out)) (kN (zJ (sR gBl Z (oL Z (dI.ldBA (j:=1) Z Z Z ZK zz (vs:=B0) Z Z) ?_))))
 have dz:=eG.le cH
 have dA:=eH.le cH
 have dB:=eI.le cH
 refine bnK mZ fun pR iX m4=>zM 0 Z Z Z Z (zL Z Z Try.call61 (zB Z (zB Z (zB Z zS))) Z) dI (fun hs=>wBQ p0 aR aS bi bj bt bu (-1) (-1) d7 cp hs dz dA dB iX) (.inr Z) ?_
 rintro bU oy pH gQ bL lB ⟨rfl,rfl⟩
 have fH:sW w U bU [.blk b6 44 B1,.blk b2 54 B0] gQ:=lB
 refine oR Z (ZR Z Z) (eN (ifc m4 ?_ ?_))
 intro dp m5
 refine zg (nC dp.out) (kN (sR fL1 Z (oA Z Z (eN (zJ (sR fL1 Z (oA Z Z (eN (zi (bnK m5 fun fV lD lF=>?_))))))))))
 have q:=wCQ lD
 obtain ⟨dL,lE⟩:=q
 replace dL:=zN dL
 refine CK.forN' (fun b9 cV σ_ w_=>∃ (U_:PHeap),σ_ 14=jV (↑b9:Int)/\σ_ 1=jV p1/\σ_ 2=jV p2/\σ_ 3=.slice cI p3.length cJ/\σ_ 4=.pointer (some ⟨b2,0,none⟩)/\σ_ 8=.pointer (some ⟨b6,0,none⟩)/\σ_ 11=jV x65/\σ_ 13=.bool cV/\PHeap.Le bU U_/\sW w U U_ [.blk b6 44 B1,.blk b2 54 B0] w_) lE ?_ ?_ ?_
 exact ⟨bU,Z,Z,Z,Z,Z,Z,Z,Z,(zX _),fH⟩
 rintro b9 cV pS pT dT dK ⟨cN,bO,cr,ct,bM,cu,dq,dr,gU,bK,jr⟩ fP
 have d8:Hid ((↑b9:Int) < (↑p3.length:Int)):=zN (wCO dK)
 replace dK:=zN dK
 have dJ:Hid (w64 ((↑b9:Int) + 1)=(↑(b9 + 1):Int)):=zN (by have h1:=dL.out;have h2:=d8.out;rw [wAM] <;> omega)
 refine zJ (sR fL4 rfl (zW rfl rfl rfl rfl rfl bO (zW rfl rfl rfl rfl rfl bM (zV rfl rfl rfl rfl (fun _=>zr rfl rfl zA) (zV rfl rfl rfl rfl (fun _=>zo rfl rfl rfl) (eN (cT Z d8 (kN (zJ (zi (ZN ZO [3,3,3,3,3,1,3,3,3,1,3,3,3,3,1,2,3,3,3] (wTU (.fx 15 (wRy (.nil)) .stop)) (by kernel_rfl) ?_)))))))))))
 have bJ:=jr.drew
 generalize hw_W125:({ dT with drawn:=dT.drawn + 1 }:World)=fW at bJ ⊢
 refine oM Z gU (oM Z Z ?_)
 by_cases ak:cV=true
 have fM:=fP;rw [if_pos ak] at fM;replace ak:=zN ak
 refine zG Z Z Z (zF Z Z (congrArg nA ak.out) Z) (zG Z Z Z (zF Z Z (congrArg nA ak.out) Z) (zG Z Z Z (zF Z Z (congrArg nA ak.out) Z) (zG Z Z Z (zF Z Z (congrArg nA ak.out) Z) (zG Z Z Z (zF Z Z (congrArg nA ak.out) Z) (zG Z Z Z (zF Z Z (congrArg nA ak.out) Z) (zG Z Z Z (zF Z Z (congrArg nA ak.out) Z) (zG Z Z Z (wAG Z Z Z) (zG Z Z Z (wAG Z Z Z) (zG Z Z Z (wAG Z Z Z) (zG Z Z Z (wAG Z Z Z) (zG Z Z Z (wAG Z Z Z) (zG Z Z Z (wAG Z Z Z) (ZV Z Z Z (wAG Z Z Z) (zG Z Z Z (zF Z Z (congrArg nA ak.out) Z) (oR Z (zU Z (congrArg nA ak.out) Z) (oA Z Z (zn (zp (zI (rR fL3 Z (oM Z bO (oR Z (ZI (zk Z Z Z) (congrArg (jV) dJ.out)) (oA Z Z (zn ?_))))))))))))))))))))))))
 cases fM
 exact zI ⟨Z,⟨cN,Z,cr,ct,bM,cu,dq,dr,Z,bK,bJ⟩⟩
 have fN:=fP;rw [if_neg ak] at fN;replace ak:=zN ak
 refine zW Z Z Z (zE Z Z (congrArg nA (nB.2 ak.out))) Z bM (zW Z Z Z (zE Z Z (congrArg nA (nB.2 ak.out))) Z bO (bnK fN fun dQ cB lH=>?_))
 have g6:=eJ.le cH
 have g7:=g6.le bL
 have ey:=g7.le bK
 have q:=ey.el (fun _=>rfl) (wAV cB)
 obtain ⟨oI,o8,iY,je⟩:=q
 refine zV Z Z Z (zE Z Z (congrArg nA (nB.2 ak.out))) (fun _=>Ze Z Z iY Z zA zD (wCd cB)) (zy Z Z Z (zE Z Z (congrArg nA (nB.2 ak.out))) (bJ.ldC (f:=0) je (v:=jV dQ) Z Z zO Z) Z (zW Z Z Z (zE Z Z (congrArg nA (nB.2 ak.out))) Z ct (zV Z Z Z (zE Z Z (congrArg nA (nB.2 ak.out))) (fun _=>ZL Z Z Z) (zW Z Z Z (zE Z Z (congrArg nA (nB.2 ak.out))) Z Z (ifc lH ?_ ?_)))))
 intro aT lI
 refine zG Z Z Z (zF Z Z (zm (fun h=>h aT.out)) Z) (zG Z Z Z (zF Z Z (zm (fun h=>h aT.out)) Z) (zG Z Z Z (zF Z Z (zm (fun h=>h aT.out)) Z) (zG Z Z Z (zF Z Z (zm (fun h=>h aT.out)) Z) (zG Z Z Z (zF Z Z (zm (fun h=>h aT.out)) Z) (zG Z Z Z (zF Z Z (zm (fun h=>h aT.out)) Z) (ZV Z Z Z (zF Z Z (zm (fun h=>h aT.out)) Z) (zV Z Z Z (zE Z Z (congrArg nA (nB.2 ak.out))) (fun _=>zP Z (zm (fun h=>h aT.out)) Z) (oR Z (zP Z (congrArg nA (nB.2 ak.out)) Z) (oA Z Z (zn (zp (zI (rR fL3 Z (oM Z bO (oR Z (ZI (zk Z Z Z) (congrArg (jV) dJ.out)) (oA Z Z (zn ?_)))))))))))))))))
 cases lI
 exact zI ⟨Z,⟨cN,Z,cr,ct,bM,cu,dq,dr,Z,bK,bJ⟩⟩
 intro aT lJ
 refine zy Z Z Z (wT Z aT) (bJ.ldBA (j:=1) Z Z cu ZK zz (vs:=B0) Z Z) Z (zW Z Z Z (wT Z aT) Z cr (zW Z Z Z (wT Z aT) Z bM (zW Z Z Z (wT Z aT) Z bO ?_)))
 have q:=ey.el (fun _=>rfl) (wAV cB)
 obtain ⟨oK,o9,iZ,jf⟩:=q
 refine rU Z (wT Z aT) (Ze Z Z iZ Z zA zD (wCd cB)) (zy Z Z Z (wT Z aT) (bJ.ldC (f:=0) jf (v:=jV dQ) Z Z zO Z) Z ?_)
 have g8:=dz.le bL
 have g9:=g8.le bK
 have ib:=dA.le bL
 have ic:=ib.le bK
 have ie:=dB.le bL
 have ig:=ie.le bK
 refine bnK lJ fun pI ii lK=>zM 0 Z Z Z (wT Z aT) (zL Z Z Try.call62 (zB Z (zB Z (zB Z zS))) Z) bJ (fun hs=>wBw p0 aR aS bi bj bt bu p1 dQ fW cN hs g9 ic ig ii) (.inr Z) ?_
 rintro dR oc po fY m8 jt ⟨rfl,rfl⟩
 have ju:sW w U dR [.blk b6 44 B1,.blk b2 54 B0] fY:=jt
 refine zV Z Z Z (zE Z Z (congrArg nA (nB.2 ak.out))) (fun _=>zU Z (Zf aT.out) Z) (oR Z (zP Z (congrArg nA (nB.2 ak.out)) Z) (oA Z Z (zn (zp (zI (rR fL3 Z (oM Z bO (oR Z (ZI (zk Z Z Z) (congrArg (jV) dJ.out)) (oA Z Z (zn ?_))))))))))
 cases lK
 exact zI ⟨Z,⟨dR,Z,cr,ct,bM,cu,dq,dr,Z,(bK.trans m8),ju⟩⟩
 rintro pU oB ⟨dS,gX,bp,bq,gW,bk,bN,br,bw,dM,jw⟩
 have gT:Hid (¬ ((↑(((↑p3.length:Int):Int) - 0).toNat:Int) < (↑p3.length:Int))):=zN (wBi)
 refine zJ (sR fL4 Z (oM Z gX (oM Z gW (oR Z (zr Z Z zA) (oR Z (zo Z Z Z) (eN (cF Z gT (ZS (zq (zq (ZJ (zI (sR gBm Z (oR Z (ZM (pv:=[]) (z:=B1) (cs:=B1) Z wAo zw wBl Z Z) (zx (cs:=B1) Z Z Z Z Z zw Z jw ?_)))))))))))))))
 intro oG ai jx
 refine zt (j:=0) (vs:=B1) Z Z Z Z jx Z Z Z Z zH (zC Z) Z Z Z ?_
 intro dV jy
 have eK:sW w U dS [.blk ai 44 B1,.blk b6 44 B1,.blk b2 54 B0] dV:=jy
 refine eN (zJ (sR (wDw (.fx 3 .nil .stop)) Z (oL Z (eK.ldBA (j:=2) Z Z bk ZK zz (vs:=B0) Z Z) (oM Z bp (oM Z bq ?_)))))
 have ij:=dz.le bL
 have dt:=ij.le dM
 have ik:=dA.le bL
 have du:=ik.le dM
 have im:=dB.le bL
 have dw:=im.le dM
 refine bnK lF fun pJ io lL=>zM 0 Z Z Z Z (zL Z Z Try.call62 (zB Z (zB Z (zB Z zS))) Z) eK (fun hs=>wBw p0 aR aS bi bj bt bu p1 p2 dV dS hs dt du dw io) (.inr Z) ?_
 rintro cg od pp cq bS jz ⟨rfl,rfl⟩
 have dD:sW w U cg [.blk ai 44 B1,.blk b6 44 B1,.blk b2 54 B0] cq:=jz
 refine eN (ifc lL ?_ ?_)
 intro cX lN
 refine ZB (congrArg nA cX.out) (ZN ZO [3,1,3,3,1,3,1,3,3,1,3,3,0] (wLg (.fx 12 .nil .stop)) (by kernel_rfl) ?_)
 have bR:=dD.drew
 generalize hw_W207:({ cq with drawn:=cq.drawn + 1 }:World)=oH at bR ⊢
 refine oR Z (zK Z bk zY Z zZ) (oL Z (bR.ldB (j:=2) Z Z Z zd (v:=.slice aR p0.Shots.length aS) Z) (oM Z bp (bnK lN fun aY aX lO=>?_)))
 have cC:=dt.le bS
 have q:=cC.el (fun _=>rfl) (wAV aX)
 obtain ⟨oO,pa,i0,jg⟩:=q
 refine oR Z (ZP Z Z i0 Z zA zD (wBp aX) (wBs aX)) (oL Z (bR.ldC (f:=0) jg (v:=jV aY) Z Z zO Z) (oR Z (zK Z bk zY Z zZ) (oL Z (bR.ldB (j:=2) Z Z Z zd (v:=.slice bi p0.Down.length bj) Z) (oM Z bq (bnK lO fun bT dx lP=>?_)))))
 have ez:=du.le bS
 have q:=ez.el (fun _=>rfl) (wAV dx)
 obtain ⟨oP,pb,i5,jh⟩:=q
 refine oR Z (ZP Z Z i5 Z zA zD (wBp dx) (wBs dx)) (oL Z (bR.ldC (f:=0) jh (v:=jV bT) Z Z zO Z) (oR Z (Runs.min Z Z Z) (oR Z (zK Z Z zh Z zD) (zt (j:=0) (vs:=[jV (min aY bT)]) Z Z Z Z bR Z Z Z Z zD (zC Z) Z Z Z ?_))))
 intro dW jA
 let B2:List Value:=[jV 0,jV (min aY bT)]
 have eL:sW w U cg [.blk ai 44 B2,.blk b6 44 B1,.blk b2 54 B0] dW:=jA
 refine eN (sR (wDw gBg) Z (oL Z (eL.ldBA (j:=2) Z Z bk ZK zz (vs:=B0) Z Z) (oM Z br (oM Z bp ?_))))
 have iq:=dw.le bS
 refine bnK lP fun bz ir lR=>zM 0 Z Z Z Z (zL Z Z Try.call67 (zB Z (zB Z (zB Z (zB Z (zB Z zS))))) Z) eL (fun hs=>wCm p0 aR aS bi bj bt bu x65 p1 (-1) (-1) dW cg hs cC ez iq ir) (.inr Z) ?_
 rintro cO oe pq dX fQ jB ⟨rfl,rfl⟩
 have jC:sW w U cO [.blk ai 44 B2,.blk b6 44 B1,.blk b2 54 B0] dX:=jB
 refine oA Z Z (eN (zJ (bnK lR fun gR m6 lS=>yB (fun σ_ w_=>∃ (U_:PHeap),σ_ 1=jV p1/\σ_ 2=jV p2/\σ_ 4=.pointer (some ⟨b2,0,none⟩)/\σ_ 8=.pointer (some ⟨b6,0,none⟩)/\σ_ 11=jV x65/\σ_ 13=.bool fV/\σ_ 15=.pointer (some ⟨ai,0,none⟩)/\σ_ 16=jV bz/\σ_ 107=.bool gR/\PHeap.Le cO U_/\sW w U U_ [.blk ai 44 B2,.blk b6 44 B1,.blk b2 54 B0] w_) ?_ ?_)))
 refine rR (.fl 0 (.fl 1 (.fx 2 (wQW (.nil)) .stop))) Z (oM Z br (oM Z bq (bnK m6 fun pL it lT=>zM 0 Z Z Z Z (zL Z Z yF (zB Z (zB Z zS)) Z) jC (fun hs=>wBE x65 p2 dX cO hs it) (.inr Z) ?_)))
 rintro cj og pt fZ dO jD ⟨rfl,rfl⟩
 have dE:sW w U cj [.blk ai 44 B2,.blk b6 44 B1,.blk b2 54 B0] fZ:=jD
 refine oM Z Z (ifc lT ?_ ?_)
 intro bF lU
 refine zW Z Z Z (zE Z Z (congrArg nA bF.out)) Z bw (zV Z Z Z (zE Z Z (congrArg nA bF.out)) (fun _=>ZR Z Z) (oR Z (zU Z (congrArg nA bF.out) Z) (oM Z Z (ifc lU ?_ ?_))))
 intro bG lV
 refine zG Z Z Z (zF Z Z (nC bG.out) Z) (zG Z Z Z (zF Z Z (nC bG.out) Z) (oR Z (zP Z (nC bG.out) Z) (zn ?_)))
 cases lV
 exact zI ⟨Z,⟨cj,bp,bq,bk,bN,br,bw,Z,Z,Z,dO,dE⟩⟩
 intro bG lW
 refine zW Z Z Z (zE Z Z (nF (bG.out))) Z Z (zV Z Z Z (zE Z Z (nF (bG.out))) (fun _=>Zl Z Z Z) (oR Z (zU Z (nF (bG.out)) Z) (zn ?_)))
 have q:=nD lW
 obtain rfl:=q
 exact zI ⟨Z,⟨cj,bp,bq,bk,bN,br,bw,Z,Z,Z,dO,dE⟩⟩
 intro bF lX
 refine zG Z Z Z (zF Z Z (congrArg nA (nB.2 bF.out)) Z) (zG Z Z Z (zF Z Z (congrArg nA (nB.2 bF.out)) Z) (oR Z (zP Z (congrArg nA (nB.2 bF.out)) Z) (oM Z Z (oN Z (oN Z (oR Z (zP Z Z Z) (zn ?_)))))))
 cases lX
 exact zI ⟨Z,⟨cj,bp,bq,bk,bN,br,bw,Z,Z,Z,dO,dE⟩⟩
 rintro pV dY ⟨cP,cw,d9,cy,aU,eb,ed,aZ,bZ,ef,fR,eM⟩
 refine ifc lS ?_ ?_
 intro cY lY
 refine ZB (ef.trans (congrArg nA cY.out)) (rR gBh Z (oM Z bZ (oR Z (zK Z aZ zh Z zD) (zt (j:=0) (vs:=[jV bz]) Z Z Z Z eM Z Z Z Z zD (zC Z) Z Z Z ?_))))
 intro cS jE
 let B3:List Value:=[jV bz,jV (min aY bT)]
 have jG:sW w U cP [.blk ai 44 B3,.blk b6 44 B1,.blk b2 54 B0] cS:=jE
 refine eN (zJ (zJ (ZN ZO [3,3,2,3,3,3,3,3,3,1,3,3,1,3,3,3,1,3,3] (.fl 0 (.fl 1 (.fx 2 (wLh (.nil)) .stop))) (by kernel_rfl) ?_)))
 have eO:=jG.drew
 generalize hw_W281:({ cS with drawn:=cS.drawn + 1 }:World)=ga at eO ⊢
 refine oM Z eb (oM Z d9 (bnK lY fun pM iu lZ=>zM 0 Z Z Z Z (zL Z Z yF (zB Z (zB Z zS)) Z) eO (fun hs=>wBE x65 p2 ga cP hs iu) (.inr Z) ?_))
 rintro bl oi py gb m9 jJ ⟨rfl,rfl⟩
 have be:sW w U bl [.blk ai 44 B3,.blk b6 44 B1,.blk b2 54 B0] gb:=jJ
 refine oR Z (ZR Z Z) (oM Z Z (ifc lZ ?_ ?_))
 intro bV l3
 refine zG Z Z Z (zF Z Z (nC bV.out) Z) (oR Z (zP Z (nC bV.out) Z) (oM Z Z (oN Z (oN Z (oN Z (oN Z (oN Z (oN Z (oN Z (oN Z (oN Z (oN Z (oR Z (zP Z Z Z) (eN (zg Z (kN (sR gBl Z (oL Z (be.ldBA (j:=0) Z Z aZ zf zH (vs:=B3) Z Z) (zt (j:=1) (vs:=B3) Z Z Z Z be Z aU Z Z zH (zC Z) Z Z Z ?_)))))))))))))))))))
 intro gc jK
 have eP:sW w U bl [.blk ai 44 B3,.blk b6 44 B3,.blk b2 54 B0] gc:=jK
 refine oA Z Z (eN (zQ ?_))
 cases l3
 exact ⟨rfl,_,(wCZ (rs:=[.cell 8 44,.tmp 9]) (vs:=[.agg B3.toArray,jV 0]) ⟨⟨_,aU,(wBR zf zH (eP.blkAt (k:=1) rfl) (vs:=B3) rfl rfl)⟩,⟨rfl,trivial⟩⟩ rfl),bl,_,(eP.pick [] _ (by decide) rfl),rfl,rfl⟩
 intro bV l4
 refine zW Z Z Z (zE Z Z (nF (bV.out))) Z ed (oR Z (zU Z (nF (bV.out)) Z) (oM Z Z (ifc l4 ?_ ?_)))
 intro ap l5
 refine zV Z Z Z (zE Z Z (congrArg nA ap.out)) (fun _=>zK Z cy zY Z zZ) (zy Z Z Z (zE Z Z (congrArg nA ap.out)) (be.ldB (j:=2) Z Z Z zd (v:=.slice aR p0.Shots.length aS) Z) Z (zW Z Z Z (zE Z Z (congrArg nA ap.out)) Z cw ?_))
 have iv:=cC.le fQ
 have iw:=iv.le fR
 have eA:=iw.le m9
 have q:=eA.el (fun _=>rfl) (wAV aX)
 obtain ⟨oU,pc,i6,ji⟩:=q
 refine zV Z Z Z (zE Z Z (congrArg nA ap.out)) (fun _=>ZP Z Z i6 Z zA zD (wBp aX) (wBs aX)) (zy Z Z Z (zE Z Z (congrArg nA ap.out)) (be.ldC (f:=0) ji (v:=jV aY) Z Z zO Z) Z (zW Z Z Z (zE Z Z (congrArg nA ap.out)) Z bZ (zV Z Z Z (zE Z Z (congrArg nA ap.out)) (fun _=>ZG Z Z Z) (zV Z Z Z (zE Z Z (congrArg nA ap.out)) (fun _=>zK Z aZ zh Z zD) (zy Z Z Z (zE Z Z (congrArg nA ap.out)) (be.ldB (j:=0) Z Z Z zO (v:=jV (min aY bT)) Z) Z (zV Z Z Z (zE Z Z (congrArg nA ap.out)) (fun _=>zo Z Z Z) (oR Z (zU Z (congrArg nA ap.out) Z) (eN (ifc l5 ?_ ?_)))))))))
 intro cZ l6
 refine cT Z cZ (rR (wJF (.fx 8 .nil .stop)) Z (oR Z (zK Z cy zY Z zZ) (oL Z (be.ldB (j:=2) Z Z Z zd (v:=.slice aR p0.Shots.length aS) Z) (oM Z cw ?_))))
 have q:=eA.el (fun _=>rfl) (wAV aX)
 obtain ⟨oW,pe,i7,jj⟩:=q
 refine oR Z (ZP Z Z i7 Z zA zD (wBp aX) (wBs aX)) (oL Z (be.ldC (f:=0) jj (v:=jV aY) Z Z zO Z) (oM Z bZ (oR Z (ZG Z Z Z) (oR Z (zK Z aZ zh Z zD) (zt (j:=0) (vs:=[jV (w64 (aY - bz))]) Z Z Z Z be Z Z Z Z zD (zC Z) Z Z Z ?_)))))
 intro ge jM
 let B4:List Value:=[jV bz,jV (w64 (aY - bz))]
 have eQ:sW w U bl [.blk ai 44 B4,.blk b6 44 B1,.blk b2 54 B0] ge:=jM
 refine eN (sR gBl Z (oL Z (eQ.ldBA (j:=0) Z Z aZ zf zH (vs:=B4) Z Z) (zt (j:=1) (vs:=B4) Z Z Z Z eQ Z aU Z Z zH (zC Z) Z Z Z ?_)))
 intro gf jN
 have eT:sW w U bl [.blk ai 44 B4,.blk b6 44 B4,.blk b2 54 B0] gf:=jN
 refine oA Z Z (eN (zQ ?_))
 cases l6
 exact ⟨rfl,_,(wCZ (rs:=[.cell 8 44,.tmp 9]) (vs:=[.agg B4.toArray,jV 0]) ⟨⟨_,aU,(wBR zf zH (eT.blkAt (k:=1) rfl) (vs:=B4) rfl rfl)⟩,⟨rfl,trivial⟩⟩ rfl),bl,_,(eT.pick [] _ (by decide) rfl),rfl,rfl⟩
 intro cZ l7
 refine cF Z cZ (kN (sR gBl Z (oL Z (be.ldBA (j:=0) Z Z aZ zf zH (vs:=B3) Z Z) (zt (j:=1) (vs:=B3) Z Z Z Z be Z aU Z Z zH (zC Z) Z Z Z ?_))))
 intro gg jO
 have eU:sW w U bl [.blk ai 44 B3,.blk b6 44 B3,.blk b2 54 B0] gg:=jO
 refine oA Z Z (eN (zQ ?_))
 cases l7
 exact ⟨rfl,_,(wCZ (rs:=[.cell 8 44,.tmp 9]) (vs:=[.agg B3.toArray,jV 0]) ⟨⟨_,aU,(wBR zf zH (eU.blkAt (k:=1) rfl) (vs:=B3) rfl rfl)⟩,⟨rfl,trivial⟩⟩ rfl),bl,_,(eU.pick [] _ (by decide) rfl),rfl,rfl⟩
 intro ap l9
 refine zG Z Z Z (zF Z Z (congrArg nA (nB.2 ap.out)) Z) (zG Z Z Z (zF Z Z (congrArg nA (nB.2 ap.out)) Z) (zG Z Z Z (zF Z Z (congrArg nA (nB.2 ap.out)) Z) (zG Z Z Z (zF Z Z (congrArg nA (nB.2 ap.out)) Z) (zG Z Z Z (zF Z Z (congrArg nA (nB.2 ap.out)) Z) (zG Z Z Z (zF Z Z (congrArg nA (nB.2 ap.out)) Z) (zG Z Z Z (zF Z Z (congrArg nA (nB.2 ap.out)) Z) (zG Z Z Z (zF Z Z (congrArg nA (nB.2 ap.out)) Z) (zG Z Z Z (zF Z Z (congrArg nA (nB.2 ap.out)) Z) (zG Z Z Z (zF Z Z (congrArg nA (nB.2 ap.out)) Z) (oR Z (zP Z (congrArg nA (nB.2 ap.out)) Z) (eN (zg Z (kN (sR gBl Z (oL Z (be.ldBA (j:=0) Z Z aZ zf zH (vs:=B3) Z Z) (zt (j:=1) (vs:=B3) Z Z Z Z be Z aU Z Z zH (zC Z) Z Z Z ?_))))))))))))))))
 intro gh jP
 have eV:sW w U bl [.blk ai 44 B3,.blk b6 44 B3,.blk b2 54 B0] gh:=jP
 refine oA Z Z (eN (zQ ?_))
 cases l9
 exact ⟨rfl,_,(wCZ (rs:=[.cell 8 44,.tmp 9]) (vs:=[.agg B3.toArray,jV 0]) ⟨⟨_,aU,(wBR zf zH (eV.blkAt (k:=1) rfl) (vs:=B3) rfl rfl)⟩,⟨rfl,trivial⟩⟩ rfl),bl,_,(eV.pick [] _ (by decide) rfl),rfl,rfl⟩
 intro cY ma
 refine zg (ef.trans (congrArg nA (nB.2 cY.out))) (kN (zJ (zJ (ZN ZO [3,3,2,3,3,3,3,3,3,1,3,3,1,3,3,3,1,3,3] (.fl 0 (.fl 1 (.fx 2 (wLh (.nil)) .stop))) (by kernel_rfl) ?_))))
 have eW:=eM.drew
 generalize hw_W329:({ dY with drawn:=dY.drawn + 1 }:World)=gi at eW ⊢
 refine oM Z eb (oM Z d9 (bnK ma fun pN iy mb=>zM 0 Z Z Z Z (zL Z Z yF (zB Z (zB Z zS)) Z) eW (fun hs=>wBE x65 p2 gi cP hs iy) (.inr Z) ?_))
 rintro bm oj pz gm n5 jQ ⟨rfl,rfl⟩
 have bf:sW w U bm [.blk ai 44 B2,.blk b6 44 B1,.blk b2 54 B0] gm:=jQ
 refine oR Z (ZR Z Z) (oM Z Z (ifc mb ?_ ?_))
 intro bW md
 refine zG Z Z Z (zF Z Z (nC bW.out) Z) (oR Z (zP Z (nC bW.out) Z) (oM Z Z (oN Z (oN Z (oN Z (oN Z (oN Z (oN Z (oN Z (oN Z (oN Z (oN Z (oR Z (zP Z Z Z) (eN (zg Z (kN (sR gBl Z (oL Z (bf.ldBA (j:=0) Z Z aZ zf zH (vs:=B2) Z Z) (zt (j:=1) (vs:=B2) Z Z Z Z bf Z aU Z Z zH (zC Z) Z Z Z ?_)))))))))))))))))))
 intro gp jS
 have eX:sW w U bm [.blk ai 44 B2,.blk b6 44 B2,.blk b2 54 B0] gp:=jS
 refine oA Z Z (eN (zQ ?_))
 cases md
 exact ⟨rfl,_,(wCZ (rs:=[.cell 8 44,.tmp 9]) (vs:=[.agg B2.toArray,jV 0]) ⟨⟨_,aU,(wBR zf zH (eX.blkAt (k:=1) rfl) (vs:=B2) rfl rfl)⟩,⟨rfl,trivial⟩⟩ rfl),bm,_,(eX.pick [] _ (by decide) rfl),rfl,rfl⟩
 intro bW mf
 refine zW Z Z Z (zE Z Z (nF (bW.out))) Z ed (oR Z (zU Z (nF (bW.out)) Z) (oM Z Z (ifc mf ?_ ?_)))
 intro aq mg
 refine zV Z Z Z (zE Z Z (congrArg nA aq.out)) (fun _=>zK Z cy zY Z zZ) (zy Z Z Z (zE Z Z (congrArg nA aq.out)) (bf.ldB (j:=2) Z Z Z zd (v:=.slice aR p0.Shots.length aS) Z) Z (zW Z Z Z (zE Z Z (congrArg nA aq.out)) Z cw ?_))
 have iz:=cC.le fQ
 have iA:=iz.le fR
 have eC:=iA.le n5
 have q:=eC.el (fun _=>rfl) (wAV aX)
 obtain ⟨oX,pf,i8,jk⟩:=q
 refine zV Z Z Z (zE Z Z (congrArg nA aq.out)) (fun _=>ZP Z Z i8 Z zA zD (wBp aX) (wBs aX)) (zy Z Z Z (zE Z Z (congrArg nA aq.out)) (bf.ldC (f:=0) jk (v:=jV aY) Z Z zO Z) Z (zW Z Z Z (zE Z Z (congrArg nA aq.out)) Z bZ (zV Z Z Z (zE Z Z (congrArg nA aq.out)) (fun _=>ZG Z Z Z) (zV Z Z Z (zE Z Z (congrArg nA aq.out)) (fun _=>zK Z aZ zh Z zD) (zy Z Z Z (zE Z Z (congrArg nA aq.out)) (bf.ldB (j:=0) Z Z Z zO (v:=jV (min aY bT)) Z) Z (zV Z Z Z (zE Z Z (congrArg nA aq.out)) (fun _=>zo Z Z Z) (oR Z (zU Z (congrArg nA aq.out) Z) (eN (ifc mg ?_ ?_)))))))))
 intro da mh
 refine cT Z da (rR (wJF (.fx 8 .nil .stop)) Z (oR Z (zK Z cy zY Z zZ) (oL Z (bf.ldB (j:=2) Z Z Z zd (v:=.slice aR p0.Shots.length aS) Z) (oM Z cw ?_))))
 have q:=eC.el (fun _=>rfl) (wAV aX)
 obtain ⟨oY,pg,i9,jl⟩:=q
 refine oR Z (ZP Z Z i9 Z zA zD (wBp aX) (wBs aX)) (oL Z (bf.ldC (f:=0) jl (v:=jV aY) Z Z zO Z) (oM Z bZ (oR Z (ZG Z Z Z) (oR Z (zK Z aZ zh Z zD) (zt (j:=0) (vs:=[jV (w64 (aY - bz))]) Z Z Z Z bf Z Z Z Z zD (zC Z) Z Z Z ?_)))))
 intro gq jU
 let B5:List Value:=[jV 0,jV (w64 (aY - bz))]
 have eZ:sW w U bm [.blk ai 44 B5,.blk b6 44 B1,.blk b2 54 B0] gq:=jU
 refine eN (sR gBl Z (oL Z (eZ.ldBA (j:=0) Z Z aZ zf zH (vs:=B5) Z Z) (zt (j:=1) (vs:=B5) Z Z Z Z eZ Z aU Z Z zH (zC Z) Z Z Z ?_)))
 intro gt jW
 have e8:sW w U bm [.blk ai 44 B5,.blk b6 44 B5,.blk b2 54 B0] gt:=jW
 refine oA Z Z (eN (zQ ?_))
 cases mh
 exact ⟨rfl,_,(wCZ (rs:=[.cell 8 44,.tmp 9]) (vs:=[.agg B5.toArray,jV 0]) ⟨⟨_,aU,(wBR zf zH (e8.blkAt (k:=1) rfl) (vs:=B5) rfl rfl)⟩,⟨rfl,trivial⟩⟩ rfl),bm,_,(e8.pick [] _ (by decide) rfl),rfl,rfl⟩
 intro da mn
 refine cF Z da (kN (sR gBl Z (oL Z (bf.ldBA (j:=0) Z Z aZ zf zH (vs:=B2) Z Z) (zt (j:=1) (vs:=B2) Z Z Z Z bf Z aU Z Z zH (zC Z) Z Z Z ?_))))
 intro gu jX
 have e9:sW w U bm [.blk ai 44 B2,.blk b6 44 B2,.blk b2 54 B0] gu:=jX
 refine oA Z Z (eN (zQ ?_))
 cases mn
 exact ⟨rfl,_,(wCZ (rs:=[.cell 8 44,.tmp 9]) (vs:=[.agg B2.toArray,jV 0]) ⟨⟨_,aU,(wBR zf zH (e9.blkAt (k:=1) rfl) (vs:=B2) rfl rfl)⟩,⟨rfl,trivial⟩⟩ rfl),bm,_,(e9.pick [] _ (by decide) rfl),rfl,rfl⟩
 intro aq mp
 refine zG Z Z Z (zF Z Z (congrArg nA (nB.2 aq.out)) Z) (zG Z Z Z (zF Z Z (congrArg nA (nB.2 aq.out)) Z) (zG Z Z Z (zF Z Z (congrArg nA (nB.2 aq.out)) Z) (zG Z Z Z (zF Z Z (congrArg nA (nB.2 aq.out)) Z) (zG Z Z Z (zF Z Z (congrArg nA (nB.2 aq.out)) Z) (zG Z Z Z (zF Z Z (congrArg nA (nB.2 aq.out)) Z) (zG Z Z Z (zF Z Z (congrArg nA (nB.2 aq.out)) Z) (zG Z Z Z (zF Z Z (congrArg nA (nB.2 aq.out)) Z) (zG Z Z Z (zF Z Z (congrArg nA (nB.2 aq.out)) Z) (zG Z Z Z (zF Z Z (congrArg nA (nB.2 aq.out)) Z) (oR Z (zP Z (congrArg nA (nB.2 aq.out)) Z) (eN (zg Z (kN (sR gBl Z (oL Z (bf.ldBA (j:=0) Z Z aZ zf zH (vs:=B2) Z Z) (zt (j:=1) (vs:=B2) Z Z Z Z bf Z aU Z Z zH (zC Z) Z Z Z ?_))))))))))))))))
 intro gv jY
 have fb:sW w U bm [.blk ai 44 B2,.blk b6 44 B2,.blk b2 54 B0] gv:=jY
 refine oA Z Z (eN (zQ ?_))
 cases mp
 exact ⟨rfl,_,(wCZ (rs:=[.cell 8 44,.tmp 9]) (vs:=[.agg B2.toArray,jV 0]) ⟨⟨_,aU,(wBR zf zH (fb.blkAt (k:=1) rfl) (vs:=B2) rfl rfl)⟩,⟨rfl,trivial⟩⟩ rfl),bm,_,(fb.pick [] _ (by decide) rfl),rfl,rfl⟩
 intro cX mq
 refine zg (congrArg nA (nB.2 cX.out)) (kN (sR (wDw gBg) Z (oL Z (dD.ldBA (j:=2) Z Z bk ZK zz (vs:=B0) Z Z) (oM Z br (oM Z bp ?_)))))
 have dy:=dt.le bS
 have iB:=du.le bS
 have iC:=dw.le bS
 refine bnK mq fun bA iF mr=>zM 0 Z Z Z Z (zL Z Z Try.call67 (zB Z (zB Z (zB Z (zB Z (zB Z zS))))) Z) dD (fun hs=>wCm p0 aR aS bi bj bt bu x65 p1 (-1) (-1) cq cg hs dy iB iC iF) (.inr Z) ?_
 rintro cQ om pA d4 fS jZ ⟨rfl,rfl⟩
 have j0:sW w U cQ [.blk ai 44 B1,.blk b6 44 B1,.blk b2 54 B0] d4:=jZ
 refine oA Z Z (eN (zJ (bnK mr fun gS m7 mu=>yB (fun σ_ w_=>∃ (U_:PHeap),σ_ 1=jV p1/\σ_ 2=jV p2/\σ_ 4=.pointer (some ⟨b2,0,none⟩)/\σ_ 8=.pointer (some ⟨b6,0,none⟩)/\σ_ 11=jV x65/\σ_ 13=.bool fV/\σ_ 15=.pointer (some ⟨ai,0,none⟩)/\σ_ 16=jV bA/\σ_ 107=.bool gS/\PHeap.Le cQ U_/\sW w U U_ [.blk ai 44 B1,.blk b6 44 B1,.blk b2 54 B0] w_) ?_ ?_)))
 refine rR (.fl 0 (.fl 1 (.fx 2 (wQW (.nil)) .stop))) Z (oM Z br (oM Z bq (bnK m7 fun pO iG mw=>zM 0 Z Z Z Z (zL Z Z yF (zB Z (zB Z zS)) Z) j0 (fun hs=>wBE x65 p2 d4 cQ hs iG) (.inr Z) ?_)))
 rintro cm oq pC gw dP j5 ⟨rfl,rfl⟩
 have dG:sW w U cm [.blk ai 44 B1,.blk b6 44 B1,.blk b2 54 B0] gw:=j5
 refine oM Z Z (ifc mw ?_ ?_)
 intro bH my
 refine zW Z Z Z (zE Z Z (congrArg nA bH.out)) Z bw (zV Z Z Z (zE Z Z (congrArg nA bH.out)) (fun _=>ZR Z Z) (oR Z (zU Z (congrArg nA bH.out) Z) (oM Z Z (ifc my ?_ ?_))))
 intro bI mz
 refine zG Z Z Z (zF Z Z (nC bI.out) Z) (zG Z Z Z (zF Z Z (nC bI.out) Z) (oR Z (zP Z (nC bI.out) Z) (zn ?_)))
 cases mz
 exact zI ⟨Z,⟨cm,bp,bq,bk,bN,br,bw,Z,Z,Z,dP,dG⟩⟩
 intro bI mA
 refine zW Z Z Z (zE Z Z (nF (bI.out))) Z Z (zV Z Z Z (zE Z Z (nF (bI.out))) (fun _=>Zl Z Z Z) (oR Z (zU Z (nF (bI.out)) Z) (zn ?_)))
 have q:=nD mA
 obtain rfl:=q
 exact zI ⟨Z,⟨cm,bp,bq,bk,bN,br,bw,Z,Z,Z,dP,dG⟩⟩
 intro bH mB
 refine zG Z Z Z (zF Z Z (congrArg nA (nB.2 bH.out)) Z) (zG Z Z Z (zF Z Z (congrArg nA (nB.2 bH.out)) Z) (oR Z (zP Z (congrArg nA (nB.2 bH.out)) Z) (oM Z Z (oN Z (oN Z (oR Z (zP Z Z Z) (zn ?_)))))))
 cases mB
 exact zI ⟨Z,⟨cm,bp,bq,bk,bN,br,bw,Z,Z,Z,dP,dG⟩⟩
 rintro pW d5 ⟨cR,cz,ei,cA,aV,ej,en,ba,b5,eu,fT,fc⟩
 refine ifc mu ?_ ?_
 intro de mC
 refine ZB (eu.trans (congrArg nA de.out)) (rR gBh Z (oM Z b5 (oR Z (zK Z ba zh Z zD) (zt (j:=0) (vs:=[jV bA]) Z Z Z Z fc Z Z Z Z zD (zC Z) Z Z Z ?_))))
 intro cU j6
 let B6:List Value:=[jV bA,jV 0]
 have j7:sW w U cR [.blk ai 44 B6,.blk b6 44 B1,.blk b2 54 B0] cU:=j6
 refine eN (zJ (zJ (ZN ZO [3,3,2,3,3,3,3,3,3,1,3,3,1,3,3,3,1,3,3] (.fl 0 (.fl 1 (.fx 2 (wLh (.nil)) .stop))) (by kernel_rfl) ?_)))
 have fd:=j7.drew
 generalize hw_W432:({ cU with drawn:=cU.drawn + 1 }:World)=gx at fd ⊢
 refine oM Z ej (oM Z ei (bnK mC fun pP iH mD=>zM 0 Z Z Z Z (zL Z Z yF (zB Z (zB Z zS)) Z) fd (fun hs=>wBE x65 p2 gx cR hs iH) (.inr Z) ?_))
 rintro bn ou pE gy n6 j8 ⟨rfl,rfl⟩
 have bg:sW w U bn [.blk ai 44 B6,.blk b6 44 B1,.blk b2 54 B0] gy:=j8
 refine oR Z (ZR Z Z) (oM Z Z (ifc mD ?_ ?_))
 intro bX mE
 refine zG Z Z Z (zF Z Z (nC bX.out) Z) (oR Z (zP Z (nC bX.out) Z) (oM Z Z (oN Z (oN Z (oN Z (oN Z (oN Z (oN Z (oN Z (oN Z (oN Z (oN Z (oR Z (zP Z Z Z) (eN (zg Z (kN (sR gBl Z (oL Z (bg.ldBA (j:=0) Z Z ba zf zH (vs:=B6) Z Z) (zt (j:=1) (vs:=B6) Z Z Z Z bg Z aV Z Z zH (zC Z) Z Z Z ?_)))))))))))))))))))
 intro gz j9
 have ff:sW w U bn [.blk ai 44 B6,.blk b6 44 B6,.blk b2 54 B0] gz:=j9
 refine oA Z Z (eN (zQ ?_))
 cases mE
 exact ⟨rfl,_,(wCZ (rs:=[.cell 8 44,.tmp 9]) (vs:=[.agg B6.toArray,jV 0]) ⟨⟨_,aV,(wBR zf zH (ff.blkAt (k:=1) rfl) (vs:=B6) rfl rfl)⟩,⟨rfl,trivial⟩⟩ rfl),bn,_,(ff.pick [] _ (by decide) rfl),rfl,rfl⟩
 intro bX mF
 refine zW Z Z Z (zE Z Z (nF (bX.out))) Z en (oR Z (zU Z (nF (bX.out)) Z) (oM Z Z (ifc mF ?_ ?_)))
 intro au mG
 refine zV Z Z Z (zE Z Z (congrArg nA au.out)) (fun _=>zK Z cA zY Z zZ) (zy Z Z Z (zE Z Z (congrArg nA au.out)) (bg.ldB (j:=2) Z Z Z zd (v:=.slice aR p0.Shots.length aS) Z) Z (zW Z Z Z (zE Z Z (congrArg nA au.out)) Z cz (bnK mG fun cK bP mH=>?_)))
 have iI:=dy.le fS
 have iJ:=iI.le fT
 have eE:=iJ.le n6
 have q:=eE.el (fun _=>rfl) (wAV bP)
 obtain ⟨o0,ph,ja,jm⟩:=q
 refine zV Z Z Z (zE Z Z (congrArg nA au.out)) (fun _=>ZP Z Z ja Z zA zD (wBp bP) (wBs bP)) (zy Z Z Z (zE Z Z (congrArg nA au.out)) (bg.ldC (f:=0) jm (v:=jV cK) Z Z zO Z) Z (zW Z Z Z (zE Z Z (congrArg nA au.out)) Z b5 (zV Z Z Z (zE Z Z (congrArg nA au.out)) (fun _=>ZG Z Z Z) (zV Z Z Z (zE Z Z (congrArg nA au.out)) (fun _=>zK Z ba zh Z zD) (zy Z Z Z (zE Z Z (congrArg nA au.out)) (bg.ldB (j:=0) Z Z Z zO (v:=jV 0) Z) Z (zV Z Z Z (zE Z Z (congrArg nA au.out)) (fun _=>zo Z Z Z) (oR Z (zU Z (congrArg nA au.out) Z) (eN (ifc mH ?_ ?_)))))))))
 intro df mI
 refine cT Z df (rR (wJF (.fx 8 .nil .stop)) Z (oR Z (zK Z cA zY Z zZ) (oL Z (bg.ldB (j:=2) Z Z Z zd (v:=.slice aR p0.Shots.length aS) Z) (oM Z cz ?_))))
 have q:=eE.el (fun _=>rfl) (wAV bP)
 obtain ⟨o5,pi,jb,jo⟩:=q
 refine oR Z (ZP Z Z jb Z zA zD (wBp bP) (wBs bP)) (oL Z (bg.ldC (f:=0) jo (v:=jV cK) Z Z zO Z) (oM Z b5 (oR Z (ZG Z Z Z) (oR Z (zK Z ba zh Z zD) (zt (j:=0) (vs:=[jV (w64 (cK - bA))]) Z Z Z Z bg Z Z Z Z zD (zC Z) Z Z Z ?_)))))
 intro gA lg
 let B7:List Value:=[jV bA,jV (w64 (cK - bA))]
 have fg:sW w U bn [.blk ai 44 B7,.blk b6 44 B1,.blk b2 54 B0] gA:=lg
 refine eN (sR gBl Z (oL Z (fg.ldBA (j:=0) Z Z ba zf zH (vs:=B7) Z Z) (zt (j:=1) (vs:=B7) Z Z Z Z fg Z aV Z Z zH (zC Z) Z Z Z ?_)))
 intro gB lh
 have fh:sW w U bn [.blk ai 44 B7,.blk b6 44 B7,.blk b2 54 B0] gB:=lh
 refine oA Z Z (eN (zQ ?_))
 cases mI
 exact ⟨rfl,_,(wCZ (rs:=[.cell 8 44,.tmp 9]) (vs:=[.agg B7.toArray,jV 0]) ⟨⟨_,aV,(wBR zf zH (fh.blkAt (k:=1) rfl) (vs:=B7) rfl rfl)⟩,⟨rfl,trivial⟩⟩ rfl),bn,_,(fh.pick [] _ (by decide) rfl),rfl,rfl⟩
 intro df mJ
 refine cF Z df (kN (sR gBl Z (oL Z (bg.ldBA (j:=0) Z Z ba zf zH (vs:=B6) Z Z) (zt (j:=1) (vs:=B6) Z Z Z Z bg Z aV Z Z zH (zC Z) Z Z Z ?_))))
 intro gC li
 have fj:sW w U bn [.blk ai 44 B6,.blk b6 44 B6,.blk b2 54 B0] gC:=li
 refine oA Z Z (eN (zQ ?_))
 cases mJ
 exact ⟨rfl,_,(wCZ (rs:=[.cell 8 44,.tmp 9]) (vs:=[.agg B6.toArray,jV 0]) ⟨⟨_,aV,(wBR zf zH (fj.blkAt (k:=1) rfl) (vs:=B6) rfl rfl)⟩,⟨rfl,trivial⟩⟩ rfl),bn,_,(fj.pick [] _ (by decide) rfl),rfl,rfl⟩
 intro au mK
 refine zG Z Z Z (zF Z Z (congrArg nA (nB.2 au.out)) Z) (zG Z Z Z (zF Z Z (congrArg nA (nB.2 au.out)) Z) (zG Z Z Z (zF Z Z (congrArg nA (nB.2 au.out)) Z) (zG Z Z Z (zF Z Z (congrArg nA (nB.2 au.out)) Z) (zG Z Z Z (zF Z Z (congrArg nA (nB.2 au.out)) Z) (zG Z Z Z (zF Z Z (congrArg nA (nB.2 au.out)) Z) (zG Z Z Z (zF Z Z (congrArg nA (nB.2 au.out)) Z) (zG Z Z Z (zF Z Z (congrArg nA (nB.2 au.out)) Z) (zG Z Z Z (zF Z Z (congrArg nA (nB.2 au.out)) Z) (zG Z Z Z (zF Z Z (congrArg nA (nB.2 au.out)) Z) (oR Z (zP Z (congrArg nA (nB.2 au.out)) Z) (eN (zg Z (kN (sR gBl Z (oL Z (bg.ldBA (j:=0) Z Z ba zf zH (vs:=B6) Z Z) (zt (j:=1) (vs:=B6) Z Z Z Z bg Z aV Z Z zH (zC Z) Z Z Z ?_))))))))))))))))
 intro gD lj
 have fm:sW w U bn [.blk ai 44 B6,.blk b6 44 B6,.blk b2 54 B0] gD:=lj
 refine oA Z Z (eN (zQ ?_))
 cases mK
 exact ⟨rfl,_,(wCZ (rs:=[.cell 8 44,.tmp 9]) (vs:=[.agg B6.toArray,jV 0]) ⟨⟨_,aV,(wBR zf zH (fm.blkAt (k:=1) rfl) (vs:=B6) rfl rfl)⟩,⟨rfl,trivial⟩⟩ rfl),bn,_,(fm.pick [] _ (by decide) rfl),rfl,rfl⟩
 intro de mM
 refine zg (eu.trans (congrArg nA (nB.2 de.out))) (kN (zJ (zJ (ZN ZO [3,3,2,3,3,3,3,3,3,1,3,3,1,3,3,3,1,3,3] (.fl 0 (.fl 1 (.fx 2 (wLh (.nil)) .stop))) (by kernel_rfl) ?_))))
 have ft:=fc.drew
 generalize hw_W483:({ d5 with drawn:=d5.drawn + 1 }:World)=gE at ft ⊢
 refine oM Z ej (oM Z ei (bnK mM fun pQ iK mN=>zM 0 Z Z Z Z (zL Z Z yF (zB Z (zB Z zS)) Z) ft (fun hs=>wBE x65 p2 gE cR hs iK) (.inr Z) ?_))
 rintro bo ow pF gG n7 lm ⟨rfl,rfl⟩
 have bh:sW w U bo [.blk ai 44 B1,.blk b6 44 B1,.blk b2 54 B0] gG:=lm
 refine oR Z (ZR Z Z) (oM Z Z (ifc mN ?_ ?_))
 intro bY mO
 refine zG Z Z Z (zF Z Z (nC bY.out) Z) (oR Z (zP Z (nC bY.out) Z) (oM Z Z (oN Z (oN Z (oN Z (oN Z (oN Z (oN Z (oN Z (oN Z (oN Z (oN Z (oR Z (zP Z Z Z) (eN (zg Z (kN (sR gBl Z (oL Z (bh.ldBA (j:=0) Z Z ba zf zH (vs:=B1) Z Z) (zt (j:=1) (vs:=B1) Z Z Z Z bh Z aV Z Z zH (zC Z) Z Z Z ?_)))))))))))))))))))
 intro gH lp
 have fu:sW w U bo [.blk ai 44 B1,.blk b6 44 B1,.blk b2 54 B0] gH:=lp
 refine oA Z Z (eN (zQ ?_))
 cases mO
 exact ⟨rfl,_,(wCZ (rs:=[.cell 8 44,.tmp 9]) (vs:=[.agg B1.toArray,jV 0]) ⟨⟨_,aV,(wBR zf zH (fu.blkAt (k:=1) rfl) (vs:=B1) rfl rfl)⟩,⟨rfl,trivial⟩⟩ rfl),bo,_,(fu.pick [] _ (by decide) rfl),rfl,rfl⟩
 intro bY mP
 refine zW Z Z Z (zE Z Z (nF (bY.out))) Z en (oR Z (zU Z (nF (bY.out)) Z) (oM Z Z (ifc mP ?_ ?_)))
 intro av mQ
 refine zV Z Z Z (zE Z Z (congrArg nA av.out)) (fun _=>zK Z cA zY Z zZ) (zy Z Z Z (zE Z Z (congrArg nA av.out)) (bh.ldB (j:=2) Z Z Z zd (v:=.slice aR p0.Shots.length aS) Z) Z (zW Z Z Z (zE Z Z (congrArg nA av.out)) Z cz (bnK mQ fun cM bQ mR=>?_)))
 have iL:=dy.le fS
 have iM:=iL.le fT
 have eF:=iM.le n7
 have q:=eF.el (fun _=>rfl) (wAV bQ)
 obtain ⟨o6,pj,jc,jp⟩:=q
 refine zV Z Z Z (zE Z Z (congrArg nA av.out)) (fun _=>ZP Z Z jc Z zA zD (wBp bQ) (wBs bQ)) (zy Z Z Z (zE Z Z (congrArg nA av.out)) (bh.ldC (f:=0) jp (v:=jV cM) Z Z zO Z) Z (zW Z Z Z (zE Z Z (congrArg nA av.out)) Z b5 (zV Z Z Z (zE Z Z (congrArg nA av.out)) (fun _=>ZG Z Z Z) (zV Z Z Z (zE Z Z (congrArg nA av.out)) (fun _=>zK Z ba zh Z zD) (zy Z Z Z (zE Z Z (congrArg nA av.out)) (bh.ldB (j:=0) Z Z Z zO (v:=jV 0) Z) Z (zV Z Z Z (zE Z Z (congrArg nA av.out)) (fun _=>zo Z Z Z) (oR Z (zU Z (congrArg nA av.out) Z) (eN (ifc mR ?_ ?_)))))))))
 intro dh mS
 refine cT Z dh (rR (wJF (.fx 8 .nil .stop)) Z (oR Z (zK Z cA zY Z zZ) (oL Z (bh.ldB (j:=2) Z Z Z zd (v:=.slice aR p0.Shots.length aS) Z) (oM Z cz ?_))))
 have q:=eF.el (fun _=>rfl) (wAV bQ)
 obtain ⟨o7,pk,jd,jq⟩:=q
 refine oR Z (ZP Z Z jd Z zA zD (wBp bQ) (wBs bQ)) (oL Z (bh.ldC (f:=0) jq (v:=jV cM) Z Z zO Z) (oM Z b5 (oR Z (ZG Z Z Z) (oR Z (zK Z ba zh Z zD) (zt (j:=0) (vs:=[jV (w64 (cM - bA))]) Z Z Z Z bh Z Z Z Z zD (zC Z) Z Z Z ?_)))))
 intro gJ ls
 let B8:List Value:=[jV 0,jV (w64 (cM - bA))]
 have fy:sW w U bo [.blk ai 44 B8,.blk b6 44 B1,.blk b2 54 B0] gJ:=ls
 refine eN (sR gBl Z (oL Z (fy.ldBA (j:=0) Z Z ba zf zH (vs:=B8) Z Z) (zt (j:=1) (vs:=B8) Z Z Z Z fy Z aV Z Z zH (zC Z) Z Z Z ?_)))
 intro gK lu
 have fz:sW w U bo [.blk ai 44 B8,.blk b6 44 B8,.blk b2 54 B0] gK:=lu
 refine oA Z Z (eN (zQ ?_))
 cases mS
 exact ⟨rfl,_,(wCZ (rs:=[.cell 8 44,.tmp 9]) (vs:=[.agg B8.toArray,jV 0]) ⟨⟨_,aV,(wBR zf zH (fz.blkAt (k:=1) rfl) (vs:=B8) rfl rfl)⟩,⟨rfl,trivial⟩⟩ rfl),bo,_,(fz.pick [] _ (by decide) rfl),rfl,rfl⟩
 intro dh mU
 refine cF Z dh (kN (sR gBl Z (oL Z (bh.ldBA (j:=0) Z Z ba zf zH (vs:=B1) Z Z) (zt (j:=1) (vs:=B1) Z Z Z Z bh Z aV Z Z zH (zC Z) Z Z Z ?_))))
 intro gL lv
 have fA:sW w U bo [.blk ai 44 B1,.blk b6 44 B1,.blk b2 54 B0] gL:=lv
 refine oA Z Z (eN (zQ ?_))
 cases mU
 exact ⟨rfl,_,(wCZ (rs:=[.cell 8 44,.tmp 9]) (vs:=[.agg B1.toArray,jV 0]) ⟨⟨_,aV,(wBR zf zH (fA.blkAt (k:=1) rfl) (vs:=B1) rfl rfl)⟩,⟨rfl,trivial⟩⟩ rfl),bo,_,(fA.pick [] _ (by decide) rfl),rfl,rfl⟩
 intro av mV
 refine zG Z Z Z (zF Z Z (congrArg nA (nB.2 av.out)) Z) (zG Z Z Z (zF Z Z (congrArg nA (nB.2 av.out)) Z) (zG Z Z Z (zF Z Z (congrArg nA (nB.2 av.out)) Z) (zG Z Z Z (zF Z Z (congrArg nA (nB.2 av.out)) Z) (zG Z Z Z (zF Z Z (congrArg nA (nB.2 av.out)) Z) (zG Z Z Z (zF Z Z (congrArg nA (nB.2 av.out)) Z) (zG Z Z Z (zF Z Z (congrArg nA (nB.2 av.out)) Z) (zG Z Z Z (zF Z Z (congrArg nA (nB.2 av.out)) Z) (zG Z Z Z (zF Z Z (congrArg nA (nB.2 av.out)) Z) (zG Z Z Z (zF Z Z (congrArg nA (nB.2 av.out)) Z) (oR Z (zP Z (congrArg nA (nB.2 av.out)) Z) (eN (zg Z (kN (sR gBl Z (oL Z (bh.ldBA (j:=0) Z Z ba zf zH (vs:=B1) Z Z) (zt (j:=1) (vs:=B1) Z Z Z Z bh Z aV Z Z zH (zC Z) Z Z Z ?_))))))))))))))))
 intro gM lw
 have fB:sW w U bo [.blk ai 44 B1,.blk b6 44 B1,.blk b2 54 B0] gM:=lw
 refine oA Z Z (eN (zQ ?_))
 cases mV
 exact ⟨rfl,_,(wCZ (rs:=[.cell 8 44,.tmp 9]) (vs:=[.agg B1.toArray,jV 0]) ⟨⟨_,aV,(wBR zf zH (fB.blkAt (k:=1) rfl) (vs:=B1) rfl rfl)⟩,⟨rfl,trivial⟩⟩ rfl),bo,_,(fB.pick [] _ (by decide) rfl),rfl,rfl⟩
 intro dp mW
 refine ZB (nF (dp.out)) (sR gBl Z (oR Z (ZM (pv:=[]) (z:=B1) (cs:=B1) Z wAo zw wBl Z Z) (zt (j:=0) (vs:=B1) Z Z Z Z fH Z Z Z Z zH (zC Z) Z Z Z ?_)))
 intro gN lx
 have fC:sW w U bU [.blk b6 44 B1,.blk b2 54 B0] gN:=lx
 refine oA Z Z (eN (zQ (ze ?_)))
 cases mW
 exact ⟨rfl,_,(wCZ (rs:=[.cell 8 44,.tmp 9]) (vs:=[.agg B1.toArray,jV 7]) ⟨⟨_,rfl,(wBR zf zH (fC.blkAt (k:=0) rfl) (vs:=B1) rfl rfl)⟩,⟨rfl,trivial⟩⟩ rfl),bU,_,(fC.pick [] _ (by decide) rfl),rfl,rfl⟩
 intro dm mX
 refine cT Z dm (sR gBq Z (oR Z (ZM (pv:=[]) (z:=B1) (cs:=B1) Z wAo zw wBl Z Z) (oM Z Z (zt (j:=0) (vs:=B1) Z Z Z Z dI Z Z Z Z zH (zC Z) Z Z Z ?_))))
 intro gO ly
 have fD:sW w U cp [.blk b6 44 B1,.blk b2 54 B0] gO:=ly
 refine oA Z Z (eN (zQ (ze ?_)))
 cases mX
 exact ⟨rfl,_,(wCZ (rs:=[.cell 8 44,.tmp 9]) (vs:=[.agg B1.toArray,jV fU]) ⟨⟨_,rfl,(wBR zf zH (fD.blkAt (k:=0) rfl) (vs:=B1) rfl rfl)⟩,⟨rfl,trivial⟩⟩ rfl),cp,_,(fD.pick [] _ (by decide) rfl),rfl,rfl⟩
 intro cW mY
 refine cT Z cW (sR gBq Z (oR Z (ZM (pv:=[]) (z:=B1) (cs:=B1) Z wAo zw wBl Z Z) (oM Z Z (zt (j:=0) (vs:=B1) Z Z Z Z dC Z Z Z Z zH (zC Z) Z Z Z ?_))))
 intro gP lz
 have fE:sW w U cf [.blk b6 44 B1,.blk b2 54 B0] gP:=lz
 refine oA Z Z (eN (zQ (ze ?_)))
 cases mY
 exact ⟨rfl,_,(wCZ (rs:=[.cell 8 44,.tmp 9]) (vs:=[.agg B1.toArray,jV x9]) ⟨⟨_,rfl,(wBR zf zH (fE.blkAt (k:=0) rfl) (vs:=B1) rfl rfl)⟩,⟨rfl,trivial⟩⟩ rfl),cf,_,(fE.pick [] _ (by decide) rfl),rfl,rfl⟩
end Go.Proofs.Ytfcmijinklojbaa
namespace Go.Proofs.Ytfcmijinklojbaa
open Go.KL
set_option maxHeartbeats 4000000
theorem wEt (p0:Int) (p1:wAF) (ap:Nat) (ai:Nat) (ak:Option Addr) (aq:Nat) (ae:Option Addr) (ah:Nat) (am:Option Addr) (au:Nat) (av:Nat) (aW:Array MapEntry) (aX:Nat) (w:World) (U:PHeap) (hS:St0 w U []) (aT:Cl U ap 0 [.pointer (some ⟨ai,0,none⟩)]) (aU:Cl U ai 0 ([.slice ak p1.Bout.Shots.length aq,.slice ae p1.Bout.Down.length ah,.slice am p1.Bout.Across.length au,.map (some av)] ++ ((hH KL.encI p1.hits.l) ++ ((hH KL.encI p1.used.l) ++ (hH KL.encT p1.met.l))))) (aZ:Sl U 1 ak aq p1.Bout.Shots.length (hH KL.encI p1.Bout.Shots)) (ba:Sl U 1 ae ah p1.Bout.Down.length (hH KL.encI p1.Bout.Down)) (bb:Sl U 2 am au p1.Bout.Across.length (hH wAA p1.Bout.Across)) (be:MpF U av aW aX wGP wGg p1.may) {r:Bool} (hm:wBB p0 p1=some r):Gv Try.prog 96 [jV p0,.pointer (some ⟨ap,0,none⟩)] w (wCt w [] U (fun U_ L_ v=>v=.bool r/\L_=[])):=by
 unfold wBB at hm
 refine Gv.of Try.func96 Z Try.ntmps96 Try.results96 Z (sR fL1 Z (oA Z Z (eN (sR (wJF (.fx 8 (.fl 9 .nil) .stop)) Z (oM Z Z (oL Z (hS.ldC (f:=0) aT (v:=.pointer (some ⟨ai,0,none⟩)) Z Z ZX Z) (oR Z (ZQ Z Z) (oR Z (zK Z Z zj Z zu) (oR Z (zK Z Z zR Z zZ) (oL Z (hS.ldC (f:=1) aU (v:=.slice ae p1.Bout.Down.length ah) Z Z zd Z) (oR Z (zr Z Z zA) (oR Z (ZG Z Z Z) (bnK hm fun x1 h2 aV=>zM 0 Z Z Z Z (zL Z Z Zu (zB Z (zB Z (zB Z zS))) Z) hS (fun hs=>wAq p0 0 (w64 ((↑p1.Bout.Down.length:Int) - 1)) w U hs h2) (.inr Z) ?_)))))))))))))
 rintro U4 L5 v6 W7 bf aS ⟨rfl,rfl⟩
 have aR:sW w U U4 [] W7:=aS
 refine oA Z Z (eN (zQ ?_))
 have hE:=nD aV;first | subst r | cases hE
 exact ⟨Z,_,(ZD Z),U4,_,aR,Z,Z⟩
theorem wFY (p0:wAF) (ae:Nat) (ah:Option Addr) (ak:Nat) (ai:Option Addr) (am:Nat) (aj:Option Addr) (ap:Nat) (ab:Nat) (aq:Array MapEntry) (au:Nat) (p1:List Int) (be:Option Addr) (bf:Nat) (w:World) (U:PHeap) (hS:St0 w U [.blk ae 99 ([.slice ah p0.Bout.Shots.length ak,.slice ai p0.Bout.Down.length am,.slice aj p0.Bout.Across.length ap,.map (some ab)] ++ ((hH KL.encI p0.hits.l) ++ ((hH KL.encI p0.used.l) ++ (hH KL.encT p0.met.l)))),.obj ab (.map aq au)]) (cH:Sl U 1 ah ak p0.Bout.Shots.length (hH KL.encI p0.Bout.Shots)) (cI:Sl U 1 ai am p0.Bout.Down.length (hH KL.encI p0.Bout.Down)) (cJ:Sl U 2 aj ap p0.Bout.Across.length (hH wAA p0.Bout.Across)) (cK:MpR aq wGP wGg p0.may) (bw:Sl U 1 be bf p1.length (hH KL.encI p1)) {r:Int} (hm:wCE p0 p1=some r):Gv Try.prog 71 [.pointer (some ⟨ae,0,none⟩),.slice be p1.length bf] w (wCt w [.blk ae 99 ([.slice ah p0.Bout.Shots.length ak,.slice ai p0.Bout.Down.length am,.slice aj p0.Bout.Across.length ap,.map (some ab)] ++ ((hH KL.encI p0.hits.l) ++ ((hH KL.encI p0.used.l) ++ (hH KL.encT p0.met.l)))),.obj ab (.map aq au)] U (fun U_ L_ v=>v=jV r/\L_=[.blk ae 99 ([.slice ah p0.Bout.Shots.length ak,.slice ai p0.Bout.Down.length am,.slice aj p0.Bout.Across.length ap,.map (some ab)] ++ ((hH KL.encI p0.hits.l) ++ ((hH KL.encI p0.used.l) ++ (hH KL.encT p0.met.l)))),.obj ab (.map aq au)])):=by
 unfold wCE at hm
 refine Gv.of Try.func71 Z Try.ntmps71 Try.results71 Z (sR gAz Z ?_)
 let B0:List Value:=[.pointer (some ⟨ae,0,none⟩)]
 refine ZY (cs:=B0) rfl rfl rfl rfl rfl rfl (by rfl) hS ?_
 intro W3 b4 cB
 have q:=cB.freeze (k:=0) rfl
 obtain ⟨U7,aW,aS,cp⟩:=q
 replace aS:=Cl.of aS
 have cq:SW w [.blk ae 99 ([.slice ah p0.Bout.Shots.length ak,.slice ai p0.Bout.Down.length am,.slice aj p0.Bout.Across.length ap,.map (some ab)] ++ ((hH KL.encI p0.hits.l) ++ ((hH KL.encI p0.used.l) ++ (hH KL.encT p0.met.l)))),.obj ab (.map aq au)] U U7 [.blk ae 99 ([.slice ah p0.Bout.Shots.length ak,.slice ai p0.Bout.Down.length am,.slice aj p0.Bout.Across.length ap,.map (some ab)] ++ ((hH KL.encI p0.hits.l) ++ ((hH KL.encI p0.used.l) ++ (hH KL.encT p0.met.l)))),.obj ab (.map aq au)] W3:=cp
 replace aS:Cl U7 b4 0 B0:=aS
 refine oA Z Z (eN (zJ (sR gBq Z (oM Z Z (oR Z (Runs.mkf Z zS (zB Z zS)) ?_)))))
 have q:=cq.freezeMT (k:=1) rfl cK
 obtain ⟨bE,aV,cO,ct,df⟩:=q
 have cu:SW w [.blk ae 99 ([.slice ah p0.Bout.Shots.length ak,.slice ai p0.Bout.Down.length am,.slice aj p0.Bout.Across.length ap,.map (some ab)] ++ ((hH KL.encI p0.hits.l) ++ ((hH KL.encI p0.used.l) ++ (hH KL.encT p0.met.l)))),.obj ab (.map aq au)] U bE [.blk ae 99 ([.slice ah p0.Bout.Shots.length ak,.slice ai p0.Bout.Down.length am,.slice aj p0.Bout.Across.length ap,.map (some ab)] ++ ((hH KL.encI p0.hits.l) ++ ((hH KL.encI p0.used.l) ++ (hH KL.encT p0.met.l))))] W3:=ct
 have q:=cu.freezeTB (k:=0) rfl
 obtain ⟨aX,az,aR,cw,dg⟩:=q
 replace aR:=Cl.of aR
 have cy:SW w [.blk ae 99 ([.slice ah p0.Bout.Shots.length ak,.slice ai p0.Bout.Down.length am,.slice aj p0.Bout.Across.length ap,.map (some ab)] ++ ((hH KL.encI p0.hits.l) ++ ((hH KL.encI p0.used.l) ++ (hH KL.encT p0.met.l)))),.obj ab (.map aq au)] U aX [] W3:=cw
 replace aR:Cl aX ae 0 ([.slice ah p0.Bout.Shots.length ak,.slice ai p0.Bout.Down.length am,.slice aj p0.Bout.Across.length ap,.map (some ab)] ++ ((hH KL.encI p0.hits.l) ++ ((hH KL.encI p0.used.l) ++ (hH KL.encT p0.met.l)))):=aR
 have bL:=bw.le aW
 have bM:=bL.le aV
 have bN:=bM.le az
 have bO:=aS.le aV
 have bP:=bO.le az
 have bQ:=cH.le aW
 have bR:=bQ.le aV
 have bS:=bR.le az
 have bT:=cI.le aW
 have bU:=bT.le aV
 have bV:=bU.le az
 have bW:=cJ.le aW
 have bX:=bW.le aV
 have bY:=bX.le az
 have bZ:=cO.le az
 have cn:FnOK Try.prog aX (.func (.func 96) #[] #[.pointer (some ⟨b4,0,none⟩)]) wLR wOE (fun x=>wBB x p0):=⟨96,[],[.pointer (some ⟨b4,0,none⟩)],rfl,Try.call96,fun U1 w1 x y vs le hs ha hm=>by obtain rfl:=ha;exact wEt x p0 b4 ae ah ak ai am aj ap ab aq au w1 U1 hs (bP.le le) (aR.le le) (bS.le le) (bV.le le) (bY.le le) (bZ.le le) hm⟩
 refine bnK hm fun dC b5 cV=>zM 0 Z Z Z Z (zL Z Z Try.call79 (zB Z (zB Z zS)) Z) cy (fun hs=>wDh p1 be bf (fun x=>wBB x p0) (.func (.func 96) #[] #[.pointer (some ⟨b4,0,none⟩)]) W3 aX hs bN cn b5) (.inr Z) ?_
 rintro bF dq dB bg cZ cz ⟨rfl,rfl⟩
 have cA:SW w [.blk ae 99 ([.slice ah p0.Bout.Shots.length ak,.slice ai p0.Bout.Down.length am,.slice aj p0.Bout.Across.length ap,.map (some ab)] ++ ((hH KL.encI p0.hits.l) ++ ((hH KL.encI p0.used.l) ++ (hH KL.encT p0.met.l)))),.obj ab (.map aq au)] U bF [] bg:=cz
 have q:=dg _ _ _ cZ cA
 obtain ⟨bG,da,cC⟩:=q
 have cD:SW w [.blk ae 99 ([.slice ah p0.Bout.Shots.length ak,.slice ai p0.Bout.Down.length am,.slice aj p0.Bout.Across.length ap,.map (some ab)] ++ ((hH KL.encI p0.hits.l) ++ ((hH KL.encI p0.used.l) ++ (hH KL.encT p0.met.l)))),.obj ab (.map aq au)] U bG [.blk ae 99 ([.slice ah p0.Bout.Shots.length ak,.slice ai p0.Bout.Down.length am,.slice aj p0.Bout.Across.length ap,.map (some ab)] ++ ((hH KL.encI p0.hits.l) ++ ((hH KL.encI p0.used.l) ++ (hH KL.encT p0.met.l))))] bg:=cC
 have q:=df _ _ _ da cD
 obtain ⟨aY,de,cE⟩:=q
 have bv:SW w [.blk ae 99 ([.slice ah p0.Bout.Shots.length ak,.slice ai p0.Bout.Down.length am,.slice aj p0.Bout.Across.length ap,.map (some ab)] ++ ((hH KL.encI p0.hits.l) ++ ((hH KL.encI p0.used.l) ++ (hH KL.encT p0.met.l)))),.obj ab (.map aq au)] U aY [.obj ab (.map aq au),.blk ae 99 ([.slice ah p0.Bout.Shots.length ak,.slice ai p0.Bout.Down.length am,.slice aj p0.Bout.Across.length ap,.map (some ab)] ++ ((hH KL.encI p0.hits.l) ++ ((hH KL.encI p0.used.l) ++ (hH KL.encT p0.met.l))))] bg:=cE
 refine oR Z (ZR Z Z) (eN (ifc cV ?_ ?_))
 intro bh bo
 refine zg (nC bh.out) (kN (zJ (sR fL1 Z (oA Z Z (eN (zi ?_))))))
 have q:=wDL bo
 obtain ⟨dA,bl⟩:=q
 have q:=wDK bl
 obtain ⟨bn,cP⟩:=q
 replace bn:=zN bn
 refine yD (fun aU _ σ_ w_=>∃ (U_:PHeap),σ_ 5=jV (1 + ↑aU:Int)/\σ_ 1=.slice be p1.length bf/\PHeap.Le aY U_/\SW w [.blk ae 99 ([.slice ah p0.Bout.Shots.length ak,.slice ai p0.Bout.Down.length am,.slice aj p0.Bout.Across.length ap,.map (some ab)] ++ ((hH KL.encI p0.hits.l) ++ ((hH KL.encI p0.used.l) ++ (hH KL.encT p0.met.l)))),.obj ab (.map aq au)] U U_ [.obj ab (.map aq au),.blk ae 99 ([.slice ah p0.Bout.Shots.length ak,.slice ai p0.Bout.Down.length am,.slice aj p0.Bout.Across.length ap,.map (some ab)] ++ ((hH KL.encI p0.hits.l) ++ ((hH KL.encI p0.used.l) ++ (hH KL.encT p0.met.l))))] w_) cP ?_ ?_ ?_
 exact ⟨aY,Z,Z,(zX _),bv⟩
 rintro aU ⟨⟩ dD dF bs bm ⟨br,bb,ba,bB,cG⟩ bA cN
 try dsimp only at bA
 have bt:Hid ((1 + ↑aU:Int) < (↑p1.length:Int)):=zN (lp_lt bm)
 replace bm:=zN bm
 have cQ:Hid (w64 ((1 + ↑aU:Int) + 1)=(1 + ↑(aU + 1):Int)):=zN (by have h1:=bn.out;have h2:=bt.out;rw [wAM] <;> omega)
 refine zJ (sR fL4 rfl (zW rfl rfl rfl rfl rfl bb (zW rfl rfl rfl rfl rfl ba (zV rfl rfl rfl rfl (fun _=>zr rfl rfl zA) (zV rfl rfl rfl rfl (fun _=>zo rfl rfl rfl) (eN (cT Z bt (kN (zJ (zi (zJ (ZN ZO [3,3,3,1,3,3,3,3,1,3] fL10 (by kernel_rfl) ?_))))))))))))
 have aT:=cG.drew
 generalize hw_W80:({ bs with drawn:=bs.drawn + 1 }:World)=dt at aT ⊢
 refine oM Z ba (oM Z bb (bnK bA fun dp bj cW=>?_))
 have b9:=bw.le aW
 have cf:=b9.le de
 have bu:=cf.le bB
 have q:=bu.el (fun _=>rfl) (wAV bj)
 obtain ⟨du,dy,cg,cj⟩:=q
 refine oR Z (ZP Z Z cg Z zA zD (wBp bj) (wBs bj)) (oL Z (aT.ldC (f:=0) cj (v:=jV dp) Z Z zO Z) (oM Z ba (oM Z bb (oR Z (ZG Z Z Z) (bnK cW fun x91 bk cX=>?_)))))
 have q:=bu.el (fun _=>rfl) (wAV bk)
 obtain ⟨dw,dz,ci,cm⟩:=q
 refine oR Z (ZP Z Z ci Z zA zD (wBp bk) (wBs bk)) (oL Z (aT.ldC (f:=0) cm (v:=jV x91) Z Z zO Z) (oR Z (Runs.leq Z Z Z) (eN (ifc cX ?_ ?_))))
 intro bi cY
 refine cT Z bi (sR fL1 Z (oA Z Z (eN (zQ (ZE (ze ?_))))))
 have q:=wAj cY
 obtain ⟨dh,cR,bI⟩:=q
 have q:=wDl bo bl (cN dh bI)
 obtain rfl:=q
 refine ze (ZE (ze ?_))
 cases cR
 exact ⟨rfl,_,(ZD rfl),br,_,(aT.pick [1,0] _ (by decide) rfl),rfl,rfl⟩
 intro bi cS
 refine cF Z bi (Za (zp (zI (rR fL3 Z (oM Z bb (oR Z (ZI (zk Z Z Z) (congrArg (jV) cQ.out)) (oA Z Z (zn ?_))))))))
 have q:=nD cS
 obtain rfl:=q
 exact zI ⟨Z,_,Z,⟨br,Z,ba,bB,aT⟩⟩
 rintro ⟨⟩ dE dr ⟨bD,bK,bJ,dx,cr⟩ cM
 have bz:=wEA bo bl cM
 try dsimp only at bz
 have bH:Hid (¬ ((1 + ↑(((↑p1.length:Int):Int) - 1).toNat:Int) < (↑p1.length:Int))):=zN (wSQ)
 refine zJ (sR fL4 Z (oM Z bK (oM Z bJ (oR Z (zr Z Z zA) (oR Z (zo Z Z Z) (eN (cF Z bH (ZS (zq (zq (ZJ (zI (sR fL1 Z (oA Z Z (eN (zQ ?_))))))))))))))))
 cases bz
 exact ⟨rfl,_,(ZD rfl),bD,_,(cr.pick [1,0] _ (by decide) rfl),rfl,rfl⟩
 intro bh cU
 refine ZB (nF (bh.out)) (sR fL1 Z (oA Z Z (eN (zQ (ze ?_)))))
 cases cU
 exact ⟨rfl,_,(ZD rfl),aY,_,(bv.pick [1,0] _ (by decide) rfl),rfl,rfl⟩
theorem wGw (p0:Int) (p1:Int) (ae:Nat) (w:World) (U:PHeap) (hS:St0 w U []) (ah:Cl U ae 0 [jV p1]) {r:Bool} (hm:wCP p0 p1=some r):Gv Try.prog 73 [jV p0,.pointer (some ⟨ae,0,none⟩)] w (wCt w [] U (fun U_ L_ v=>v=.bool r/\L_=[])):=by
 unfold wCP at hm
 refine Gv.of Try.func73 Z Try.ntmps73 Try.results73 Z (sR fL1 Z (oA Z Z (eN (sR fL4 Z (oM Z Z (oL Z (hS.ldC (f:=0) ah (v:=jV p1) Z Z zO Z) (oR Z (Zg Z Z Z) (oA Z Z (eN (zQ ?_))))))))))
 first | (obtain rfl:=nD hm) | cases hm
 exact ⟨Z,_,(ZD Z),U,_,hS,Z,Z⟩
theorem wDv (p0:List Int) (ab:Option Addr) (ae:Nat) (p1:(Int->Option Bool)) (aT:Value) (w:World) (U:PHeap) (hS:St0 w U [.row ab ae 3 1 (hH KL.encI p0)]) (bl:FnOK Try.prog U aT wLR wOE p1) {r:(List Int)} (hm:wBI p0 p1=some r):Gv Try.prog 72 [.slice ab p0.length ae,aT] w (wCt w [.row ab ae 3 1 (hH KL.encI p0)] U (fun U_ L_ v=>∃ (A0:Option Addr) (c0:Nat),v=.slice A0 r.length c0/\L_=[.row A0 c0 3 1 (hH KL.encI r)])):=by
 unfold wBI at hm
 refine Gv.of Try.func72 Z Try.ntmps72 Try.results72 Z (sR fL1 Z (oA Z Z (eN (sR gBq Z (oM Z Z (oM Z Z ?_))))))
 have q:=hS.freezeT (k:=0) (n:=p0.length) rfl (wAI (f:=KL.encI) (sz:=1) (fun _=>rfl) p0) (by decide)
 obtain ⟨U3,cj,cf,bJ,cm⟩:=q
 let B0:Res:=.row ab ae 3 1 (hH KL.encI p0)
 have bL:SW w [B0] U U3 [] w:=bJ
 have h8:=bl.le cj
 refine bnK hm fun x9 bz bR=>zM 0 Z Z Z Z (zL Z Z Try.call97 (zB Z (zB Z zS)) Z) bL (fun hs=>wCu p0 ab ae p1 aT w U3 hs cf h8 bz) (.inr Z) ?_
 rintro bs cp cy bf cg bG ⟨rfl,rfl⟩
 have bH:SW w [B0] U bs [] bf:=bG
 have q:=cm _ _ _ cg bH
 obtain ⟨au,ci,bI⟩:=q
 have bj:SW w [B0] U au [B0] bf:=bI
 refine oA Z Z (eN (zJ (sR fL2 Z (oM Z Z (oR Z (Zg Z Z Z) (eN (ifc bR ?_ ?_)))))))
 intro aU bS
 refine cT Z aU (sR fL2 Z (oM Z Z (oA Z Z (eN (zQ (ze ?_))))))
 have hE:=nD bS;first | subst r | cases hE
 exact ⟨Z,_,(ZD Z),au,_,bj,ab,ae,Z,Z⟩
 intro aU bT
 refine cF Z aU (kN (zJ (sR fL3 Z (oM Z Z (oR Z (zk Z Z Z) (oA Z Z (eN (zi (CK.iter (fun (aa,ah,x37) σ_ w_=>∃ (U_:PHeap),σ_ 0=.slice ab aa.length ae/\σ_ 1=aT/\σ_ 5=jV ah/\σ_ 6=jV x37/\PHeap.Le au U_/\SW w [B0] U U_ [.row ab ae 3 1 (hH KL.encI aa)] w_/\aa.length=p0.length) bT ?_ ?_)))))))))
 exact ⟨au,Z,Z,Z,Z,(zX _),bj,Z⟩
 rintro ⟨aa,ah,x37⟩ cC cD cr ⟨be,am,aW,ap,az,aY,aq,bh⟩ aX bO
 try dsimp only at aX
 refine zJ (sR fL4 Z (oM Z az (oM Z am (oR Z (zr Z Z zA) (oR Z (zo Z Z Z) (eN ?_))))))
 by_cases ak:x37 < (↑aa.length:Int)
 have bo:=aX;rw [if_pos ak] at bo;replace ak:=zN ak
 refine cT Z ak (kN (zJ (zi (sR fL5 Z (oM Z am (oM Z az (bnK bo fun _ aQ bU=>?_)))))))
 obtain ⟨ct,aS⟩:=aq.rowSome (j:=0) rfl (by rw [wAI (f:=KL.encI) (sz:=1) (fun _=>rfl) aa];have hz:=wAd aQ;omega)
 refine oR Z (ZP Z Z aS Z zA zD (wCA aQ) (wCB aQ)) ?_
 have bP:=wDV (xs:=aa) (wAd aQ)
 refine zy rfl rfl rfl rfl (aq.ldR (j:=0) rfl aS rfl rfl zO (wDH (sz:=1) (fun _=>rfl) _ _ 0 _ bP (by first | omega | rfl | simp) rfl)) rfl (OKS.ra rfl rfl rfl rfl rfl rfl (eN (sR gBq rfl (zW rfl rfl rfl rfl rfl aW (zW rfl rfl rfl rfl rfl rfl (bnK bU fun cA bA bV=>?_))))))
 have bB:=bl.le ci
 have bC:=bB.le aY
 refine OKS.callV (a:=(gd aa x37.toNat)) Z Z Z Z Z Z (zB Z zS) aq bC Z bA ?_
 rintro av cq cz bu br bK ⟨rfl,rfl⟩
 have bk:SW w [B0] U av [.row ab ae 3 1 (hH KL.encI aa)] bu:=bK
 refine oR Z (ZR Z Z) (eN (ifc bV ?_ ?_))
 intro aV bW
 refine zg (nC aV.out) (Za (zp (zI (rR fL3 Z (oM Z az (oR Z (zk Z Z Z) (oA Z Z (zn ?_))))))))
 have q:=nD bW
 obtain rfl:=q
 exact zI ⟨Z,_,Z,⟨av,am,aW,ap,Z,(aY.trans br),bk,bh⟩⟩
 intro aV bX
 refine ZB (nF (aV.out)) (sR (wEX (.fx 4 .nil .stop)) Z (oM Z am (oM Z ap (oM Z Z (bnK bX fun _ aR bY=>oR Z (ZP Z Z aS Z zA zD (wCA aR) (wCB aR)) ?_)))))
 have bQ:=wDV (xs:=aa) (wAd aR)
 refine OKS.stR (j:=0) (vs:=[jV (gd aa x37.toNat)]) (cs':=hH KL.encI (nJ aa ah.toNat (gd aa x37.toNat))) rfl rfl rfl rfl bk rfl aS rfl rfl rfl zD (by rw [wAI (f:=KL.encI) (sz:=1) (fun _=>rfl)];have hz:=wAd aR;show _ + 1 <= _;first | omega | (simp only [nI];omega) | (simp only [nH,nE,nG];omega)) rfl (wEx (sz:=1) (fo:=0) (fun _=>rfl) _ _ _ _ bQ (by first | omega | (simp only [nI];omega) | (simp only [nH,nE,nG];omega)) (zC rfl) rfl) rfl ?_
 intro bv bM
 have bN:SW w [B0] U av [.row ab ae 3 1 (hH KL.encI (nJ aa ah.toNat (gd aa x37.toNat)))] bv:=bM
 refine eN (rR fL3 Z (oM Z ap (oR Z (zk Z Z Z) (oA Z Z (zn (zp (zI (rR fL3 Z (oM Z az (oR Z (zk Z Z Z) (oA Z Z (zn ?_))))))))))))
 have q:=nD bY
 obtain rfl:=q
 exact zI ⟨rfl,_,rfl,⟨av,(Eq.trans (b:=(.slice ab aa.length ae:Value)) (c:=(.slice ab ((nJ aa ah.toNat (gd aa x37.toNat)).length) ae:Value)) am (by simp only [nK])),aW,rfl,rfl,(aY.trans br),bN,(nK.trans bh)⟩⟩
 have bp:=aX;rw [if_neg ak] at bp;replace ak:=zN ak
 refine cF Z ak (ZS (zq ?_))
 have q:=wAj bp
 obtain ⟨cn,bZ,bw⟩:=q
 have q:=bO cn bw
 obtain rfl:=q
 refine zq (ZJ (zI (sR (wDw (.fx 3 .nil .stop)) Z (oM Z am (oM Z ap (bnK bZ fun x91 bi b5=>?_))))))
 have q:=wPz bi
 obtain ⟨cu,bm,bn,cw,b9⟩:=q
 have bq:=aq.rowCap (j:=0) rfl (by decide) (wAI (f:=KL.encI) (sz:=1) (fun _=>rfl) aa)
 refine zV (v:=.slice (if ae=(ah:Int).toNat then ab else Option.map (fun q:Addr=>q.add ((ah:Int).toNat * 1)) (ab:Option Addr)) (((aa.length:Nat):Int).toNat - (ah:Int).toNat) (ae - (ah:Int).toNat)) rfl rfl rfl rfl (fun _=>Runs.slc (sz:=1) (a:=ah) (b:=((aa.length:Nat):Int)) rfl rfl (.inl ⟨_,rfl,rfl⟩) (.inr ⟨rfl,rfl⟩) zA zD bm bn (Int.le_refl _) bq) (OKS.clearTail (j:=0) (a:=ah) (f:=KL.encI) (m:=aa) (zs:=x91) rfl rfl rfl rfl aq rfl (fun _=>rfl) (by decide) bi rfl zA yA rfl rfl rfl ?_)
 intro bt bE
 have bF:SW w [B0] U be [.row ab ae 3 1 (hH KL.encI x91)] bt:=bE
 refine eN (sR fL4 rfl (zW rfl rfl rfl rfl rfl am (zW rfl rfl rfl rfl rfl ap (zV (v:=.slice ab x91.length ae) rfl rfl rfl rfl (fun _=>ZI (Runs.slc (sz:=1) (a:=0) (b:=ah) rfl rfl (.inr ⟨rfl,rfl⟩) (.inl ⟨_,rfl,rfl⟩) zA zD (Int.le_refl _) bm bn bq) (slcK.trans (by rw [b9]))) (OKS.ra rfl rfl rfl rfl rfl rfl (eN (zQ ?_)))))))
 have hE:=nD b5;first | subst r | cases hE
 exact ⟨Z,_,(ZD Z),be,_,bF,ab,ae,Z,Z⟩
theorem wFZ (p0:Int) (p1:wAF) (az:Nat) (ae:Nat) (ai:Option Addr) (am:Nat) (aj:Option Addr) (ap:Nat) (ak:Option Addr) (aq:Nat) (au:Nat) (aR:Array MapEntry) (aS:Nat) (p2:Int) (aQ:Nat) (w:World) (U:PHeap) (hS:St0 w U []) (aX:Cl U az 0 [.pointer (some ⟨ae,0,none⟩)]) (aY:Cl U ae 0 ([.slice ai p1.Bout.Shots.length am,.slice aj p1.Bout.Down.length ap,.slice ak p1.Bout.Across.length aq,.map (some au)] ++ ((hH KL.encI p1.hits.l) ++ ((hH KL.encI p1.used.l) ++ (hH KL.encT p1.met.l))))) (aZ:Sl U 1 ai am p1.Bout.Shots.length (hH KL.encI p1.Bout.Shots)) (ba:Sl U 1 aj ap p1.Bout.Down.length (hH KL.encI p1.Bout.Down)) (bb:Sl U 2 ak aq p1.Bout.Across.length (hH wAA p1.Bout.Across)) (be:MpF U au aR aS wGP wGg p1.may) (bf:Cl U aQ 0 [jV p2]) {r:Bool} (hm:wBW p0 p1 p2=some r):Gv Try.prog 99 [jV p0,.pointer (some ⟨az,0,none⟩),.pointer (some ⟨aQ,0,none⟩)] w (wCt w [] U (fun U_ L_ v=>v=.bool r/\L_=[])):=by
 unfold wBW at hm
 refine Gv.of Try.func99 Z Try.ntmps99 Try.results99 Z (sR fL1 Z (oA Z Z (eN (sR (wDw gBg) Z (oL Z (hS.ldC (f:=0) aX (v:=.pointer (some ⟨ae,0,none⟩)) Z Z ZX Z) (oL Z (hS.ldC (f:=0) bf (v:=jV p2) Z Z zO Z) (oM Z Z (bnK hm fun x1 h2 bg=>zM 0 Z Z Z Z (zL Z Z Try.call78 (zB Z (zB Z (zB Z zS))) Z) hS (fun hs=>wFV p1 ae ai am aj ap ak aq au aR aS p2 p0 w U hs aY aZ ba bb be h2) (.inr Z) ?_))))))))
 rintro U4 L5 v6 W7 bi aW ⟨rfl,rfl⟩
 have aV:sW w U U4 [] W7:=aW
 refine oA Z Z (eN (zQ ?_))
 have hE:=nD bg;first | subst r | cases hE
 exact ⟨Z,_,(ZD Z),U4,_,aV,Z,Z⟩
theorem wDQ (p0:wAF) (ae:Nat) (ah:Option Addr) (ak:Nat) (ai:Option Addr) (am:Nat) (aj:Option Addr) (ap:Nat) (ab:Nat) (aq:Array MapEntry) (au:Nat) (p1:Int) (p2:List Int) (be:Option Addr) (bf:Nat) (w:World) (U:PHeap) (hS:St0 w U [.blk ae 99 ([.slice ah p0.Bout.Shots.length ak,.slice ai p0.Bout.Down.length am,.slice aj p0.Bout.Across.length ap,.map (some ab)] ++ ((hH KL.encI p0.hits.l) ++ ((hH KL.encI p0.used.l) ++ (hH KL.encT p0.met.l)))),.obj ab (.map aq au)]) (cj:Sl U 1 ah ak p0.Bout.Shots.length (hH KL.encI p0.Bout.Shots)) (cm:Sl U 1 ai am p0.Bout.Down.length (hH KL.encI p0.Bout.Down)) (cn:Sl U 2 aj ap p0.Bout.Across.length (hH wAA p0.Bout.Across)) (cp:MpR aq wGP wGg p0.may) (cq:Sl U 1 be bf p2.length (hH KL.encI p2)) {r:Bool} (hm:wBk p0 p1 p2=some r):Gv Try.prog 75 [.pointer (some ⟨ae,0,none⟩),jV p1,.slice be p2.length bf] w (wCt w [.blk ae 99 ([.slice ah p0.Bout.Shots.length ak,.slice ai p0.Bout.Down.length am,.slice aj p0.Bout.Across.length ap,.map (some ab)] ++ ((hH KL.encI p0.hits.l) ++ ((hH KL.encI p0.used.l) ++ (hH KL.encT p0.met.l)))),.obj ab (.map aq au)] U (fun U_ L_ v=>v=.bool r/\L_=[.blk ae 99 ([.slice ah p0.Bout.Shots.length ak,.slice ai p0.Bout.Down.length am,.slice aj p0.Bout.Across.length ap,.map (some ab)] ++ ((hH KL.encI p0.hits.l) ++ ((hH KL.encI p0.used.l) ++ (hH KL.encT p0.met.l)))),.obj ab (.map aq au)])):=by
 unfold wBk at hm
 refine Gv.of Try.func75 Z Try.ntmps75 Try.results75 Z (sR gBk Z ?_)
 let B0:List Value:=[.pointer (some ⟨ae,0,none⟩)]
 refine ZY (cs:=B0) rfl rfl rfl rfl rfl rfl (by rfl) hS ?_
 intro W3 b4 bY
 have q:=bY.freeze (k:=0) rfl
 obtain ⟨U7,ba,aV,bP⟩:=q
 replace aV:=Cl.of aV
 have bQ:SW w [.blk ae 99 ([.slice ah p0.Bout.Shots.length ak,.slice ai p0.Bout.Down.length am,.slice aj p0.Bout.Across.length ap,.map (some ab)] ++ ((hH KL.encI p0.hits.l) ++ ((hH KL.encI p0.used.l) ++ (hH KL.encT p0.met.l)))),.obj ab (.map aq au)] U U7 [.blk ae 99 ([.slice ah p0.Bout.Shots.length ak,.slice ai p0.Bout.Down.length am,.slice aj p0.Bout.Across.length ap,.map (some ab)] ++ ((hH KL.encI p0.hits.l) ++ ((hH KL.encI p0.used.l) ++ (hH KL.encT p0.met.l)))),.obj ab (.map aq au)] W3:=bP
 replace aV:Cl U7 b4 0 B0:=aV
 refine ZY (cs:=[jV p1]) rfl rfl rfl rfl rfl rfl (by rfl) bQ ?_
 intro aZ aR bR
 have q:=bR.freeze (k:=0) rfl
 obtain ⟨bh,aW,aT,bS⟩:=q
 replace aT:=Cl.of aT
 have bT:SW w [.blk ae 99 ([.slice ah p0.Bout.Shots.length ak,.slice ai p0.Bout.Down.length am,.slice aj p0.Bout.Across.length ap,.map (some ab)] ++ ((hH KL.encI p0.hits.l) ++ ((hH KL.encI p0.used.l) ++ (hH KL.encT p0.met.l)))),.obj ab (.map aq au)] U bh [.blk ae 99 ([.slice ah p0.Bout.Shots.length ak,.slice ai p0.Bout.Down.length am,.slice aj p0.Bout.Across.length ap,.map (some ab)] ++ ((hH KL.encI p0.hits.l) ++ ((hH KL.encI p0.used.l) ++ (hH KL.encT p0.met.l)))),.obj ab (.map aq au)] aZ:=bS
 replace aT:Cl bh aR 0 [jV p1]:=aT
 refine oA Z Z (eN (sR gBq Z (oM Z Z (oR Z (Runs.mkf Z zS (zB Z (zB Z zS))) ?_))))
 have q:=bT.freezeMT (k:=1) rfl cp
 obtain ⟨bl,aQ,cr,bU,cy⟩:=q
 have bV:SW w [.blk ae 99 ([.slice ah p0.Bout.Shots.length ak,.slice ai p0.Bout.Down.length am,.slice aj p0.Bout.Across.length ap,.map (some ab)] ++ ((hH KL.encI p0.hits.l) ++ ((hH KL.encI p0.used.l) ++ (hH KL.encT p0.met.l)))),.obj ab (.map aq au)] U bl [.blk ae 99 ([.slice ah p0.Bout.Shots.length ak,.slice ai p0.Bout.Down.length am,.slice aj p0.Bout.Across.length ap,.map (some ab)] ++ ((hH KL.encI p0.hits.l) ++ ((hH KL.encI p0.used.l) ++ (hH KL.encT p0.met.l))))] aZ:=bU
 have q:=bV.freezeTB (k:=0) rfl
 obtain ⟨aY,av,aU,bW,cz⟩:=q
 replace aU:=Cl.of aU
 have bX:SW w [.blk ae 99 ([.slice ah p0.Bout.Shots.length ak,.slice ai p0.Bout.Down.length am,.slice aj p0.Bout.Across.length ap,.map (some ab)] ++ ((hH KL.encI p0.hits.l) ++ ((hH KL.encI p0.used.l) ++ (hH KL.encT p0.met.l)))),.obj ab (.map aq au)] U aY [] aZ:=bW
 replace aU:Cl aY ae 0 ([.slice ah p0.Bout.Shots.length ak,.slice ai p0.Bout.Down.length am,.slice aj p0.Bout.Across.length ap,.map (some ab)] ++ ((hH KL.encI p0.hits.l) ++ ((hH KL.encI p0.used.l) ++ (hH KL.encT p0.met.l)))):=aU
 have bp:=cq.le ba
 have bq:=bp.le aW
 have br:=bq.le aQ
 have bs:=br.le av
 have bt:=aV.le aW
 have bu:=bt.le aQ
 have bv:=bu.le av
 have bw:=cj.le ba
 have bz:=bw.le aW
 have bA:=bz.le aQ
 have bB:=bA.le av
 have bC:=cm.le ba
 have bD:=bC.le aW
 have bE:=bD.le aQ
 have bF:=bE.le av
 have bG:=cn.le ba
 have bH:=bG.le aW
 have bI:=bH.le aQ
 have bJ:=bI.le av
 have bK:=cr.le av
 have bL:=aT.le aQ
 have bM:=bL.le av
 have bO:FnOK Try.prog aY (.func (.func 99) #[] #[.pointer (some ⟨b4,0,none⟩),.pointer (some ⟨aR,0,none⟩)]) wLR wOE (fun x=>wBW x p0 p1):=⟨99,[],[.pointer (some ⟨b4,0,none⟩),.pointer (some ⟨aR,0,none⟩)],rfl,Try.call99,fun U1 w1 x y vs le hs ha hm=>by obtain rfl:=ha;exact wFZ x p0 b4 ae ah ak ai am aj ap ab aq au p1 aR w1 U1 hs (bv.le le) (aU.le le) (bB.le le) (bF.le le) (bJ.le le) (bK.le le) (bM.le le) hm⟩
 refine bnK hm fun x56 bN ct=>zM 0 Z Z Z Z (zL Z Z Try.call98 (zB Z (zB Z zS)) Z) bX (fun hs=>wCi p2 be bf (fun x=>wBW x p0 p1) (.func (.func 99) #[] #[.pointer (some ⟨b4,0,none⟩),.pointer (some ⟨aR,0,none⟩)]) aZ aY hs bs bO bN) (.inr Z) ?_
 rintro bm cB cD bb cu bZ ⟨rfl,rfl⟩
 have b5:SW w [.blk ae 99 ([.slice ah p0.Bout.Shots.length ak,.slice ai p0.Bout.Down.length am,.slice aj p0.Bout.Across.length ap,.map (some ab)] ++ ((hH KL.encI p0.hits.l) ++ ((hH KL.encI p0.used.l) ++ (hH KL.encT p0.met.l)))),.obj ab (.map aq au)] U bm [] bb:=bZ
 have q:=cz _ _ _ cu b5
 obtain ⟨bn,cw,b9⟩:=q
 have cf:SW w [.blk ae 99 ([.slice ah p0.Bout.Shots.length ak,.slice ai p0.Bout.Down.length am,.slice aj p0.Bout.Across.length ap,.map (some ab)] ++ ((hH KL.encI p0.hits.l) ++ ((hH KL.encI p0.used.l) ++ (hH KL.encT p0.met.l)))),.obj ab (.map aq au)] U bn [.blk ae 99 ([.slice ah p0.Bout.Shots.length ak,.slice ai p0.Bout.Down.length am,.slice aj p0.Bout.Across.length ap,.map (some ab)] ++ ((hH KL.encI p0.hits.l) ++ ((hH KL.encI p0.used.l) ++ (hH KL.encT p0.met.l))))] bb:=b9
 have q:=cy _ _ _ cw cf
 obtain ⟨bj,cC,cg⟩:=q
 have ci:SW w [.blk ae 99 ([.slice ah p0.Bout.Shots.length ak,.slice ai p0.Bout.Down.length am,.slice aj p0.Bout.Across.length ap,.map (some ab)] ++ ((hH KL.encI p0.hits.l) ++ ((hH KL.encI p0.used.l) ++ (hH KL.encT p0.met.l)))),.obj ab (.map aq au)] U bj [.obj ab (.map aq au),.blk ae 99 ([.slice ah p0.Bout.Shots.length ak,.slice ai p0.Bout.Down.length am,.slice aj p0.Bout.Across.length ap,.map (some ab)] ++ ((hH KL.encI p0.hits.l) ++ ((hH KL.encI p0.used.l) ++ (hH KL.encT p0.met.l))))] bb:=cg
 refine oA Z Z (eN (zQ ?_))
 have hE:=nD ct;first | subst r | cases hE
 exact ⟨rfl,_,(ZD rfl),bj,_,(ci.pick [1,0] _ (by decide) rfl),rfl,rfl⟩
theorem wFE (p0:wAF) (ah:Nat) (ae:Option Addr) (ai:Nat) (ak:Option Addr) (am:Nat) (aq:Option Addr) (au:Nat) (ab:Nat) (av:Array MapEntry) (az:Nat) (p1:List Int) (aT:Option Addr) (aU:Nat) (p2:Int) (w:World) (U:PHeap) (hS:St0 w U [.blk ah 99 ([.slice ae p0.Bout.Shots.length ai,.slice ak p0.Bout.Down.length am,.slice aq p0.Bout.Across.length au,.map (some ab)] ++ ((hH KL.encI p0.hits.l) ++ ((hH KL.encI p0.used.l) ++ (hH KL.encT p0.met.l)))),.obj ab (.map av az)]) (cE:Sl U 1 ae ai p0.Bout.Shots.length (hH KL.encI p0.Bout.Shots)) (bH:Sl U 1 ak am p0.Bout.Down.length (hH KL.encI p0.Bout.Down)) (cG:Sl U 2 aq au p0.Bout.Across.length (hH wAA p0.Bout.Across)) (cH:MpR av wGP wGg p0.may) (bI:Sl U 1 aT aU p1.length (hH KL.encI p1)) {r:Int} (hm:wBq p0 p1 p2=some r):Gv Try.prog 74 [.pointer (some ⟨ah,0,none⟩),.slice aT p1.length aU,jV p2] w (wCt w [.blk ah 99 ([.slice ae p0.Bout.Shots.length ai,.slice ak p0.Bout.Down.length am,.slice aq p0.Bout.Across.length au,.map (some ab)] ++ ((hH KL.encI p0.hits.l) ++ ((hH KL.encI p0.used.l) ++ (hH KL.encT p0.met.l)))),.obj ab (.map av az)] U (fun U_ L_ v=>v=jV r/\L_=[.blk ah 99 ([.slice ae p0.Bout.Shots.length ai,.slice ak p0.Bout.Down.length am,.slice aq p0.Bout.Across.length au,.map (some ab)] ++ ((hH KL.encI p0.hits.l) ++ ((hH KL.encI p0.used.l) ++ (hH KL.encT p0.met.l)))),.obj ab (.map av az)])):=by
 unfold wBq at hm
 refine Gv.of Try.func74 Z Try.ntmps74 Try.results74 Z (sR fL1 Z (oA Z Z (eN (sR fL1 Z (oA Z Z (eN (zJ (sR fL3 Z (oM Z Z (oR Z (zr Z Z zA) (oM Z Z (eN (zi (bnK hm fun dI cI cO=>?_))))))))))))))
 have q:=wCQ cI
 obtain ⟨bp,cJ⟩:=q
 replace bp:=zN bp
 refine CK.forN' (fun k9 x8 σ_ w_=>∃ (U_:PHeap),σ_ 14=jV (↑k9:Int)/\σ_ 0=.pointer (some ⟨ah,0,none⟩)/\σ_ 1=.slice aT p1.length aU/\σ_ 2=jV p2/\σ_ 7=jV x8/\σ_ 12=.slice aT p1.length aU/\σ_ 13=jV (↑p1.length:Int)/\PHeap.Le U U_/\SW w [.blk ah 99 ([.slice ae p0.Bout.Shots.length ai,.slice ak p0.Bout.Down.length am,.slice aq p0.Bout.Across.length au,.map (some ab)] ++ ((hH KL.encI p0.hits.l) ++ ((hH KL.encI p0.used.l) ++ (hH KL.encT p0.met.l)))),.obj ab (.map av az)] U U_ [.blk ah 99 ([.slice ae p0.Bout.Shots.length ai,.slice ak p0.Bout.Down.length am,.slice aq p0.Bout.Across.length au,.map (some ab)] ++ ((hH KL.encI p0.hits.l) ++ ((hH KL.encI p0.used.l) ++ (hH KL.encT p0.met.l)))),.obj ab (.map av az)] w_) cJ ?_ ?_ ?_
 exact ⟨U,Z,Z,Z,Z,Z,Z,Z,(zX _),hS⟩
 rintro k9 x8 dG dL dm bn ⟨bM,bj,bw,bT,bU,bV,bz,bA,br,bb⟩ cZ
 have bu:Hid ((↑k9:Int) < (↑p1.length:Int)):=zN (wCO bn)
 replace bn:=zN bn
 have cN:Hid (w64 ((↑k9:Int) + 1)=(↑(k9 + 1):Int)):=zN (by have h1:=bp.out;have h2:=bu.out;rw [wAM] <;> omega)
 refine sR fL1 Z (oR Z (zo Z bj bA) (eN (zJ (cT Z bu (kN (zJ (zi (sR fL3 Z (bnK cZ fun de bC cV=>?_)))))))))
 have cq:=bI.le br
 have q:=cq.el (fun _=>rfl) (wAV bC)
 obtain ⟨dr,dC,cw,cA⟩:=q
 refine oR Z (Ze Z bz cw bj zA zD (wCd bC)) (oL Z (bb.ldC (f:=0) cA (v:=jV de) Z Z zO Z) (oA Z Z (eN (rR fL11 Z (oM Z bV (oM Z bw (oR Z (ZQ Z Z) (oR Z (zK Z Z zj Z zu) (oR Z (zK Z Z zR Z zZ) (oL Z (bb.ldB (j:=0) Z Z Z zd (v:=.slice ak p0.Bout.Down.length am) Z) (oM Z Z (bnK cV fun df bk cW=>?_))))))))))))
 have cr:=bH.le br
 have q:=cr.el (fun _=>rfl) (wAV bk)
 obtain ⟨dt,dD,cy,cB⟩:=q
 refine oR Z (ZP Z Z cy Z zA zD (wBp bk) (wBs bk)) (oL Z (bb.ldC (f:=0) cB (v:=jV df) Z Z zO Z) (oR Z (zk Z Z Z) (oA Z Z (zn (zp (zI (rR fL2 Z (oR Z (ZI (zk Z bj Z) (congrArg (jV) cN.out)) (oM Z Z (zn ?_))))))))))
 cases cW
 exact zI ⟨Z,⟨bM,Z,bw,bT,bU,Z,bz,bA,br,bb⟩⟩
 rintro dM dp ⟨bs,b9,bB,bW,bX,bY,dz,bZ,be,bG⟩
 have bQ:Hid (¬ ((↑(((↑p1.length:Int):Int) - 0).toNat:Int) < (↑p1.length:Int))):=zN (wBi)
 refine sR fL1 Z (oR Z (zo Z b9 bZ) (eN (zJ (cF Z bQ (ZS (zq (zq (ZJ (zI (zJ (sR fL7 Z (oM Z bB (oR Z (ZQ Z Z) (oR Z (zK Z Z zj Z zu) (oR Z (zK Z Z zR Z zZ) (oL Z (bG.ldB (j:=0) Z Z Z zd (v:=.slice ae p0.Bout.Shots.length ai) Z) (oR Z (zr Z Z zA) (oM Z Z (eN (zi (bnK cO fun dJ cK cX=>?_)))))))))))))))))))))
 have q:=wCQ cK
 obtain ⟨bq,cM⟩:=q
 replace bq:=zN bq
 refine CK.forN' (fun aS x70 σ_ w_=>∃ (U_:PHeap),σ_ 35=jV (↑aS:Int)/\σ_ 0=.pointer (some ⟨ah,0,none⟩)/\σ_ 1=.slice aT p1.length aU/\σ_ 2=jV p2/\σ_ 7=jV x70/\σ_ 33=.slice ae p0.Bout.Shots.length ai/\σ_ 34=jV (↑p0.Bout.Shots.length:Int)/\PHeap.Le bs U_/\SW w [.blk ah 99 ([.slice ae p0.Bout.Shots.length ai,.slice ak p0.Bout.Down.length am,.slice aq p0.Bout.Across.length au,.map (some ab)] ++ ((hH KL.encI p0.hits.l) ++ ((hH KL.encI p0.used.l) ++ (hH KL.encT p0.met.l)))),.obj ab (.map av az)] U U_ [.blk ah 99 ([.slice ae p0.Bout.Shots.length ai,.slice ak p0.Bout.Down.length am,.slice aq p0.Bout.Across.length au,.map (some ab)] ++ ((hH KL.encI p0.hits.l) ++ ((hH KL.encI p0.used.l) ++ (hH KL.encT p0.met.l)))),.obj ab (.map av az)] w_) cM ?_ ?_ ?_
 exact ⟨bs,Z,bB,bW,bX,bY,Z,Z,(zX _),bG⟩
 rintro aS x70 dH dO bO bo ⟨bt,aR,aW,aX,aY,bi,aZ,ba,aQ,bl⟩ da
 have bv:Hid ((↑aS:Int) < (↑p0.Bout.Shots.length:Int)):=zN (wCO bo)
 replace bo:=zN bo
 have bm:Hid (w64 ((↑aS:Int) + 1)=(↑(aS + 1):Int)):=zN (by have h1:=bq.out;have h2:=bv.out;rw [wAM] <;> omega)
 refine sR fL1 Z (oR Z (zo Z aR ba) (eN (zJ (cT Z bv (kN (zJ (zi (sR fL5 Z (oM Z aR (bnK da fun x95 bD cY=>?_))))))))))
 have ct:=cE.le be
 have bE:=ct.le aQ
 have q:=bE.el (fun _=>rfl) (wAV bD)
 obtain ⟨dq,dB,cu,cz⟩:=q
 refine oR Z (Ze Z aZ cu aR zA zD (wCd bD)) (oL Z (bl.ldC (f:=0) cz (v:=jV x95) Z Z zO Z) (oA Z Z (oA Z Z (eN (sR (wOr gBe) Z (oM Z Z (oM Z aY (oR Z (ZL Z Z Z) (oM Z Z (ifc cY ?_ ?_))))))))))
 intro ap cP
 refine zG Z Z Z (zF Z Z (zm (fun h=>h ap.out)) Z) (zG Z Z Z (zF Z Z (zm (fun h=>h ap.out)) Z) (zG Z Z Z (zF Z Z (zm (fun h=>h ap.out)) Z) (ZV Z Z Z (zF Z Z (zm (fun h=>h ap.out)) Z) (oR Z (zP Z (zm (fun h=>h ap.out)) Z) (eN (zg Z (Za (zp (zI (rR fL2 Z (oR Z (ZI (zk Z aR Z) (congrArg (jV) bm.out)) (oM Z Z (zn ?_)))))))))))))
 cases cP
 exact zI ⟨Z,⟨bt,Z,aW,aX,aY,bi,aZ,ba,aQ,bl⟩⟩
 intro ap cQ
 refine zW Z Z Z (wT Z ap) Z aW (zW Z Z Z (wT Z ap) Z Z (zW Z Z Z (wT Z ap) Z aX ?_))
 have cf:=bH.le be
 have cg:=cf.le aQ
 have ci:=cG.le be
 have cj:=ci.le aQ
 have cm:=bI.le be
 have cn:=cm.le aQ
 refine bnK cQ fun dF cp cR=>zM 2 Z Z Z (wT Z ap) (zL Z Z Try.call75 (zB Z (zB Z (zB Z zS))) Z) bl (fun hs=>wDQ p0 ah ae ai ak am aq au ab av az (↑aS:Int) p1 aT aU bO bt hs bE cg cj cH cn cp) (.inl Z) ?_
 rintro bg dg dE bN bJ cC ⟨rfl,rfl⟩
 have bF:SW w [.blk ah 99 ([.slice ae p0.Bout.Shots.length ai,.slice ak p0.Bout.Down.length am,.slice aq p0.Bout.Across.length au,.map (some ab)] ++ ((hH KL.encI p0.hits.l) ++ ((hH KL.encI p0.used.l) ++ (hH KL.encT p0.met.l)))),.obj ab (.map av az)] U bg [.blk ah 99 ([.slice ae p0.Bout.Shots.length ai,.slice ak p0.Bout.Down.length am,.slice aq p0.Bout.Across.length au,.map (some ab)] ++ ((hH KL.encI p0.hits.l) ++ ((hH KL.encI p0.used.l) ++ (hH KL.encT p0.met.l)))),.obj ab (.map av az)] bN:=cC
 refine oR Z (zU Z (Zf ap.out) Z) (eN (ifc cR ?_ ?_))
 intro bh cS
 refine ZB (congrArg nA bh.out) (rR fL4 Z (oM Z bi (oM Z Z (oR Z (ZG Z Z Z) (oA Z Z (zn (zp (zI (rR fL2 Z (oR Z (ZI (zk Z aR Z) (congrArg (jV) bm.out)) (oM Z Z (zn ?_))))))))))))
 cases cS
 exact zI ⟨Z,⟨bg,Z,aW,aX,aY,Z,aZ,ba,(aQ.trans bJ),bF⟩⟩
 intro bh cU
 refine zg (congrArg nA (nB.2 bh.out)) (Za (zp (zI (rR fL2 Z (oR Z (ZI (zk Z aR Z) (congrArg (jV) bm.out)) (oM Z Z (zn ?_)))))))
 cases cU
 exact zI ⟨Z,⟨bg,Z,aW,aX,aY,bi,aZ,ba,(aQ.trans bJ),bF⟩⟩
 rintro dK dh ⟨bL,b5,du,dw,dx,bR,dy,bS,dA,cD⟩
 have bP:Hid (¬ ((↑(((↑p0.Bout.Shots.length:Int):Int) - 0).toNat:Int) < (↑p0.Bout.Shots.length:Int))):=zN (wBi)
 refine sR fL1 Z (oR Z (zo Z b5 bS) (eN (zJ (cF Z bP (ZS (zq (zq (ZJ (zI (sR fL2 Z (oM Z bR (oA Z Z (eN (zQ ?_))))))))))))))
 have hE:=nD cX;first | subst r | cases hE
 exact ⟨Z,_,(ZD Z),bL,_,cD,Z,Z⟩
theorem wFb (p0:wAB) (bK:Option Addr) (bM:Nat) (bL:Option Addr) (bN:Nat) (cg:Option Addr) (ci:Nat) (p1:Int) (p2:Int) (p3:List Int) (bt:Option Addr) (bu:Nat) (w:World) (U:PHeap) (hS:St0 w U []) (jX:Sl U 1 bK bM p0.Shots.length (hH KL.encI p0.Shots)) (jY:Sl U 1 bL bN p0.Down.length (hH KL.encI p0.Down)) (jZ:Sl U 2 cg ci p0.Across.length (hH wAA p0.Across)) (j0:Sl U 1 bt bu p3.length (hH KL.encI p3)) {r:wAH × Int} (hm:wBN p0 p1 p2 p3=some r):Gv Try.prog 23 [.agg #[.slice bK p0.Shots.length bM,.slice bL p0.Down.length bN,.slice cg p0.Across.length ci],jV p1,jV p2,.slice bt p3.length bu] w (wCt w [] U (fun U_ L_ v=>v=.tuple #[.agg #[jV r.1.Lo,jV r.1.Hi],jV r.2]/\L_=[])):=by
 unfold wBN at hm
 refine Gv.of Try.func23 Z Try.ntmps23 Try.results23 Z (sR (.fx 0 gBp .stop) Z ?_)
 let B0:List Value:=[.slice bK p0.Shots.length bM,.slice bL p0.Down.length bN,.slice cg p0.Across.length ci]
 refine ZY (cs:=B0) rfl rfl rfl rfl rfl rfl (by rfl) hS ?_
 intro W1 b2 jm
 refine ZY (cs:=[jV p2]) rfl rfl rfl rfl rfl rfl (by rfl) jm ?_
 intro W5 b6 jR
 have q:=jR.freeze (k:=0) rfl
 obtain ⟨U9,cG,bH,iZ⟩:=q
 replace bH:=Cl.of bH
 have i5:sW w U U9 [.blk b2 26 B0] W5:=iZ
 replace bH:Cl U9 b6 0 [jV p2]:=bH
 let B1:List Value:=[jV 0,jV 0]
 refine zx (cs:=B1) Z Z Z Z Z zw Z i5 ?_
 intro fE ak eJ
 refine oA Z Z (eN (sR (.fl 0 (.fx 1 (wJG (.nil)) .stop)) Z (oL Z (eJ.ldBA (j:=1) Z Z Z ZT zu (vs:=B0) Z Z) ?_)))
 have ej:=jX.le cG
 have en:=jY.le cG
 have eu:=jZ.le cG
 have q:=bnd hm
 obtain ⟨⟨l3,bC⟩,gO,bY⟩:=q
 try dsimp only at bY
 refine zM 0 Z Z Z Z (zL Z Z Try.call69 (zB Z zS) Z) eJ (fun hs=>wEN p0 bK bM bL bN cg ci fE U9 hs ej en eu gO) (.inr Z) ?_
 rintro bw ma mM ct bI eL eH
 rcases l3 with _ | x42
 try dsimp only at bY
 obtain ⟨rfl,rfl⟩:=eH
 have dA:sW w U bw [.blk ak 44 B1,.blk b2 26 B0] ct:=eL
 refine oM Z Z (oR Z (ZC Z Z (v:=.pointer none) Z) (oR Z (ZC Z Z (v:=jV bC) Z) (oA Z Z (oA Z Z (eN (zJ (bnK bY fun gc fw lJ=>yB (fun σ_ w_=>∃ (U_:PHeap),σ_ 1=jV p1/\σ_ 3=.slice bt p3.length bu/\σ_ 4=.pointer (some ⟨b2,0,none⟩)/\σ_ 6=.pointer (some ⟨b6,0,none⟩)/\σ_ 8=.pointer (some ⟨ak,0,none⟩)/\σ_ 10=.pointer none/\σ_ 11=jV bC/\σ_ 39=.bool gc/\PHeap.Le bw U_/\sW w U U_ [.blk ak 44 B1,.blk b2 26 B0] w_) ?_ ?_)))))))
 refine rR (wJF (.fx 8 (wQZ (.fx 16 (wOw (.nil)) .stop)) .stop)) Z (oM Z Z (oR Z (Zg Z Z Z) (oM Z Z ?_)))
 by_cases aV:bC=0
 have fh:=fw;rw [if_pos aV] at fh;replace aV:=zN aV
 refine zW Z Z Z (wT Z aV) Z Z (rU Z (wT Z aV) (zK Z Z zR Z zZ) (zy Z Z Z (wT Z aV) (dA.ldB (j:=1) Z Z Z zd (v:=.slice bK p0.Shots.length bM) Z) Z (rU Z (wT Z aV) (zr Z Z zA) (rU Z (wT Z aV) (ZG Z Z Z) (bnK fh fun x50 iQ lL=>zM 0 Z Z Z (wT Z aV) (zL Z Z Zu (zB Z (zB Z (zB Z zS))) Z) dA (fun hs=>wAq p1 0 (w64 ((↑p0.Shots.length:Int) - 1)) ct bw hs iQ) (.inr Z) ?_)))))
 rintro cR mn mT dV dD jQ ⟨rfl,rfl⟩
 have cE:sW w U cR [.blk ak 44 B1,.blk b2 26 B0] dV:=jQ
 refine rU Z (wT Z aV) (ZR Z Z) (zW Z Z Z (wT Z aV) Z Z (ifc lL ?_ ?_))
 intro bm lM
 have iR:=bH.le bI
 have iT:=iR.le dD
 refine zy Z Z Z (zE Z Z (nC bm.out)) (cE.ldC (f:=0) iT (v:=jV p2) Z Z zO Z) Z (zV Z Z Z (zE Z Z (nC bm.out)) (fun _=>zK Z Z zR Z zZ) (zy Z Z Z (zE Z Z (nC bm.out)) (cE.ldB (j:=1) Z Z Z zd (v:=.slice bL p0.Down.length bN) Z) Z (zV Z Z Z (zE Z Z (nC bm.out)) (fun _=>zr Z Z zA) (zV Z Z Z (zE Z Z (nC bm.out)) (fun _=>ZG Z Z Z) (bnK lM fun x64 iU lN=>zM 0 Z Z Z (zE Z Z (nC bm.out)) (zL Z Z Zu (zB Z (zB Z (zB Z zS))) Z) cE (fun hs=>wAq p2 0 (w64 ((↑p0.Down.length:Int) - 1)) dV cR hs iU) (.inr Z) ?_)))))
 rintro dP mp mU fY lX jS ⟨rfl,rfl⟩
 have jU:sW w U dP [.blk ak 44 B1,.blk b2 26 B0] fY:=jS
 refine zV Z Z Z (zE Z Z (nC bm.out)) (fun _=>ZR Z Z) (rU Z (wT Z aV) (zP Z (nC bm.out) Z) (oR Z (zU Z (Zf aV.out) Z) (zn ?_)))
 cases lN
 exact zI ⟨Z,⟨dP,Z,Z,Z,Z,Z,Z,Z,Z,(dD.trans lX),jU⟩⟩
 intro bm lO
 refine zG Z Z Z (zF Z Z (nF (bm.out)) Z) (zG Z Z Z (zF Z Z (nF (bm.out)) Z) (zG Z Z Z (zF Z Z (nF (bm.out)) Z) (zG Z Z Z (zF Z Z (nF (bm.out)) Z) (zG Z Z Z (zF Z Z (nF (bm.out)) Z) (ZV Z Z Z (zF Z Z (nF (bm.out)) Z) (zG Z Z Z (zF Z Z (nF (bm.out)) Z) (rU Z (wT Z aV) (zU Z (nF (bm.out)) Z) (oR Z (zU Z (Zf aV.out) Z) (zn ?_)))))))))
 cases lO
 exact zI ⟨Z,⟨cR,Z,Z,Z,Z,Z,Z,Z,Z,dD,cE⟩⟩
 have fj:=fw;rw [if_neg aV] at fj;replace aV:=zN aV
 refine oF Z aV (oF Z aV (oF Z aV (oF Z aV (oF Z aV (ZV Z Z Z (zF Z Z (zm aV.out) Z) (oF Z aV (oF Z aV (zG Z Z Z (wAG Z Z Z) (zG Z Z Z (wAG Z Z Z) (zG Z Z Z (wAG Z Z Z) (zG Z Z Z (wAG Z Z Z) (zG Z Z Z (wAG Z Z Z) (ZV Z Z Z (wAG Z Z Z) (zG Z Z Z (wAG Z Z Z) (oF Z aV (oR Z (zP Z (zm aV.out) Z) (zn ?_)))))))))))))))))
 cases fj
 exact zI ⟨Z,⟨bw,Z,Z,Z,Z,Z,Z,Z,Z,(zX _),dA⟩⟩
 rintro m4 mu ⟨cr,my,gh,mz,mA,cA,gi,dp,d9,mE,eZ⟩
 refine ifc lJ ?_ ?_
 intro dh lP
 refine ZB (d9.trans (congrArg nA dh.out)) (rR fL1 rfl (OKS.ra rfl rfl rfl rfl rfl rfl (eN (zJ (sR fL2 rfl (zW rfl rfl rfl rfl rfl rfl (zV rfl rfl rfl rfl (fun _=>Zg rfl rfl rfl) (eN (zg (zm (by decide)) (kN (zJ (sR fL2 rfl (zW rfl rfl rfl rfl rfl rfl (zV rfl rfl rfl rfl (fun _=>ZL rfl rfl rfl) (eN (ZB (Zf (by decide)) (sR gBq rfl (zV rfl rfl rfl rfl (fun _=>ZM (pv:=[]) (z:=B1) (cs:=B1) rfl wAo zw wBl rfl rfl) (zW rfl rfl rfl rfl rfl rfl (zt (j:=0) (vs:=B1) rfl rfl rfl rfl eZ rfl cA rfl rfl zH (zC rfl) rfl rfl rfl ?_))))))))))))))))))))
 intro fZ jW
 have e8:sW w U cr [.blk ak 44 B1,.blk b2 26 B0] fZ:=jW
 refine oA Z Z (eN (zQ (ze ?_)))
 cases lP
 exact ⟨rfl,_,(wCZ (rs:=[.cell 8 44,.tmp 9]) (vs:=[.agg B1.toArray,jV 1]) ⟨⟨_,cA,(wBR zf zH (e8.blkAt (k:=0) rfl) (vs:=B1) rfl rfl)⟩,⟨rfl,trivial⟩⟩ rfl),cr,_,(e8.pick [] _ (by decide) rfl),rfl,rfl⟩
 intro dh lQ
 refine zg (d9.trans (congrArg nA (nB.2 dh.out))) (kN (zJ (sR fL2 Z (oM Z dp (oR Z (Zg Z Z Z) (eN (ifc lQ ?_ ?_)))))))
 intro cz lR
 refine cT Z cz (rR gBq Z (oM Z gi (oM Z gh ?_)))
 cases lR
 intro cz j5
 refine cF Z cz (kN (zJ (sR fL2 Z (oM Z dp (oR Z (ZL Z Z Z) (eN (cT Z cz (sR gBq Z (oR Z (ZM (pv:=[]) (z:=B1) (cs:=B1) Z wAo zw wBl Z Z) (oM Z dp (zt (j:=0) (vs:=B1) Z Z Z Z eZ Z cA Z Z zH (zC Z) Z Z Z ?_)))))))))))
 intro fC iY
 have eI:sW w U cr [.blk ak 44 B1,.blk b2 26 B0] fC:=iY
 refine oA Z Z (eN (zQ (ze ?_)))
 cases j5
 exact ⟨rfl,_,(wCZ (rs:=[.cell 8 44,.tmp 9]) (vs:=[.agg B1.toArray,jV bC]) ⟨⟨_,cA,(wBR zf zH (eI.blkAt (k:=0) rfl) (vs:=B1) rfl rfl)⟩,⟨rfl,trivial⟩⟩ rfl),cr,_,(eI.pick [] _ (by decide) rfl),rfl,rfl⟩
 try dsimp only at bY
 obtain ⟨ap,aq,au,av,aQ,az,aR,ab,aT,aS,rfl,rfl,gj,gm,gp,bW⟩:=eH
 have dw:sW w U bw [.blk ap 99 ([.slice aq x42.Bout.Shots.length au,.slice av x42.Bout.Down.length aQ,.slice az x42.Bout.Across.length aR,.map (some ab)] ++ ((hH KL.encI x42.hits.l) ++ ((hH KL.encI x42.used.l) ++ (hH KL.encT x42.met.l)))),.obj ab (.map aT aS),.blk ak 44 B1,.blk b2 26 B0] ct:=eL
 refine oM Z Z (oR Z (ZC Z Z (v:=.pointer (some ⟨ap,0,none⟩)) Z) (oR Z (ZC Z Z (v:=jV bC) Z) (oA Z Z (oA Z Z (eN (zJ (bnK bY fun ga ft j6=>yB (fun σ_ w_=>∃ (U_:PHeap),σ_ 1=jV p1/\σ_ 3=.slice bt p3.length bu/\σ_ 4=.pointer (some ⟨b2,0,none⟩)/\σ_ 6=.pointer (some ⟨b6,0,none⟩)/\σ_ 8=.pointer (some ⟨ak,0,none⟩)/\σ_ 10=.pointer (some ⟨ap,0,none⟩)/\σ_ 11=jV bC/\σ_ 39=.bool ga/\PHeap.Le bw U_/\sW w U U_ [.blk ap 99 ([.slice aq x42.Bout.Shots.length au,.slice av x42.Bout.Down.length aQ,.slice az x42.Bout.Across.length aR,.map (some ab)] ++ ((hH KL.encI x42.hits.l) ++ ((hH KL.encI x42.used.l) ++ (hH KL.encT x42.met.l)))),.obj ab (.map aT aS),.blk ak 44 B1,.blk b2 26 B0] w_) ?_ ?_)))))))
 refine rR (wJF (.fx 8 (wQZ (.fx 16 (wOw (.nil)) .stop)) .stop)) Z (oM Z Z (oR Z (Zg Z Z Z) (oM Z Z ?_)))
 by_cases aU:bC=0
 have e9:=ft;rw [if_pos aU] at e9;replace aU:=zN aU
 refine zW Z Z Z (wT Z aU) Z Z (rU Z (wT Z aU) (zK Z Z zR Z zZ) (zy Z Z Z (wT Z aU) (dw.ldB (j:=3) Z Z Z zd (v:=.slice bK p0.Shots.length bM) Z) Z (rU Z (wT Z aU) (zr Z Z zA) (rU Z (wT Z aU) (ZG Z Z Z) (bnK e9 fun x117 gq j7=>zM 0 Z Z Z (wT Z aU) (zL Z Z Zu (zB Z (zB Z (zB Z zS))) Z) dw (fun hs=>wAq p1 0 (w64 ((↑p0.Shots.length:Int) - 1)) ct bw hs gq) (.inr Z) ?_)))))
 rintro cN l4 mG dQ dC i0 ⟨rfl,rfl⟩
 have cB:sW w U cN [.blk ap 99 ([.slice aq x42.Bout.Shots.length au,.slice av x42.Bout.Down.length aQ,.slice az x42.Bout.Across.length aR,.map (some ab)] ++ ((hH KL.encI x42.hits.l) ++ ((hH KL.encI x42.used.l) ++ (hH KL.encT x42.met.l)))),.obj ab (.map aT aS),.blk ak 44 B1,.blk b2 26 B0] dQ:=i0
 refine rU Z (wT Z aU) (ZR Z Z) (zW Z Z Z (wT Z aU) Z Z (ifc j7 ?_ ?_))
 intro bl j8
 have gt:=bH.le bI
 have gu:=gt.le dC
 refine zy Z Z Z (zE Z Z (nC bl.out)) (cB.ldC (f:=0) gu (v:=jV p2) Z Z zO Z) Z (zV Z Z Z (zE Z Z (nC bl.out)) (fun _=>zK Z Z zR Z zZ) (zy Z Z Z (zE Z Z (nC bl.out)) (cB.ldB (j:=3) Z Z Z zd (v:=.slice bL p0.Down.length bN) Z) Z (zV Z Z Z (zE Z Z (nC bl.out)) (fun _=>zr Z Z zA) (zV Z Z Z (zE Z Z (nC bl.out)) (fun _=>ZG Z Z Z) (bnK j8 fun mV gv j9=>zM 0 Z Z Z (zE Z Z (nC bl.out)) (zL Z Z Zu (zB Z (zB Z (zB Z zS))) Z) cB (fun hs=>wAq p2 0 (w64 ((↑p0.Down.length:Int) - 1)) dQ cN hs gv) (.inr Z) ?_)))))
 rintro dH l5 mH fD lU i6 ⟨rfl,rfl⟩
 have i7:sW w U dH [.blk ap 99 ([.slice aq x42.Bout.Shots.length au,.slice av x42.Bout.Down.length aQ,.slice az x42.Bout.Across.length aR,.map (some ab)] ++ ((hH KL.encI x42.hits.l) ++ ((hH KL.encI x42.used.l) ++ (hH KL.encT x42.met.l)))),.obj ab (.map aT aS),.blk ak 44 B1,.blk b2 26 B0] fD:=i6
 refine zV Z Z Z (zE Z Z (nC bl.out)) (fun _=>ZR Z Z) (rU Z (wT Z aU) (zP Z (nC bl.out) Z) (oR Z (zU Z (Zf aU.out) Z) (zn ?_)))
 cases j9
 exact zI ⟨Z,⟨dH,Z,Z,Z,Z,Z,Z,Z,Z,(dC.trans lU),i7⟩⟩
 intro bl lf
 refine zG Z Z Z (zF Z Z (nF (bl.out)) Z) (zG Z Z Z (zF Z Z (nF (bl.out)) Z) (zG Z Z Z (zF Z Z (nF (bl.out)) Z) (zG Z Z Z (zF Z Z (nF (bl.out)) Z) (zG Z Z Z (zF Z Z (nF (bl.out)) Z) (ZV Z Z Z (zF Z Z (nF (bl.out)) Z) (zG Z Z Z (zF Z Z (nF (bl.out)) Z) (rU Z (wT Z aU) (zU Z (nF (bl.out)) Z) (oR Z (zU Z (Zf aU.out) Z) (zn ?_)))))))))
 cases lf
 exact zI ⟨Z,⟨cN,Z,Z,Z,Z,Z,Z,Z,Z,dC,cB⟩⟩
 have fb:=ft;rw [if_neg aU] at fb;replace aU:=zN aU
 refine oF Z aU (oF Z aU (oF Z aU (oF Z aU (oF Z aU (ZV Z Z Z (zF Z Z (zm aU.out) Z) (oF Z aU (oF Z aU (zG Z Z Z (wAG Z Z Z) (zG Z Z Z (wAG Z Z Z) (zG Z Z Z (wAG Z Z Z) (zG Z Z Z (wAG Z Z Z) (zG Z Z Z (wAG Z Z Z) (ZV Z Z Z (wAG Z Z Z) (zG Z Z Z (wAG Z Z Z) (oF Z aU (oR Z (zP Z (zm aU.out) Z) (zn ?_)))))))))))))))))
 cases fb
 exact zI ⟨Z,⟨bw,Z,Z,Z,Z,Z,Z,Z,Z,(zX _),dw⟩⟩
 rintro mY fG ⟨bT,bV,bR,gf,dY,bs,bS,dm,dZ,bA,dx⟩
 refine ifc j6 ?_ ?_
 intro cY lg
 refine ZB (dZ.trans (congrArg nA cY.out)) (rR fL1 rfl (OKS.ra rfl rfl rfl rfl rfl rfl (eN (zJ (sR fL2 rfl (zW rfl rfl rfl rfl rfl rfl (zV rfl rfl rfl rfl (fun _=>Zg rfl rfl rfl) (eN (zg (zm (by decide)) (kN (zJ (sR fL2 rfl (zW rfl rfl rfl rfl rfl rfl (zV rfl rfl rfl rfl (fun _=>ZL rfl rfl rfl) (eN (ZB (Zf (by decide)) (sR gBq rfl (zV rfl rfl rfl rfl (fun _=>ZM (pv:=[]) (z:=B1) (cs:=B1) rfl wAo zw wBl rfl rfl) (zW rfl rfl rfl rfl rfl rfl (zt (j:=2) (vs:=B1) rfl rfl rfl rfl dx rfl bs rfl rfl zH (zC rfl) rfl rfl rfl ?_))))))))))))))))))))
 intro fH i8
 have eK:sW w U bT [.blk ap 99 ([.slice aq x42.Bout.Shots.length au,.slice av x42.Bout.Down.length aQ,.slice az x42.Bout.Across.length aR,.map (some ab)] ++ ((hH KL.encI x42.hits.l) ++ ((hH KL.encI x42.used.l) ++ (hH KL.encT x42.met.l)))),.obj ab (.map aT aS),.blk ak 44 B1,.blk b2 26 B0] fH:=i8
 refine oA Z Z (eN (zQ (ze ?_)))
 cases lg
 exact ⟨rfl,_,(wCZ (rs:=[.cell 8 44,.tmp 9]) (vs:=[.agg B1.toArray,jV 1]) ⟨⟨_,bs,(wBR zf zH (eK.blkAt (k:=2) rfl) (vs:=B1) rfl rfl)⟩,⟨rfl,trivial⟩⟩ rfl),bT,_,(eK.pick [] _ (by decide) rfl),rfl,rfl⟩
 intro cY lh
 refine zg (dZ.trans (congrArg nA (nB.2 cY.out))) (kN (zJ (sR fL2 Z (oM Z dm (oR Z (Zg Z Z Z) (eN (ifc lh ?_ ?_)))))))
 intro cw li
 refine cT Z cw (rR gBq Z (oM Z bS (oM Z bR ?_)))
 have eb:=gj.le bA
 have ed:=gm.le bA
 have ef:=gp.le bA
 have gw:=j0.le cG
 have gx:=gw.le bI
 have ei:=gx.le bA
 refine bnK li fun lZ gy lj=>zM 2 Z Z Z Z (zL Z Z Try.call71 (zB Z (zB Z zS)) Z) dx (fun hs=>wFY x42 ap aq au av aQ az aR ab aT aS p3 bt bu fG bT hs eb ed ef bW ei gy) (.inl Z) ?_
 rintro cn l6 mI dR bB i9 ⟨rfl,rfl⟩
 have dy:sW w U cn [.blk ap 99 ([.slice aq x42.Bout.Shots.length au,.slice av x42.Bout.Down.length aQ,.slice az x42.Bout.Across.length aR,.map (some ab)] ++ ((hH KL.encI x42.hits.l) ++ ((hH KL.encI x42.used.l) ++ (hH KL.encT x42.met.l)))),.obj ab (.map aT aS),.blk ak 44 B1,.blk b2 26 B0] dR:=i9
 refine oA Z Z (eN (zJ (sR fL2 Z (oM Z Z (oR Z (ZL Z Z Z) (eN (ifc lj ?_ ?_)))))))
 intro cZ lm
 refine zg (zm (fun h=>h cZ.out)) (kN (zJ (sR (.fl 0 gBp) Z (oL Z (dy.ldBA (j:=3) Z Z gf ZT zu (vs:=B0) Z Z) ?_))))
 have gz:=ej.le bI
 have gA:=gz.le bA
 have gB:=gA.le bB
 have gC:=en.le bI
 have gD:=gC.le bA
 have gE:=gD.le bB
 have gF:=eu.le bI
 have gG:=gF.le bA
 have gH:=gG.le bB
 refine bnK lm fun aa gI lp=>zM 0 Z Z Z Z (zL Z Z Try.call45 (zB Z zS) Z) dy (fun hs=>wDO p0 bK bM bL bN cg ci dR cn hs gB gE gH gI) (.inr Z) ?_
 rintro dI l7 mJ dS bZ ja ⟨ba,aX,bb,aY,be,aZ,bf,ai,bh,bg,rfl,rfl,gJ,gK,gL,gM⟩
 have jb:sW w U dI [.blk ba 99 ([.slice aX aa.Bout.Shots.length bb,.slice aY aa.Bout.Down.length be,.slice aZ aa.Bout.Across.length bf,.map (some ai)] ++ ((hH KL.encI aa.hits.l) ++ ((hH KL.encI aa.used.l) ++ (hH KL.encT aa.met.l)))),.obj ai (.map bh bg),.blk ap 99 ([.slice aq x42.Bout.Shots.length au,.slice av x42.Bout.Down.length aQ,.slice az x42.Bout.Across.length aR,.map (some ab)] ++ ((hH KL.encI x42.hits.l) ++ ((hH KL.encI x42.used.l) ++ (hH KL.encT x42.met.l)))),.obj ab (.map aT aS),.blk ak 44 B1,.blk b2 26 B0] dS:=ja
 have q:=bnd lp
 obtain ⟨⟨dE,ae⟩,gN,fc⟩:=q
 try dsimp only at fc
 refine zM 2 Z Z Z Z (zL Z Z Try.call46 (zB Z zS) Z) jb (fun hs=>wBL aa ba aX bb aY be aZ bf ai bh bg dS dI hs gJ gK gL gM gN) (.inl Z) ?_
 rintro bU l8 mK cU b5 jc ⟨dF,ge,rfl,rfl,gP⟩
 let B2:Res:=.row dF ge 3 1 (hH KL.encI dE)
 have cC:sW w U bU [B2,.blk ba 99 ([.slice aX aa.Bout.Shots.length bb,.slice aY aa.Bout.Down.length be,.slice aZ aa.Bout.Across.length bf,.map (some ai)] ++ ((hH KL.encI ae.1.l) ++ ((hH KL.encI ae.2.1.l) ++ (hH KL.encT ae.2.2.l)))),.obj ai (.map bh bg),.blk ap 99 ([.slice aq x42.Bout.Shots.length au,.slice av x42.Bout.Down.length aQ,.slice az x42.Bout.Across.length aR,.map (some ab)] ++ ((hH KL.encI x42.hits.l) ++ ((hH KL.encI x42.used.l) ++ (hH KL.encT x42.met.l)))),.obj ab (.map aT aS),.blk ak 44 B1,.blk b2 26 B0] cU:=jc
 have gQ:dF.isNone=decide (dE=[]):=wHZ (j:=0) cC rfl (fun _=>rfl) (by decide) gP
 refine zV rfl rfl rfl rfl (fun _=>Runs.neNilR (b:=decide (¬ (dE=[]))) rfl rfl rfl zA (by simp [gQ])) (eN (ifc fc ?_ ?_))
 intro da lq
 refine zg (zm (fun h=>h da.out)) (kN (sR (wDw (.fx 3 (.fl 4 (.fx 5 (.fx 6 .nil .stop) .stop)) .stop)) Z (oM Z bS (oM Z bV ?_))))
 have gR:=bH.le bI
 have gS:=gR.le bA
 have gT:=gS.le bB
 have gU:=gT.le bZ
 have ey:=gU.le b5
 refine oL Z (cC.ldC (f:=0) ey (v:=jV p2) Z dY zO Z) ?_
 have gW:=eb.le bB
 have gX:=gW.le bZ
 have ez:=gX.le b5
 have gZ:=ed.le bB
 have g6:=gZ.le bZ
 have eA:=g6.le b5
 have g7:=ef.le bB
 have g8:=g7.le bZ
 have eC:=g8.le b5
 refine bnK lq fun cj g9 ls=>?_
 have jd:sW w U bU [.blk ap 99 ([.slice aq x42.Bout.Shots.length au,.slice av x42.Bout.Down.length aQ,.slice az x42.Bout.Across.length aR,.map (some ab)] ++ ((hH KL.encI x42.hits.l) ++ ((hH KL.encI x42.used.l) ++ (hH KL.encT x42.met.l)))),.obj ab (.map aT aS),B2,.blk ba 99 ([.slice aX aa.Bout.Shots.length bb,.slice aY aa.Bout.Down.length be,.slice aZ aa.Bout.Across.length bf,.map (some ai)] ++ ((hH KL.encI ae.1.l) ++ ((hH KL.encI ae.2.1.l) ++ (hH KL.encT ae.2.2.l)))),.obj ai (.map bh bg),.blk ak 44 B1,.blk b2 26 B0] cU:=cC.pick [3,4,0,1,2,5,6] _ (by decide) rfl
 refine zM 2 Z Z Z Z (zL Z Z Try.call65 (zB Z (zB Z (zB Z zS))) Z) jd (fun hs=>wCp x42 ap aq au av aQ az aR ab aT aS p1 p2 cU bU hs ez eA eC bW g9) (.inl Z) ?_
 rintro cO l9 mL fJ b9 je ⟨rfl,rfl⟩
 have jf:sW w U cO [.blk ap 99 ([.slice aq x42.Bout.Shots.length au,.slice av x42.Bout.Down.length aQ,.slice az x42.Bout.Across.length aR,.map (some ab)] ++ ((hH KL.encI x42.hits.l) ++ ((hH KL.encI x42.used.l) ++ (hH KL.encT x42.met.l)))),.obj ab (.map aT aS),B2,.blk ba 99 ([.slice aX aa.Bout.Shots.length bb,.slice aY aa.Bout.Down.length be,.slice aZ aa.Bout.Across.length bf,.map (some ai)] ++ ((hH KL.encI ae.1.l) ++ ((hH KL.encI ae.2.1.l) ++ (hH KL.encT ae.2.2.l)))),.obj ai (.map bh bg),.blk ak 44 B1,.blk b2 26 B0] fJ:=je
 let B3:List Value:=[jV 0,jV cj]
 refine oR Z (ZM (pv:=[(1,jV cj)]) (z:=B1) (cs:=B3) Z (wAR Z wAo) zw wBl Z Z) (zx (cs:=B1) Z Z Z Z Z zw Z jf ?_)
 intro mr bj jg
 refine zt (j:=0) (vs:=B3) Z Z Z Z jg Z Z Z Z zH (zC Z) Z Z Z ?_
 intro dT jh
 have ji:sW w U cO [.blk bj 44 B3,.blk ap 99 ([.slice aq x42.Bout.Shots.length au,.slice av x42.Bout.Down.length aQ,.slice az x42.Bout.Across.length aR,.map (some ab)] ++ ((hH KL.encI x42.hits.l) ++ ((hH KL.encI x42.used.l) ++ (hH KL.encT x42.met.l)))),.obj ab (.map aT aS),B2,.blk ba 99 ([.slice aX aa.Bout.Shots.length bb,.slice aY aa.Bout.Down.length be,.slice aZ aa.Bout.Across.length bf,.map (some ai)] ++ ((hH KL.encI ae.1.l) ++ ((hH KL.encI ae.2.1.l) ++ (hH KL.encT ae.2.2.l)))),.obj ai (.map bh bg),.blk ak 44 B1,.blk b2 26 B0] dT:=jh
 refine eN (sR (.fl 0 (.fx 1 (.fl 2 gBg) .stop)) Z (oM Z bR ?_))
 have ib:=ei.le bB
 have ic:=ib.le bZ
 have ie:=ic.le b5
 have eE:=ie.le b9
 refine bnK ls fun fz ig lu=>zM 0 Z Z Z Z (zL Z Z Try.call44 (zB Z zS) Z) ji (fun hs=>wCN p3 bt bu dT cO hs eE ig) (.inr Z) ?_
 rintro cP mb mN dU cf jj ⟨dG,dX,rfl,rfl⟩
 have jk:sW w U cP [.row dG dX 3 1 (hH KL.encI fz),.blk bj 44 B3,.blk ap 99 ([.slice aq x42.Bout.Shots.length au,.slice av x42.Bout.Down.length aQ,.slice az x42.Bout.Across.length aR,.map (some ab)] ++ ((hH KL.encI x42.hits.l) ++ ((hH KL.encI x42.used.l) ++ (hH KL.encT x42.met.l)))),.obj ab (.map aT aS),B2,.blk ba 99 ([.slice aX aa.Bout.Shots.length bb,.slice aY aa.Bout.Down.length be,.slice aZ aa.Bout.Across.length bf,.map (some ai)] ++ ((hH KL.encI ae.1.l) ++ ((hH KL.encI ae.2.1.l) ++ (hH KL.encT ae.2.2.l)))),.obj ai (.map bh bg),.blk ak 44 B1,.blk b2 26 B0] dU:=jj
 refine oR Z (Runs.mkf Z zS (zB dY zS)) ?_
 have ii:=ey.le b9
 have ij:=ii.le cf
 have iX:FnOK Try.prog cP (.func (.func 73) #[] #[.pointer (some ⟨b6,0,none⟩)]) wLR wOE (fun x=>wCP x p2):=⟨73,[],[.pointer (some ⟨b6,0,none⟩)],rfl,Try.call73,fun U1 w1 x y vs le hs ha hm=>by obtain rfl:=ha;exact wGw x p2 b6 w1 U1 hs (ij.le le) hm⟩
 refine bnK lu fun bO ik lv=>zM 1 Z Z Z Z (zL Z Z Try.call72 (zB Z (zB Z zS)) Z) jk (fun hs=>wDv fz dG dX (fun x=>wCP x p2) (.func (.func 73) #[] #[.pointer (some ⟨b6,0,none⟩)]) dU cP hs iX ik) (.inl Z) ?_
 rintro cQ md mO cV cH jl ⟨cm,cy,rfl,rfl⟩
 let B4:Res:=.row cm cy 3 1 (hH KL.encI bO)
 have jo:sW w U cQ [B4,.blk bj 44 B3,.blk ap 99 ([.slice aq x42.Bout.Shots.length au,.slice av x42.Bout.Down.length aQ,.slice az x42.Bout.Across.length aR,.map (some ab)] ++ ((hH KL.encI x42.hits.l) ++ ((hH KL.encI x42.used.l) ++ (hH KL.encT x42.met.l)))),.obj ab (.map aT aS),B2,.blk ba 99 ([.slice aX aa.Bout.Shots.length bb,.slice aY aa.Bout.Down.length be,.slice aZ aa.Bout.Across.length bf,.map (some ai)] ++ ((hH KL.encI ae.1.l) ++ ((hH KL.encI ae.2.1.l) ++ (hH KL.encT ae.2.2.l)))),.obj ai (.map bh bg),.blk ak 44 B1,.blk b2 26 B0] cV:=jl
 refine oA Z Z (eN (sR (wDw gBg) Z (oM Z bS (oM Z bR (oM Z bV ?_)))))
 have im:=ez.le b9
 have io:=im.le cf
 have dq:=io.le cH
 have ip:=eA.le b9
 have iq:=ip.le cf
 have dr:=iq.le cH
 have ir:=eC.le b9
 have it:=ir.le cf
 have dt:=it.le cH
 have iu:=eE.le cf
 have eF:=iu.le cH
 refine bnK lv fun bv iv lw=>?_
 have jp:sW w U cQ [.blk ap 99 ([.slice aq x42.Bout.Shots.length au,.slice av x42.Bout.Down.length aQ,.slice az x42.Bout.Across.length aR,.map (some ab)] ++ ((hH KL.encI x42.hits.l) ++ ((hH KL.encI x42.used.l) ++ (hH KL.encT x42.met.l)))),.obj ab (.map aT aS),B4,.blk bj 44 B3,B2,.blk ba 99 ([.slice aX aa.Bout.Shots.length bb,.slice aY aa.Bout.Down.length be,.slice aZ aa.Bout.Across.length bf,.map (some ai)] ++ ((hH KL.encI ae.1.l) ++ ((hH KL.encI ae.2.1.l) ++ (hH KL.encT ae.2.2.l)))),.obj ai (.map bh bg),.blk ak 44 B1,.blk b2 26 B0] cV:=jo.pick [2,3,0,1,4,5,6,7,8] _ (by decide) rfl
 refine zM 2 Z Z Z Z (zL Z Z Try.call74 (zB Z (zB Z (zB Z zS))) Z) jp (fun hs=>wFE x42 ap aq au av aQ az aR ab aT aS p3 bt bu p1 cV cQ hs dq dr dt bW eF iv) (.inl Z) ?_
 rintro dJ mf mP cu bJ jq ⟨rfl,rfl⟩
 have eM:sW w U dJ [.blk ap 99 ([.slice aq x42.Bout.Shots.length au,.slice av x42.Bout.Down.length aQ,.slice az x42.Bout.Across.length aR,.map (some ab)] ++ ((hH KL.encI x42.hits.l) ++ ((hH KL.encI x42.used.l) ++ (hH KL.encT x42.met.l)))),.obj ab (.map aT aS),B4,.blk bj 44 B3,B2,.blk ba 99 ([.slice aX aa.Bout.Shots.length bb,.slice aY aa.Bout.Down.length be,.slice aZ aa.Bout.Across.length bf,.map (some ai)] ++ ((hH KL.encI ae.1.l) ++ ((hH KL.encI ae.2.1.l) ++ (hH KL.encT ae.2.2.l)))),.obj ai (.map bh bg),.blk ak 44 B1,.blk b2 26 B0] cu:=jq
 refine oA Z Z (eN (zJ (zi ?_)))
 have q:=bnd lw
 obtain ⟨⟨dB,gb⟩,fu,fd⟩:=q
 try dsimp only at fd
 refine yB (fun σ_ w_=>∃ (U_:PHeap) (cK:Option Addr) (de:Nat),σ_ 1=jV p1/\σ_ 3=.slice bt p3.length bu/\σ_ 8=.pointer (some ⟨ak,0,none⟩)/\σ_ 10=.pointer (some ⟨ap,0,none⟩)/\σ_ 12=.pointer (some ⟨bj,0,none⟩)/\σ_ 13=.slice cK dB.length de/\σ_ 14=jV bv/\σ_ 67=.bool gb/\PHeap.Le dJ U_/\sW w U U_ [.blk ap 99 ([.slice aq x42.Bout.Shots.length au,.slice av x42.Bout.Down.length aQ,.slice az x42.Bout.Across.length aR,.map (some ab)] ++ ((hH KL.encI x42.hits.l) ++ ((hH KL.encI x42.used.l) ++ (hH KL.encT x42.met.l)))),.obj ab (.map aT aS),.blk bj 44 B3,.blk ba 99 ([.slice aX aa.Bout.Shots.length bb,.slice aY aa.Bout.Down.length be,.slice aZ aa.Bout.Across.length bf,.map (some ai)] ++ ((hH KL.encI ae.1.l) ++ ((hH KL.encI ae.2.1.l) ++ (hH KL.encT ae.2.2.l)))),.obj ai (.map bh bg),.blk ak 44 B1,.blk b2 26 B0] w_/\Sl U_ 1 cK de dB.length (hH KL.encI dB)) ?_ ?_
 refine rR (wTS (.fx 9 (wRu (.nil)) .stop)) Z (oM Z Z (oR Z (zr Z Z zA) (oM Z bR (oR Z (zr Z Z zA) (oR Z (zo Z Z Z) (oM Z Z ?_))))))
 by_cases bk:(↑bO.length:Int) < (↑p3.length:Int)
 have ff:=fu;rw [if_pos bk] at ff;replace bk:=zN bk
 refine zW Z Z Z (wT Z bk) Z bS (zW Z Z Z (wT Z bk) Z bV (zW Z Z Z (wT Z bk) Z Z ?_))
 have q:=eM.freezeR (k:=2) (n:=bO.length) rfl (wAI (f:=KL.encI) (sz:=1) (fun _=>rfl) bO) (by decide)
 obtain ⟨dK,cI,fm,jr⟩:=q
 have jt:sW w U dK [.blk ap 99 ([.slice aq x42.Bout.Shots.length au,.slice av x42.Bout.Down.length aQ,.slice az x42.Bout.Across.length aR,.map (some ab)] ++ ((hH KL.encI x42.hits.l) ++ ((hH KL.encI x42.used.l) ++ (hH KL.encT x42.met.l)))),.obj ab (.map aT aS),.blk bj 44 B3,B2,.blk ba 99 ([.slice aX aa.Bout.Shots.length bb,.slice aY aa.Bout.Down.length be,.slice aZ aa.Bout.Across.length bf,.map (some ai)] ++ ((hH KL.encI ae.1.l) ++ ((hH KL.encI ae.2.1.l) ++ (hH KL.encT ae.2.2.l)))),.obj ai (.map bh bg),.blk ak 44 B1,.blk b2 26 B0] cu:=jr
 have iw:=dq.le bJ
 have iy:=iw.le cI
 have iz:=dr.le bJ
 have iA:=iz.le cI
 have iB:=dt.le bJ
 have iC:=iB.le cI
 refine bnK ff fun mW iE lx=>zM 2 Z Z Z (wT Z bk) (zL Z Z Try.call75 (zB Z (zB Z (zB Z zS))) Z) jt (fun hs=>wDQ x42 ap aq au av aQ az aR ab aT aS p1 bO cm cy cu dK hs iy iA iC bW fm iE) (.inl Z) ?_
 rintro dL mg mQ fK fy ju ⟨rfl,rfl⟩
 have jv:sW w U dL [.blk ap 99 ([.slice aq x42.Bout.Shots.length au,.slice av x42.Bout.Down.length aQ,.slice az x42.Bout.Across.length aR,.map (some ab)] ++ ((hH KL.encI x42.hits.l) ++ ((hH KL.encI x42.used.l) ++ (hH KL.encT x42.met.l)))),.obj ab (.map aT aS),.blk bj 44 B3,B2,.blk ba 99 ([.slice aX aa.Bout.Shots.length bb,.slice aY aa.Bout.Down.length be,.slice aZ aa.Bout.Across.length bf,.map (some ai)] ++ ((hH KL.encI ae.1.l) ++ ((hH KL.encI ae.2.1.l) ++ (hH KL.encT ae.2.2.l)))),.obj ai (.map bh bg),.blk ak 44 B1,.blk b2 26 B0] fK:=ju
 refine rU Z (wT Z bk) (ZR Z Z) (oR Z (zU Z (Zf bk.out) Z) (oA Z Z (zn ?_)))
 cases lx
 have iF:=fm.le fy
 exact zI ⟨rfl,⟨dL,cm,cy,bV,bR,bs,bS,rfl,rfl,rfl,rfl,(cI.trans fy),(jv.pick [0,1,2,4,5,6,7] _ (by decide) rfl),iF⟩⟩
 have fg:=fu;rw [if_neg bk] at fg;replace bk:=zN bk
 refine oF Z bk (oF Z bk (oF Z bk (ZV Z Z Z (zF Z Z (zm bk.out) Z) (oF Z bk (oR Z (zP Z (zm bk.out) Z) (oA Z Z (zn ?_)))))))
 have q:=eM.freezeR (k:=2) (n:=bO.length) rfl (wAI (f:=KL.encI) (sz:=1) (fun _=>rfl) bO) (by decide)
 obtain ⟨dM,lV,lS,jw⟩:=q
 have jx:sW w U dM [.blk ap 99 ([.slice aq x42.Bout.Shots.length au,.slice av x42.Bout.Down.length aQ,.slice az x42.Bout.Across.length aR,.map (some ab)] ++ ((hH KL.encI x42.hits.l) ++ ((hH KL.encI x42.used.l) ++ (hH KL.encT x42.met.l)))),.obj ab (.map aT aS),.blk bj 44 B3,B2,.blk ba 99 ([.slice aX aa.Bout.Shots.length bb,.slice aY aa.Bout.Down.length be,.slice aZ aa.Bout.Across.length bf,.map (some ai)] ++ ((hH KL.encI ae.1.l) ++ ((hH KL.encI ae.2.1.l) ++ (hH KL.encT ae.2.2.l)))),.obj ai (.map bh bg),.blk ak 44 B1,.blk b2 26 B0] cu:=jw
 cases fg
 exact zI ⟨rfl,⟨dM,cm,cy,bV,bR,bs,bS,rfl,rfl,rfl,rfl,lV,(jx.pick [0,1,2,4,5,6,7] _ (by decide) rfl),lS⟩⟩
 rintro mZ fL ⟨bQ,cK,de,d4,d5,bz,d6,bG,gg,d7,d8,cJ,cD,mB⟩
 refine ifc fd ?_ ?_
 intro df ly
 refine ZB (d8.trans (congrArg nA df.out)) (rR (wDw (.fx 3 .nil .stop)) Z (oM Z d7 (oR Z (Runs.max Z Z Z) (oR Z (zK Z bG zh Z zD) (zt (j:=2) (vs:=[jV (max 0 bv)]) Z Z Z Z cD Z Z Z Z zD (zC Z) Z Z Z ?_)))))
 intro fM jy
 let B5:List Value:=[jV (max 0 bv),jV cj]
 have eO:sW w U bQ [.blk ap 99 ([.slice aq x42.Bout.Shots.length au,.slice av x42.Bout.Down.length aQ,.slice az x42.Bout.Across.length aR,.map (some ab)] ++ ((hH KL.encI x42.hits.l) ++ ((hH KL.encI x42.used.l) ++ (hH KL.encT x42.met.l)))),.obj ab (.map aT aS),.blk bj 44 B5,.blk ba 99 ([.slice aX aa.Bout.Shots.length bb,.slice aY aa.Bout.Down.length be,.slice aZ aa.Bout.Across.length bf,.map (some ai)] ++ ((hH KL.encI ae.1.l) ++ ((hH KL.encI ae.2.1.l) ++ (hH KL.encT ae.2.2.l)))),.obj ai (.map bh bg),.blk ak 44 B1,.blk b2 26 B0] fM:=jy
 refine zn (zp (zI (sR gBl Z (oL Z (eO.ldBA (j:=2) Z Z bG zf zH (vs:=B5) Z Z) (zt (j:=5) (vs:=B5) Z Z Z Z eO Z bz Z Z zH (zC Z) Z Z Z ?_)))))
 intro fN jz
 have eP:sW w U bQ [.blk ap 99 ([.slice aq x42.Bout.Shots.length au,.slice av x42.Bout.Down.length aQ,.slice az x42.Bout.Across.length aR,.map (some ab)] ++ ((hH KL.encI x42.hits.l) ++ ((hH KL.encI x42.used.l) ++ (hH KL.encT x42.met.l)))),.obj ab (.map aT aS),.blk bj 44 B5,.blk ba 99 ([.slice aX aa.Bout.Shots.length bb,.slice aY aa.Bout.Down.length be,.slice aZ aa.Bout.Across.length bf,.map (some ai)] ++ ((hH KL.encI ae.1.l) ++ ((hH KL.encI ae.2.1.l) ++ (hH KL.encT ae.2.2.l)))),.obj ai (.map bh bg),.blk ak 44 B5,.blk b2 26 B0] fN:=jz
 refine oA Z Z (eN (zQ ?_))
 cases ly
 exact ⟨rfl,_,(wCZ (rs:=[.cell 8 44,.tmp 9]) (vs:=[.agg B5.toArray,jV 0]) ⟨⟨_,bz,(wBR zf zH (eP.blkAt (k:=5) rfl) (vs:=B5) rfl rfl)⟩,⟨rfl,trivial⟩⟩ rfl),bQ,_,(eP.pick [] _ (by decide) rfl),rfl,rfl⟩
 intro df lz
 refine zg (d8.trans (congrArg nA (nB.2 df.out))) (sR (wTS (.fx 9 (.fl 10 (.fl 11 .nil)) .stop)) Z (oM Z gg (oR Z (zr Z Z zA) (oM Z d5 (oR Z (zr Z Z zA) (oR Z (Zg Z Z Z) (oM Z Z (ifc lz ?_ ?_))))))))
 intro bq lA
 refine zW Z Z Z (wT Z bq) Z d6 (zW Z Z Z (wT Z bq) Z d4 (zW Z Z Z (wT Z bq) Z d5 ?_))
 have iG:=dq.le bJ
 have eG:=iG.le cJ
 have iH:=dr.le bJ
 have iI:=iH.le cJ
 have iJ:=dt.le bJ
 have iK:=iJ.le cJ
 have iL:=eF.le bJ
 have iM:=iL.le cJ
 refine bnK lA fun mX iN lB=>zM 2 Z Z Z (wT Z bq) (zL Z Z Try.call75 (zB Z (zB Z (zB Z zS))) Z) cD (fun hs=>wDQ x42 ap aq au av aQ az aR ab aT aS p1 p3 bt bu fL bQ hs eG iI iK bW iM iN) (.inl Z) ?_
 rintro cp mh mR cW lW jA ⟨rfl,rfl⟩
 have dz:sW w U cp [.blk ap 99 ([.slice aq x42.Bout.Shots.length au,.slice av x42.Bout.Down.length aQ,.slice az x42.Bout.Across.length aR,.map (some ab)] ++ ((hH KL.encI x42.hits.l) ++ ((hH KL.encI x42.used.l) ++ (hH KL.encT x42.met.l)))),.obj ab (.map aT aS),.blk bj 44 B3,.blk ba 99 ([.slice aX aa.Bout.Shots.length bb,.slice aY aa.Bout.Down.length be,.slice aZ aa.Bout.Across.length bf,.map (some ai)] ++ ((hH KL.encI ae.1.l) ++ ((hH KL.encI ae.2.1.l) ++ (hH KL.encT ae.2.2.l)))),.obj ai (.map bh bg),.blk ak 44 B1,.blk b2 26 B0] cW:=jA
 refine oR Z (zU Z (Zf bq.out) Z) (oA Z Z (eN (ifc lB ?_ ?_)))
 intro dg lC
 refine ZB (congrArg nA dg.out) (ZN ZO [3,1,3,3,3,3,1,3,3,1,3,3,2,2,3,0] (wLg (.fx 12 (.fx 13 (.fl 14 (.fx 15 .nil .stop)) .stop) .stop)) (by kernel_rfl) ?_)
 have bX:=dz.drew
 generalize hw_W421:({ cW with drawn:=cW.drawn + 1 }:World)=ms at bX ⊢
 refine oR Z (zK Z bG zh Z zD) (oL Z (bX.ldB (j:=2) Z Z Z zO (v:=jV cj) Z) (oM Z d6 (oR Z (ZQ Z Z) (oR Z (zK Z Z zj Z zu) (oR Z (zK Z Z zR Z zZ) (oL Z (bX.ldB (j:=0) Z Z Z zd (v:=.slice aq x42.Bout.Shots.length au) Z) (oM Z d4 (bnK lC fun bP du lD=>?_))))))))
 have iO:=eG.le lW
 have q:=iO.el (fun _=>rfl) (wAV du)
 obtain ⟨mw,mF,iV,iW⟩:=q
 refine oR Z (ZP Z Z iV Z zA zD (wBp du) (wBs du)) (oL Z (bX.ldC (f:=0) iW (v:=jV bP) Z Z zO Z) (oM Z d7 (oR Z (ZG Z Z Z) (Zy (pv:=[(0,jV (w64 (bP - bv)))]) (zs:=[jV 0]) (cs:=[jV (w64 (bP - bv))]) Z Z Z Z Z (wAR Z wAo) zA zD yA Z Z Z Z Z bX ?_))))
 intro cX dW jB
 have jC:sW w U cp [.row (some ⟨dW,0,none⟩) 1 3 1 (hH KL.encI [w64 (bP - bv)]),.blk ap 99 ([.slice aq x42.Bout.Shots.length au,.slice av x42.Bout.Down.length aQ,.slice az x42.Bout.Across.length aR,.map (some ab)] ++ ((hH KL.encI x42.hits.l) ++ ((hH KL.encI x42.used.l) ++ (hH KL.encT x42.met.l)))),.obj ab (.map aT aS),.blk bj 44 B3,.blk ba 99 ([.slice aX aa.Bout.Shots.length bb,.slice aY aa.Bout.Down.length be,.slice aZ aa.Bout.Across.length bf,.map (some ai)] ++ ((hH KL.encI ae.1.l) ++ ((hH KL.encI ae.2.1.l) ++ (hH KL.encT ae.2.2.l)))),.obj ai (.map bh bg),.blk ak 44 B1,.blk b2 26 B0] cX:=jB
 have q:=jC.freezeR (k:=0) (n:=[w64 (bP - bv)].length) rfl (wAI (f:=KL.encI) (sz:=1) (fun _=>rfl) [w64 (bP - bv)]) (by decide)
 obtain ⟨dO,mC,lT,jD⟩:=q
 have jE:sW w U dO [.blk ap 99 ([.slice aq x42.Bout.Shots.length au,.slice av x42.Bout.Down.length aQ,.slice az x42.Bout.Across.length aR,.map (some ab)] ++ ((hH KL.encI x42.hits.l) ++ ((hH KL.encI x42.used.l) ++ (hH KL.encT x42.met.l)))),.obj ab (.map aT aS),.blk bj 44 B3,.blk ba 99 ([.slice aX aa.Bout.Shots.length bb,.slice aY aa.Bout.Down.length be,.slice aZ aa.Bout.Across.length bf,.map (some ai)] ++ ((hH KL.encI ae.1.l) ++ ((hH KL.encI ae.2.1.l) ++ (hH KL.encT ae.2.2.l)))),.obj ai (.map bh bg),.blk ak 44 B1,.blk b2 26 B0] cX:=jD
 refine bnK lD fun fA iP lE=>zM 0 Z Z Z Z (zL Z Z Try.call47 (zB Z (zB Z zS)) Z) jE (fun hs=>wEO cj [w64 (bP - bv)] (some ⟨dW,0,none⟩) 1 cX dO hs lT iP) (.inr Z) ?_
 rintro cq mi mS fO mD jG ⟨rfl,rfl⟩
 have jH:sW w U cq [.blk ap 99 ([.slice aq x42.Bout.Shots.length au,.slice av x42.Bout.Down.length aQ,.slice az x42.Bout.Across.length aR,.map (some ab)] ++ ((hH KL.encI x42.hits.l) ++ ((hH KL.encI x42.used.l) ++ (hH KL.encT x42.met.l)))),.obj ab (.map aT aS),.blk bj 44 B3,.blk ba 99 ([.slice aX aa.Bout.Shots.length bb,.slice aY aa.Bout.Down.length be,.slice aZ aa.Bout.Across.length bf,.map (some ai)] ++ ((hH KL.encI ae.1.l) ++ ((hH KL.encI ae.2.1.l) ++ (hH KL.encT ae.2.2.l)))),.obj ai (.map bh bg),.blk ak 44 B1,.blk b2 26 B0] fO:=jG
 refine oR Z (zK Z bG zh Z zD) (zt (j:=2) (vs:=[jV fA]) Z Z Z Z jH Z Z Z Z zD (zC Z) Z Z Z ?_)
 intro fP jJ
 let B6:List Value:=[jV 0,jV fA]
 have eQ:sW w U cq [.blk ap 99 ([.slice aq x42.Bout.Shots.length au,.slice av x42.Bout.Down.length aQ,.slice az x42.Bout.Across.length aR,.map (some ab)] ++ ((hH KL.encI x42.hits.l) ++ ((hH KL.encI x42.used.l) ++ (hH KL.encT x42.met.l)))),.obj ab (.map aT aS),.blk bj 44 B6,.blk ba 99 ([.slice aX aa.Bout.Shots.length bb,.slice aY aa.Bout.Down.length be,.slice aZ aa.Bout.Across.length bf,.map (some ai)] ++ ((hH KL.encI ae.1.l) ++ ((hH KL.encI ae.2.1.l) ++ (hH KL.encT ae.2.2.l)))),.obj ai (.map bh bg),.blk ak 44 B1,.blk b2 26 B0] fP:=jJ
 refine zn (zp (zI (sR gBl Z (oL Z (eQ.ldBA (j:=2) Z Z bG zf zH (vs:=B6) Z Z) (zt (j:=5) (vs:=B6) Z Z Z Z eQ Z bz Z Z zH (zC Z) Z Z Z ?_)))))
 intro fQ jK
 have eT:sW w U cq [.blk ap 99 ([.slice aq x42.Bout.Shots.length au,.slice av x42.Bout.Down.length aQ,.slice az x42.Bout.Across.length aR,.map (some ab)] ++ ((hH KL.encI x42.hits.l) ++ ((hH KL.encI x42.used.l) ++ (hH KL.encT x42.met.l)))),.obj ab (.map aT aS),.blk bj 44 B6,.blk ba 99 ([.slice aX aa.Bout.Shots.length bb,.slice aY aa.Bout.Down.length be,.slice aZ aa.Bout.Across.length bf,.map (some ai)] ++ ((hH KL.encI ae.1.l) ++ ((hH KL.encI ae.2.1.l) ++ (hH KL.encT ae.2.2.l)))),.obj ai (.map bh bg),.blk ak 44 B6,.blk b2 26 B0] fQ:=jK
 refine oA Z Z (eN (zQ ?_))
 cases lE
 exact ⟨rfl,_,(wCZ (rs:=[.cell 8 44,.tmp 9]) (vs:=[.agg B6.toArray,jV 0]) ⟨⟨_,bz,(wBR zf zH (eT.blkAt (k:=5) rfl) (vs:=B6) rfl rfl)⟩,⟨rfl,trivial⟩⟩ rfl),cq,_,(eT.pick [] _ (by decide) rfl),rfl,rfl⟩
 intro dg lF
 refine zg (congrArg nA (nB.2 dg.out)) (Za (zp (zI (sR gBl Z (oL Z (dz.ldBA (j:=2) Z Z bG zf zH (vs:=B3) Z Z) (zt (j:=5) (vs:=B3) Z Z Z Z dz Z bz Z Z zH (zC Z) Z Z Z ?_))))))
 intro fR jL
 have eU:sW w U cp [.blk ap 99 ([.slice aq x42.Bout.Shots.length au,.slice av x42.Bout.Down.length aQ,.slice az x42.Bout.Across.length aR,.map (some ab)] ++ ((hH KL.encI x42.hits.l) ++ ((hH KL.encI x42.used.l) ++ (hH KL.encT x42.met.l)))),.obj ab (.map aT aS),.blk bj 44 B3,.blk ba 99 ([.slice aX aa.Bout.Shots.length bb,.slice aY aa.Bout.Down.length be,.slice aZ aa.Bout.Across.length bf,.map (some ai)] ++ ((hH KL.encI ae.1.l) ++ ((hH KL.encI ae.2.1.l) ++ (hH KL.encT ae.2.2.l)))),.obj ai (.map bh bg),.blk ak 44 B3,.blk b2 26 B0] fR:=jL
 refine oA Z Z (eN (zQ ?_))
 cases lF
 exact ⟨rfl,_,(wCZ (rs:=[.cell 8 44,.tmp 9]) (vs:=[.agg B3.toArray,jV 0]) ⟨⟨_,bz,(wBR zf zH (eU.blkAt (k:=5) rfl) (vs:=B3) rfl rfl)⟩,⟨rfl,trivial⟩⟩ rfl),cp,_,(eU.pick [] _ (by decide) rfl),rfl,rfl⟩
 intro bq lG
 refine oF Z bq (oF Z bq (oF Z bq (ZV Z Z Z (zF Z Z (zm bq.out) Z) (oR Z (zP Z (zm bq.out) Z) (oA Z Z (eN (zg Z (Za (zp (zI (sR gBl Z (oL Z (cD.ldBA (j:=2) Z Z bG zf zH (vs:=B3) Z Z) (zt (j:=5) (vs:=B3) Z Z Z Z cD Z bz Z Z zH (zC Z) Z Z Z ?_)))))))))))))
 intro fS jM
 have eV:sW w U bQ [.blk ap 99 ([.slice aq x42.Bout.Shots.length au,.slice av x42.Bout.Down.length aQ,.slice az x42.Bout.Across.length aR,.map (some ab)] ++ ((hH KL.encI x42.hits.l) ++ ((hH KL.encI x42.used.l) ++ (hH KL.encT x42.met.l)))),.obj ab (.map aT aS),.blk bj 44 B3,.blk ba 99 ([.slice aX aa.Bout.Shots.length bb,.slice aY aa.Bout.Down.length be,.slice aZ aa.Bout.Across.length bf,.map (some ai)] ++ ((hH KL.encI ae.1.l) ++ ((hH KL.encI ae.2.1.l) ++ (hH KL.encT ae.2.2.l)))),.obj ai (.map bh bg),.blk ak 44 B3,.blk b2 26 B0] fS:=jM
 refine oA Z Z (eN (zQ ?_))
 cases lG
 exact ⟨rfl,_,(wCZ (rs:=[.cell 8 44,.tmp 9]) (vs:=[.agg B3.toArray,jV 0]) ⟨⟨_,bz,(wBR zf zH (eV.blkAt (k:=5) rfl) (vs:=B3) rfl rfl)⟩,⟨rfl,trivial⟩⟩ rfl),bQ,_,(eV.pick [] _ (by decide) rfl),rfl,rfl⟩
 intro da lH
 refine cT Z da (sR gBl Z (oR Z (ZM (pv:=[]) (z:=B1) (cs:=B1) Z wAo zw wBl Z Z) (zt (j:=5) (vs:=B1) Z Z Z Z cC Z bs Z Z zH (zC Z) Z Z Z ?_)))
 intro fT jN
 have eW:sW w U bU [B2,.blk ba 99 ([.slice aX aa.Bout.Shots.length bb,.slice aY aa.Bout.Down.length be,.slice aZ aa.Bout.Across.length bf,.map (some ai)] ++ ((hH KL.encI ae.1.l) ++ ((hH KL.encI ae.2.1.l) ++ (hH KL.encT ae.2.2.l)))),.obj ai (.map bh bg),.blk ap 99 ([.slice aq x42.Bout.Shots.length au,.slice av x42.Bout.Down.length aQ,.slice az x42.Bout.Across.length aR,.map (some ab)] ++ ((hH KL.encI x42.hits.l) ++ ((hH KL.encI x42.used.l) ++ (hH KL.encT x42.met.l)))),.obj ab (.map aT aS),.blk ak 44 B1,.blk b2 26 B0] fT:=jN
 refine oA Z Z (eN (zQ (ze ?_)))
 cases lH
 exact ⟨rfl,_,(wCZ (rs:=[.cell 8 44,.tmp 9]) (vs:=[.agg B1.toArray,jV 7]) ⟨⟨_,bs,(wBR zf zH (eW.blkAt (k:=5) rfl) (vs:=B1) rfl rfl)⟩,⟨rfl,trivial⟩⟩ rfl),bU,_,(eW.pick [] _ (by decide) rfl),rfl,rfl⟩
 intro cZ lI
 refine cT Z cZ (sR gBq Z (oR Z (ZM (pv:=[]) (z:=B1) (cs:=B1) Z wAo zw wBl Z Z) (oM Z Z (zt (j:=2) (vs:=B1) Z Z Z Z dy Z bs Z Z zH (zC Z) Z Z Z ?_))))
 intro fU jO
 have eX:sW w U cn [.blk ap 99 ([.slice aq x42.Bout.Shots.length au,.slice av x42.Bout.Down.length aQ,.slice az x42.Bout.Across.length aR,.map (some ab)] ++ ((hH KL.encI x42.hits.l) ++ ((hH KL.encI x42.used.l) ++ (hH KL.encT x42.met.l)))),.obj ab (.map aT aS),.blk ak 44 B1,.blk b2 26 B0] fU:=jO
 refine oA Z Z (eN (zQ (ze ?_)))
 cases lI
 exact ⟨rfl,_,(wCZ (rs:=[.cell 8 44,.tmp 9]) (vs:=[.agg B1.toArray,jV lZ]) ⟨⟨_,bs,(wBR zf zH (eX.blkAt (k:=2) rfl) (vs:=B1) rfl rfl)⟩,⟨rfl,trivial⟩⟩ rfl),cn,_,(eX.pick [] _ (by decide) rfl),rfl,rfl⟩
 intro cw lK
 refine cF Z cw (kN (zJ (sR fL2 Z (oM Z dm (oR Z (ZL Z Z Z) (eN (cT Z cw (sR gBq Z (oR Z (ZM (pv:=[]) (z:=B1) (cs:=B1) Z wAo zw wBl Z Z) (oM Z dm (zt (j:=2) (vs:=B1) Z Z Z Z dx Z bs Z Z zH (zC Z) Z Z Z ?_)))))))))))
 intro fV jP
 have eY:sW w U bT [.blk ap 99 ([.slice aq x42.Bout.Shots.length au,.slice av x42.Bout.Down.length aQ,.slice az x42.Bout.Across.length aR,.map (some ab)] ++ ((hH KL.encI x42.hits.l) ++ ((hH KL.encI x42.used.l) ++ (hH KL.encT x42.met.l)))),.obj ab (.map aT aS),.blk ak 44 B1,.blk b2 26 B0] fV:=jP
 refine oA Z Z (eN (zQ (ze ?_)))
 cases lK
 exact ⟨rfl,_,(wCZ (rs:=[.cell 8 44,.tmp 9]) (vs:=[.agg B1.toArray,jV bC]) ⟨⟨_,bs,(wBR zf zH (eY.blkAt (k:=2) rfl) (vs:=B1) rfl rfl)⟩,⟨rfl,trivial⟩⟩ rfl),bT,_,(eY.pick [] _ (by decide) rfl),rfl,rfl⟩
end Go.Proofs.Ytfcmijinklojbaa
