import Derived.Test.YtlnfbjphfoipaaaY7
import Derived.Test.YtlnfbjphfoipaaaY6
import Derived.Test.YtlnfbjphfoipaaaY8
set_option linter.all false
open List renaming flatMap->hH,set->nB,length_set->nE,getElem_cons_succ->nG,getElem_cons_zero->nH,replicate->nI,getElem_toArray->nJ
open Option.some renaming inj->nA
open Int renaming toNat_natCast->nD
namespace Go.Proofs.Ytlnfbjphfoipaaa
open Go.KL
def gDo:Sch:=.fx 3 (.fl 4 .nil) .stop
def gDp:Sch:=.fx 0 (.fl 1 .nil) .stop
def gDq:Sch:=.fx 12 (.fl 13 .nil) .stop
def gDr:Sch:=.fx 0 (.fl 1 (.fl 2 .nil)) .stop
def gDs:Sch:=.fx 2 gDo .stop
def gDt:Sch:=.fx 16 (.fl 17 (.fl 18 .nil)) .stop
def gDu:Sch:=.fx 3 (.fl 4 (.fx 5 .nil .stop)) .stop
def gDv:Sch:=.fx 13 (.fl 14 (.fl 15 .nil)) .stop
def gDw:Sch:=.fx 15 gDt .stop
def gDx:Sch:=.fx 12 gDv .stop
def gDy:Sch:=.fl 0 (.fl 1 (.fx 2 (.fl 3 .nil) .stop))
def gDz:Sch:=.fl 0 (.fl 1 (.fx 2 (.fx 3 (.fx 4 .nil .stop) .stop) .stop))
def gEa:Sch:=.fl 0 (.fl 1 (.fl 3 (.fx 2 (.fx 4 (.fx 5 (.fx 6 (.fl 7 .nil) .stop) .stop) .stop) .stop)))
set_option maxHeartbeats 4000000
theorem wJF (p0:wAB) (bk:Option Addr) (bm:Nat) (bs:Option Addr) (bv:Nat) (bt:Option Addr) (bw:Nat) (bu:Option Addr) (bz:Nat) (p1:Int) (w:World) (U:PHeap) (hS:St0 w U []) (eg:Sl U 1 bk bm p0.Starts.length (hH KL.encI p0.Starts)) (eh:Sl U 2 bs bv p0.Splits.length (hH wAJ p0.Splits)) (en:Sl U 3 bt bw p0.Clocks.length (hH wAA p0.Clocks)) (eu:Sl U 4 bu bz p0.Readings.length (hH wAH p0.Readings)) {r:(List (List Int)) × Int} (hm:wCc p0 p1=some r):Gv Try.prog 20 [.agg #[.slice bk p0.Starts.length bm,.slice bs p0.Splits.length bv,.slice bt p0.Clocks.length bw,.slice bu p0.Readings.length bz],jV p1] w (wCh w [] U (fun U_ L_ v=>∃ (A0:Option Addr) (c0:Nat) (cL:List Hd),v=.tuple #[.slice A0 r.1.length c0,jV r.2]/\L_=[.row A0 c0 23 1 (hH wFS cL),inn 3 1 KL.encI cL r.1])):=by
 unfold wCc at hm
 refine Gv.of Try.func20 Z Try.ntmps20 Try.results20 Z (sR gDr Z ?_)
 let B0:List Value:=[.slice bk p0.Starts.length bm,.slice bs p0.Splits.length bv,.slice bt p0.Clocks.length bw,.slice bu p0.Readings.length bz]
 refine ZN (cs:=B0) rfl rfl rfl rfl rfl rfl (by rfl) hS ?_
 intro W1 b2 cE
 refine oA Z Z (oA Z Z (eN (sR (.fl 0 (.fl 1 (.fx 2 (wOp (.nil)) .stop))) Z (oL Z (cE.ldBA (j:=0) Z Z Z ZK zm (vs:=B0) Z Z) (oM Z Z ?_)))))
 have q:=bnd hm
 obtain ⟨⟨x5,x6⟩,h7,bj⟩:=q
 try dsimp only at bj
 refine zM 0 Z Z Z Z (zL Z Z Try.call50 (zC Z (zC Z zQ)) Z) cE (fun hs=>wFZ p0 bk bm bs bv bt bw bu bz p1 W1 U hs eg eh en eu h7) (.inr Z) ?_
 rintro U9 fw fJ bg fE cB cz
 rcases x5 with _ | x30
 try dsimp only at bj
 obtain ⟨rfl,rfl⟩:=cz
 have dS:sW w U U9 [.blk b2 28 B0] bg:=cB
 refine oM Z Z (oR Z (zX Z Z (v:=.pointer none) Z) (oR Z (zX Z Z (v:=jV x6) Z) (oA Z Z (oA Z Z (eN (zK (sR fL2 Z (oM Z Z (oR Z (Zs Z Z Z) (eN (ifc bj ?_ ?_)))))))))))
 intro bF eZ
 refine ZU (ZS (fun h=>h bF.out)) (kN (sR gDz Z (oM Z Z (oM Z Z ?_))))
 cases eZ
 intro bF fb
 refine cT Z bF (sR fL3 Z (oM Z Z (oA Z Z (oA Z Z (eN (zU (zJ ?_)))))))
 have dT:=dS.nilrow 23 1
 have dU:=dT.innNil 3 1 KL.encI
 have dV:sW w U U9 [inn 3 1 KL.encI ([]:List Hd) ([]:List (List Int)),.row none 0 23 1 [],.blk b2 28 B0] bg:=dU
 cases fb
 exact ⟨rfl,_,(wHL rfl rfl),U9,_,(dV.pick [1,0] _ (by decide) rfl),none,0,([]:List Hd),rfl,rfl⟩
 try dsimp only at bj
 obtain ⟨bD,bS,cm,bU,cn,bV,cp,bW,cq,aj,am,ak,bX,cr,rfl,rfl,du,dv,dw,dx,dy,dz⟩:=cz
 let B1:Res:=.blk bD 124 [.slice bS x30.Race.Starts.length cm,.slice bU x30.Race.Splits.length cn,.slice bV x30.Race.Clocks.length cp,.slice bW x30.Race.Readings.length cq,.map (some aj),.slice bX x30.edges.length cr]
 have cG:sW w U U9 [B1,.obj aj (.map am ak),.blk b2 28 B0] bg:=cB
 refine oM Z Z (oR Z (zX Z Z (v:=.pointer (some ⟨bD,0,none⟩)) Z) (oR Z (zX Z Z (v:=jV x6) Z) (oA Z Z (oA Z Z (eN (zK (sR fL2 Z (oM Z Z (oR Z (Zs Z Z Z) (eN (ifc bj ?_ ?_)))))))))))
 intro bG fc
 refine ZU (ZS (fun h=>h bG.out)) (kN (sR gDz Z (oM Z Z (oM Z Z (bnK fc fun x51 dA fd=>zM 2 Z Z Z Z (zL Z Z Try.call51 (zC Z (zC Z zQ)) Z) cG (fun hs=>wDQ x30 bD bS cm bU cn bV cp bW cq aj am ak bX cr p1 bg U9 hs du dv dw dx dy dz dA) (.inl Z) ?_)))))
 rintro aY fy fK cU fH dW ⟨rfl,rfl⟩
 have dX:sW w U aY [B1,.obj aj (.map am ak),.blk b2 28 B0] cU:=dW
 refine zS (cs:=hH KL.encI (Arr.fill 64 0).l) Z Z Z Z Z Try.zeroValue109 Z dX ?_
 intro cV aq dY
 have dZ:sW w U aY [.blk aq 109 (hH KL.encI (Arr.fill 64 0).l),B1,.obj aj (.map am ak),.blk b2 28 B0] cV:=dY
 refine zV (j:=0) (vs:=hH KL.encI x51.l) rfl rfl rfl rfl dZ rfl rfl rfl rfl (fun w=>by rw [wBC (f:=KL.encI) (sz:=1) (N:=64) x51 (fun _=>rfl) rfl];exact Try.sizeOf109 w) (by rw [wBC (f:=KL.encI) (sz:=1) (N:=64) x51 (fun _=>rfl) rfl,wBC (f:=KL.encI) (sz:=1) (N:=64) (Arr.fill 64 0) (fun _=>rfl) rfl];exact zA rfl) (wEN (fun _=>rfl) _) (wIE _ _ (by rw [wBC (f:=KL.encI) (sz:=1) (N:=64) x51 (fun _=>rfl) rfl,wBC (f:=KL.encI) (sz:=1) (N:=64) (Arr.fill 64 0) (fun _=>rfl) rfl])) rfl ?_
 intro cW d5
 have cH:sW w U aY [.blk aq 109 (hH KL.encI x51.l),B1,.obj aj (.map am ak),.blk b2 28 B0] cW:=d5
 refine eN (sR (wCz gDo) Z (oR Z (zF Z Z zN Z zZ) (oL Z (cH.ldB (j:=3) Z Z Z zj (v:=.slice bk p0.Starts.length bm) Z) (oR Z (zt Z Z zD) (bnK fd fun x69 cy ff=>OKS.makeSliceN Z Z Z Z Z (wBh ZI) wNg Z Z Z Z Z cy cH ?_)))))
 intro cf az d7
 let B2:Res:=.row (some ⟨az,0,none⟩) x69.length 23 1 (hH wFS (nI x69.length (⟨none,0,0⟩:Hd)))
 have ec:sW w U aY [B2,.blk aq 109 (hH KL.encI x51.l),B1,.obj aj (.map am ak),.blk b2 28 B0] cf:=d7
 have d9:=ec.innMade 3 1 KL.encI cy
 have ef:sW w U aY [inn 3 1 KL.encI (nI x69.length (⟨none,0,0⟩:Hd)) x69,B2,.blk aq 109 (hH KL.encI x51.l),B1,.obj aj (.map am ak),.blk b2 28 B0] cf:=d9
 refine oA Z Z (eN (zK (sR fL3 Z (oM Z Z (oR Z (zt Z Z ZI) (oM Z Z (eN (zd (bnK ff fun fO eE fg=>?_)))))))))
 have q:=wBH eE
 obtain ⟨bQ,eG⟩:=q
 replace bQ:=zI bQ
 refine CK.forN' (fun aa bb σ_ w_=>∃ (U_:PHeap) (bq:List Hd),σ_ 30=jV (↑aa:Int)/\σ_ 8=.pointer (some ⟨aq,0,none⟩)/\σ_ 9=.slice (some ⟨az,0,none⟩) bb.length x69.length/\σ_ 29=jV (↑x69.length:Int)/\PHeap.Le aY U_/\sW w U U_ [.blk aq 109 (hH KL.encI x51.l),B1,.obj aj (.map am ak),.blk b2 28 B0,.row (some ⟨az,0,none⟩) x69.length 23 1 (hH wFS bq),inn 3 1 KL.encI bq bb] w_) eG ?_ ?_ ?_
 exact ⟨aY,(nI x69.length (⟨none,0,0⟩:Hd)),rfl,rfl,rfl,rfl,(zO _),(ef.pick [2,3,4,5,1,0] _ (by decide) rfl)⟩
 rintro aa bb fM fS fB bM ⟨cb,bq,bJ,da,ct,cu,fq,dC⟩ fj
 have ci:Hid ((↑aa:Int) < (↑x69.length:Int)):=zI (wAy bM)
 replace bM:=zI bM
 have eK:Hid (w64 ((↑aa:Int) + 1)=(↑(aa + 1):Int)):=zI (by have h1:=bQ.out;have h2:=ci.out;rw [wAV] <;> omega)
 refine sR fL1 Z (oR Z (zY Z bJ cu) (eN (zK (cT Z ci (kN (zK (zd (sR fL2 Z (oM Z bJ (oA Z Z (eN (sR fL3 Z (oM Z ct (oR Z (zt Z Z ZI) (oM Z Z (eN (zd (bnK fj fun fN ey eL=>?_))))))))))))))))))
 have q:=wBH ey
 obtain ⟨bP,eD⟩:=q
 replace bP:=zI bP
 refine CK.forN' (fun av au σ_ w_=>∃ (U_:PHeap) (ab:List Hd),σ_ 35=jV (↑av:Int)/\σ_ 8=.pointer (some ⟨aq,0,none⟩)/\σ_ 9=.slice (some ⟨az,0,none⟩) au.length x69.length/\σ_ 10=jV (↑aa:Int)/\σ_ 29=jV (↑x69.length:Int)/\σ_ 30=jV (↑aa:Int)/\σ_ 34=jV (↑bb.length:Int)/\PHeap.Le cb U_/\sW w U U_ [.blk aq 109 (hH KL.encI x51.l),B1,.obj aj (.map am ak),.blk b2 28 B0,.row (some ⟨az,0,none⟩) x69.length 23 1 (hH wFS ab),inn 3 1 KL.encI ab au] w_) eD ?_ ?_ ?_
 exact ⟨cb,bq,Z,da,ct,Z,cu,bJ,Z,(zO _),dC⟩
 rintro av au fL fP cd bN ⟨aW,ab,bp,bH,bo,bh,cw,cx,bI,cM,bi⟩ fm
 have cj:Hid ((↑av:Int) < (↑bb.length:Int)):=zI (wAy bN)
 replace bN:=zI bN
 have cK:Hid (w64 ((↑av:Int) + 1)=(↑(av + 1):Int)):=zI (by have h1:=bP.out;have h2:=cj.out;rw [wAV] <;> omega)
 refine sR fL1 Z (oR Z (zY Z bp bI) (eN (zK (cT Z cj (kN (zK (zd (sR fL2 Z (oM Z bp (oA Z Z (eN (sR fL6 Z (oM Z bh (oM Z Z (bnK fm fun _ bK eM=>oR Z (Runs.iaA Z bH Z Try.runUnderlying109 Try.sizeOf108 (wBV bK) (wBW bK)) (bnK eM fun _ bL eO=>oR Z (Runs.iaA Z Z Z Try.runUnderlying108 zB (wBV bL) (wBW bL)) ?_))))))))))))))))
 have eH:=Arr.at_ x51 (k:=(aa * 8 + av)) (by have hz0:=wAU bK;have hz1:=wAU bL;omega)
 refine ZG rfl rfl rfl rfl (bi.ldB (j:=0) rfl rfl rfl zE (wAX (sz:=1) (fun _=>rfl) _ _ 0 _ eH (by first | omega | rfl | simp) rfl)) rfl (zg rfl rfl rfl rfl (fun _=>zY rfl rfl rfl) (eN (ifc eO ?_ ?_)))
 intro bE eQ
 refine cT Z bE (rR (wLt (.fx 7 (.fx 8 (.fl 9 (.fx 10 .nil .stop)) .stop) .stop)) Z (oM Z bo (oM Z bh (oM Z bo (oM Z bh (bnK eQ fun _ ba eU=>oR Z (ZV Z Z Z Z ZI zZ (wAU ba)) ?_))))))
 have cI:=bi.innFit (j:=5) rfl
 have eI:=wBK (xs:=ab) (k:=aa) (by rw [cI.len];exact (wAU ba))
 have fh:Value.slice (gd ab aa).A (gd ab aa).n (gd ab aa).c=.slice ((gd ab aa).A) ((gd au aa).length) ((gd ab aa).c):=by rw [cI.at_ (k:=aa) (wAU ba)]
 refine ZG rfl rfl rfl rfl (RunsK.to (bi.ldR (j:=4) rfl rfl rfl rfl zj (wAX (sz:=1) (fun _=>rfl) _ _ 0 _ eI (by first | omega | rfl | simp) rfl)) fh) rfl ?_
 let B3:Res:=.row (some ⟨az,0,none⟩) x69.length 23 1 (hH wFS ab)
 have dD:sW w U aW [inn 3 1 KL.encI ab au,.blk aq 109 (hH KL.encI x51.l),B1,.obj aj (.map am ak),.blk b2 28 B0,B3] cd:=bi.pick [5,0,1,2,3,4] _ (by decide) rfl
 have dE:=dD.innTake (k:=aa) (wAU ba)
 let B4:Res:=.row ((gd ab aa).A) ((gd ab aa).c) 3 1 (hH KL.encI (gd au aa))
 have dF:sW w U aW [B4,wPF 3 1 KL.encI ab au aa,.blk aq 109 (hH KL.encI x51.l),B1,.obj aj (.map am ak),.blk b2 28 B0,B3] cd:=dE
 refine oM Z Z (ZC (pv:=[(0,jV (↑av:Int))]) (zs:=[jV 0]) (cs:=[jV (↑av:Int)]) Z Z Z Z Z (wAD Z wAO) zD zB ZE Z Z Z Z Z dF ?_)
 intro cR cX dG
 let B5:Res:=.row (some ⟨cX,0,none⟩) 1 3 1 (hH KL.encI [(↑av:Int)])
 have cC:sW w U aW [B5,B4,wPF 3 1 KL.encI ab au aa,.blk aq 109 (hH KL.encI x51.l),B1,.obj aj (.map am ak),.blk b2 28 B0,B3] cR:=dG
 refine bnK eU fun aX dq eV=>Zz (j:=1) (enc:=KL.encI) (xs:=(gd au aa)) (ys:=[(↑av:Int)]) (zs:=aX) rfl rfl rfl rfl rfl yV wKF rfl rfl rfl rfl rfl rfl cC rfl rfl rfl (cC.srcR (j:=0) rfl (by decide) (wAG (f:=KL.encI) (sz:=1) (fun _=>rfl) [(↑av:Int)])) (fun _=>rfl) (fun _=>rfl) dq rfl ?_
 intro bd be cS dH
 let B6:Res:=.row bd be 3 1 (hH KL.encI aX)
 have cD:sW w U aW [B5,B6,wPF 3 1 KL.encI ab au aa,.blk aq 109 (hH KL.encI x51.l),B1,.obj aj (.map am ak),.blk b2 28 B0,B3] cS:=dH
 refine oR Z (ZV Z Z Z Z ZI zZ (wAU ba)) ?_
 have cJ:=(cD.innHFit (j:=2) rfl).1
 have eJ:=wBK (xs:=ab) (k:=aa) (by rw [cJ.len];exact wAU ba)
 refine OKS.stR (j:=7) (vs:=wFS (⟨bd,aX.length,be⟩:Hd)) (cs':=hH wFS (nB ab aa (⟨bd,aX.length,be⟩:Hd))) rfl rfl rfl rfl cD rfl rfl rfl rfl rfl zZ (by rw [wAG (f:=wFS) (sz:=1) (fun _=>rfl),cJ.len];have hz:=wAU ba;show _ + 1 <= _;first | omega | (simp only [nD];omega)) rfl (wCu (sz:=1) (fo:=0) (fun _=>rfl) _ _ _ _ eJ (by first | omega | (simp only [nD];omega)) (zA rfl) rfl) rfl ?_
 intro bC dI
 let B7:Res:=.row (some ⟨az,0,none⟩) x69.length 23 1 (hH wFS (nB ab aa (⟨bd,aX.length,be⟩:Hd)))
 have dJ:sW w U aW [B5,B6,wPF 3 1 KL.encI ab au aa,.blk aq 109 (hH KL.encI x51.l),B1,.obj aj (.map am ak),.blk b2 28 B0,B7] bC:=dI
 have dK:sW w U aW [B6,wPF 3 1 KL.encI ab au aa,B5,.blk aq 109 (hH KL.encI x51.l),B1,.obj aj (.map am ak),.blk b2 28 B0,B7] bC:=dJ.pick [1,2,0,3,4,5,6,7] _ (by decide) rfl
 have dL:=dK.innPut
 have dM:sW w U aW [inn 3 1 KL.encI (nB ab aa (⟨bd,aX.length,be⟩:Hd)) (nB au aa aX),B5,.blk aq 109 (hH KL.encI x51.l),B1,.obj aj (.map am ak),.blk b2 28 B0,B7] bC:=dL
 refine zi (zu (zH (rR fL2 Z (oR Z (ZR (zW Z bp Z) (congrArg (jV) cK.out)) (oM Z Z (zi ?_))))))
 cases eV
 exact zH ⟨rfl,⟨aW,(nB ab aa (⟨bd,aX.length,be⟩:Hd)),rfl,bH,(Eq.trans (b:=(.slice (some ⟨az,0,none⟩) au.length x69.length:Value)) (c:=(.slice (some ⟨az,0,none⟩) ((nB au aa aX).length) x69.length:Value)) bo (by simp only [nE])),bh,cw,cx,bI,cM,(dM.pick [2,3,4,5,6,0] _ (by decide) rfl)⟩⟩
 intro bE eW
 refine cF Z bE (Zq (zu (zH (rR fL2 Z (oR Z (ZR (zW Z bp Z) (congrArg (jV) cK.out)) (oM Z Z (zi ?_)))))))
 cases eW
 exact zH ⟨Z,⟨aW,ab,Z,bH,bo,bh,cw,cx,bI,cM,bi⟩⟩
 rintro fQ fz ⟨cO,dr,dm,db,de,fC,df,dg,dh,ft,dN⟩
 have cY:Hid (¬ ((↑(((↑bb.length:Int):Int) - 0).toNat:Int) < (↑bb.length:Int))):=zI (wAi)
 refine sR fL1 Z (oR Z (zY Z dm dh) (eN (zK (cF Z cY (Zb (zl (zl (ZX (zu (zH (rR fL2 Z (oR Z (ZR (zW Z dg Z) (congrArg (jV) eK.out)) (oM Z Z (zi ?_))))))))))))))
 cases eL
 exact zH ⟨Z,⟨cO,dr,Z,db,de,df,(fq.trans ft),dN⟩⟩
 rintro fR fA ⟨cP,dt,dp,fD,dk,dl,fG,dO⟩
 have cZ:Hid (¬ ((↑(((↑x69.length:Int):Int) - 0).toNat:Int) < (↑x69.length:Int))):=zI (wAi)
 refine sR fL1 Z (oR Z (zY Z dp dl) (eN (zK (cF Z cZ (Zb (zl (zl (ZX (zH (sR fL3 Z (oM Z dk (oA Z Z (oA Z Z (eN (zU ?_)))))))))))))))
 cases fg
 exact ⟨rfl,_,(wHL rfl rfl),cP,_,(dO.pick [4,5] _ (by decide) rfl),(some ⟨az,0,none⟩),x69.length,dt,rfl,rfl⟩
 intro bG eX
 refine cT Z bG (sR fL3 Z (oM Z Z (oA Z Z (oA Z Z (eN (zU (zJ ?_)))))))
 have dP:=cG.nilrow 23 1
 have dQ:=dP.innNil 3 1 KL.encI
 have dR:sW w U U9 [inn 3 1 KL.encI ([]:List Hd) ([]:List (List Int)),.row none 0 23 1 [],B1,.obj aj (.map am ak),.blk b2 28 B0] bg:=dQ
 cases eX
 exact ⟨rfl,_,(wHL rfl rfl),U9,_,(dR.pick [1,0] _ (by decide) rfl),none,0,([]:List Hd),rfl,rfl⟩
theorem wCI (p0:List (List Int)) (aq:Option Addr) (au:Nat) (p1:Int) (p2:Int) (bh:Nat) (w:World) (U:PHeap) (hS:St0 w U []) (bQ:SlR U wJT aq au p0) (bR:Cl U bh 0 [jV p2]) {r:Int} (hm:wAd p0 p1 p2=some r):Gv Try.prog 21 [.slice aq p0.length au,jV p1,.pointer (some ⟨bh,0,none⟩)] w (wCh w [] U (fun U_ L_ v=>v=jV r/\L_=[])):=by
 unfold wAd at hm
 refine Gv.of Try.func21 Z Try.ntmps21 Try.results21 Z (sR fL1 Z (oA Z Z (eN (sR fL1 Z (oA Z Z (eN (zK (sR fL3 Z (oM Z Z (oR Z (zt Z Z ZI) (oM Z Z (eN (zd (bnK hm fun cG bU cd=>?_))))))))))))))
 have q:=wBH bU
 obtain ⟨bg,bS⟩:=q
 replace bg:=zI bg
 refine CK.forN' (fun k7 x6 σ_ w_=>∃ (U_:PHeap),σ_ 11=jV (↑k7:Int)/\σ_ 0=.slice aq p0.length au/\σ_ 1=jV p1/\σ_ 2=.pointer (some ⟨bh,0,none⟩)/\σ_ 6=jV x6/\σ_ 9=.slice aq p0.length au/\σ_ 10=jV (↑p0.length:Int)/\PHeap.Le U U_/\sW w U U_ [] w_) bS ?_ ?_ ?_
 exact ⟨U,Z,Z,Z,Z,Z,Z,Z,(zO _),hS⟩
 rintro k7 x6 cE cH bi bf ⟨ah,aj,az,aW,ai,bk,aX,aY,ak,bp⟩ ci
 have bj:Hid ((↑k7:Int) < (↑p0.length:Int)):=zI (wAy bf)
 replace bf:=zI bf
 have bq:Hid (w64 ((↑k7:Int) + 1)=(↑(k7 + 1):Int)):=zI (by have h1:=bg.out;have h2:=bj.out;rw [wAV] <;> omega)
 refine sR fL1 Z (oR Z (zY Z aj aY) (eN (zK (cT Z bj (kN (zK (zd (sR fL3 Z (bnK ci fun bv bm bV=>?_)))))))))
 have bn:=bQ.le ak
 have q:=bn.el (wAW bm)
 obtain ⟨bA,cj,cC,bI,bd,cf⟩:=q
 obtain ⟨br,bt,rfl,bG⟩:=cf
 replace bd:Cl ah bA (cj + k7 * 1) [.slice br bv.length bt]:=bd
 refine zg rfl rfl rfl rfl (fun _=>ZV rfl aX bI aj ZI zZ (wBd bm)) (ZG rfl rfl rfl rfl (bp.ldC (f:=0) bd (v:=.slice br bv.length bt) rfl rfl zj rfl) rfl (yH rfl rfl rfl rfl rfl rfl (eN (zK (ZA ZB [3,1,3,1,3,3,3,1,1,3,1,3] fL12 (by kernel_rfl) ?_)))))
 have ab:=bp.drew
 generalize hw_W45:({ bi with drawn:=bi.drawn + 1 }:World)=cn at ab ⊢
 refine oM Z Z ?_
 have bo:=bR.le ak
 refine oL Z (ab.ldC (f:=0) bo (v:=jV p2) Z ai zE Z) (bnK bV fun x47 aZ bW=>?_)
 have q:=bG.el (fun _=>rfl) (wAW aZ)
 obtain ⟨cq,cz,bJ,bM⟩:=q
 refine oR Z (ZQ Z Z bJ Z zD zB (wBM aZ) (wBP aZ)) (oL Z (ab.ldC (f:=0) bM (v:=jV x47) Z Z zE Z) (oM Z az (oM Z aW (bnK bW fun x54 ba bX=>?_))))
 have q:=bn.el (wAW ba)
 obtain ⟨bB,cm,cD,bK,be,cg⟩:=q
 obtain ⟨bs,bu,rfl,bH⟩:=cg
 replace be:Cl ah bB (cm + p1.toNat * 1) [.slice bs x54.length bu]:=be
 refine oR Z (ZQ Z Z bK Z ZI zZ (wBM ba) (wBP ba)) (oL Z (ab.ldC (f:=0) be (v:=.slice bs x54.length bu) Z Z zj Z) (oL Z (ab.ldC (f:=0) bo (v:=jV p2) Z ai zE Z) (bnK bX fun x66 bb bY=>?_)))
 have q:=bH.el (fun _=>rfl) (wAW bb)
 obtain ⟨cr,cB,bL,bN⟩:=q
 refine oR Z (ZQ Z Z bL Z zD zB (wBM bb) (wBP bb)) (oL Z (ab.ldC (f:=0) bN (v:=jV x66) Z Z zE Z) (oR Z (zY Z Z Z) (eN (ifc bY ?_ ?_))))
 intro av bZ
 refine cT Z av (rR fL3 Z (oM Z bk (oR Z (zW Z Z Z) (oA Z Z (zi (zu (zH (rR fL2 Z (oR Z (ZR (zW Z aj Z) (congrArg (jV) bq.out)) (oM Z Z (zi ?_)))))))))))
 cases bZ
 exact zH ⟨Z,⟨ah,Z,az,aW,ai,Z,aX,aY,ak,ab⟩⟩
 intro av cb
 refine cF Z av (Zq (zu (zH (rR fL2 Z (oR Z (ZR (zW Z aj Z) (congrArg (jV) bq.out)) (oM Z Z (zi ?_)))))))
 cases cb
 exact zH ⟨Z,⟨ah,Z,az,aW,ai,bk,aX,aY,ak,ab⟩⟩
 rintro cI cp ⟨bz,bF,ct,cu,cw,bD,cx,bE,cy,bP⟩
 have bC:Hid (¬ ((↑(((↑p0.length:Int):Int) - 0).toNat:Int) < (↑p0.length:Int))):=zI (wAi)
 refine sR fL1 Z (oR Z (zY Z bF bE) (eN (zK (cF Z bC (Zb (zl (zl (ZX (zH (sR fL2 Z (oM Z bD (oA Z Z (eN (zU ?_))))))))))))))
 have hE:=nA cd;first | subst r | cases hE
 exact ⟨Z,_,(ZW Z),bz,_,bP,Z,Z⟩
theorem wEU (p0:Int) (p1:wAF) (w:World) (U:PHeap) (hS:St0 w U [])  {r:Bool} (hm:wBi p0 p1=some r):Gv Try.prog 22 [jV p0,.agg #[jV p1.Lo,jV p1.Hi]] w (wCh w [] U (fun U_ L_ v=>v=.bool r/\L_=[])):=by
 unfold wBi at hm
 refine Gv.of Try.func22 rfl Try.ntmps22 Try.results22 rfl (sR gDp rfl (ZN (cs:=[jV p1.Lo,jV p1.Hi]) rfl rfl rfl rfl rfl rfl (by rfl) hS ?_))
 intro W1 b2 ae
 refine oA Z Z (eN (sR wSR Z (oM Z Z (oR Z (zF Z Z zn Z zB) (oL Z (ae.ldB (j:=0) Z Z Z zE (v:=jV p1.Lo) Z) (oR Z (Runs.geq Z Z Z) (oM Z Z ?_)))))))
 by_cases c5:p1.Lo <= p0
 have ah:=hm;rw [if_pos c5] at ah;replace c5:=zI c5
 refine zk Z Z Z (wT Z c5) Z Z (rU Z (wT Z c5) (zF Z Z zn Z zB) (ZG Z Z Z (wT Z c5) (ae.ldB (j:=0) Z Z Z zE (v:=jV p1.Hi) Z) Z (rU Z (wT Z c5) (Runs.leq Z Z Z) (oR Z (zz Z (Zn c5.out) Z) (oA Z Z (eN (zU ?_)))))))
 first | (obtain rfl:=nA ah) | cases ah
 exact ⟨rfl,_,(ZW rfl),U,_,(ae.pick [] _ (by decide) rfl),rfl,rfl⟩
 have aj:=hm;rw [if_neg c5] at aj;replace c5:=zI c5
 refine oF Z c5 (oF Z c5 (oF Z c5 (oF Z c5 (oR Z (ZM Z (ZS c5.out) Z) (oA Z Z (eN (zU ?_)))))))
 have hE:=nA aj;first | subst r | cases hE
 exact ⟨rfl,_,(ZW rfl),U,_,(ae.pick [] _ (by decide) rfl),rfl,rfl⟩
theorem wBF (p0:Int) (p1:Int) (w:World) (U:PHeap) (hS:St0 w U [])  {r:wAQ} (hm:wAo p0 p1=some r):Gv Try.prog 16 [jV p0,jV p1] w (wCh w [] U (fun U_ L_ v=>v=.agg #[jV r.Skier,jV r.Mat]/\L_=[])):=by
 unfold wAo at hm
 refine Gv.of Try.func16 Z Try.ntmps16 Try.results16 Z (sR (.fx 0 .nil .stop) Z (zS (cs:=[jV 0,jV 0]) Z Z Z Z Z yL Z hS ?_))
 intro W1 b2 ak
 refine eN (sR (wCz (.fx 3 .nil .stop)) Z (oM Z Z (oM Z Z ?_)))
 let B0:List Value:=[jV p0,jV p1]
 refine oR Z (zy (pv:=[(0,jV p0),(1,jV p1)]) (z:=[jV 0,jV 0]) (cs:=B0) Z (wAD Z (wAD Z wAO)) yL wIU Z Z) (zV (j:=0) (vs:=B0) Z Z Z Z ak Z Z Z Z Zp (zA Z) Z Z Z ?_)
 intro W5 am
 have ah:sW w U U [.blk b2 45 B0] W5:=am
 refine eN (zU ?_)
 cases hm
 exact ⟨rfl,_,(wIl (v:=.agg B0.toArray) ⟨⟨_,rfl,(wBB yI Zp (ah.blkAt (k:=0) rfl) (vs:=B0) rfl rfl)⟩,trivial⟩),U,_,(ah.pick [] _ (by decide) rfl),rfl,rfl⟩
theorem wDq (p0:wAQ) (w:World) (U:PHeap) (hS:St0 w U [])  {r:wAC} (hm:wCp p0=some r):Gv Try.prog 49 [.agg #[jV p0.Skier,jV p0.Mat]] w (wCh w [] U (fun U_ L_ v=>v=.agg #[jV r.skier,jV r.mat]/\L_=[])):=by
 unfold wCp at hm
 refine Gv.of Try.func49 Z Try.ntmps49 Try.results49 Z (sR (.fx 0 (.fx 1 .nil .stop) .stop) Z ?_)
 let B0:List Value:=[jV p0.Skier,jV p0.Mat]
 refine ZN (cs:=B0) rfl rfl rfl rfl rfl rfl (by rfl) hS ?_
 intro W1 b2 ap
 refine zS (cs:=[jV 0,jV 0]) Z Z Z Z Z zf Z ap ?_
 intro W5 b6 ae
 refine eN (sR (wKS (.fx 5 .nil .stop)) Z (oR Z (zF Z Z Try.runUnderlying45 Z zB) (oL Z (ae.ldB (j:=1) Z Z Z zE (v:=jV p0.Skier) Z) (oR Z (zF Z Z Try.runUnderlying45 Z zB) (oL Z (ae.ldB (j:=1) Z Z Z zE (v:=jV p0.Mat) Z) (oR Z (zy (pv:=[(0,jV p0.Skier),(1,jV p0.Mat)]) (z:=[jV 0,jV 0]) (cs:=B0) Z (wAD Z (wAD Z wAO)) zf wAz Z Z) (zV (j:=0) (vs:=B0) Z Z Z Z ae Z Z Z Z zG (zA Z) Z Z Z ?_)))))))
 intro W9 am
 have ah:sW w U U [.blk b6 104 B0,.blk b2 45 B0] W9:=am
 refine eN (zU ?_)
 cases hm
 exact ⟨rfl,_,(wIl (v:=.agg B0.toArray) ⟨⟨_,rfl,(wBB ze zG (ah.blkAt (k:=0) rfl) (vs:=B0) rfl rfl)⟩,trivial⟩),U,_,(ah.pick [] _ (by decide) rfl),rfl,rfl⟩
theorem wED (p0:wAb) (ap:Nat) (az:Option Addr) (aY:Nat) (aW:Option Addr) (aZ:Nat) (aX:Option Addr) (ba:Nat) (bk:Option Addr) (bo:Nat) (ab:Nat) (ae:Array MapEntry) (ah:Nat) (bm:Option Addr) (bp:Nat) (p1:List Int) (bn:Option Addr) (bq:Nat) (w:World) (U:PHeap) (hS:St0 w U [.blk ap 124 [.slice az p0.Race.Starts.length aY,.slice aW p0.Race.Splits.length aZ,.slice aX p0.Race.Clocks.length ba,.slice bk p0.Race.Readings.length bo,.map (some ab),.slice bm p0.edges.length bp],.obj ab (.map ae ah)]) (gJ:Sl U 1 az aY p0.Race.Starts.length (hH KL.encI p0.Race.Starts)) (gK:Sl U 2 aW aZ p0.Race.Splits.length (hH wAJ p0.Race.Splits)) (gL:Sl U 3 aX ba p0.Race.Clocks.length (hH wAA p0.Race.Clocks)) (gM:Sl U 4 bk bo p0.Race.Readings.length (hH wAH p0.Race.Readings)) (cY:MpR ae wAu wAv p0.number) (gN:Sl U 7 bm bp p0.edges.length (hH wAS p0.edges)) (bP:Sl U 1 bn bq p1.length (hH KL.encI p1)) {r:(List (List Int)) × (List Int)} (hm:wBf p0 p1=some r):Gv Try.prog 58 [.pointer (some ⟨ap,0,none⟩),.slice bn p1.length bq] w (wCh w [.blk ap 124 [.slice az p0.Race.Starts.length aY,.slice aW p0.Race.Splits.length aZ,.slice aX p0.Race.Clocks.length ba,.slice bk p0.Race.Readings.length bo,.map (some ab),.slice bm p0.edges.length bp],.obj ab (.map ae ah)] U (fun U_ L_ v=>∃ (A0:Option Addr) (c0:Nat) (cC:List Value) (A1:Option Addr) (c1:Nat),v=.tuple #[.slice A0 r.1.length c0,.slice A1 r.2.length c1]/\L_=[.row A0 c0 23 1 cC,.row A1 c1 3 1 (hH KL.encI r.2),.blk ap 124 [.slice az p0.Race.Starts.length aY,.slice aW p0.Race.Splits.length aZ,.slice aX p0.Race.Clocks.length ba,.slice bk p0.Race.Readings.length bo,.map (some ab),.slice bm p0.edges.length bp],.obj ab (.map ae ah)]/\RlL U_ wJT r.1 cC)):=by
 unfold wBf at hm
 refine Gv.of Try.func58 Z Try.ntmps58 Try.results58 Z (sR fL2 Z (oA Z Z (oA Z Z (eN (sR fL4 Z (oM Z Z (bnK hm fun x3 h4 gb=>?_)))))))
 have q:=bP.el (fun _=>rfl) (wAW h4)
 obtain ⟨b6,gQ,eX,fc⟩:=q
 refine oR Z (ZV Z Z eX Z zD zB (wBd h4)) (oL Z (hS.ldC (f:=0) fc (v:=jV x3) Z Z zE Z) (oA Z Z (eN (sR fL1 Z (oA Z Z (eN (zK (sR fL7 Z (oM Z Z (oR Z (ZT Z Z) (oR Z (zF Z Z zo Z zm) (oR Z (zF Z Z zN Z zZ) (oL Z (hS.ldB (j:=0) Z Z Z zj (v:=.slice az p0.Race.Starts.length aY) Z) (oR Z (zt Z Z zD) (oM Z Z (eN (zd (bnK gb fun gv fK fZ=>?_))))))))))))))))))
 have q:=wBH fK
 obtain ⟨bV,fL⟩:=q
 replace bV:=zI bV
 let B0:Res:=.blk ap 124 [.slice az p0.Race.Starts.length aY,.slice aW p0.Race.Splits.length aZ,.slice aX p0.Race.Clocks.length ba,.slice bk p0.Race.Readings.length bo,.map (some ab),.slice bm p0.edges.length bp]
 refine CK.forN' (fun ak bi σ_ w_=>∃ (U_:PHeap) (bd:Option Addr) (bg:Nat) (bA:List Value),σ_ 22=jV (↑ak:Int)/\σ_ 0=.pointer (some ⟨ap,0,none⟩)/\σ_ 1=.slice bn p1.length bq/\σ_ 6=jV x3/\σ_ 7=.slice bd bi.length bg/\σ_ 21=jV (↑p0.Race.Starts.length:Int)/\PHeap.Le U U_/\SW w [B0,.obj ab (.map ae ah)] U U_ [B0,.obj ab (.map ae ah),.row bd bg 23 1 bA] w_/\RlL U_ wJT bi bA) fL ?_ ?_ ?_
 have fE:=hS.nilrow 23 1
 exact ⟨U,none,0,[],rfl,rfl,rfl,rfl,rfl,rfl,(zO _),(fE.pick [1,2,0] _ (by decide) rfl),RlL.nil⟩
 rintro ak bi gT g8 gA bR ⟨cn,bd,bg,bA,bI,cL,dY,dZ,d5,cM,dg,cX,eU⟩ gi
 have cB:Hid ((↑ak:Int) < (↑p0.Race.Starts.length:Int)):=zI (wAy bR)
 replace bR:=zI bR
 have fQ:Hid (w64 ((↑ak:Int) + 1)=(↑(ak + 1):Int)):=zI (by have h1:=bV.out;have h2:=cB.out;rw [wAV] <;> omega)
 refine sR fL1 Z (oR Z (zY Z bI cM) (eN (zK (cT Z cB (kN (zK (zd (sR fL2 Z (oM Z bI (oA Z Z (eN (sR fL1 Z (oA Z Z (eN (zK (sR fL8 Z (oM Z cL (oR Z (ZT Z Z) (oR Z (zF Z Z zo Z zm) (oR Z (zF Z Z zN Z Zt) (oL Z (cX.ldB (j:=0) Z Z Z yB (v:=.slice aW p0.Race.Splits.length aZ) Z) (oR Z (zt Z Z zr) (oR Z (zW Z Z Z) (oM Z Z (eN (zd (bnK gi fun au fM ge=>?_)))))))))))))))))))))))))))
 have q:=wBH fM
 obtain ⟨bW,fN⟩:=q
 replace bW:=zI bW
 let B1:Res:=.row bd bg 23 1 bA
 refine CK.forN' (fun am bj σ_ w_=>∃ (U_:PHeap) (bs:Option Addr) (bz:Nat),σ_ 32=jV (↑am:Int)/\σ_ 0=.pointer (some ⟨ap,0,none⟩)/\σ_ 1=.slice bn p1.length bq/\σ_ 6=jV x3/\σ_ 7=.slice bd bi.length bg/\σ_ 8=jV (↑ak:Int)/\σ_ 9=.slice bs bj.length bz/\σ_ 21=jV (↑p0.Race.Starts.length:Int)/\σ_ 22=jV (↑ak:Int)/\σ_ 31=jV (w64 ((↑p0.Race.Splits.length:Int) + 1))/\PHeap.Le cn U_/\SW w [B0,.obj ab (.map ae ah)] U U_ [B0,.obj ab (.map ae ah),B1,.row bs bz 3 1 (hH KL.encI bj)] w_) fN ?_ ?_ ?_
 have fG:=cX.nilrow 3 1
 exact ⟨cn,none,0,rfl,cL,dY,dZ,d5,rfl,rfl,cM,bI,rfl,(zO _),(fG.pick [1,2,3,0] _ (by decide) rfl)⟩
 rintro am bj gU g9 gB bS ⟨bE,bs,bz,bJ,cN,cO,cP,d7,cQ,d9,ec,ef,cE,dh,bB⟩ gj
 have ct:Hid ((↑am:Int) < (w64 ((↑p0.Race.Splits.length:Int) + 1))):=zI (wAy bS)
 replace bS:=zI bS
 have fO:Hid (w64 ((↑am:Int) + 1)=(↑(am + 1):Int)):=zI (by have h1:=bW.out;have h2:=ct.out;rw [wAV] <;> omega)
 refine sR fL1 Z (oR Z (zY Z bJ cE) (eN (zK (cT Z ct (kN (zK (zd (sR fL2 Z (oM Z bJ (oA Z Z (eN (rR (wST (.fx 14 (.fx 15 (.fl 16 .nil) .stop) .stop)) Z (oM Z d9 (oM Z cO (oM Z cN (oR Z (ZT Z Z) (oR Z (zF Z Z zo Z Zk) (oL Z (bB.ldB (j:=0) Z Z Z Zo (v:=.map (some ab)) Z) (oM Z cQ (oM Z Z (oR Z (zy (pv:=[(0,jV (↑ak:Int)),(1,jV (↑am:Int))]) (z:=[jV 0,jV 0]) (cs:=[jV (↑ak:Int),jV (↑am:Int)]) Z (wAD Z (wAD Z wAO)) zf wAz Z Z) (oL Z (bB.lookup1 (j:=1) (mk:=wAu) (mv:=wAv) (a:=(⟨(↑ak:Int),(↑am:Int)⟩:wAC)) (z:=0) Z Z Z Z (wBh zw) wCD ZE cY) (bnK gj fun x103 bK fR=>?_)))))))))))))))))))))))
 have eu:=bP.le dg
 have ey:=eu.le dh
 have q:=ey.el (fun _=>rfl) (wAW bK)
 obtain ⟨gC,gO,eV,eZ⟩:=q
 refine oR Z (ZQ Z Z eV Z zD zB (wBM bK) (wBP bK)) (oL Z (bB.ldC (f:=0) eZ (v:=jV x103) Z Z zE Z) (oM Z cP (oR Z (yN Z Z Z) (ZC (pv:=[(0,jV (w64 (x103 - x3)))]) (zs:=[jV 0]) (cs:=[jV (w64 (x103 - x3))]) Z Z Z Z Z (wAD Z wAO) zD zB ZE Z Z Z Z Z bB ?_))))
 intro dq dA fd
 let B2:Res:=.row (some ⟨dA,0,none⟩) 1 3 1 (hH KL.encI [w64 (x103 - x3)])
 have cS:SW w [B0,.obj ab (.map ae ah)] U bE [B2,B0,.obj ab (.map ae ah),B1,.row bs bz 3 1 (hH KL.encI bj)] dq:=fd
 refine bnK fR fun x117 eD fS=>Zz (j:=4) (enc:=KL.encI) (xs:=bj) (ys:=[w64 (x103 - x3)]) (zs:=x117) rfl rfl rfl rfl rfl yV wKF rfl rfl rfl rfl rfl rfl cS rfl rfl rfl (cS.srcR (j:=0) rfl (by decide) (wAG (f:=KL.encI) (sz:=1) (fun _=>rfl) [w64 (x103 - x3)])) (fun _=>rfl) (fun _=>rfl) eD rfl ?_
 intro bZ cu dr ff
 have fg:SW w [B0,.obj ab (.map ae ah)] U bE [B2,B0,.obj ab (.map ae ah),B1,.row bZ cu 3 1 (hH KL.encI x117)] dr:=ff
 refine oA Z Z (zi (zu (zH (rR fL2 Z (oR Z (ZR (zW Z bJ Z) (congrArg (jV) fO.out)) (oM Z Z (zi ?_)))))))
 cases fS
 exact zH ⟨rfl,⟨bE,bZ,cu,rfl,cN,cO,cP,d7,cQ,rfl,ec,ef,cE,dh,(fg.pick [1,2,3,4] _ (by decide) rfl)⟩⟩
 rintro gX dt ⟨gx,bC,bF,eg,dH,dI,dJ,dK,gF,dL,dM,dN,dO,da,fh⟩
 have dD:Hid (¬ ((↑((w64 ((↑p0.Race.Splits.length:Int) + 1):Int) - 0).toNat:Int) < (w64 ((↑p0.Race.Splits.length:Int) + 1)))):=zI (wAi)
 refine sR fL1 Z (oR Z (zY Z eg dO) (eN (zK (cF Z dD (Zb (zl (zl (ZX (zH (rR (.fl 0 (.fl 1 gDs)) Z (oM Z dK (oM Z dL ?_))))))))))))
 have q:=fh.freezeR (k:=3) (n:=au.length) rfl (wAG (f:=KL.encI) (sz:=1) (fun _=>rfl) au) (by decide)
 obtain ⟨bf,db,gg,fm⟩:=q
 have fq:SW w [B0,.obj ab (.map ae ah)] U bf [B0,.obj ab (.map ae ah),B1] dt:=fm
 let B3:List Value:=[.slice bC au.length bF]
 refine ZC (pv:=[(0,.slice bC au.length bF)]) (zs:=[.slice none 0 0]) (cs:=B3) Z Z Z Z Z (wAD Z wAO) ZI zZ Try.zeroValue23 Z Z Z Z Z fq ?_
 intro du dB fj
 have cZ:RlL bf wJT [au] B3:=(RlL.cons (R:=wJT) (x:=au) (vs:=B3) ⟨bC,bF,rfl,gg⟩ RlL.nil)
 let B4:Res:=.row (some ⟨dB,0,none⟩) 1 23 1 B3
 have cU:SW w [B0,.obj ab (.map ae ah)] U bf [B4,B0,.obj ab (.map ae ah),B1] du:=fj
 refine bnK ge fun gt eE fT=>?_
 have eG:=eU.le da
 have eH:=eG.le db
 refine OKS.appendR (R:=wJT) (j:=3) (xs:=bi) (ys:=[au]) (zs:=gt) rfl rfl rfl rfl rfl Try.underlying29 wNg rfl rfl rfl rfl rfl rfl rfl cU rfl rfl rfl eH cZ (cU.srcR (j:=0) rfl (by decide) (RlL.len cZ)) eE rfl ?_
 intro cb cw cD dv ft gf
 have fu:SW w [B0,.obj ab (.map ae ah)] U bf [B4,B0,.obj ab (.map ae ah),.row cb cw 23 1 cD] dv:=ft
 refine oA Z Z (zi (zu (zH (rR fL2 Z (oR Z (ZR (zW Z dN Z) (congrArg (jV) fQ.out)) (oM Z Z (zi ?_)))))))
 cases fT
 exact zH ⟨rfl,⟨bf,cb,cw,cD,rfl,dH,dI,dJ,rfl,dM,((dg.trans da).trans db),(fu.pick [1,2,3] _ (by decide) rfl),gf⟩⟩
 rintro gZ gy ⟨cm,bD,bG,cx,eh,cG,dP,dQ,dR,dS,gm,cV,eI⟩
 have dE:Hid (¬ ((↑(((↑p0.Race.Starts.length:Int):Int) - 0).toNat:Int) < (↑p0.Race.Starts.length:Int))):=zI (wAi)
 refine sR fL1 Z (oR Z (zY Z eh dS) (eN (zK (cF Z dE (Zb (zl (zl (ZX (zH (sR fL1 Z (oA Z Z (eN (zK (sR fL7 Z (oM Z cG (oR Z (ZT Z Z) (oR Z (zF Z Z zo Z zm) (oR Z (zF Z Z zN Z Ze) (oL Z (cV.ldB (j:=0) Z Z Z Zw (v:=.slice aX p0.Race.Clocks.length ba) Z) (oR Z (zt Z Z ZO) (oM Z Z (eN (zd (bnK fZ fun gW fH fU=>?_))))))))))))))))))))))))
 have q:=wBH fH
 obtain ⟨bU,fJ⟩:=q
 replace bU:=zI bU
 let B5:Res:=.row bD bG 23 1 cx
 refine CK.forN' (fun av bh σ_ w_=>∃ (U_:PHeap) (br:Option Addr) (bw:Nat),σ_ 63=jV (↑av:Int)/\σ_ 0=.pointer (some ⟨ap,0,none⟩)/\σ_ 1=.slice bn p1.length bq/\σ_ 6=jV x3/\σ_ 7=.slice bD gv.length bG/\σ_ 11=.slice br bh.length bw/\σ_ 62=jV (↑p0.Race.Clocks.length:Int)/\PHeap.Le cm U_/\SW w [B0,.obj ab (.map ae ah)] U U_ [B0,.obj ab (.map ae ah),B5,.row br bw 3 1 (hH KL.encI bh)] w_) fJ ?_ ?_ ?_
 have fw:=cV.nilrow 3 1
 exact ⟨cm,none,0,rfl,cG,dP,dQ,dR,rfl,rfl,(zO _),(fw.pick [1,2,3,0] _ (by decide) rfl)⟩
 rintro av bh gS g6 cp bQ ⟨dm,br,bw,bH,cH,cI,cJ,dT,dU,cK,de,fy⟩ gh
 have cy:Hid ((↑av:Int) < (↑p0.Race.Clocks.length:Int)):=zI (wAy bQ)
 replace bQ:=zI bQ
 have fP:Hid (w64 ((↑av:Int) + 1)=(↑(av + 1):Int)):=zI (by have h1:=bU.out;have h2:=cy.out;rw [wAV] <;> omega)
 refine sR fL1 rfl (zg rfl rfl rfl rfl (fun _=>zY rfl bH cK) (eN (zK (cT Z cy (kN (zK (zd (sR fL2 rfl (zk rfl rfl rfl rfl rfl bH (yH rfl rfl rfl rfl rfl rfl (eN (ZA ZB [3,3,3,3,3,3,1,3,2,1,3,1,3,2,0,3] (fC0_7 (.fx 8 (wSd (.fx 13 (.fx 14 (.fl 15 .nil) .stop) .stop)) .stop)) (by kernel_rfl) ?_))))))))))))
 have bM:=fy.drew
 generalize hw_W242:({ cp with drawn:=cp.drawn + 1 }:World)=dw at bM ⊢
 refine oM Z dU (oM Z cJ (oM Z cI (oM Z cH (oR Z (ZT Z Z) (oR Z (zF Z Z zo Z Zk) (oL Z (bM.ldB (j:=0) Z Z Z Zo (v:=.map (some ab)) Z) (oM Z Z (bnK gh fun gu eJ fV=>zM 0 Z Z Z Z (zL Z Z Try.call82 (zC Z zQ) Z) bM (fun hs=>wCC (↑av:Int) dw dm hs eJ) (.inr Z) ?_))))))))
 rintro bv gw gR dx df fz ⟨rfl,rfl⟩
 let B6:Res:=.row br bw 3 1 (hH KL.encI bh)
 have bN:SW w [B0,.obj ab (.map ae ah)] U bv [B0,.obj ab (.map ae ah),B5,B6] dx:=fz
 refine oL Z (bN.lookup1 (j:=1) (mk:=wAu) (mv:=wAv) (a:=gu) (z:=0) Z Z Z Z (wBh zw) wCD ZE cY) (bnK fV fun bb bL fW=>?_)
 have eK:=bP.le gm
 have eL:=eK.le de
 have eM:=eL.le df
 have q:=eM.el (fun _=>rfl) (wAW bL)
 obtain ⟨gD,gP,eW,fb⟩:=q
 refine oR Z (ZQ Z Z eW Z zD zB (wBM bL) (wBP bL)) (oL Z (bN.ldC (f:=0) fb (v:=jV bb) Z Z zE Z) (oR Z (yN Z Z Z) (ZC (pv:=[(0,jV (w64 (x3 - bb)))]) (zs:=[jV 0]) (cs:=[jV (w64 (x3 - bb))]) Z Z Z Z Z (wAD Z wAO) zD zB ZE Z Z Z Z Z bN ?_)))
 intro dy dC fA
 let B7:Res:=.row (some ⟨dC,0,none⟩) 1 3 1 (hH KL.encI [w64 (x3 - bb)])
 have cW:SW w [B0,.obj ab (.map ae ah)] U bv [B7,B0,.obj ab (.map ae ah),B5,B6] dy:=fA
 refine bnK fW fun dk eO fY=>Zz (j:=4) (enc:=KL.encI) (xs:=bh) (ys:=[w64 (x3 - bb)]) (zs:=dk) rfl rfl rfl rfl rfl yV wKF rfl rfl rfl rfl rfl rfl cW rfl rfl rfl (cW.srcR (j:=0) rfl (by decide) (wAG (f:=KL.encI) (sz:=1) (fun _=>rfl) [w64 (x3 - bb)])) (fun _=>rfl) (fun _=>rfl) eO rfl ?_
 intro cd cz dz fB
 have fC:SW w [B0,.obj ab (.map ae ah)] U bv [B7,B0,.obj ab (.map ae ah),B5,.row cd cz 3 1 (hH KL.encI dk)] dz:=fB
 refine oA Z Z (zi (zu (zH (rR fL2 Z (oR Z (ZR (zW Z bH Z) (congrArg (jV) fP.out)) (oM Z Z (zi ?_)))))))
 cases fY
 exact zH ⟨rfl,⟨bv,cd,cz,rfl,cH,cI,cJ,dT,rfl,cK,(de.trans df),(fC.pick [1,2,3,4] _ (by decide) rfl)⟩⟩
 rintro g7 gz ⟨dp,dl,dF,en,gG,gH,gI,dV,dW,dX,gq,fD⟩
 have dG:Hid (¬ ((↑(((↑p0.Race.Clocks.length:Int):Int) - 0).toNat:Int) < (↑p0.Race.Clocks.length:Int))):=zI (wAi)
 refine sR fL1 Z (oR Z (zY Z en dX) (eN (zK (cF Z dG (Zb (zl (zl (ZX (zH (sR fL4 Z (oM Z dV (oM Z dW (oA Z Z (oA Z Z (eN (zU ?_))))))))))))))))
 have eQ:=eI.le gq
 cases fU
 exact ⟨rfl,_,(wHL rfl rfl),dp,_,(fD.pick [2,3,0,1] _ (by decide) rfl),bD,bG,cx,dl,dF,rfl,rfl,eQ⟩
end Go.Proofs.Ytlnfbjphfoipaaa
namespace Go.Proofs.Ytlnfbjphfoipaaa
open Go.KL
set_option maxHeartbeats 4000000
theorem wIX (p0:wAB) (cp:Option Addr) (cu:Nat) (cq:Option Addr) (cw:Nat) (cr:Option Addr) (cx:Nat) (ct:Option Addr) (cy:Nat) (p1:wAQ) (p2:Bool) (w:World) (U:PHeap) (hS:St0 w U []) (il:Sl U 1 cp cu p0.Starts.length (hH KL.encI p0.Starts)) (im:Sl U 2 cq cw p0.Splits.length (hH wAJ p0.Splits)) (io:Sl U 3 cr cx p0.Clocks.length (hH wAA p0.Clocks)) (ip:Sl U 4 ct cy p0.Readings.length (hH wAH p0.Readings)) {r:(List (List Int)) × (List Int) × Int} (hm:wBt p0 p1 p2=some r):Gv Try.prog 23 [.agg #[.slice cp p0.Starts.length cu,.slice cq p0.Splits.length cw,.slice cr p0.Clocks.length cx,.slice ct p0.Readings.length cy],.agg #[jV p1.Skier,jV p1.Mat],.bool p2] w (wCh w [] U (fun U_ L_ v=>∃ (A0:Option Addr) (c0:Nat) (dQ:List Value) (A1:Option Addr) (c1:Nat),v=.tuple #[.slice A0 r.1.length c0,.slice A1 r.2.1.length c1,jV r.2.2]/\L_=[.row A0 c0 23 1 dQ,.row A1 c1 3 1 (hH KL.encI r.2.1)]/\RlL U_ wJT r.1 dQ)):=by
 unfold wBt at hm
 refine Gv.of Try.func23 Z Try.ntmps23 Try.results23 Z (sR (.fx 0 (.fx 1 (fC2_4 (.nil)) .stop) .stop) Z ?_)
 let B0:List Value:=[.slice cp p0.Starts.length cu,.slice cq p0.Splits.length cw,.slice cr p0.Clocks.length cx,.slice ct p0.Readings.length cy]
 refine ZN (cs:=B0) rfl rfl rfl rfl rfl rfl (by rfl) hS ?_
 intro W1 b2 gX
 let B1:List Value:=[jV p1.Skier,jV p1.Mat]
 refine ZN (cs:=B1) rfl rfl rfl rfl rfl rfl (by rfl) gX ?_
 intro W5 b6 da
 refine oA Z Z (oA Z Z (oA Z Z (eN (sR (.fl 0 (.fl 1 (.fx 2 (.fx 3 (wQu (.nil)) .stop) .stop))) Z (oL Z (da.ldBA (j:=1) Z Z Z ZK zm (vs:=B0) Z Z) (oL Z (da.ldBA (j:=0) Z Z Z yI Zp (vs:=B1) Z Z) (ZC (pv:=[(0,.agg B1.toArray)]) (zs:=[jV 0,jV 0]) (cs:=B1) Z Z Z Z Z (wAD Z wAO) Try.runUnderlying112 Zp yL Z Z Z Z Z da ?_)))))))
 intro W9 dJ gv
 have gw:sW w U U [.row (some ⟨dJ,0,none⟩) 1 45 2 (hH wBR [p1]),.blk b6 45 B1,.blk b2 28 B0] W9:=gv
 have q:=gw.freezeR (k:=0) (n:=[p1].length) rfl (wAG (f:=wBR) (sz:=2) (fun _=>rfl) [p1]) (by decide)
 obtain ⟨dy,cn,iG,gD⟩:=q
 have gF:sW w U dy [.blk b6 45 B1,.blk b2 28 B0] W9:=gD
 have fq:=il.le cn
 have ft:=im.le cn
 have fu:=io.le cn
 have fz:=ip.le cn
 have q:=bnd hm
 obtain ⟨⟨iP,ef⟩,fD,bH⟩:=q
 try dsimp only at bH
 refine zM 0 Z Z Z Z (zL Z Z Try.call46 (zC Z (zC Z zQ)) Z) gF (fun hs=>wET p0 cp cu cq cw cr cx ct cy [p1] (some ⟨dJ,0,none⟩) 1 W9 dy hs fq ft fu fz iG fD) (.inr Z) ?_
 rintro bg iY jl bp jd dX dV
 rcases iP with _ | x48
 try dsimp only at bH
 obtain ⟨rfl,rfl⟩:=dV
 have dZ:sW w U bg [.blk b6 45 B1,.blk b2 28 B0] bp:=dX
 refine oM Z Z (oR Z (zX Z Z (v:=.pointer none) Z) (oR Z (zX Z Z (v:=jV ef) Z) (oA Z Z (oA Z Z (eN (zK (sR fL2 Z (oM Z Z (oR Z (Zs Z Z Z) (eN (ifc bH ?_ ?_)))))))))))
 intro cU iD
 refine ZU (ZS (fun h=>h cU.out)) (kN (zK (ZA ZB [3,3,3,3,1,1,2,1,3,3,0,3,3,3,3,2,0,3,3] (wHf (.fl 8 (.fl 9 (.fx 6 (.fl 7 (.fx 10 (wFJ gDw) (.fx 15 (.fx 10 (wFJ gDt) (.stop)) (.stop)))) (.fx 15 (.fx 6 (.fl 7 (.fx 10 (wFJ gDt) (.stop))) (.stop)) (.stop)))))) (by kernel_rfl) ?_)))
 have ii:=dZ.drew
 generalize hw_W53:({ bp with drawn:=bp.drawn + 1 }:World)=i9 at ii ⊢
 refine oM Z Z (oM Z Z ?_)
 cases iD
 intro cU iE
 refine cT Z cU (sR fL4 Z (oM Z Z (oA Z Z (oA Z Z (oA Z Z (eN (zU (zJ ?_))))))))
 have ij:=dZ.nilrow 23 1
 have ik:=ij.nilrow 3 1
 cases iE
 exact ⟨rfl,_,(res3 rfl rfl rfl),bg,_,(ik.pick [1,0] _ (by decide) rfl),none,0,[],none,0,rfl,rfl,RlL.nil⟩
 try dsimp only at bH
 obtain ⟨bd,bi,bq,bj,br,bk,bs,bm,bt,ab,ai,ah,bn,bu,rfl,rfl,bB,bC,bD,bE,bh,bF⟩:=dV
 let B2:Res:=.blk bd 124 [.slice bi x48.Race.Starts.length bq,.slice bj x48.Race.Splits.length br,.slice bk x48.Race.Clocks.length bs,.slice bm x48.Race.Readings.length bt,.map (some ab),.slice bn x48.edges.length bu]
 have d5:sW w U bg [B2,.obj ab (.map ai ah),.blk b6 45 B1,.blk b2 28 B0] bp:=dX
 refine oM Z Z (oR Z (zX Z Z (v:=.pointer (some ⟨bd,0,none⟩)) Z) (oR Z (zX Z Z (v:=jV ef) Z) (oA Z Z (oA Z Z (eN (zK (sR fL2 Z (oM Z Z (oR Z (Zs Z Z Z) (eN (ifc bH ?_ ?_)))))))))))
 intro cV iF
 refine ZU (ZS (fun h=>h cV.out)) (kN ?_)
 have q:=bnd iF
 obtain ⟨⟨az,bf⟩,iK,ec⟩:=q
 try dsimp only at ec
 refine yD (fun σ_ w_=>∃ (U_:PHeap) (be:Nat) (aq:Option Addr) (au:Nat) (aZ:Option Addr) (ba:Nat),σ_ 2=.bool p2/\σ_ 9=.pointer (some ⟨bd,0,none⟩)/\σ_ 11=.pointer (some ⟨be,0,none⟩)/\PHeap.Le bg U_/\sW w U U_ [B2,.obj ab (.map ai ah),.blk b6 45 B1,.blk b2 28 B0,.blk be 118 [.slice aq az.length au,.slice aZ bf.length ba],.row aq au 3 1 (hH KL.encI az),.row aZ ba 3 1 (hH KL.encI bf)] w_) ?_ ?_
 refine bnK iK fun x81 dU iw=>?_
 have q:=bnd iw
 obtain ⟨⟨x96,x97,x98⟩,cY,cm⟩:=q
 try dsimp only at cm
 refine ZA ZB [3,3,3,3,1,1,2,1,3,3,0,3,3,3,3,2,0,3,3] (wHf (.fl 8 (.fl 9 (.fx 6 (.fl 7 (.fx 10 (wFJ gDw) (.fx 15 (.fx 10 (wFJ gDt) (.stop)) (.stop)))) (.fx 15 (.fx 6 (.fl 7 (.fx 10 (wFJ gDt) (.stop))) (.stop)) (.stop)))))) (by kernel_rfl) ?_
 have bG:=d5.drew
 generalize hw_W124:({ bp with drawn:=bp.drawn + 1 }:World)=en at bG ⊢
 refine oM Z Z (oM Z Z (oR Z (ZT Z Z) (oR Z (zF Z Z zo Z Zk) (oL Z (bG.ldB (j:=0) Z Z Z Zo (v:=.map (some ab)) Z) (oL Z (bG.ldBA (j:=2) Z Z Z yI Zp (vs:=B1) Z Z) (oM Z Z (oR Z (Zc Z Z) (zh ?_ ?_))))))))
 refine zM 0 Z Z Z Z (zL Z Z Try.call49 (zC Z zQ) Z) bG (fun hs=>wDq p1 en bg hs dU) (.inr Z) ?_
 rintro bV iT jf dE aX gx ⟨rfl,rfl⟩
 have cZ:sW w U bV [B2,.obj ab (.map ai ah),.blk b6 45 B1,.blk b2 28 B0] dE:=gx
 refine oL Z (cZ.lookup1 (j:=1) (mk:=wAu) (mv:=wAv) (a:=x81) (z:=0) Z Z Z Z (wBh zw) wCD ZE bh) (zh ?_ ?_)
 have eX:=bB.le aX
 have eZ:=bC.le aX
 have fb:=bD.le aX
 have fc:=bE.le aX
 have fd:=bF.le aX
 refine zM 2 Z Z Z Z (zL Z Z yZ (zC Z (zC Z (zC Z zQ))) Z) cZ (fun hs=>wAm x48 bd bi bq bj br bk bs bm bt ab ai ah bn bu (wAg x48.number x81 0) (!p2) dE bV hs eX eZ fb fc bh fd cY) (.inl Z) ?_
 rintro cH iU jg eu iL gy ⟨bM,bX,bN,bY,rfl,rfl⟩
 let B3:Res:=.row bM bX 3 1 (hH KL.encI x96.far)
 let B4:Res:=.row bN bY 3 1 (hH KL.encI x96.by_)
 have gz:sW w U cH [B3,B4,B2,.obj ab (.map ai ah),.blk b6 45 B1,.blk b2 28 B0] eu:=gy
 refine oM Z Z (oR Z (zX Z Z (v:=.agg #[.slice bM x96.far.length bX,.slice bN x96.by_.length bY]) Z) (oR Z (zX Z Z (v:=jV x97) Z) (oR Z (zX Z Z (v:=.bool x98) Z) (zS (cs:=[.slice none 0 0,.slice none 0 0]) Z Z Z Z Z Za Z gz ?_))))
 intro i6 dK gA
 let B5:List Value:=[.slice bM x96.far.length bX,.slice bN x96.by_.length bY]
 refine zV (j:=0) (vs:=B5) Z Z Z Z gA Z Z Z Z Zl (zA Z) Z Z Z ?_
 intro ey gB
 have gC:sW w U cH [.blk dK 118 B5,B3,B4,B2,.obj ab (.map ai ah),.blk b6 45 B1,.blk b2 28 B0] ey:=gB
 refine oA Z Z (oA Z Z (zi ?_))
 cases cm
 exact zH ⟨rfl,⟨cH,dK,bM,bX,bN,bY,rfl,rfl,rfl,(aX.trans iL),(gC.pick [3,4,5,6,0,1,2] _ (by decide) rfl)⟩⟩
 let B6:List Value:=[.slice none 0 0,.slice none 0 0]
 refine zS (cs:=B6) Z Z Z Z Z Za Z cZ ?_
 intro dF bW gE
 have ff:=bB.le aX
 have fg:=bC.le aX
 have fh:=bD.le aX
 have fj:=bE.le aX
 have fm:=bF.le aX
 have gG:sW w U bV [B2,.obj ab (.map ai ah),.blk bW 118 B6,.blk b6 45 B1,.blk b2 28 B0] dF:=gE.pick [1,2,0,3,4] _ (by decide) rfl
 refine zM 2 Z Z Z Z (zL Z Z yZ (zC Z (zC Z (zC Z zQ))) Z) gG (fun hs=>wAm x48 bd bi bq bj br bk bs bm bt ab ai ah bn bu (wAg x48.number x81 0) (!p2) dF bV hs ff fg fh fj bh fm cY) (.inl Z) ?_
 rintro cI iV jh eD iM gH ⟨bP,bZ,bQ,cb,rfl,rfl⟩
 let B7:Res:=.row bP bZ 3 1 (hH KL.encI x96.far)
 let B8:Res:=.row bQ cb 3 1 (hH KL.encI x96.by_)
 have gI:sW w U cI [B7,B8,B2,.obj ab (.map ai ah),.blk bW 118 B6,.blk b6 45 B1,.blk b2 28 B0] eD:=gH
 refine oM Z Z (oR Z (zX Z Z (v:=.agg #[.slice bP x96.far.length bZ,.slice bQ x96.by_.length cb]) Z) (oR Z (zX Z Z (v:=jV x97) Z) (oR Z (zX Z Z (v:=.bool x98) Z) ?_)))
 let B9:List Value:=[.slice bP x96.far.length bZ,.slice bQ x96.by_.length cb]
 refine zV (j:=4) (vs:=B9) Z Z Z Z gI Z Z Z Z Zl (zA Z) Z Z Z ?_
 intro eE gJ
 have gK:sW w U cI [B7,B8,B2,.obj ab (.map ai ah),.blk bW 118 B9,.blk b6 45 B1,.blk b2 28 B0] eE:=gJ
 refine oA Z Z (oA Z Z (zi ?_))
 cases cm
 exact zH ⟨rfl,⟨cI,bW,bP,bZ,bQ,cb,rfl,rfl,rfl,(aX.trans iM),(gK.pick [2,3,5,6,4,0,1] _ (by decide) rfl)⟩⟩
 let bU:List Value:=[.slice none 0 0,.slice none 0 0]
 refine zS (cs:=bU) Z Z Z Z Z Za Z bG ?_
 intro eG bA gL
 refine zM 0 Z Z Z Z (zL Z Z Try.call49 (zC Z zQ) Z) gL (fun hs=>wDq p1 eG bg hs dU) (.inr Z) ?_
 rintro cJ iW ji cM bw gM ⟨rfl,rfl⟩
 have dW:sW w U cJ [.blk bA 118 bU,B2,.obj ab (.map ai ah),.blk b6 45 B1,.blk b2 28 B0] cM:=gM
 refine oL Z (dW.lookup1 (j:=2) (mk:=wAu) (mv:=wAv) (a:=x81) (z:=0) Z Z Z Z (wBh zw) wCD ZE bh) ?_
 have fw:=bB.le bw
 have fy:=bC.le bw
 have fA:=bD.le bw
 have fB:=bE.le bw
 have fC:=bF.le bw
 have gN:sW w U cJ [B2,.obj ab (.map ai ah),.blk bA 118 bU,.blk b6 45 B1,.blk b2 28 B0] cM:=dW.pick [1,2,0,3,4] _ (by decide) rfl
 refine zM 2 Z Z Z Z (zL Z Z yZ (zC Z (zC Z (zC Z zQ))) Z) gN (fun hs=>wAm x48 bd bi bq bj br bk bs bm bt ab ai ah bn bu (wAg x48.number x81 0) (!p2) cM cJ hs fw fy fA fB bh fC cY) (.inl Z) ?_
 rintro cK iX jj eH iN gO ⟨bR,cd,bS,cf,rfl,rfl⟩
 let dh:Res:=.row bR cd 3 1 (hH KL.encI x96.far)
 let dk:Res:=.row bS cf 3 1 (hH KL.encI x96.by_)
 have gP:sW w U cK [dh,dk,B2,.obj ab (.map ai ah),.blk bA 118 bU,.blk b6 45 B1,.blk b2 28 B0] eH:=gO
 refine oM Z Z (oR Z (zX Z Z (v:=.agg #[.slice bR x96.far.length cd,.slice bS x96.by_.length cf]) Z) (oR Z (zX Z Z (v:=jV x97) Z) (oR Z (zX Z Z (v:=.bool x98) Z) ?_)))
 let dl:List Value:=[.slice bR x96.far.length cd,.slice bS x96.by_.length cf]
 refine zV (j:=4) (vs:=dl) Z Z Z Z gP Z Z Z Z Zl (zA Z) Z Z Z ?_
 intro eI gQ
 have gR:sW w U cK [dh,dk,B2,.obj ab (.map ai ah),.blk bA 118 dl,.blk b6 45 B1,.blk b2 28 B0] eI:=gQ
 refine oA Z Z (oA Z Z (zi ?_))
 cases cm
 exact zH ⟨rfl,⟨cK,bA,bR,cd,bS,cf,rfl,rfl,rfl,(bw.trans iN),(gR.pick [2,3,5,6,4,0,1] _ (by decide) rfl)⟩⟩
 rintro jp dG ⟨dz,be,aq,au,aZ,ba,eM,dR,cW,bb,ci⟩
 refine zK (sR fL2 Z (oM Z eM (oR Z (Zc Z Z) (eN (ifc ec ?_ ?_)))))
 intro cO iy
 refine ZU (nC cO.out) (kN (sR (wCz (.fx 3 (wQu (.nil)) .stop)) Z (oM Z dR (oR Z (zF Z cW ZH Z zZ) (oL Z (ci.ldB (j:=4) Z Z Z zj (v:=.slice aq az.length au) Z) ?_)))))
 have q:=ci.freezeR (k:=5) (n:=az.length) rfl (wAG (f:=KL.encI) (sz:=1) (fun _=>rfl) az) (by decide)
 obtain ⟨dA,bI,iH,gS⟩:=q
 let dm:Res:=.blk be 118 [.slice aq az.length au,.slice aZ bf.length ba]
 let dp:Res:=.row aZ ba 3 1 (hH KL.encI bf)
 have gT:sW w U dA [B2,.obj ab (.map ai ah),.blk b6 45 B1,.blk b2 28 B0,dm,dp] dG:=gS
 have fE:=bB.le bb
 have fG:=fE.le bI
 have fH:=bC.le bb
 have fJ:=fH.le bI
 have fK:=bD.le bb
 have fL:=fK.le bI
 have fM:=bE.le bb
 have fN:=fM.le bI
 have fO:=bF.le bb
 have fP:=fO.le bI
 have q:=bnd iy
 obtain ⟨⟨iQ,eg⟩,fQ,d7⟩:=q
 try dsimp only at d7
 refine zM 2 Z Z Z Z (zL Z Z Try.call58 (zC Z (zC Z zQ)) Z) gT (fun hs=>wED x48 bd bi bq bj br bk bs bm bt ab ai ah bn bu az aq au dG dA hs fG fJ fL fN bh fP iH fQ) (.inl Z) ?_
 rintro dB iZ jk eJ jc gU ⟨cz,cP,dN,cB,cQ,rfl,rfl,fR⟩
 have gW:sW w U dB [.row cz cP 23 1 dN,.row cB cQ 3 1 (hH KL.encI eg),B2,.obj ab (.map ai ah),.blk b6 45 B1,.blk b2 28 B0,dm,dp] eJ:=gU
 refine oM Z Z (oR Z (zX Z Z (v:=.slice cz iQ.length cP) Z) (oR Z (zX Z Z (v:=.slice cB eg.length cQ) Z) (oA Z Z (oA Z Z (eN (sR fL5 Z (oM Z Z (oM Z Z (oA Z Z (oA Z Z (oA Z Z (eN (zU ?_)))))))))))))
 cases d7
 exact ⟨rfl,_,(res3 rfl rfl rfl),dB,_,(gW.pick [0,1] _ (by decide) rfl),cz,cP,dN,cB,cQ,rfl,rfl,fR⟩
 intro cO iz
 refine ZP (nF (cO.out)) (sR fL4 Z (oR Z (zF Z cW ZH Z zZ) (oL Z (ci.ldB (j:=4) Z Z Z zj (v:=.slice aq az.length au) Z) (oR Z (zt Z Z zD) (oM Z Z (eN (zd (bnK iz fun bL iq iA=>?_))))))))
 have q:=wBH iq
 obtain ⟨de,ir⟩:=q
 replace de:=zI de
 let bo:Res:=.row aZ ba 3 1 (hH KL.encI bf)
 refine CK.forN' (fun aW av σ_ w_=>∃ (U_:PHeap),σ_ 47=jV (↑aW:Int)/\σ_ 9=.pointer (some ⟨bd,0,none⟩)/\σ_ 11=.pointer (some ⟨be,0,none⟩)/\σ_ 46=jV (↑az.length:Int)/\PHeap.Le dz U_/\sW w U U_ [B2,.obj ab (.map ai ah),.blk b6 45 B1,.blk b2 28 B0,.row aq au 3 1 (hH KL.encI av),bo,.blk be 118 [.slice aq av.length au,.slice aZ bf.length ba]] w_/\av.length=az.length) ir ?_ ?_ ?_
 exact ⟨dz,rfl,dR,cW,rfl,(zO _),(ci.pick [0,1,2,3,5,6,4] _ (by decide) rfl),rfl⟩
 rintro aW av jo jq i7 db ⟨cL,cX,eO,dS,dT,iO,cj,fS⟩ iJ
 have dO:Hid ((↑aW:Int) < (↑az.length:Int)):=zI (wAy db)
 replace db:=zI db
 have iv:Hid (w64 ((↑aW:Int) + 1)=(↑(aW + 1):Int)):=zI (by have h1:=de.out;have h2:=dO.out;rw [wAV] <;> omega)
 refine sR fL1 Z (oR Z (zY Z cX dT) (eN (zK (cT Z dO (kN (zK (zd (sR fL2 Z (oM Z cX (oA Z Z (eN (rR (wLt (.fx 7 .nil .stop)) Z (oR Z (zF Z dS ZH Z zZ) (oL Z (cj.ldB (j:=6) Z Z Z zj (v:=.slice aq av.length au) Z) (oM Z Z (bnK iJ fun _ bv iB=>?_))))))))))))))))
 obtain ⟨ja,cg⟩:=cj.rowSome (j:=4) rfl (by rw [wAG (f:=KL.encI) (sz:=1) (fun _=>rfl) av];have hz:=wAU bv;omega)
 refine oR Z (ZV Z Z cg Z zD zB (wAU bv)) ?_
 have it:=wBK (xs:=av) (wAU bv)
 refine ZG rfl rfl rfl rfl (cj.ldR (j:=4) rfl cg rfl rfl zE (wAX (sz:=1) (fun _=>rfl) _ _ 0 _ it (by first | omega | rfl | simp) rfl)) rfl (zg rfl rfl rfl rfl (fun _=>Runs.mulw rfl rfl rfl) (zg rfl rfl rfl rfl (fun _=>ZV rfl rfl cg rfl zD zB (wAU bv)) ?_))
 have iu:=wBK (xs:=av) (wAU bv)
 refine OKS.stR (j:=4) (vs:=[jV (w64 ((gd av aW) * (-1)))]) (cs':=hH KL.encI (nB av aW (w64 ((gd av aW) * (-1))))) rfl rfl rfl rfl cj rfl cg rfl rfl rfl zB (by rw [wAG (f:=KL.encI) (sz:=1) (fun _=>rfl)];have hz:=wAU bv;show _ + 1 <= _;first | omega | (simp only [nD];omega) | (simp only [nJ,nG,nH];omega)) rfl (wCu (sz:=1) (fo:=0) (fun _=>rfl) _ _ _ _ iu (by first | omega | (simp only [nD];omega) | (simp only [nJ,nG,nH];omega)) (zA rfl) rfl) rfl ?_
 intro dH gZ
 let cE:Res:=.row aq au 3 1 (hH KL.encI (nB av aW (w64 ((gd av aW) * (-1)))))
 have g6:sW w U cL [B2,.obj ab (.map ai ah),.blk b6 45 B1,.blk b2 28 B0,cE,bo,.blk be 118 [.slice aq av.length au,.slice aZ bf.length ba]] dH:=gZ
 have g7:sW w U cL [B2,.obj ab (.map ai ah),.blk b6 45 B1,.blk b2 28 B0,cE,bo,.blk be 118 [.slice aq ((nB av aW (w64 ((gd av aW) * (-1)))).length) au,.slice aZ bf.length ba]] dH:=by simpa only [B0,B1,bo,cE,B2,nE] using g6
 refine zi (zu (zH (rR fL2 Z (oR Z (ZR (zW Z cX Z) (congrArg (jV) iv.out)) (oM Z Z (zi ?_))))))
 cases iB
 exact zH ⟨Z,⟨cL,Z,eO,dS,dT,iO,g7,(nE.trans fS)⟩⟩
 rintro jr dI ⟨i4,eW,eQ,eU,eV,bJ,dY,jb⟩
 have eL:Hid (¬ ((↑(((↑az.length:Int):Int) - 0).toNat:Int) < (↑az.length:Int))):=zI (wAi)
 refine sR fL1 Z (oR Z (zY Z eW eV) (eN (zK (cF Z eL (Zb (zl (zl (ZX (zH (sR (wCz (.fx 3 (wQu (.nil)) .stop)) Z (oM Z eQ (oR Z (zF Z eU ZH Z zZ) (oL Z (dY.ldB (j:=6) Z Z Z zj (v:=.slice aq bL.length au) Z) ?_)))))))))))))
 have q:=dY.freezeR (k:=4) (n:=bL.length) rfl (wAG (f:=KL.encI) (sz:=1) (fun _=>rfl) bL) (by decide)
 obtain ⟨dC,bK,iI,g8⟩:=q
 let dq:Res:=.blk be 118 [.slice aq bL.length au,.slice aZ bf.length ba]
 have g9:sW w U dC [B2,.obj ab (.map ai ah),.blk b6 45 B1,.blk b2 28 B0,bo,dq] dI:=g8
 have fT:=bB.le bb
 have fU:=fT.le bJ
 have fV:=fU.le bK
 have fW:=bC.le bb
 have fY:=fW.le bJ
 have fZ:=fY.le bK
 have gb:=bD.le bb
 have ge:=gb.le bJ
 have gf:=ge.le bK
 have gg:=bE.le bb
 have gh:=gg.le bJ
 have gi:=gh.le bK
 have gj:=bF.le bb
 have gm:=gj.le bJ
 have gq:=gm.le bK
 have q:=bnd iA
 obtain ⟨⟨iR,eh⟩,gt,d9⟩:=q
 try dsimp only at d9
 refine zM 2 Z Z Z Z (zL Z Z Try.call58 (zC Z (zC Z zQ)) Z) g9 (fun hs=>wED x48 bd bi bq bj br bk bs bm bt ab ai ah bn bu bL aq au dI dC hs fV fZ gf gi bh gq iI gt) (.inl Z) ?_
 rintro dD i3 jm eK je ib ⟨cC,cR,dP,cD,cS,rfl,rfl,gu⟩
 have ic:sW w U dD [.row cC cR 23 1 dP,.row cD cS 3 1 (hH KL.encI eh),B2,.obj ab (.map ai ah),.blk b6 45 B1,.blk b2 28 B0,bo,dq] eK:=ib
 refine oM Z Z (oR Z (zX Z Z (v:=.slice cC iR.length cR) Z) (oR Z (zX Z Z (v:=.slice cD eh.length cS) Z) (oA Z Z (oA Z Z (eN (sR fL5 Z (oM Z Z (oM Z Z (oA Z Z (oA Z Z (oA Z Z (eN (zU ?_)))))))))))))
 cases d9
 exact ⟨rfl,_,(res3 rfl rfl rfl),dD,_,(ic.pick [0,1] _ (by decide) rfl),cC,cR,dP,cD,cS,rfl,rfl,gu⟩
 intro cV iC
 refine cT Z cV (sR fL4 Z (oM Z Z (oA Z Z (oA Z Z (oA Z Z (eN (zU (zJ ?_))))))))
 have ie:=d5.nilrow 23 1
 have ig:=ie.nilrow 3 1
 cases iC
 exact ⟨rfl,_,(res3 rfl rfl rfl),bg,_,(ig.pick [1,0] _ (by decide) rfl),none,0,[],none,0,rfl,rfl,RlL.nil⟩
theorem wFE (p0:wAB) (bQ:Option Addr) (bR:Nat) (bq:Option Addr) (br:Nat) (bf:Option Addr) (bh:Nat) (bB:Option Addr) (bC:Nat) (p1:List (List Int)) (aX:Option Addr) (aY:Nat) (p2:List Int) (bg:Option Addr) (bi:Nat) (w:World) (U:PHeap) (hS:St0 w U []) (iO:Sl U 1 bQ bR p0.Starts.length (hH KL.encI p0.Starts)) (iP:Sl U 2 bq br p0.Splits.length (hH wAJ p0.Splits)) (dQ:Sl U 3 bf bh p0.Clocks.length (hH wAA p0.Clocks)) (iQ:Sl U 4 bB bC p0.Readings.length (hH wAH p0.Readings)) (dR:SlR U wJT aX aY p1) (dS:Sl U 1 bg bi p2.length (hH KL.encI p2)) {r:Bool} (hm:wBE p0 p1 p2=some r):Gv Try.prog 24 [.agg #[.slice bQ p0.Starts.length bR,.slice bq p0.Splits.length br,.slice bf p0.Clocks.length bh,.slice bB p0.Readings.length bC],.slice aX p1.length aY,.slice bg p2.length bi] w (wCh w [] U (fun U_ L_ v=>v=.bool r/\L_=[])):=by
 unfold wBE at hm
 refine Gv.of Try.func24 Z Try.ntmps24 Try.results24 Z (sR gDp Z ?_)
 let B0:List Value:=[.slice bQ p0.Starts.length bR,.slice bq p0.Splits.length br,.slice bf p0.Clocks.length bh,.slice bB p0.Readings.length bC]
 refine ZN (cs:=B0) rfl rfl rfl rfl rfl rfl (by rfl) hS ?_
 intro W1 b2 bH
 refine oA Z Z (eN (zK (sR fL14 Z (oM Z Z (oR Z (zt Z Z ZI) (oR Z (zF Z Z zN Z zZ) (oL Z (bH.ldB (j:=0) Z Z Z zj (v:=.slice bQ p0.Starts.length bR) Z) (oR Z (zt Z Z zD) (oR Z (Zs Z Z Z) (oM Z Z ?_))))))))))
 by_cases c5:(↑p1.length:Int)=(↑p0.Starts.length:Int)
 have dY:=hm;rw [if_pos c5] at dY;replace c5:=zI c5
 refine zk Z Z Z (zR Z Z (ZS (fun h=>h c5.out))) Z Z (zg Z Z Z (zR Z Z (ZS (fun h=>h c5.out))) (fun _=>zt Z Z zD) (zg Z Z Z (zR Z Z (ZS (fun h=>h c5.out))) (fun _=>zF Z Z zN Z Ze) (ZG Z Z Z (zR Z Z (ZS (fun h=>h c5.out))) (bH.ldB (j:=0) Z Z Z Zw (v:=.slice bf p0.Clocks.length bh) Z) Z (zg Z Z Z (zR Z Z (ZS (fun h=>h c5.out))) (fun _=>zt Z Z ZO) (zg Z Z Z (zR Z Z (ZS (fun h=>h c5.out))) (fun _=>Zs Z Z Z) (oR Z (ZM Z (ZS (fun h=>h c5.out)) Z) (eN (ifc dY ?_ ?_))))))))
 intro c7 bn
 refine ZU (ZS (fun h=>h c7.out)) (kN (zK (sR fL3 Z (oM Z Z (oR Z (zt Z Z ZI) (oM Z Z (eN (zd ?_))))))))
 have q:=wBm bn
 obtain ⟨mu,bm⟩:=q
 have q:=wBl bm
 obtain ⟨cN,iW⟩:=q
 replace cN:=zI cN
 refine yC (fun be _ σ_ w_=>∃ (U_:PHeap),σ_ 32=jV (↑be:Int)/\σ_ 1=.slice aX p1.length aY/\σ_ 2=.slice bg p2.length bi/\σ_ 3=.pointer (some ⟨b2,0,none⟩)/\σ_ 30=.slice aX p1.length aY/\σ_ 31=jV (↑p1.length:Int)/\PHeap.Le U U_/\sW w U U_ [.blk b2 28 B0] w_) iW ?_ ?_ ?_
 exact ⟨U,Z,Z,Z,Z,Z,Z,(zO _),bH⟩
 rintro be ⟨⟩ mC mG db cJ ⟨bE,bV,fN,fO,bU,dr,dt,cf,dM⟩ dZ bJ
 try dsimp only at dZ
 have dg:Hid ((↑be:Int) < (↑p1.length:Int)):=zI (wAy cJ)
 replace cJ:=zI cJ
 have i4:Hid (w64 ((↑be:Int) + 1)=(↑(be + 1):Int)):=zI (by have h1:=cN.out;have h2:=dg.out;rw [wAV] <;> omega)
 refine sR fL1 Z (oR Z (zY Z bV dt) (eN (zK (cT Z dg (kN (zK (zd (sR fL5 Z (oM Z bV (bnK dZ fun cm dE jz=>?_))))))))))
 have gD:=dR.le cf
 have q:=gD.el (wAW dE)
 obtain ⟨eH,jZ,mB,ib,cH,jS⟩:=q
 obtain ⟨ci,cj,rfl,dG⟩:=jS
 replace cH:Cl bE eH (jZ + be * 1) [.slice ci cm.length cj]:=cH
 refine zg rfl rfl rfl rfl (fun _=>ZV rfl dr ib bV ZI zZ (wBd dE)) (ZG rfl rfl rfl rfl (dM.ldC (f:=0) cH (v:=.slice ci cm.length cj) rfl rfl zj rfl) rfl (yH rfl rfl rfl rfl rfl rfl (yH rfl rfl rfl rfl rfl rfl (eN (zK (zK (ZA ZB [3,3,3,1,3,3,3,3,3,3,1,3,1,3,3,1,3,3] fL18 (by kernel_rfl) ?_)))))))
 have ba:=dM.drew
 generalize hw_W46:({ db with drawn:=db.drawn + 1 }:World)=lE at ba ⊢
 refine oM Z Z (oR Z (zt Z Z zD) (oR Z (zF Z bU zN Z Zt) (oL Z (ba.ldB (j:=0) Z Z Z yB (v:=.slice bq p0.Splits.length br) Z) (oR Z (zt Z Z zr) (oR Z (zW Z Z Z) (oR Z (Zs Z Z Z) (oM Z Z (ifc jz ?_ ?_))))))))
 intro ai jN
 refine zk Z Z Z (zR Z Z (ZS (fun h=>h ai.out))) Z Z (bnK jN fun x49 dH jO=>?_)
 have q:=dG.el (fun _=>rfl) (wAW dH)
 obtain ⟨lU,mq,ig,iB⟩:=q
 refine zg Z Z Z (zR Z Z (ZS (fun h=>h ai.out))) (fun _=>ZV Z Z ig Z zD zB (wBd dH)) (ZG Z Z Z (zR Z Z (ZS (fun h=>h ai.out))) (ba.ldC (f:=0) iB (v:=jV x49) Z Z zE Z) Z (zg Z Z Z (zR Z Z (ZS (fun h=>h ai.out))) (fun _=>zF Z bU zN Z zZ) (ZG Z Z Z (zR Z Z (ZS (fun h=>h ai.out))) (ba.ldB (j:=0) Z Z Z zj (v:=.slice bQ p0.Starts.length bR) Z) Z (zk Z Z Z (zR Z Z (ZS (fun h=>h ai.out))) Z Z (bnK jO fun x56 dI jP=>?_)))))
 have gL:=iO.le cf
 have q:=gL.el (fun _=>rfl) (wAW dI)
 obtain ⟨lV,mr,ii,iC⟩:=q
 refine zg Z Z Z (zR Z Z (ZS (fun h=>h ai.out))) (fun _=>ZV Z Z ii Z zD zB (wBd dI)) (ZG Z Z Z (zR Z Z (ZS (fun h=>h ai.out))) (ba.ldC (f:=0) iC (v:=jV x56) Z Z zE Z) Z (zg Z Z Z (zR Z Z (ZS (fun h=>h ai.out))) (fun _=>Zs Z Z Z) (oR Z (ZM Z (ZS (fun h=>h ai.out)) Z) (eN (ifc jP ?_ ?_)))))
 intro cw bM
 refine ZU (ZS (fun h=>h cw.out)) (kN (sR fL4 Z (oR Z (zF Z bU zN Z Zt) (oL Z (ba.ldB (j:=0) Z Z Z yB (v:=.slice bq p0.Splits.length br) Z) (oR Z (zt Z Z zr) (oM Z Z (eN (zd ?_))))))))
 have q:=wBm bM
 obtain ⟨mz,bI⟩:=q
 have q:=wBl bI
 obtain ⟨cQ,iZ⟩:=q
 replace cQ:=zI cQ
 refine yC (fun bp _ σ_ w_=>∃ (U_:PHeap),σ_ 58=jV (↑bp:Int)/\σ_ 1=.slice aX p1.length aY/\σ_ 2=.slice bg p2.length bi/\σ_ 3=.pointer (some ⟨b2,0,none⟩)/\σ_ 8=.slice ci cm.length cj/\σ_ 30=.slice aX p1.length aY/\σ_ 31=jV (↑p1.length:Int)/\σ_ 32=jV (↑be:Int)/\σ_ 56=.slice bq p0.Splits.length br/\σ_ 57=jV (↑p0.Splits.length:Int)/\PHeap.Le bE U_/\sW w U U_ [.blk b2 28 B0] w_) iZ ?_ ?_ ?_
 exact ⟨bE,Z,fN,fO,bU,Z,dr,dt,bV,Z,Z,(zO _),ba⟩
 rintro bp ⟨⟩ mF mP lF cM ⟨bG,bX,gb,ge,gf,gg,gh,gi,gj,dz,dA,cS,dP⟩ d9 cI
 try dsimp only at d9
 have dk:Hid ((↑bp:Int) < (↑p0.Splits.length:Int)):=zI (wAy cM)
 replace cM:=zI cM
 have cd:Hid (w64 ((↑bp:Int) + 1)=(↑(bp + 1):Int)):=zI (by have h1:=cQ.out;have h2:=dk.out;rw [wAV] <;> omega)
 refine sR fL1 Z (oR Z (zY Z bX dA) (eN (zK (cT Z dk (kN (zK (zd (sR (wCz gDu) Z (oM Z bX (bnK d9 fun x93 dJ jQ=>?_))))))))))
 have gM:=iP.le cf
 have gN:=gM.le cS
 have q:=gN.el (fun _=>rfl) (wAW dJ)
 obtain ⟨lW,ms,gO,ij⟩:=q
 refine oR Z (ZV Z dz gO bX zr zq (wBd dJ)) (oL Z (dP.ldCA (f:=0) ij Z Z yE zq (us:=[jV x93.Lo,jV x93.Hi]) Z Z) (zS (cs:=[jV 0,jV 0]) Z Z Z Z Z Zd Z dP ?_))
 intro lm de iD
 refine oA Z Z ?_
 let B1:List Value:=[jV x93.Lo,jV x93.Hi]
 refine zV (j:=0) (vs:=B1) Z Z Z Z iD Z Z Z Z zq (zA Z) Z Z Z ?_
 intro cn iE
 have iF:sW w U bG [.blk de 41 B1,.blk b2 28 B0] cn:=iE
 refine eN (zK (yU fun aW az=>?_))
 have fg:aW 1=.slice aX p1.length aY:=(az 1).trans gb
 have fh:aW 2=.slice bg p2.length bi:=(az 2).trans ge
 have fj:aW 3=.pointer (some ⟨b2,0,none⟩):=(az 3).trans gf
 have bk:aW 8=.slice ci cm.length cj:=(az 8).trans gg
 have bs:aW 9=jV (↑bp:Int):=(az 9).trans rfl
 have dl:aW 10=.pointer (some ⟨de,0,none⟩):=(az 10).trans rfl
 have fm:aW 30=.slice aX p1.length aY:=(az 30).trans gh
 have fq:aW 31=jV (↑p1.length:Int):=(az 31).trans gi
 have ft:aW 32=jV (↑be:Int):=(az 32).trans gj
 have fu:aW 56=.slice bq p0.Splits.length br:=(az 56).trans dz
 have fw:aW 57=jV (↑p0.Splits.length:Int):=(az 57).trans dA
 have fy:aW 58=jV (↑bp:Int):=(az 58).trans bX
 clear az
 refine ZA ZB [3,3,3,3,1,3,3,3,1,3,3,3,3,3,3,1,3,3,3,1,3,3,1,3,3,3,3,3,3,3,1,3,3,3,1,3,3,1,3,3] fL40 (by kernel_rfl) ?_
 have av:=iF.drew
 generalize hw_W124:({ cn with drawn:=cn.drawn + 1 }:World)=ln at av ⊢
 refine oM Z bk (oM Z bs (oR Z (ZR (zW Z Z Z) (congrArg (jV) cd.out)) (bnK jQ fun cU bt i6=>?_)))
 have bu:=dG.le cS
 have q:=bu.el (fun _=>rfl) (wAW bt)
 obtain ⟨lG,ma,gP,ik⟩:=q
 refine oR Z (ZV Z Z gP Z zD zB (wBd bt)) (oL Z (av.ldC (f:=0) ik (v:=jV cU) Z Z zE Z) (oM Z bk (oM Z bs (bnK i6 fun cV bv i7=>?_))))
 have q:=bu.el (fun _=>rfl) (wAW bv)
 obtain ⟨lH,mb,gQ,il⟩:=q
 refine oR Z (ZV Z Z gQ Z zD zB (wBd bv)) (oL Z (av.ldC (f:=0) il (v:=jV cV) Z Z zE Z) (oR Z (zY Z Z Z) (oM Z Z (ifc i7 ?_ ?_))))
 intro ab i8
 refine oT Z ab (oT Z ab (oT Z ab (oT Z ab (oT Z ab (oT Z ab (oT Z ab (oT Z ab (oT Z ab (oT Z ab (oT Z ab (oT Z ab (oT Z ab (oR Z (zz Z (Zn ab.out) Z) (oM Z Z (oN Z (oN Z (oN Z (oN Z (oN Z (oN Z (oN Z (oN Z (oN Z (oN Z (oN Z (oN Z (oN Z (oR Z (zz Z Z Z) (eN (ZP Z (sR fL1 Z (oA Z Z (eN (zU (zP (zJ ?_))))))))))))))))))))))))))))))))))))
 have q:=wAT i8
 obtain ⟨j0,i9,eM⟩:=q
 obtain rfl:=wAh bM bI (cI j0 eM)
 refine zJ (zP (zP (zJ ?_)))
 have q:=wAT i9
 obtain ⟨j3,ja,eO⟩:=q
 obtain rfl:=wAh bn bm (bJ j3 eO)
 refine zJ (zP (zJ ?_))
 have hE:=nA ja;first | subst r | cases hE
 exact ⟨rfl,_,(ZW rfl),bG,_,(av.pick [] _ (by decide) rfl),rfl,rfl⟩
 intro ab jb
 refine zk Z Z Z (wF Z ab) Z bk (zk Z Z Z (wF Z ab) Z bs (rU Z (wF Z ab) (ZR (zW Z Z Z) (congrArg (jV) cd.out)) ?_))
 have q:=bu.el (fun _=>rfl) (wAW bt)
 obtain ⟨lI,mc,gR,im⟩:=q
 refine rU Z (wF Z ab) (ZV Z Z gR Z zD zB (wBd bt)) (ZG Z Z Z (wF Z ab) (av.ldC (f:=0) im (v:=jV cU) Z Z zE Z) Z (zk Z Z Z (wF Z ab) Z bk (zk Z Z Z (wF Z ab) Z bs ?_)))
 have q:=bu.el (fun _=>rfl) (wAW bv)
 obtain ⟨lJ,md,gS,io⟩:=q
 refine rU Z (wF Z ab) (ZV Z Z gS Z zD zB (wBd bv)) (ZG Z Z Z (wF Z ab) (av.ldC (f:=0) io (v:=jV cV) Z Z zE Z) Z (rU Z (wF Z ab) (yN Z Z Z) (rU Z (wF Z ab) (zF Z dl zn Z zB) (ZG Z Z Z (wF Z ab) (av.ldB (j:=0) Z Z Z zE (v:=jV x93.Lo) Z) Z (rU Z (wF Z ab) (zY Z Z Z) (oR Z (ZM Z (ZS ab.out) Z) (oM Z Z (ifc jb ?_ ?_))))))))
 intro ae jc
 refine oT Z ae (oT Z ae (oT Z ae (oT Z ae (oT Z ae (oT Z ae (oT Z ae (oT Z ae (oT Z ae (oT Z ae (oT Z ae (oT Z ae (oT Z ae (oR Z (zz Z (Zn ae.out) Z) (eN (ZP Z (sR fL1 Z (oA Z Z (eN (zU (zP (zJ ?_)))))))))))))))))))))
 have q:=wAT jc
 obtain ⟨j4,jd,eQ⟩:=q
 obtain rfl:=wAh bM bI (cI j4 eQ)
 refine zJ (zP (zP (zJ ?_)))
 have q:=wAT jd
 obtain ⟨j5,je,eU⟩:=q
 obtain rfl:=wAh bn bm (bJ j5 eU)
 refine zJ (zP (zJ ?_))
 have hE:=nA je;first | subst r | cases hE
 exact ⟨rfl,_,(ZW rfl),bG,_,(av.pick [] _ (by decide) rfl),rfl,rfl⟩
 intro ae jf
 refine zk Z Z Z (wF Z ae) Z bk (zk Z Z Z (wF Z ae) Z bs (rU Z (wF Z ae) (ZR (zW Z Z Z) (congrArg (jV) cd.out)) ?_))
 have q:=bu.el (fun _=>rfl) (wAW bt)
 obtain ⟨lK,me,gT,ip⟩:=q
 refine rU Z (wF Z ae) (ZV Z Z gT Z zD zB (wBd bt)) (ZG Z Z Z (wF Z ae) (av.ldC (f:=0) ip (v:=jV cU) Z Z zE Z) Z (zk Z Z Z (wF Z ae) Z bk (zk Z Z Z (wF Z ae) Z bs ?_)))
 have q:=bu.el (fun _=>rfl) (wAW bv)
 obtain ⟨lL,mf,gU,iq⟩:=q
 refine rU Z (wF Z ae) (ZV Z Z gU Z zD zB (wBd bv)) (ZG Z Z Z (wF Z ae) (av.ldC (f:=0) iq (v:=jV cV) Z Z zE Z) Z (rU Z (wF Z ae) (yN Z Z Z) (rU Z (wF Z ae) (zF Z dl zn Z zB) (ZG Z Z Z (wF Z ae) (av.ldB (j:=0) Z Z Z zE (v:=jV x93.Hi) Z) Z (rU Z (wF Z ae) (yW Z Z Z) (oR Z (ZM Z (ZS ae.out) Z) (eN (ifc jf ?_ ?_))))))))
 intro cr jg
 refine cT Z cr (sR fL1 Z (oA Z Z (eN (zU (zP (zJ ?_))))))
 have q:=wAT jg
 obtain ⟨j6,jh,eV⟩:=q
 obtain rfl:=wAh bM bI (cI j6 eV)
 refine zJ (zP (zP (zJ ?_)))
 have q:=wAT jh
 obtain ⟨j7,ji,eW⟩:=q
 obtain rfl:=wAh bn bm (bJ j7 eW)
 refine zJ (zP (zJ ?_))
 have hE:=nA ji;first | subst r | cases hE
 exact ⟨rfl,_,(ZW rfl),bG,_,(av.pick [] _ (by decide) rfl),rfl,rfl⟩
 intro cr jj
 refine cF Z cr (Zq (zu (zH (rR fL2 Z (oR Z (ZR (zW Z fy Z) (congrArg (jV) cd.out)) (oM Z Z (zi ?_)))))))
 obtain rfl:=nA jj
 exact zH ⟨rfl,_,rfl,⟨bG,rfl,fg,fh,fj,bk,fm,fq,ft,fu,fw,cS,(av.pick [1] _ (by decide) rfl)⟩⟩
 rintro ⟨⟩ mH lp ⟨eu,gm,fz,fA,fB,lX,fC,fD,fE,lY,fG,jX,iG⟩ iR
 have dV:=wCZ bM bI iR
 try dsimp only at dV
 have eI:Hid (¬ ((↑(((↑p0.Splits.length:Int):Int) - 0).toNat:Int) < (↑p0.Splits.length:Int))):=zI (wAi)
 refine sR fL1 Z (oR Z (zY Z gm fG) (eN (zK (cF Z eI (Zb (zl (zl (ZX (zu (zH (rR fL2 Z (oR Z (ZR (zW Z fE Z) (congrArg (jV) i4.out)) (oM Z Z (zi ?_))))))))))))))
 obtain rfl:=nA dV
 exact zH ⟨Z,_,Z,⟨eu,Z,fz,fA,fB,fC,fD,(cf.trans jX),iG⟩⟩
 intro cw jk
 refine cT Z cw (sR fL1 Z (oA Z Z (eN (zU (zJ (zP (zJ ?_)))))))
 have q:=wAT jk
 obtain ⟨j8,jl,eX⟩:=q
 obtain rfl:=wAh bn bm (bJ j8 eX)
 refine zJ (zP (zJ ?_))
 have hE:=nA jl;first | subst r | cases hE
 exact ⟨rfl,_,(ZW rfl),bE,_,(ba.pick [] _ (by decide) rfl),rfl,rfl⟩
 intro ai jm
 refine oT Z ai (oT Z ai (oT Z ai (oT Z ai (oT Z ai (oT Z ai (oT Z ai (oT Z ai (oT Z ai (oR Z (zz Z (Zn ai.out) Z) (eN (ZP Z (sR fL1 Z (oA Z Z (eN (zU (zJ (zP (zJ ?_))))))))))))))))))
 have q:=wAT jm
 obtain ⟨j9,jo,eZ⟩:=q
 obtain rfl:=wAh bn bm (bJ j9 eZ)
 refine zJ (zP (zJ ?_))
 have hE:=nA jo;first | subst r | cases hE
 exact ⟨rfl,_,(ZW rfl),bE,_,(ba.pick [] _ (by decide) rfl),rfl,rfl⟩
 rintro ⟨⟩ mI lq ⟨cZ,gq,fH,fJ,dm,lZ,fK,bA,dK⟩ iT
 have bK:=wCZ bn bm iT
 try dsimp only at bK
 have eJ:Hid (¬ ((↑(((↑p1.length:Int):Int) - 0).toNat:Int) < (↑p1.length:Int))):=zI (wAi)
 refine sR fL1 Z (oR Z (zY Z gq fK) (eN (zK (cF Z eJ (Zb (zl (zl (ZX (zH (zK (sR fL4 Z (oR Z (zF Z dm zN Z Ze) (oL Z (dK.ldB (j:=0) Z Z Z Zw (v:=.slice bf p0.Clocks.length bh) Z) (oR Z (zt Z Z ZO) (oM Z Z (eN (zd ?_)))))))))))))))))
 have q:=wBm bK
 obtain ⟨mw,bZ⟩:=q
 have q:=wBl bZ
 obtain ⟨cO,iX⟩:=q
 replace cO:=zI cO
 refine yC (fun bN _ σ_ w_=>∃ (U_:PHeap),σ_ 108=jV (↑bN:Int)/\σ_ 1=.slice aX p1.length aY/\σ_ 2=.slice bg p2.length bi/\σ_ 3=.pointer (some ⟨b2,0,none⟩)/\σ_ 106=.slice bf p0.Clocks.length bh/\σ_ 107=jV (↑p0.Clocks.length:Int)/\PHeap.Le cZ U_/\sW w U U_ [.blk b2 28 B0] w_) iX ?_ ?_ ?_
 exact ⟨cZ,Z,fH,fJ,dm,Z,Z,(zO _),dK⟩
 rintro bN ⟨⟩ mD mJ ls cK ⟨bS,bW,fL,cy,fM,dp,dq,cR,dL⟩ d5 dT
 try dsimp only at d5
 have df:Hid ((↑bN:Int) < (↑p0.Clocks.length:Int)):=zI (wAy cK)
 replace cK:=zI cK
 have i3:Hid (w64 ((↑bN:Int) + 1)=(↑(bN + 1):Int)):=zI (by have h1:=cO.out;have h2:=df.out;rw [wAV] <;> omega)
 refine sR fL1 Z (oR Z (zY Z bW dq) (eN (zK (cT Z df (kN (zK (zd (sR (wCz gDu) Z (oM Z bW (bnK d5 fun bj dB jp=>?_))))))))))
 have gv:=dQ.le bA
 have gw:=gv.le cR
 have q:=gw.el (fun _=>rfl) (wAW dB)
 obtain ⟨lM,mg,gW,ir⟩:=q
 refine oR Z (ZV Z dp gW bW ZO Zh (wBd dB)) (oL Z (dL.ldCA (f:=0) ir Z Z Try.isAgg43 Zh (us:=[jV bj.Offset.Lo,jV bj.Offset.Hi,jV bj.Error]) Z Z) (zS (cs:=[jV 0,jV 0,jV 0]) Z Z Z Z Z yJ Z dL ?_))
 intro lu eD iH
 refine oA Z Z ?_
 let B2:List Value:=[jV bj.Offset.Lo,jV bj.Offset.Hi,jV bj.Error]
 refine zV (j:=0) (vs:=B2) Z Z Z Z iH Z Z Z Z Zh (zA Z) Z Z Z ?_
 intro cp iI
 have iJ:sW w U bS [.blk eD 43 B2,.blk b2 28 B0] cp:=iI
 refine eN (zK (ZA ZB [3,3,3,1,3,3,1,3,3,3,3,3,1,3,3,1,3,3] fL18 (by kernel_rfl) ?_))
 have bd:=iJ.drew
 generalize hw_W263:({ cp with drawn:=cp.drawn + 1 }:World)=lv at bd ⊢
 refine oM Z cy (oM Z Z (bnK jp fun eg bY jq=>?_))
 have gx:=dS.le bA
 have dC:=gx.le cR
 have q:=dC.el (fun _=>rfl) (wAW bY)
 obtain ⟨lN,mh,gX,it⟩:=q
 refine oR Z (ZV Z Z gX Z zD zB (wBd bY)) (oL Z (bd.ldC (f:=0) it (v:=jV eg) Z Z zE Z) (oR Z (zF Z Z Zf Z zq) (oR Z (zF Z Z zn Z zB) (oL Z (bd.ldB (j:=0) Z Z Z zE (v:=jV bj.Offset.Lo) Z) (oR Z (zY Z Z Z) (oM Z Z (ifc jq ?_ ?_)))))))
 intro ak jr
 refine oT Z ak (oT Z ak (oT Z ak (oT Z ak (oT Z ak (oT Z ak (oT Z ak (oT Z ak (oR Z (zz Z (Zn ak.out) Z) (eN (ZP Z (sR fL1 Z (oA Z Z (eN (zU (zP (zJ ?_))))))))))))))))
 have q:=wAT jr
 obtain ⟨k9,jt,fb⟩:=q
 obtain rfl:=wAh bK bZ (dT k9 fb)
 refine zJ (zP (zJ ?_))
 have hE:=nA jt;first | subst r | cases hE
 exact ⟨rfl,_,(ZW rfl),bS,_,(bd.pick [] _ (by decide) rfl),rfl,rfl⟩
 intro ak ju
 refine zk Z Z Z (wF Z ak) Z cy (zk Z Z Z (wF Z ak) Z Z ?_)
 have q:=dC.el (fun _=>rfl) (wAW bY)
 obtain ⟨lO,mi,gZ,iu⟩:=q
 refine rU Z (wF Z ak) (ZV Z Z gZ Z zD zB (wBd bY)) (ZG Z Z Z (wF Z ak) (bd.ldC (f:=0) iu (v:=jV eg) Z Z zE Z) Z (rU Z (wF Z ak) (zF Z Z Zf Z zq) (rU Z (wF Z ak) (zF Z Z zn Z zB) (ZG Z Z Z (wF Z ak) (bd.ldB (j:=0) Z Z Z zE (v:=jV bj.Offset.Hi) Z) Z (rU Z (wF Z ak) (yW Z Z Z) (oR Z (ZM Z (ZS ak.out) Z) (eN (ifc ju ?_ ?_))))))))
 intro ct jv
 refine cT Z ct (sR fL1 Z (oA Z Z (eN (zU (zP (zJ ?_))))))
 have q:=wAT jv
 obtain ⟨lc,jw,fc⟩:=q
 obtain rfl:=wAh bK bZ (dT lc fc)
 refine zJ (zP (zJ ?_))
 have hE:=nA jw;first | subst r | cases hE
 exact ⟨rfl,_,(ZW rfl),bS,_,(bd.pick [] _ (by decide) rfl),rfl,rfl⟩
 intro ct jx
 refine cF Z ct (Zq (zu (zH (rR fL2 Z (oR Z (ZR (zW Z bW Z) (congrArg (jV) i3.out)) (oM Z Z (zi ?_)))))))
 obtain rfl:=nA jx
 exact zH ⟨rfl,_,rfl,⟨bS,rfl,fL,cy,fM,dp,dq,cR,(bd.pick [1] _ (by decide) rfl)⟩⟩
 rintro ⟨⟩ mK lw ⟨da,gt,fP,fQ,du,l3,fR,cg,dN⟩ iU
 have bL:=wCZ bK bZ iU
 try dsimp only at bL
 have eK:Hid (¬ ((↑(((↑p0.Clocks.length:Int):Int) - 0).toNat:Int) < (↑p0.Clocks.length:Int))):=zI (wAi)
 refine sR fL1 Z (oR Z (zY Z gt fR) (eN (zK (cF Z eK (Zb (zl (zl (ZX (zH (zK (sR fL4 Z (oR Z (zF Z du zN Z yK) (oL Z (dN.ldB (j:=0) Z Z Z Try.isAgg26 (v:=.slice bB p0.Readings.length bC) Z) (oR Z (zt Z Z Zx) (oM Z Z (eN (zd ?_)))))))))))))))))
 have q:=wBm bL
 obtain ⟨my,cb⟩:=q
 have q:=wBl cb
 obtain ⟨cP,iY⟩:=q
 replace cP:=zI cP
 refine yC (fun bz _ σ_ w_=>∃ (U_:PHeap),σ_ 135=jV (↑bz:Int)/\σ_ 1=.slice aX p1.length aY/\σ_ 2=.slice bg p2.length bi/\σ_ 3=.pointer (some ⟨b2,0,none⟩)/\σ_ 133=.slice bB p0.Readings.length bC/\σ_ 134=jV (↑p0.Readings.length:Int)/\PHeap.Le da U_/\sW w U U_ [.blk b2 28 B0] w_) iY ?_ ?_ ?_
 exact ⟨da,Z,fP,fQ,du,Z,Z,(zO _),dN⟩
 rintro bz ⟨⟩ mE mL lx cL ⟨bF,cB,dv,dw,cz,dx,dy,bP,dO⟩ d7 dU
 try dsimp only at d7
 have dh:Hid ((↑bz:Int) < (↑p0.Readings.length:Int)):=zI (wAy cL)
 replace cL:=zI cL
 have i5:Hid (w64 ((↑bz:Int) + 1)=(↑(bz + 1):Int)):=zI (by have h1:=cP.out;have h2:=dh.out;rw [wAV] <;> omega)
 refine sR fL1 Z (oR Z (zY Z cB dy) (eN (zK (cT Z dh (kN (zK (zd (sR (.fl 0 (.fl 1 (.fx 2 (.fx 3 .nil .stop) .stop))) Z (bnK d7 fun aq dD jy=>?_)))))))))
 have gy:=iQ.le bA
 have gz:=gy.le cg
 have gA:=gz.le bP
 have q:=gA.el (fun _=>rfl) (wAW dD)
 obtain ⟨lP,mj,g6,iv⟩:=q
 refine oR Z (ZV Z dx g6 cB Zx Zj (wBd dD)) (oL Z (dO.ldCA (f:=0) iv Z Z Try.isAgg39 Zj (us:=[jV aq.Skier,jV aq.Mat,jV aq.Clock,jV aq.Time]) Z Z) (zS (cs:=[jV 0,jV 0,jV 0,jV 0]) Z Z Z Z Z Zr Z dO ?_))
 intro ly eE iK
 let B3:List Value:=[jV aq.Skier,jV aq.Mat,jV aq.Clock,jV aq.Time]
 refine zV (j:=0) (vs:=B3) Z Z Z Z iK Z Z Z Z Zj (zA Z) Z Z Z ?_
 intro cq iL
 have iM:sW w U bF [.blk eE 39 B3,.blk b2 28 B0] cq:=iL
 refine eN (zK (ZA ZB [3,1,3,3,1,3,1,3,1,3,1,3,3,3,1,3,1,3,3] fL19 (by kernel_rfl) ?_))
 have ap:=iM.drew
 generalize hw_W344:({ cq with drawn:=cq.drawn + 1 }:World)=lz at ap ⊢
 refine oR Z (zF Z Z zx Z zB) (oL Z (ap.ldB (j:=0) Z Z Z zE (v:=jV aq.Time) Z) (oM Z dv (oR Z (zF Z Z zx Z zB) (oL Z (ap.ldB (j:=0) Z Z Z zE (v:=jV aq.Skier) Z) (bnK jy fun eh cC jA=>?_)))))
 have gB:=dR.le bA
 have gC:=gB.le cg
 have gE:=gC.le bP
 have q:=gE.el (wAW cC)
 obtain ⟨eG,jY,mA,g7,cG,jR⟩:=q
 obtain ⟨ec,ef,rfl,gF⟩:=jR
 replace cG:Cl bF eG (jY + aq.Skier.toNat * 1) [.slice ec eh.length ef]:=cG
 refine oR Z (ZQ Z Z g7 Z ZI zZ (wBM cC) (wBP cC)) (oL Z (ap.ldC (f:=0) cG (v:=.slice ec eh.length ef) Z Z zj Z) (oR Z (zF Z Z zx Z zB) (oL Z (ap.ldB (j:=0) Z Z Z zE (v:=jV aq.Mat) Z) (bnK jA fun lh cD jB=>?_))))
 have q:=gF.el (fun _=>rfl) (wAW cD)
 obtain ⟨lQ,ml,g8,iw⟩:=q
 refine oR Z (ZQ Z Z g8 Z zD zB (wBM cD) (wBP cD)) (oL Z (ap.ldC (f:=0) iw (v:=jV lh) Z Z zE Z) (oR Z (yN Z Z Z) (oM Z dw (oR Z (zF Z Z zx Z zB) (oL Z (ap.ldB (j:=0) Z Z Z zE (v:=jV aq.Clock) Z) (bnK jB fun li cE jC=>?_))))))
 have gG:=dS.le bA
 have gH:=gG.le cg
 have gI:=gH.le bP
 have q:=gI.el (fun _=>rfl) (wAW cE)
 obtain ⟨lR,mn,g9,iy⟩:=q
 refine oR Z (ZQ Z Z g9 Z zD zB (wBM cE) (wBP cE)) (oL Z (ap.ldC (f:=0) iy (v:=jV li) Z Z zE Z) (oR Z (yN Z Z Z) (oA Z Z (eN (sR fL21 Z (oM Z Z (oR Z (zF Z cz zN Z Ze) (oL Z (ap.ldB (j:=1) Z Z Z Zw (v:=.slice bf p0.Clocks.length bh) Z) (oR Z (zF Z Z zx Z zB) (oL Z (ap.ldB (j:=0) Z Z Z zE (v:=jV aq.Clock) Z) (bnK jC fun en bw jD=>?_)))))))))))
 have gJ:=dQ.le bA
 have gK:=gJ.le cg
 have dF:=gK.le bP
 have q:=dF.el (fun _=>rfl) (wAW bw)
 obtain ⟨lS,mo,ic,iz⟩:=q
 refine oR Z (ZQ Z Z ic Z ZO Zh (wBM bw) (wBP bw)) (oR Z (zF Z Z Zf Z zB) (oL Z (ap.ldC (f:=2) iz (v:=jV en.Error) Z Z zE Z) (oR Z (yW Z Z Z) (oM Z Z (ifc jD ?_ ?_)))))
 intro ah jE
 refine oT Z ah (oT Z ah (oT Z ah (oT Z ah (oT Z ah (oT Z ah (oT Z ah (oT Z ah (oT Z ah (oT Z ah (oR Z (zz Z (Zn ah.out) Z) (eN (ZP Z (zK (yU fun mM jU=>?_))))))))))))))
 clear jU
 refine rR fL1 Z (oA Z Z (eN (zU (zP (zJ ?_)))))
 have q:=wAT jE
 obtain ⟨lf,jG,fd⟩:=q
 obtain rfl:=wAh bL cb (dU lf fd)
 refine zJ (zP (zJ ?_))
 have hE:=nA jG;first | subst r | cases hE
 exact ⟨rfl,_,(ZW rfl),bF,_,(ap.pick [] _ (by decide) rfl),rfl,rfl⟩
 intro ah jH
 refine zk Z Z Z (wF Z ah) Z Z (rU Z (wF Z ah) (Runs.negw Z Z) (rU Z (wF Z ah) (zF Z cz zN Z Ze) (ZG Z Z Z (wF Z ah) (ap.ldB (j:=1) Z Z Z Zw (v:=.slice bf p0.Clocks.length bh) Z) Z (rU Z (wF Z ah) (zF Z Z zx Z zB) (ZG Z Z Z (wF Z ah) (ap.ldB (j:=0) Z Z Z zE (v:=jV aq.Clock) Z) Z ?_)))))
 have q:=dF.el (fun _=>rfl) (wAW bw)
 obtain ⟨lT,mp,ie,iA⟩:=q
 refine rU Z (wF Z ah) (ZQ Z Z ie Z ZO Zh (wBM bw) (wBP bw)) (rU Z (wF Z ah) (zF Z Z Zf Z zB) (ZG Z Z Z (wF Z ah) (ap.ldC (f:=2) iA (v:=jV en.Error) Z Z zE Z) Z (rU Z (wF Z ah) (yW Z Z Z) (oR Z (ZM Z (ZS ah.out) Z) (eN (ifc jH ?_ ?_))))))
 intro cu jJ
 refine cT Z cu (zK (yU fun mN jW=>?_))
 clear jW
 refine rR fL1 Z (oA Z Z (eN (zU (zP (zJ ?_)))))
 have q:=wAT jJ
 obtain ⟨lg,jK,ff⟩:=q
 obtain rfl:=wAh bL cb (dU lg ff)
 refine zJ (zP (zJ ?_))
 have hE:=nA jK;first | subst r | cases hE
 exact ⟨rfl,_,(ZW rfl),bF,_,(ap.pick [] _ (by decide) rfl),rfl,rfl⟩
 intro cu jL
 refine cF Z cu (Zq (zu (zH (yU fun bD bo=>?_))))
 have fS:bD 1=.slice aX p1.length aY:=(bo 1).trans dv
 have fT:bD 2=.slice bg p2.length bi:=(bo 2).trans dw
 have fU:bD 3=.pointer (some ⟨b2,0,none⟩):=(bo 3).trans cz
 have fV:bD 133=.slice bB p0.Readings.length bC:=(bo 133).trans dx
 have fW:bD 134=jV (↑p0.Readings.length:Int):=(bo 134).trans dy
 have fY:bD 135=jV (↑bz:Int):=(bo 135).trans cB
 clear bo
 refine rR fL2 Z (oR Z (ZR (zW Z fY Z) (congrArg (jV) i5.out)) (oM Z Z (zi ?_)))
 obtain rfl:=nA jL
 exact zH ⟨rfl,_,rfl,⟨bF,rfl,fS,fT,fU,fV,fW,bP,(ap.pick [1] _ (by decide) rfl)⟩⟩
 rintro ⟨⟩ mO lD ⟨ey,gu,l4,l5,l6,l7,fZ,l8,iN⟩ iV
 have dW:=wCZ bL cb iV
 try dsimp only at dW
 have eL:Hid (¬ ((↑(((↑p0.Readings.length:Int):Int) - 0).toNat:Int) < (↑p0.Readings.length:Int))):=zI (wAi)
 refine sR fL1 Z (oR Z (zY Z gu fZ) (eN (zK (cF Z eL (Zb (zl (zl (ZX (zH (sR fL1 Z (oA Z Z (eN (zU ?_)))))))))))))
 have hE:=nA dW;first | subst r | cases hE
 exact ⟨rfl,_,(ZW rfl),ey,_,(iN.pick [] _ (by decide) rfl),rfl,rfl⟩
 intro c7 jM
 refine cT Z c7 (sR fL1 Z (oA Z Z (eN (zU (zJ ?_)))))
 have hE:=nA jM;first | subst r | cases hE
 exact ⟨rfl,_,(ZW rfl),U,_,(bH.pick [] _ (by decide) rfl),rfl,rfl⟩
 have dX:=hm;rw [if_neg c5] at dX;replace c5:=zI c5
 refine oT Z c5 (oT Z c5 (oT Z c5 (oT Z c5 (oT Z c5 (oT Z c5 (oR Z (zz Z (Zn c5.out) Z) (eN (ZP Z (sR fL1 Z (oA Z Z (eN (zU (zJ ?_)))))))))))))
 have hE:=nA dX;first | subst r | cases hE
 exact ⟨rfl,_,(ZW rfl),U,_,(bH.pick [] _ (by decide) rfl),rfl,rfl⟩
end Go.Proofs.Ytlnfbjphfoipaaa
namespace Go.Proofs.Ytlnfbjphfoipaaa
open Go.KL
set_option maxHeartbeats 4000000
theorem wFF (p0:wAb) (aZ:Nat) (be:Option Addr) (bj:Nat) (bf:Option Addr) (bk:Nat) (bg:Option Addr) (bm:Nat) (bh:Option Addr) (bn:Nat) (ab:Nat) (ae:Array MapEntry) (ah:Nat) (bi:Option Addr) (bo:Nat) (p1:wAC) (p2:wAC) (w:World) (U:PHeap) (hS:St0 w U [.blk aZ 124 [.slice be p0.Race.Starts.length bj,.slice bf p0.Race.Splits.length bk,.slice bg p0.Race.Clocks.length bm,.slice bh p0.Race.Readings.length bn,.map (some ab),.slice bi p0.edges.length bo],.obj ab (.map ae ah)]) (cm:Sl U 1 be bj p0.Race.Starts.length (hH KL.encI p0.Race.Starts)) (cn:Sl U 2 bf bk p0.Race.Splits.length (hH wAJ p0.Race.Splits)) (cp:Sl U 3 bg bm p0.Race.Clocks.length (hH wAA p0.Race.Clocks)) (cq:Sl U 4 bh bn p0.Race.Readings.length (hH wAH p0.Race.Readings)) (bp:MpR ae wAu wAv p0.number) (cr:Sl U 7 bi bo p0.edges.length (hH wAS p0.edges)) {r:wAF} (hm:wBZ p0 p1 p2=some r):Gv Try.prog 47 [.pointer (some ⟨aZ,0,none⟩),.agg #[jV p1.skier,jV p1.mat],.agg #[jV p2.skier,jV p2.mat]] w (wCh w [.blk aZ 124 [.slice be p0.Race.Starts.length bj,.slice bf p0.Race.Splits.length bk,.slice bg p0.Race.Clocks.length bm,.slice bh p0.Race.Readings.length bn,.map (some ab),.slice bi p0.edges.length bo],.obj ab (.map ae ah)] U (fun U_ L_ v=>v=.agg #[jV r.Lo,jV r.Hi]/\L_=[.blk aZ 124 [.slice be p0.Race.Starts.length bj,.slice bf p0.Race.Splits.length bk,.slice bg p0.Race.Clocks.length bm,.slice bh p0.Race.Readings.length bn,.map (some ab),.slice bi p0.edges.length bo],.obj ab (.map ae ah)])):=by
 unfold wBZ at hm
 refine Gv.of Try.func47 Z Try.ntmps47 Try.results47 Z (sR (.fx 0 (.fx 1 (.fx 2 .nil .stop) .stop) .stop) Z ?_)
 let B0:List Value:=[jV p1.skier,jV p1.mat]
 refine ZN (cs:=B0) rfl rfl rfl rfl rfl rfl (by rfl) hS ?_
 intro W3 b4 eK
 let B1:List Value:=[jV p2.skier,jV p2.mat]
 refine ZN (cs:=B1) rfl rfl rfl rfl rfl rfl (by rfl) eK ?_
 intro W7 b8 eX
 let B2:List Value:=[jV 0,jV 0]
 refine zS (cs:=B2) Z Z Z Z Z Zd Z eX ?_
 intro cV am d9
 refine eN ?_
 have q:=bnd hm
 obtain ⟨⟨bd,cu⟩,fh,dv⟩:=q
 try dsimp only at dv
 let B3:Res:=.blk aZ 124 [.slice be p0.Race.Starts.length bj,.slice bf p0.Race.Splits.length bk,.slice bg p0.Race.Clocks.length bm,.slice bh p0.Race.Readings.length bn,.map (some ab),.slice bi p0.edges.length bo]
 refine yD (fun σ_ w_=>∃ (U_:PHeap) (bE:Nat) (bu:Option Addr) (bw:Nat) (bC:Option Addr) (bG:Nat),σ_ 0=.pointer (some ⟨aZ,0,none⟩)/\σ_ 4=.pointer (some ⟨b4,0,none⟩)/\σ_ 5=.pointer (some ⟨b8,0,none⟩)/\σ_ 6=.pointer (some ⟨am,0,none⟩)/\σ_ 7=.pointer (some ⟨bE,0,none⟩)/\PHeap.Le U U_/\SW w [B3,.obj ab (.map ae ah)] U U_ [B3,.obj ab (.map ae ah),.blk am 41 B2,.blk b8 104 B1,.blk b4 104 B0,.blk bE 118 [.slice bu bd.length bw,.slice bC cu.length bG],.row bu bw 3 1 (hH KL.encI bd),.row bC bG 3 1 (hH KL.encI cu)] w_) ?_ ?_
 have q:=bnd fh
 obtain ⟨⟨aW,x27,dy⟩,dp,cG⟩:=q
 try dsimp only at cG
 refine ZA ZB [3,3,3,3,1,1,1,0,3,3,3,3,2,0,3,3] (wLt (.fx 7 (wJR gDx) (.fx 12 (.fx 7 (wJR gDv) (.stop)) (.stop)))) (by kernel_rfl) ?_
 have bA:=d9.drew
 generalize hw_W54:({ cV with drawn:=cV.drawn + 1 }:World)=cZ at bA ⊢
 refine oM Z Z (oM Z Z (oR Z (ZT Z Z) (oR Z (zF Z Z zo Z Zk) (oL Z (bA.ldB (j:=3) Z Z Z Zo (v:=.map (some ab)) Z) (oL Z (bA.ldBA (j:=2) Z Z Z ze zG (vs:=B0) Z Z) (oL Z (bA.lookup1 (j:=4) (mk:=wAu) (mv:=wAv) (a:=p1) (z:=0) Z Z Z Z (wBh zw) wCD ZE bp) (zh ?_ ?_)))))))
 have eL:SW w [B3,.obj ab (.map ae ah)] U U [B3,.obj ab (.map ae ah),.blk am 41 B2,.blk b8 104 B1,.blk b4 104 B0] cZ:=bA.pick [3,4,0,1,2] _ (by decide) rfl
 refine zM 2 Z Z Z Z (zL Z Z yZ (zC Z (zC Z (zC Z zQ))) Z) eL (fun hs=>wAm p0 aZ be bj bf bk bg bm bh bn ab ae ah bi bo (wAg p0.number p1 0) false cZ U hs cm cn cp cq bp cr dp) (.inl Z) ?_
 rintro cB fy fM dG fq eM ⟨bN,cd,bP,cf,rfl,rfl⟩
 let B4:Res:=.row bN cd 3 1 (hH KL.encI aW.far)
 let B5:Res:=.row bP cf 3 1 (hH KL.encI aW.by_)
 have eO:SW w [B3,.obj ab (.map ae ah)] U cB [B4,B5,B3,.obj ab (.map ae ah),.blk am 41 B2,.blk b8 104 B1,.blk b4 104 B0] dG:=eM
 refine oM Z Z (oR Z (zX Z Z (v:=.agg #[.slice bN aW.far.length cd,.slice bP aW.by_.length cf]) Z) (oR Z (zX Z Z (v:=jV x27) Z) (oR Z (zX Z Z (v:=.bool dy) Z) (zS (cs:=[.slice none 0 0,.slice none 0 0]) Z Z Z Z Z Za Z eO ?_))))
 intro fE de eQ
 let B6:List Value:=[.slice bN aW.far.length cd,.slice bP aW.by_.length cf]
 refine zV (j:=0) (vs:=B6) Z Z Z Z eQ Z Z Z Z Zl (zA Z) Z Z Z ?_
 intro dH eU
 have eV:SW w [B3,.obj ab (.map ae ah)] U cB [.blk de 118 B6,B4,B5,B3,.obj ab (.map ae ah),.blk am 41 B2,.blk b8 104 B1,.blk b4 104 B0] dH:=eU
 refine oA Z Z (oA Z Z (zi ?_))
 cases cG
 exact zH ⟨rfl,⟨cB,de,bN,cd,bP,cf,rfl,rfl,rfl,rfl,rfl,fq,(eV.pick [3,4,5,6,7,0,1,2] _ (by decide) rfl)⟩⟩
 let B7:List Value:=[.slice none 0 0,.slice none 0 0]
 refine zS (cs:=B7) Z Z Z Z Z Za Z bA ?_
 intro da bU eW
 have eZ:SW w [B3,.obj ab (.map ae ah)] U U [B3,.obj ab (.map ae ah),.blk bU 118 B7,.blk am 41 B2,.blk b8 104 B1,.blk b4 104 B0] da:=eW.pick [4,5,0,1,2,3] _ (by decide) rfl
 refine zM 2 Z Z Z Z (zL Z Z yZ (zC Z (zC Z (zC Z zQ))) Z) eZ (fun hs=>wAm p0 aZ be bj bf bk bg bm bh bn ab ae ah bi bo (wAg p0.number p1 0) false da U hs cm cn cp cq bp cr dp) (.inl Z) ?_
 rintro cC fz fN dI ft dX ⟨bH,bV,bI,bW,rfl,rfl⟩
 let B8:Res:=.row bH bV 3 1 (hH KL.encI aW.far)
 let B9:Res:=.row bI bW 3 1 (hH KL.encI aW.by_)
 have dY:SW w [B3,.obj ab (.map ae ah)] U cC [B8,B9,B3,.obj ab (.map ae ah),.blk bU 118 B7,.blk am 41 B2,.blk b8 104 B1,.blk b4 104 B0] dI:=dX
 refine oM Z Z (oR Z (zX Z Z (v:=.agg #[.slice bH aW.far.length bV,.slice bI aW.by_.length bW]) Z) (oR Z (zX Z Z (v:=jV x27) Z) (oR Z (zX Z Z (v:=.bool dy) Z) ?_)))
 let cH:List Value:=[.slice bH aW.far.length bV,.slice bI aW.by_.length bW]
 refine zV (j:=4) (vs:=cH) Z Z Z Z dY Z Z Z Z Zl (zA Z) Z Z Z ?_
 intro dz dZ
 have d5:SW w [B3,.obj ab (.map ae ah)] U cC [B8,B9,B3,.obj ab (.map ae ah),.blk bU 118 cH,.blk am 41 B2,.blk b8 104 B1,.blk b4 104 B0] dz:=dZ
 refine oA Z Z (oA Z Z (zi ?_))
 cases cG
 exact zH ⟨rfl,⟨cC,bU,bH,bV,bI,bW,rfl,rfl,rfl,rfl,rfl,ft,(d5.pick [2,3,5,6,7,4,0,1] _ (by decide) rfl)⟩⟩
 rintro fO cW ⟨bQ,bE,bu,bw,bC,bG,cg,df,cD,dg,dh,ba,d7⟩
 have q:=bnd dv
 obtain ⟨⟨bb,ct⟩,fg,du⟩:=q
 try dsimp only at du
 let bq:Res:=.blk bE 118 [.slice bu bd.length bw,.slice bC cu.length bG]
 let br:Res:=.row bu bw 3 1 (hH KL.encI bd)
 let bs:Res:=.row bC bG 3 1 (hH KL.encI cu)
 refine yD (fun σ_ w_=>∃ (U_:PHeap) (bR:Nat) (bt:Option Addr) (bv:Nat) (bB:Option Addr) (bF:Nat),σ_ 0=.pointer (some ⟨aZ,0,none⟩)/\σ_ 4=.pointer (some ⟨b4,0,none⟩)/\σ_ 5=.pointer (some ⟨b8,0,none⟩)/\σ_ 6=.pointer (some ⟨am,0,none⟩)/\σ_ 7=.pointer (some ⟨bE,0,none⟩)/\σ_ 10=.pointer (some ⟨bR,0,none⟩)/\PHeap.Le bQ U_/\SW w [B3,.obj ab (.map ae ah)] U U_ [B3,.obj ab (.map ae ah),.blk am 41 B2,.blk b8 104 B1,.blk b4 104 B0,br,bs,bq,.blk bR 118 [.slice bt bb.length bv,.slice bB ct.length bF],.row bt bv 3 1 (hH KL.encI bb),.row bB bF 3 1 (hH KL.encI ct)] w_) ?_ ?_
 have q:=bnd fg
 obtain ⟨⟨az,dw,dx⟩,dm,cE⟩:=q
 try dsimp only at cE
 refine ZA ZB [3,3,3,3,1,1,1,0,3,3,3,3,2,0,3,3] (wLt (.fx 7 (wJR gDx) (.fx 12 (.fx 7 (wJR gDv) (.stop)) (.stop)))) (by kernel_rfl) ?_
 have bz:=d7.drew
 generalize hw_W172:({ cW with drawn:=cW.drawn + 1 }:World)=dA at bz ⊢
 refine oM Z cg (oM Z cg (oR Z (ZT Z Z) (oR Z (zF Z Z zo Z Zk) (oL Z (bz.ldB (j:=0) Z Z Z Zo (v:=.map (some ab)) Z) (oL Z (bz.ldBA (j:=3) Z Z cD ze zG (vs:=B1) Z Z) (oL Z (bz.lookup1 (j:=1) (mk:=wAu) (mv:=wAv) (a:=p2) (z:=0) Z Z Z Z (wBh zw) wCD ZE bp) (zh ?_ ?_)))))))
 have dN:=cm.le ba
 have dO:=cn.le ba
 have dP:=cp.le ba
 have dQ:=cq.le ba
 have dR:=cr.le ba
 refine zM 2 Z Z Z Z (zL Z Z yZ (zC Z (zC Z (zC Z zQ))) Z) bz (fun hs=>wAm p0 aZ be bj bf bk bg bm bh bn ab ae ah bi bo (wAg p0.number p2 0) false dA bQ hs dN dO dP dQ bp dR dm) (.inl Z) ?_
 rintro cy fu fK dB fj ec ⟨bJ,bX,bK,bY,rfl,rfl⟩
 let cI:Res:=.row bJ bX 3 1 (hH KL.encI az.far)
 let cJ:Res:=.row bK bY 3 1 (hH KL.encI az.by_)
 have ef:SW w [B3,.obj ab (.map ae ah)] U cy [cI,cJ,B3,.obj ab (.map ae ah),.blk am 41 B2,.blk b8 104 B1,.blk b4 104 B0,bq,br,bs] dB:=ec
 refine oM Z Z (oR Z (zX Z Z (v:=.agg #[.slice bJ az.far.length bX,.slice bK az.by_.length bY]) Z) (oR Z (zX Z Z (v:=jV dw) Z) (oR Z (zX Z Z (v:=.bool dx) Z) (zS (cs:=[.slice none 0 0,.slice none 0 0]) Z Z Z Z Z Za Z ef ?_))))
 intro fA db eg
 let cK:List Value:=[.slice bJ az.far.length bX,.slice bK az.by_.length bY]
 refine zV (j:=0) (vs:=cK) Z Z Z Z eg Z Z Z Z Zl (zA Z) Z Z Z ?_
 intro dC eh
 have en:SW w [B3,.obj ab (.map ae ah)] U cy [.blk db 118 cK,cI,cJ,B3,.obj ab (.map ae ah),.blk am 41 B2,.blk b8 104 B1,.blk b4 104 B0,bq,br,bs] dC:=eh
 refine oA Z Z (oA Z Z (zi ?_))
 cases cE
 exact zH ⟨rfl,⟨cy,db,bJ,bX,bK,bY,cg,df,cD,dg,dh,rfl,fj,(en.pick [3,4,5,6,7,9,10,8,0,1,2] _ (by decide) rfl)⟩⟩
 let cw:List Value:=[.slice none 0 0,.slice none 0 0]
 refine zS (cs:=cw) Z Z Z Z Z Za Z bz ?_
 intro cX bS eu
 have dS:=cm.le ba
 have dT:=cn.le ba
 have dU:=cp.le ba
 have dV:=cq.le ba
 have dW:=cr.le ba
 have ey:SW w [B3,.obj ab (.map ae ah)] U bQ [B3,.obj ab (.map ae ah),.blk bS 118 cw,.blk am 41 B2,.blk b8 104 B1,.blk b4 104 B0,bq,br,bs] cX:=eu.pick [1,2,0,3,4,5,6,7,8] _ (by decide) rfl
 refine zM 2 Z Z Z Z (zL Z Z yZ (zC Z (zC Z (zC Z zQ))) Z) ey (fun hs=>wAm p0 aZ be bj bf bk bg bm bh bn ab ae ah bi bo (wAg p0.number p2 0) false cX bQ hs dS dT dU dV bp dW dm) (.inl Z) ?_
 rintro cz fw fL dD fm eD ⟨bL,bZ,bM,cb,rfl,rfl⟩
 let cL:Res:=.row bL bZ 3 1 (hH KL.encI az.far)
 let cM:Res:=.row bM cb 3 1 (hH KL.encI az.by_)
 have eE:SW w [B3,.obj ab (.map ae ah)] U cz [cL,cM,B3,.obj ab (.map ae ah),.blk bS 118 cw,.blk am 41 B2,.blk b8 104 B1,.blk b4 104 B0,bq,br,bs] dD:=eD
 refine oM Z Z (oR Z (zX Z Z (v:=.agg #[.slice bL az.far.length bZ,.slice bM az.by_.length cb]) Z) (oR Z (zX Z Z (v:=jV dw) Z) (oR Z (zX Z Z (v:=.bool dx) Z) ?_)))
 let cN:List Value:=[.slice bL az.far.length bZ,.slice bM az.by_.length cb]
 refine zV (j:=4) (vs:=cN) Z Z Z Z eE Z Z Z Z Zl (zA Z) Z Z Z ?_
 intro dE eG
 have eH:SW w [B3,.obj ab (.map ae ah)] U cz [cL,cM,B3,.obj ab (.map ae ah),.blk bS 118 cN,.blk am 41 B2,.blk b8 104 B1,.blk b4 104 B0,bq,br,bs] dE:=eG
 refine oA Z Z (oA Z Z (zi ?_))
 cases cE
 exact zH ⟨rfl,⟨cz,bS,bL,bZ,bM,cb,cg,df,cD,dg,dh,rfl,fm,(eH.pick [2,3,5,6,7,9,10,8,4,0,1] _ (by decide) rfl)⟩⟩
 rintro fP cY ⟨cU,bR,bt,bv,bB,bF,dk,dJ,dK,dl,dL,dM,fJ,eI⟩
 refine zK (ZA ZB [3,1,3,3,3,1,1,1,3,1,3,3,1,3,3,3,1,1,1,3,1,3,0] (wSX (.fx 22 .nil .stop)) (by kernel_rfl) ?_)
 have av:=eI.drew
 generalize hw_W258:({ cY with drawn:=cY.drawn + 1 }:World)=fB at av ⊢
 refine oR Z (zF Z dM ZH Z zZ) (oL Z (av.ldB (j:=8) Z Z Z zj (v:=.slice bt bb.length bv) Z) (oM Z dk (oR Z (ZT Z Z) (oR Z (zF Z Z zo Z Zk) (oL Z (av.ldB (j:=0) Z Z Z Zo (v:=.map (some ab)) Z) (oL Z (av.ldBA (j:=4) Z Z dJ ze zG (vs:=B0) Z Z) (oL Z (av.lookup1 (j:=1) (mk:=wAu) (mv:=wAv) (a:=p1) (z:=0) Z Z Z Z (wBh zw) wCD ZE bp) (bnK du fun _ ci fd=>?_))))))))
 obtain ⟨fG,dq⟩:=av.rowSome (j:=9) rfl (by rw [wAG (f:=KL.encI) (sz:=1) (fun _=>rfl) bb];have hz:=wAU ci;omega)
 refine oR Z (ZQ Z Z dq Z zD zB (wBV ci) (wBW ci)) ?_
 have fb:=wBK (xs:=bb) (wAU ci)
 refine ZG rfl rfl rfl rfl (av.ldR (j:=9) rfl dq rfl rfl zE (wAX (sz:=1) (fun _=>rfl) _ _ 0 _ fb (by first | omega | rfl | simp) rfl)) rfl (zg rfl rfl rfl rfl (fun _=>Runs.negw rfl rfl) (zg rfl rfl rfl rfl (fun _=>zF rfl dL ZH rfl zZ) (ZG rfl rfl rfl rfl (av.ldB (j:=7) rfl rfl rfl zj (v:=.slice bu bd.length bw) rfl) rfl (zk rfl rfl rfl rfl rfl dk (zg rfl rfl rfl rfl (fun _=>ZT rfl rfl) (zg rfl rfl rfl rfl (fun _=>zF rfl rfl zo rfl Zk) (ZG rfl rfl rfl rfl (av.ldB (j:=0) rfl rfl rfl Zo (v:=.map (some ab)) rfl) rfl (ZG rfl rfl rfl rfl (av.ldBA (j:=3) rfl rfl dK ze zG (vs:=B1) rfl rfl) rfl (ZG rfl rfl rfl rfl (av.lookup1 (j:=1) (mk:=wAu) (mv:=wAv) (a:=p2) (z:=0) rfl rfl rfl rfl (wBh zw) wCD ZE bp) rfl (bnK fd fun _ cj ff=>?_))))))))))
 obtain ⟨fH,dr⟩:=av.rowSome (j:=5) rfl (by rw [wAG (f:=KL.encI) (sz:=1) (fun _=>rfl) bd];have hz:=wAU cj;omega)
 refine oR Z (ZQ Z Z dr Z zD zB (wBV cj) (wBW cj)) ?_
 have fc:=wBK (xs:=bd) (wAU cj)
 refine ZG rfl rfl rfl rfl (av.ldR (j:=5) rfl dr rfl rfl zE (wAX (sz:=1) (fun _=>rfl) _ _ 0 _ fc (by first | omega | rfl | simp) rfl)) rfl ?_
 let bD:List Value:=[jV (w64 (-(gd bb (wAg p0.number p1 0).toNat))),jV (gd bd (wAg p0.number p2 0).toNat)]
 refine oR Z (zy (pv:=[(0,jV (w64 (-(gd bb (wAg p0.number p1 0).toNat)))),(1,jV (gd bd (wAg p0.number p2 0).toNat))]) (z:=B2) (cs:=bD) Z (wAD Z (wAD Z wAO)) Zd wEd Z Z) (zV (j:=2) (vs:=bD) Z Z Z Z av Z dl Z Z zq (zA Z) Z Z Z ?_)
 intro dF eJ
 have dt:SW w [B3,.obj ab (.map ae ah)] U cU [B3,.obj ab (.map ae ah),.blk am 41 bD,.blk b8 104 B1,.blk b4 104 B0,br,bs,bq,.blk bR 118 [.slice bt bb.length bv,.slice bB ct.length bF],.row bt bv 3 1 (hH KL.encI bb),.row bB bF 3 1 (hH KL.encI ct)] dF:=eJ
 refine eN (zU ?_)
 cases ff
 exact ⟨rfl,_,(wIl (v:=.agg bD.toArray) ⟨⟨_,dl,(wBB yE zq (dt.blkAt (k:=2) rfl) (vs:=bD) rfl rfl)⟩,trivial⟩),cU,_,(dt.pick [0,1] _ (by decide) rfl),rfl,rfl⟩
theorem wEe (p0:wAB) (bj:Option Addr) (bo:Nat) (bk:Option Addr) (bp:Nat) (bm:Option Addr) (bq:Nat) (bn:Option Addr) (br:Nat) (p1:wAQ) (p2:wAQ) (w:World) (U:PHeap) (hS:St0 w U []) (dw:Sl U 1 bj bo p0.Starts.length (hH KL.encI p0.Starts)) (dx:Sl U 2 bk bp p0.Splits.length (hH wAJ p0.Splits)) (dy:Sl U 3 bm bq p0.Clocks.length (hH wAA p0.Clocks)) (dz:Sl U 4 bn br p0.Readings.length (hH wAH p0.Readings)) {r:wAF × Int} (hm:wDo p0 p1 p2=some r):Gv Try.prog 25 [.agg #[.slice bj p0.Starts.length bo,.slice bk p0.Splits.length bp,.slice bm p0.Clocks.length bq,.slice bn p0.Readings.length br],.agg #[jV p1.Skier,jV p1.Mat],.agg #[jV p2.Skier,jV p2.Mat]] w (wCh w [] U (fun U_ L_ v=>v=.tuple #[.agg #[jV r.1.Lo,jV r.1.Hi],jV r.2]/\L_=[])):=by
 unfold wDo at hm
 refine Gv.of Try.func25 Z Try.ntmps25 Try.results25 Z (sR (.fx 0 (.fx 1 gDs .stop) .stop) Z ?_)
 let B0:List Value:=[.slice bj p0.Starts.length bo,.slice bk p0.Splits.length bp,.slice bm p0.Clocks.length bq,.slice bn p0.Readings.length br]
 refine ZN (cs:=B0) rfl rfl rfl rfl rfl rfl (by rfl) hS ?_
 intro W1 b2 dp
 let B1:List Value:=[jV p1.Skier,jV p1.Mat]
 refine ZN (cs:=B1) rfl rfl rfl rfl rfl rfl (by rfl) dp ?_
 intro W5 b6 dq
 let B2:List Value:=[jV p2.Skier,jV p2.Mat]
 refine ZN (cs:=B2) rfl rfl rfl rfl rfl rfl (by rfl) dq ?_
 intro W9 am cY
 let B3:List Value:=[jV 0,jV 0]
 refine zS (cs:=B3) Z Z Z Z Z Zd Z cY ?_
 intro dS ap bf
 refine oA Z Z (eN (sR (wCz (.fx 3 (.fx 4 (wLu (.nil)) .stop) .stop)) Z (oL Z (bf.ldBA (j:=3) Z Z Z ZK zm (vs:=B0) Z Z) (oL Z (bf.ldBA (j:=2) Z Z Z yI Zp (vs:=B1) Z Z) (oL Z (bf.ldBA (j:=1) Z Z Z yI Zp (vs:=B2) Z Z) (ZC (pv:=[(0,.agg B1.toArray),(1,.agg B2.toArray)]) (zs:=[jV 0,jV 0,jV 0,jV 0]) (cs:=[jV p1.Skier,jV p1.Mat,jV p2.Skier,jV p2.Mat]) Z Z Z Z Z (wAD Z (wAD Z wAO)) Try.runUnderlying112 Zp yL Z Z Z Z Z bf ?_))))))
 intro bu bM dh
 have dk:sW w U U [.row (some ⟨bM,0,none⟩) 2 45 2 (hH wBR [p1,p2]),.blk ap 41 B3,.blk am 45 B2,.blk b6 45 B1,.blk b2 28 B0] bu:=dh
 have q:=dk.freezeR (k:=0) (n:=[p1,p2].length) rfl (wAG (f:=wBR) (sz:=2) (fun _=>rfl) [p1,p2]) (by decide)
 obtain ⟨bH,bi,dJ,dl⟩:=q
 have dm:sW w U bH [.blk ap 41 B3,.blk am 45 B2,.blk b6 45 B1,.blk b2 28 B0] bu:=dl
 have cI:=dw.le bi
 have cJ:=dx.le bi
 have cK:=dy.le bi
 have cL:=dz.le bi
 have q:=bnd hm
 obtain ⟨⟨dK,bs⟩,cM,ba⟩:=q
 try dsimp only at ba
 refine zM 0 Z Z Z Z (zL Z Z Try.call46 (zC Z (zC Z zQ)) Z) dm (fun hs=>wET p0 bj bo bk bp bm bq bn br [p1,p2] (some ⟨bM,0,none⟩) 2 bu bH hs cI cJ cK cL dJ cM) (.inr Z) ?_
 rintro av dO ec aZ dX bX bU
 rcases dK with _ | x56
 try dsimp only at ba
 obtain ⟨rfl,rfl⟩:=bU
 have bY:sW w U av [.blk ap 41 B3,.blk am 45 B2,.blk b6 45 B1,.blk b2 28 B0] aZ:=bX
 refine oM Z Z (oR Z (zX Z Z (v:=.pointer none) Z) (oR Z (zX Z Z (v:=jV bs) Z) (oA Z Z (oA Z Z (eN (zK (sR fL2 Z (oM Z Z (oR Z (Zs Z Z Z) (eN (ifc ba ?_ ?_)))))))))))
 intro bw dE
 refine ZU (ZS (fun h=>h bw.out)) (kN (zK (ZA ZB [3,1,2,1,2,0,0,3] gEa (by kernel_rfl) ?_)))
 have bg:=bY.drew
 generalize hw_W61:({ aZ with drawn:=aZ.drawn + 1 }:World)=cm at bg ⊢
 refine oM Z Z (oL Z (bg.ldBA (j:=2) Z Z Z yI Zp (vs:=B1) Z Z) (oL Z (bg.ldBA (j:=1) Z Z Z yI Zp (vs:=B2) Z Z) (bnK dE fun eh cN dF=>zM 0 Z Z Z Z (zL Z Z Try.call49 (zC Z zQ) Z) bg (fun hs=>wDq p1 cm av hs cN) (.inr Z) ?_)))
 rintro bI dP ef bL dY dr ⟨rfl,rfl⟩
 have dt:sW w U bI [.blk ap 41 B3,.blk am 45 B2,.blk b6 45 B1,.blk b2 28 B0] bL:=dr
 refine bnK dF fun en cO dG=>zM 0 Z Z Z Z (zL Z Z Try.call49 (zC Z zQ) Z) dt (fun hs=>wDq p2 bL bI hs cO) (.inr Z) ?_
 rintro cf dQ eg cn dZ du ⟨rfl,rfl⟩
 have dV:sW w U cf [.blk ap 41 B3,.blk am 45 B2,.blk b6 45 B1,.blk b2 28 B0] cn:=du
 cases dG
 intro bw dH
 refine cT Z bw (sR gDy Z (oR Z (zy (pv:=[]) (z:=B3) (cs:=B3) Z wAO Zd wEd Z Z) (oM Z Z (zV (j:=0) (vs:=B3) Z Z Z Z bY Z Z Z Z zq (zA Z) Z Z Z ?_))))
 intro cp dv
 have bZ:sW w U av [.blk ap 41 B3,.blk am 45 B2,.blk b6 45 B1,.blk b2 28 B0] cp:=dv
 refine oA Z Z (eN (zU (zJ ?_)))
 cases dH
 exact ⟨rfl,_,(wDt (rs:=[.cell 6 41,.tmp 7]) (vs:=[.agg B3.toArray,jV bs]) ⟨⟨_,rfl,(wBB yE zq (bZ.blkAt (k:=0) rfl) (vs:=B3) rfl rfl)⟩,⟨rfl,trivial⟩⟩ rfl),av,_,(bZ.pick [] _ (by decide) rfl),rfl,rfl⟩
 try dsimp only at ba
 obtain ⟨bv,bA,bN,bB,bP,bC,bQ,bD,bR,az,aX,aW,bE,bS,rfl,rfl,cP,cQ,cR,cS,cU,cV⟩:=bU
 let B4:Res:=.blk bv 124 [.slice bA x56.Race.Starts.length bN,.slice bB x56.Race.Splits.length bP,.slice bC x56.Race.Clocks.length bQ,.slice bD x56.Race.Readings.length bR,.map (some az),.slice bE x56.edges.length bS]
 have cb:sW w U av [B4,.obj az (.map aX aW),.blk ap 41 B3,.blk am 45 B2,.blk b6 45 B1,.blk b2 28 B0] aZ:=bX
 refine oM Z Z (oR Z (zX Z Z (v:=.pointer (some ⟨bv,0,none⟩)) Z) (oR Z (zX Z Z (v:=jV bs) Z) (oA Z Z (oA Z Z (eN (zK (sR fL2 Z (oM Z Z (oR Z (Zs Z Z Z) (eN (ifc ba ?_ ?_)))))))))))
 intro bz dI
 refine ZU (ZS (fun h=>h bz.out)) (kN (zK (ZA ZB [3,1,2,1,2,0,0,3] gEa (by kernel_rfl) ?_)))
 have bh:=cb.drew
 generalize hw_W98:({ aZ with drawn:=aZ.drawn + 1 }:World)=cq at bh ⊢
 refine oM Z Z (oL Z (bh.ldBA (j:=4) Z Z Z yI Zp (vs:=B1) Z Z) (oL Z (bh.ldBA (j:=3) Z Z Z yI Zp (vs:=B2) Z Z) (bnK dI fun x99 cr dA=>zM 0 Z Z Z Z (zL Z Z Try.call49 (zC Z zQ) Z) bh (fun hs=>wDq p1 cq av hs cr) (.inr Z) ?_)))
 rintro bF dL d5 bJ bb cW ⟨rfl,rfl⟩
 have cX:sW w U bF [B4,.obj az (.map aX aW),.blk ap 41 B3,.blk am 45 B2,.blk b6 45 B1,.blk b2 28 B0] bJ:=cW
 refine bnK dA fun x109 ct dB=>zM 0 Z Z Z Z (zL Z Z Try.call49 (zC Z zQ) Z) cX (fun hs=>wDq p2 bJ bF hs ct) (.inr Z) ?_
 rintro bG dM d7 bK bd cZ ⟨rfl,rfl⟩
 have da:sW w U bG [B4,.obj az (.map aX aW),.blk ap 41 B3,.blk am 45 B2,.blk b6 45 B1,.blk b2 28 B0] bK:=cZ
 have cu:=cP.le bb
 have cw:=cu.le bd
 have cx:=cQ.le bb
 have cy:=cx.le bd
 have cz:=cR.le bb
 have cB:=cz.le bd
 have cC:=cS.le bb
 have cD:=cC.le bd
 have cE:=cV.le bb
 have cG:=cE.le bd
 refine bnK dB fun cd cH dC=>zM 2 Z Z Z Z (zL Z Z Try.call47 (zC Z (zC Z (zC Z zQ))) Z) da (fun hs=>wFF x56 bv bA bN bB bP bC bQ bD bR az aX aW bE bS x99 x109 bK bG hs cw cy cB cD cU cG cH) (.inl Z) ?_
 rintro bt dN d9 cg dW db ⟨rfl,rfl⟩
 have de:sW w U bt [B4,.obj az (.map aX aW),.blk ap 41 B3,.blk am 45 B2,.blk b6 45 B1,.blk b2 28 B0] cg:=db
 let B5:List Value:=[jV cd.Lo,jV cd.Hi]
 refine zV (j:=2) (vs:=B5) Z Z Z Z de Z Z Z Z zq (zA Z) Z Z Z ?_
 intro ci df
 have bV:sW w U bt [B4,.obj az (.map aX aW),.blk ap 41 B5,.blk am 45 B2,.blk b6 45 B1,.blk b2 28 B0] ci:=df
 refine oA Z Z (eN (zU ?_))
 cases dC
 exact ⟨rfl,_,(wDt (rs:=[.cell 6 41,.tmp 7]) (vs:=[.agg B5.toArray,jV 0]) ⟨⟨_,rfl,(wBB yE zq (bV.blkAt (k:=2) rfl) (vs:=B5) rfl rfl)⟩,⟨rfl,trivial⟩⟩ rfl),bt,_,(bV.pick [] _ (by decide) rfl),rfl,rfl⟩
 intro bz dD
 refine cT Z bz (sR gDy Z (oR Z (zy (pv:=[]) (z:=B3) (cs:=B3) Z wAO Zd wEd Z Z) (oM Z Z (zV (j:=2) (vs:=B3) Z Z Z Z cb Z Z Z Z zq (zA Z) Z Z Z ?_))))
 intro cj dg
 have bW:sW w U av [B4,.obj az (.map aX aW),.blk ap 41 B3,.blk am 45 B2,.blk b6 45 B1,.blk b2 28 B0] cj:=dg
 refine oA Z Z (eN (zU (zJ ?_)))
 cases dD
 exact ⟨rfl,_,(wDt (rs:=[.cell 6 41,.tmp 7]) (vs:=[.agg B3.toArray,jV bs]) ⟨⟨_,rfl,(wBB yE zq (bW.blkAt (k:=2) rfl) (vs:=B3) rfl rfl)⟩,⟨rfl,trivial⟩⟩ rfl),av,_,(bW.pick [] _ (by decide) rfl),rfl,rfl⟩
theorem wEH (p0:List Int) (aq:Option Addr) (au:Nat) (p1:Int) (w:World) (U:PHeap) (hS:St0 w U []) (bo:Sl U 1 aq au p0.length (hH KL.encI p0)) {r:Int} (hm:wBb p0 p1=some r):Gv Try.prog 59 [.slice aq p0.length au,jV p1] w (wCh w [] U (fun U_ L_ v=>v=jV r/\L_=[])):=by
 unfold wBb at hm
 refine Gv.of Try.func59 Z Try.ntmps59 Try.results59 Z (sR fL1 Z (oA Z Z (eN (zK (sR fL3 Z (oM Z Z (oR Z (zt Z Z zD) (oM Z Z (eN (zd ?_))))))))))
 have q:=wBm hm
 obtain ⟨r3,aj⟩:=q
 have q:=wBl aj
 obtain ⟨am,br⟩:=q
 replace am:=zI am
 refine yC (fun k2 _ σ_ w_=>∃ (U_:PHeap),σ_ 8=jV (↑k2:Int)/\σ_ 0=.slice aq p0.length au/\σ_ 1=jV p1/\σ_ 7=jV (↑p0.length:Int)/\PHeap.Le U U_/\sW w U U_ [] w_) br ?_ ?_ ?_
 exact ⟨U,Z,Z,Z,Z,(zO _),hS⟩
 rintro k2 ⟨⟩ bJ bL W8 ak ⟨av,ah,aW,aX,aY,bd,ai⟩ bb bp
 try dsimp only at bb
 have az:Hid ((↑k2:Int) < (↑p0.length:Int)):=zI (wAy ak)
 replace ak:=zI ak
 have bs:Hid (w64 ((↑k2:Int) + 1)=(↑(k2 + 1):Int)):=zI (by have h1:=am.out;have h2:=az.out;rw [wAV] <;> omega)
 refine sR fL1 Z (oR Z (zY Z ah aY) (eN (zK (cT Z az (kN (zK (zd (sR fL2 Z (oM Z ah (oA Z Z (eN (sR fL6 Z (oM Z aX (oM Z aW (oM Z Z (bnK bb fun bA aZ bt=>?_))))))))))))))))
 have bj:=bo.le bd
 have q:=bj.el (fun _=>rfl) (wAW aZ)
 obtain ⟨bD,bH,bk,bm⟩:=q
 refine oR Z (ZV Z Z bk Z zD zB (wBd aZ)) (oL Z (ai.ldC (f:=0) bm (v:=jV bA) Z Z zE Z) (oR Z (Runs.eql Z Z Z) (eN (ifc bt ?_ ?_))))
 intro ae bu
 refine cT Z ae (sR fL2 Z (oM Z Z (oA Z Z (eN (zU (zP (zJ ?_)))))))
 have q:=wAT bu
 obtain ⟨bz,bv,bg⟩:=q
 obtain rfl:=wAh hm aj (bp bz bg)
 refine zJ (zP (zJ ?_))
 cases bv
 exact ⟨Z,_,(ZW Z),av,_,ai,Z,Z⟩
 intro ae bw
 refine cF Z ae (Zq (zu (zH (rR fL2 Z (oR Z (ZR (zW Z ah Z) (congrArg (jV) bs.out)) (oM Z Z (zi ?_)))))))
 obtain rfl:=nA bw
 exact zH ⟨Z,_,Z,⟨av,Z,aW,aX,aY,bd,ai⟩⟩
 rintro ⟨⟩ bK bB ⟨be,bi,bE,bF,bh,bG,bn⟩ bq
 have ba:=wCZ hm aj bq
 try dsimp only at ba
 have bf:Hid (¬ ((↑(((↑p0.length:Int):Int) - 0).toNat:Int) < (↑p0.length:Int))):=zI (wAi)
 refine sR fL1 Z (oR Z (zY Z bi bh) (eN (zK (cF Z bf (Zb (zl (zl (ZX (zH (sR fL1 Z (oA Z Z (eN (zU ?_)))))))))))))
 cases ba
 exact ⟨Z,_,(ZW Z),be,_,bn,Z,Z⟩
theorem wDj (p0:List Int) (ae:Option Addr) (ah:Nat) (p1:Int) (w:World) (U:PHeap) (hS:St0 w U []) (au:Sl U 1 ae ah p0.length (hH KL.encI p0)) {r:Bool} (hm:wAt p0 p1=some r):Gv Try.prog 26 [.slice ae p0.length ah,jV p1] w (wCh w [] U (fun U_ L_ v=>v=.bool r/\L_=[])):=by
 unfold wAt at hm
 refine Gv.of Try.func26 Z Try.ntmps26 Try.results26 Z (sR fL1 Z (oA Z Z (eN (sR (.fl 0 (.fl 1 (.fx 2 (.fl 3 (.fl 4 .nil)) .stop))) Z (oM Z Z (oM Z Z (bnK hm fun x1 h2 aj=>zM 0 Z Z Z Z (zL Z Z Try.call59 (zC Z (zC Z zQ)) Z) hS (fun hs=>wEH p0 ae ah p1 w U hs au h2) (.inr Z) ?_)))))))
 rintro U4 L5 v6 W7 az aq ⟨rfl,rfl⟩
 have ap:sW w U U4 [] W7:=aq
 refine oR Z (Runs.geq Z Z Z) (oA Z Z (eN (zU ?_)))
 first | (obtain rfl:=nA aj) | cases aj
 exact ⟨Z,_,(ZW Z),U4,_,ap,Z,Z⟩
theorem wEg (w:World) (U:PHeap) (hS:St0 w U []) {r:Bool} (hm:wCP=some r):Gv Try.prog 19 [] w (wCh w [] U (fun U_ L_ v=>v=.bool r/\L_=[])):=by
 cases hm
 refine (xr19 w).mono ?_
 rintro v w' ⟨rfl,k⟩
 exact ⟨U,[],hS.grow k,Z,Z⟩
theorem wDk (p0:List Int) (fN:Option Addr) (fQ:Nat) (p1:Int) (w:World) (U:PHeap) (hS:St0 w U []) (vZ:Sl U 1 fN fQ p0.length (hH KL.encB8 p0)) {r:Bool} (hm:wBG p0 p1=some r):Gv Try.prog 4 [.slice fN p0.length fQ,jV p1] w (wCh w [] U (fun U_ L_ v=>v=.bool r/\L_=[])):=by
 unfold wBG at hm
 refine Gv.of Try.func4 Z Try.ntmps4 Try.results4 Z (sR fL1 Z (oA Z Z (eN (sR (.fl 0 (.fx 1 (.fx 2 (wQt (.fx 7 (.fx 8 (.fl 9 (.fl 10 .nil)) .stop) .stop)) .stop) .stop)) Z (oM Z Z (bnK hm fun x1 h2 w9=>zM 0 Z Z Z Z (zL Z Z Try.call9 (zC Z zQ) Z) hS (fun hs=>wHC p0 fN fQ w U hs vZ h2) (.inr Z) ?_))))))
 rintro U4 L5 v6 W7 Bk vJ ⟨ey,fV,gM,rfl,rfl,pG⟩
 have uW:sW w U U4 [.blk ey 94 [.slice fV x1.bytes.length gM,jV x1.next,.int .u32 x1.state]] W7:=vJ
 have q:=bnd w9
 obtain ⟨⟨x16,x17,x18,x19⟩,pN,i5⟩:=q
 try dsimp only at i5
 refine zM 1 Z Z Z Z (zL Z Z Try.call8 (zC Z (zC Z (zC Z (zC Z zQ)))) Z) uW (fun hs=>wFC x1 ey fV gM 7 5 14 W7 U4 hs pG pN) (.inl Z) ?_
 rintro dX Au BC jO Bj u7 ⟨bo,br,bp,bs,bu,bw,bv,bz,bH,bM,fW,gP,jt,lj,rfl,rfl,rj,Bg⟩
 let B0:Res:=.blk ey 94 [.slice jt x19.bytes.length lj,jV x19.next,.int .u32 x19.state]
 let B1:Res:=.row fW gP 3 1 (hH KL.encI x18)
 let B2:Res:=.row bv bz 39 4 (hH wAH x16.Readings)
 let B3:Res:=.row bu bw 43 3 (hH wAA x16.Clocks)
 let B4:Res:=.row bp bs 41 2 (hH wAJ x16.Splits)
 let B5:Res:=.row bo br 3 1 (hH KL.encI x16.Starts)
 have vk:sW w U dX [B5,B4,B3,B2,B1,B0] jO:=u7
 refine oM Z Z (oR Z (zX Z Z (v:=.agg #[.slice bo x16.Starts.length br,.slice bp x16.Splits.length bs,.slice bu x16.Clocks.length bw,.slice bv x16.Readings.length bz]) Z) (oR Z (zX Z Z (v:=.slice bH x17.length bM) Z) (oR Z (zX Z Z (v:=.slice fW x18.length gP) Z) (zS (cs:=[.slice none 0 0,.slice none 0 0,.slice none 0 0,.slice none 0 0]) Z Z Z Z Z Try.zeroValue28 Z vk ?_))))
 intro AP aa vl
 let B6:List Value:=[.slice bo x16.Starts.length br,.slice bp x16.Splits.length bs,.slice bu x16.Clocks.length bw,.slice bv x16.Readings.length bz]
 refine zV (j:=0) (vs:=B6) Z Z Z Z vl Z Z Z Z zm (zA Z) Z Z Z ?_
 intro gF vm
 have iT:sW w U dX [.blk aa 28 B6,B5,B4,B3,B2,B1,B0] gF:=vm
 refine oA Z Z (oA Z Z (eN (sR (wKS (.fx 5 (.fx 6 (.fx 7 .nil .stop) .stop) .stop)) Z (oM Z Z (oR Z (zF Z Z zN Z Zt) (oL Z (iT.ldB (j:=0) Z Z Z yB (v:=.slice bp x16.Splits.length bs) Z) (oR Z (zt Z Z zr) (oR Z (zW Z Z Z) (bnK i5 fun x57 rx xC=>zM 0 Z Z Z Z (zL Z Z Try.call11 (zC Z (zC Z zQ)) Z) iT (fun hs=>wFn p1 (w64 ((↑x16.Splits.length:Int) + 1)) gF dX hs rx) (.inr Z) ?_)))))))))
 rintro gt AA BI jS yg vo ⟨rfl,rfl⟩
 have vp:sW w U gt [.blk aa 28 B6,B5,B4,B3,B2,B1,B0] jS:=vo
 refine zS (cs:=[jV 0]) Z Z Z Z Z ZE Z vp ?_
 intro AT bd vq
 refine zV (j:=0) (vs:=[jV x57]) Z Z Z Z vq Z Z Z Z zB (zA Z) Z Z Z ?_
 intro cn vr
 let B7:Res:=.blk bd 3 [jV x57]
 have fy:sW w U gt [B7,.blk aa 28 B6,B5,B4,B3,B2,B1,B0] cn:=vr
 refine eN (sR (.fl 0 (.fl 1 (.fx 2 (wOp (.nil)) .stop))) Z (oL Z (fy.ldBA (j:=1) Z Z Z ZK zm (vs:=B6) Z Z) (oL Z (fy.ldB (j:=0) Z Z Z zE (v:=jV x57) Z) ?_)))
 have q:=fy.freezeR (k:=2) (n:=x16.Starts.length) rfl (wAG (f:=KL.encI) (sz:=1) (fun _=>rfl) x16.Starts) (by decide)
 obtain ⟨jB,yh,xZ,vt⟩:=q
 have vu:sW w U jB [B7,.blk aa 28 B6,B4,B3,B2,B1,B0] cn:=vt
 have q:=vu.freezeR (k:=2) (n:=x16.Splits.length) rfl (wAG (f:=wAJ) (sz:=2) (fun _=>rfl) x16.Splits) (by decide)
 obtain ⟨jC,jf,x8,vx⟩:=q
 have vy:sW w U jC [B7,.blk aa 28 B6,B3,B2,B1,B0] cn:=vx
 have q:=vy.freezeR (k:=2) (n:=x16.Clocks.length) rfl (wAG (f:=wAA) (sz:=3) (fun _=>rfl) x16.Clocks) (by decide)
 obtain ⟨jD,fL,ya,vG⟩:=q
 have vH:sW w U jD [B7,.blk aa 28 B6,B2,B1,B0] cn:=vG
 have q:=vH.freezeR (k:=2) (n:=x16.Readings.length) rfl (wAG (f:=wAH) (sz:=4) (fun _=>rfl) x16.Readings) (by decide)
 obtain ⟨gu,dN,i9,vN⟩:=q
 have vQ:sW w U gu [B7,.blk aa 28 B6,B1,B0] cn:=vN
 have tz:=xZ.le jf
 have tK:=tz.le fL
 have iM:=tK.le dN
 have ue:=x8.le fL
 have iN:=ue.le dN
 have iO:=ya.le dN
 have q:=bnd xC
 obtain ⟨⟨x100,x101⟩,ou,iY⟩:=q
 try dsimp only at iY
 refine zM 0 Z Z Z Z (zL Z Z Try.call17 (zC Z (zC Z zQ)) Z) vQ (fun hs=>wIW x16 bo br bp bs bu bw bv bz x57 cn gu hs iM iN iO i9 ou) (.inr Z) ?_
 rintro gf Am Bw gy df uN ⟨bF,bK,rfl,rfl⟩
 let B8:Res:=.row bF bK 41 2 (hH wAJ x100)
 have fu:sW w U gf [B8,B7,.blk aa 28 B6,B1,B0] gy:=uN
 refine oM Z Z (oR Z (zX Z Z (v:=.slice bF x100.length bK) Z) (oR Z (zX Z Z (v:=jV x101) Z) (oA Z Z (oA Z Z (eN (sR (.fl 0 (.fl 1 (.fx 2 (wOp (.nil)) .stop))) Z (oL Z (fu.ldBA (j:=2) Z Z Z ZK zm (vs:=B6) Z Z) (oL Z (fu.ldB (j:=1) Z Z Z zE (v:=jV x57) Z) ?_))))))))
 have ct:=iM.le df
 have cu:=iN.le df
 have cw:=iO.le df
 have cx:=i9.le df
 have q:=bnd iY
 obtain ⟨⟨x118,x119⟩,pF,i4⟩:=q
 try dsimp only at i4
 refine zM 0 Z Z Z Z (zL Z Z Try.call20 (zC Z (zC Z zQ)) Z) fu (fun hs=>wJF x16 bo br bp bs bu bw bv bz x57 gy gf hs ct cu cw cx pF) (.inr Z) ?_
 rintro jw Aq Bz eh aW uT ⟨bG,bL,it,rfl,rfl⟩
 have uU:sW w U jw [.row bG bL 23 1 (hH wFS it),inn 3 1 KL.encI it x118,B8,B7,.blk aa 28 B6,B1,B0] eh:=uT
 have q:=St.freezeN (R:=wJT) uU (fun _ _ _ _ h=>⟨_,_,rfl,h⟩) (fun _=>rfl) (by decide) rfl
 obtain ⟨cJ,aX,xW,uV⟩:=q
 have cz:sW w U cJ [B8,B7,.blk aa 28 B6,B1,B0] eh:=uV
 refine oM Z Z (oR Z (zX Z Z (v:=.slice bG x118.length bL) Z) (oR Z (zX Z Z (v:=jV x119) Z) (oA Z Z (oA Z Z (eN (zK (zK (yU fun cg bU=>?_))))))))
 have gU:cg 5=.pointer (some ⟨aa,0,none⟩):=(bU 5).trans rfl
 have mj:cg 6=.slice bH x17.length bM:=(bU 6).trans rfl
 have gW:cg 8=.pointer (some ⟨bd,0,none⟩):=(bU 8).trans rfl
 have dx:cg 9=.slice bF x100.length bK:=(bU 9).trans rfl
 have ml:cg 10=jV x101:=(bU 10).trans rfl
 have gX:cg 11=.slice bG x118.length bL:=(bU 11).trans rfl
 have mn:cg 12=jV x119:=(bU 12).trans rfl
 clear bU
 refine rR fL21 Z (oM Z ml (oR Z (Zs Z Z Z) (oM Z Z (ifc i4 ?_ ?_))))
 intro bX wQ
 refine zk Z Z Z (zR Z Z (ZS (fun h=>h bX.out))) Z mn (zg Z Z Z (zR Z Z (ZS (fun h=>h bX.out))) (fun _=>Zs Z Z Z) (oR Z (ZM Z (ZS (fun h=>h bX.out)) Z) (oM Z Z (ifc wQ ?_ ?_))))
 intro bh wR
 refine zk Z Z Z (zR Z Z (ZS (fun h=>h bh.out))) Z dx (zg Z Z Z (zR Z Z (ZS (fun h=>h bh.out))) (fun _=>zt Z Z zr) (zg Z Z Z (zR Z Z (ZS (fun h=>h bh.out))) (fun _=>zF Z gU zN Z zZ) (ZG Z Z Z (zR Z Z (ZS (fun h=>h bh.out))) (cz.ldB (j:=2) Z Z Z zj (v:=.slice bo x16.Starts.length br) Z) Z (zg Z Z Z (zR Z Z (ZS (fun h=>h bh.out))) (fun _=>zt Z Z zD) (zg Z Z Z (zR Z Z (ZS (fun h=>h bh.out))) (fun _=>Zs Z Z Z) (oR Z (ZM Z (ZS (fun h=>h bh.out)) Z) (oM Z Z (ifc wR ?_ ?_))))))))
 intro bm wS
 refine zk Z Z Z (zR Z Z (ZS (fun h=>h bm.out))) Z gX (zg Z Z Z (zR Z Z (ZS (fun h=>h bm.out))) (fun _=>zt Z Z ZI) (zk Z Z Z (zR Z Z (ZS (fun h=>h bm.out))) Z dx (zg Z Z Z (zR Z Z (ZS (fun h=>h bm.out))) (fun _=>zt Z Z zr) (zg Z Z Z (zR Z Z (ZS (fun h=>h bm.out))) (fun _=>Zs Z Z Z) (oR Z (ZM Z (ZS (fun h=>h bm.out)) Z) (eN (ifc wS ?_ ?_)))))))
 intro eG bk
 refine ZU (ZS (fun h=>h eG.out)) (kN (sR fL2 Z ?_))
 have q:=cz.freeze (k:=1) rfl
 obtain ⟨dr,az,cU,uX⟩:=q
 replace cU:=Cl.of cU
 have uY:sW w U dr [B8,.blk aa 28 B6,B1,B0] eh:=uX
 replace cU:Cl dr bd 0 [jV x57]:=cU
 refine oR Z (Runs.mkf Z zQ (zC gW zQ)) (oA Z Z (eN (zK (sR fL3 Z (oM Z dx (oR Z (zt Z Z zr) (oM Z Z (eN (zd ?_)))))))))
 have q:=wBm bk
 obtain ⟨Bp,bj⟩:=q
 have q:=wBl bj
 obtain ⟨fG,wa⟩:=q
 replace fG:=zI fG
 refine yC (fun ak _ σ_ w_=>∃ (U_:PHeap),σ_ 75=jV (↑ak:Int)/\σ_ 5=.pointer (some ⟨aa,0,none⟩)/\σ_ 6=.slice bH x17.length bM/\σ_ 8=.pointer (some ⟨bd,0,none⟩)/\σ_ 9=.slice bF x100.length bK/\σ_ 11=.slice bG x118.length bL/\σ_ 13=.func (.func 21) #[] #[.pointer (some ⟨bd,0,none⟩)]/\σ_ 74=jV (↑x100.length:Int)/\PHeap.Le dr U_/\sW w U U_ [.blk aa 28 B6,B0,B8] w_) wa ?_ ?_ ?_
 exact ⟨dr,rfl,gU,mj,gW,dx,gX,rfl,rfl,(zO _),(uY.pick [1,3,0] _ (by decide) rfl)⟩
 rintro ak ⟨⟩ Cb Ci gz fB ⟨jx,eQ,mo,gZ,mp,cM,g6,g7,g8,ap,uZ⟩ ja bt
 try dsimp only at ja
 have gN:Hid ((↑ak:Int) < (↑x100.length:Int)):=zI (wAy fB)
 replace fB:=zI fB
 have wl:Hid (w64 ((↑ak:Int) + 1)=(↑(ak + 1):Int)):=zI (by have h1:=fG.out;have h2:=gN.out;rw [wAV] <;> omega)
 refine sR fL1 rfl (zg rfl rfl rfl rfl (fun _=>zY rfl eQ g8) (eN (zK (cT Z gN (kN (zK (zd (sR fL2 rfl (zk rfl rfl rfl rfl rfl eQ (yH rfl rfl rfl rfl rfl rfl (eN (zK (zK (ZA ZB [3,3,3,2,3,3,3,1,2,3,3,3,3,3,1,3,3,3,3,3,1,3,3,3,3,3,3,3,3,1,3,3,3,3] (wCz (fC4_7 (.fx 3 (.fx 8 (wSe (.nil)) .stop) .stop))) (by kernel_rfl) ?_))))))))))))))
 have dG:=uZ.drew
 generalize hw_W188:({ gz with drawn:=gz.drawn + 1 }:World)=jM at dG ⊢
 refine oM Z g7 (oM Z gZ (oM Z Z (oM Z cM (oM Z Z (bnK ja fun _ bB wU=>?_)))))
 obtain ⟨AW,bD⟩:=dG.rowSome (j:=2) rfl (by rw [wAG (f:=wAJ) (sz:=2) (fun _=>rfl) x100];have hz:=wAU bB;omega)
 refine oR Z (ZV Z Z bD Z zr zq (wAU bB)) ?_
 have we:=wBK (xs:=x100) (wAU bB)
 let B9:List Value:=[jV ((gd x100 ak).Lo),jV ((gd x100 ak).Hi)]
 refine ZG rfl rfl rfl rfl (dG.ldRA (j:=2) rfl bD rfl rfl yE zq (vs:=B9) (wGX (sz:=2) (fun _=>rfl) _ _ _ we (by first | omega | rfl | simp) rfl) rfl) rfl ?_
 have pH:=rj.le yg
 have pI:=pH.le yh
 have pJ:=pI.le jf
 have pK:=pJ.le fL
 have pL:=pK.le dN
 have pM:=pL.le df
 have pO:=pM.le aW
 have pP:=pO.le aX
 have pQ:=pP.le az
 have pR:=pQ.le ap
 have eW:=cU.le ap
 refine bnK wU fun Af pS wV=>zM 0 Z Z Z Z (zL Z Z Try.call21 (zC Z (zC Z zQ)) Z) dG (fun hs=>wCI x17 bH bM (↑ak:Int) x57 bd jM jx hs pR eW pS) (.inr Z) ?_
 rintro gh Ar BA gA aq u0 ⟨rfl,rfl⟩
 have u3:sW w U gh [.blk aa 28 B6,B0,B8] gA:=u0
 refine bnK wV fun BX pT wW=>zM 0 Z Z Z Z (zL Z Z Try.call22 (zC Z (zC Z zQ)) Z) u3 (fun hs=>wEU Af (gd x100 ak) gA gh hs pT) (.inr Z) ?_
 rintro bQ As BB jN au u4 ⟨rfl,rfl⟩
 have bY:sW w U bQ [.blk aa 28 B6,B0,B8] jN:=u4
 refine oR Z (Zc Z Z) (oM Z Z (ifc wW ?_ ?_))
 intro am wX
 refine zk Z Z Z (zR Z Z (nC am.out)) Z g6 (zk Z Z Z (zR Z Z (nC am.out)) Z Z (bnK wX fun bb cy wY=>?_))
 have pU:=xW.le az
 have pV:=pU.le ap
 have pW:=pV.le aq
 have eX:=pW.le au
 have q:=eX.el (wAW cy)
 obtain ⟨j8,ym,BQ,uq,fh,xR⟩:=q
 obtain ⟨jg,jj,rfl,Bf⟩:=xR
 replace fh:Cl bQ j8 (ym + ak * 1) [.slice jg bb.length jj]:=fh
 refine zg Z Z Z (zR Z Z (nC am.out)) (fun _=>ZV Z Z uq Z ZI zZ (wBd cy)) (ZG Z Z Z (zR Z Z (nC am.out)) (bY.ldC (f:=0) fh (v:=.slice jg bb.length jj) Z Z zj Z) Z (zg Z Z Z (zR Z Z (nC am.out)) (fun _=>zt Z Z zD) (zk Z Z Z (zR Z Z (nC am.out)) Z cM (zk Z Z Z (zR Z Z (nC am.out)) Z Z (zg Z Z Z (zR Z Z (nC am.out)) (fun _=>ZV Z Z bD Z zr zq (wAU bB)) (zg Z Z Z (zR Z Z (nC am.out)) (fun _=>zF Z Z zn Z zB) ?_))))))
 have wg:=wBK (xs:=x100) (wAU bB)
 refine ZG rfl rfl rfl (zR rfl rfl (nC am.out)) (bY.ldR (j:=2) rfl bD rfl rfl zE (wAX (sz:=2) (fun _=>rfl) _ _ 0 _ wg (by first | omega | rfl | simp) rfl)) rfl (zg rfl rfl rfl (zR rfl rfl (nC am.out)) (fun _=>yN rfl rfl rfl) (zg rfl rfl rfl (zR rfl rfl (nC am.out)) (fun _=>Zs rfl rfl rfl) (zg rfl rfl rfl rfl (fun _=>ZM rfl (nC am.out) rfl) (zk rfl rfl rfl rfl rfl rfl (ifc wY ?_ ?_)))))
 intro aZ wZ
 refine zk Z Z Z (zR Z Z (ZS (fun h=>h aZ.out))) Z cM (zk Z Z Z (zR Z Z (ZS (fun h=>h aZ.out))) Z Z (zg Z Z Z (zR Z Z (ZS (fun h=>h aZ.out))) (fun _=>ZV Z Z bD Z zr zq (wAU bB)) (zg Z Z Z (zR Z Z (ZS (fun h=>h aZ.out))) (fun _=>zF Z Z zn Z zB) ?_)))
 have wh:=wBK (xs:=x100) (wAU bB)
 refine ZG rfl rfl rfl (zR rfl rfl (ZS (fun h=>h aZ.out))) (bY.ldR (j:=2) rfl bD rfl rfl zE (wAX (sz:=2) (fun _=>rfl) _ _ 1 _ wh (by first | omega | rfl | simp) rfl)) rfl (zk rfl rfl rfl (zR rfl rfl (ZS (fun h=>h aZ.out))) rfl cM (zg rfl rfl rfl (zR rfl rfl (ZS (fun h=>h aZ.out))) (fun _=>zt rfl rfl zr) (zg rfl rfl rfl (zR rfl rfl (ZS (fun h=>h aZ.out))) (fun _=>yW rfl rfl rfl) (zg rfl rfl rfl rfl (fun _=>ZM rfl (ZS (fun h=>h aZ.out)) rfl) (eN (ifc wZ ?_ ?_))))))
 intro eH w5
 refine cT Z eH (sR fL1 Z (oA Z Z (eN (zU (zJ (zP (zJ ?_)))))))
 have q:=wAT w5
 obtain ⟨y5,w6,lz⟩:=q
 obtain rfl:=wAh bk bj (bt y5 lz)
 refine zJ (zP (zJ ?_))
 have hE:=nA w6;first | subst r | cases hE
 exact ⟨rfl,_,(ZW rfl),bQ,_,(bY.pick [] _ (by decide) rfl),rfl,rfl⟩
 intro eH bS
 refine cF Z eH (kN (zK (sR gDr Z (ZC (pv:=[(0,.bool true),(1,.bool false)]) (zs:=[.bool false,.bool false]) (cs:=[.bool true,.bool false]) Z Z Z Z Z (wAD Z (wAD Z wAO)) Try.runUnderlying60 Try.sizeOf4 Try.zeroValue4 Z Z Z Z Z bY ?_))))
 intro jP dt u5
 let bI:Res:=.row (some ⟨dt,0,none⟩) 2 4 1 (hH KL.encT [true,false])
 have u6:sW w U bQ [bI,.blk aa 28 B6,B0,B8] jP:=u5
 refine oR Z (zt Z Z Try.runUnderlying60) (oM Z Z (eN (zd ?_)))
 have q:=wBm bS
 obtain ⟨Bq,bR⟩:=q
 have q:=wBl bR
 obtain ⟨fH,wb⟩:=q
 replace fH:=zI fH
 refine yC (fun bN _ σ_ w_=>∃ (U_:PHeap),σ_ 114=jV (↑bN:Int)/\σ_ 5=.pointer (some ⟨aa,0,none⟩)/\σ_ 6=.slice bH x17.length bM/\σ_ 8=.pointer (some ⟨bd,0,none⟩)/\σ_ 9=.slice bF x100.length bK/\σ_ 11=.slice bG x118.length bL/\σ_ 13=.func (.func 21) #[] #[.pointer (some ⟨bd,0,none⟩)]/\σ_ 14=jV (↑ak:Int)/\σ_ 74=jV (↑x100.length:Int)/\σ_ 75=jV (↑ak:Int)/\σ_ 112=.slice (some ⟨dt,0,none⟩) ([true,false].length) 2/\σ_ 113=jV 2/\PHeap.Le bQ U_/\sW w U U_ [.blk aa 28 B6,B0,B8,bI] w_) wb ?_ ?_ ?_
 exact ⟨bQ,rfl,mo,gZ,mp,cM,g6,g7,rfl,g8,eQ,rfl,rfl,(zO _),(u6.pick [1,2,3,0] _ (by decide) rfl)⟩
 rintro bN ⟨⟩ Cc Cj gB fC ⟨jy,dE,g9,mq,ib,mr,ms,mu,ic,mw,my,ie,ig,bZ,iQ⟩ jb cC
 try dsimp only at jb
 have gO:Hid ((↑bN:Int) < 2):=zI (wAy fC)
 replace fC:=zI fC
 have wn:Hid (w64 ((↑bN:Int) + 1)=(↑(bN + 1):Int)):=zI (by have h1:=fH.out;have h2:=gO.out;rw [wAV] <;> omega)
 refine sR fL1 Z (oR Z (zY Z dE ig) (eN (zK (cT Z gO (kN (zK (zd (sR fL5 Z (oM Z dE (bnK jb fun _ iu w7=>oR Z (ZV Z ie Z dE Try.runUnderlying60 Try.sizeOf4 (wAU iu)) ?_))))))))))
 have wi:=wBK (xs:=[true,false]) (wAU iu)
 refine ZG rfl rfl rfl rfl (iQ.ldR (j:=3) rfl rfl rfl rfl Try.isAgg4 (wAX (sz:=1) (fun _=>rfl) _ _ 0 _ wi (by first | omega | rfl | simp) rfl)) rfl (yH rfl rfl rfl rfl rfl rfl (yH rfl rfl rfl rfl rfl rfl (eN (zK (ZA ZB [1,3,1,2,3,2,3,3,3,3,3,3,3] (wCz (.fl 4 (.fx 3 (.fx 5 (wOA (.nil)) .stop) .stop))) (by kernel_rfl) ?_)))))
 have dH:=iQ.drew
 generalize hw_W292:({ gB with drawn:=gB.drawn + 1 }:World)=jQ at dH ⊢
 refine oL Z (dH.ldBA (j:=0) Z Z g9 ZK zm (vs:=B6) Z Z) (oM Z ic ?_)
 have pX:=eW.le aq
 have pY:=pX.le au
 have iv:=pY.le bZ
 refine oL Z (dH.ldC (f:=0) iv (v:=jV x57) Z ib zE Z) (oM Z Z (bnK w7 fun Ag pZ w8=>zM 0 Z Z Z Z (zL Z Z Try.call16 (zC Z (zC Z zQ)) Z) dH (fun hs=>wBF (↑ak:Int) x57 jQ jy hs pZ) (.inr Z) ?_))
 rintro gi Av BD gC cb u9 ⟨rfl,rfl⟩
 have va:sW w U gi [.blk aa 28 B6,B0,B8,bI] gC:=u9
 have p6:=ct.le aW
 have p7:=p6.le aX
 have p8:=p7.le az
 have p9:=p8.le ap
 have qa:=p9.le aq
 have qb:=qa.le au
 have qc:=qb.le bZ
 have iw:=qc.le cb
 have qd:=cu.le aW
 have qe:=qd.le aX
 have qf:=qe.le az
 have qh:=qf.le ap
 have qi:=qh.le aq
 have qj:=qi.le au
 have qk:=qj.le bZ
 have iy:=qk.le cb
 have qm:=cw.le aW
 have qn:=qm.le aX
 have qo:=qn.le az
 have qp:=qo.le ap
 have qq:=qp.le aq
 have qr:=qq.le au
 have qt:=qr.le bZ
 have iz:=qt.le cb
 have qu:=cx.le aW
 have qv:=qu.le aX
 have qw:=qv.le az
 have qx:=qw.le ap
 have qy:=qx.le aq
 have qz:=qy.le au
 have qA:=qz.le bZ
 have iA:=qA.le cb
 have q:=bnd w8
 obtain ⟨⟨dk,cG,jm⟩,qB,i6⟩:=q
 try dsimp only at i6
 refine zM 0 Z Z Z Z (zL Z Z Try.call23 (zC Z (zC Z (zC Z zQ))) Z) va (fun hs=>wIX x16 bo br bp bs bu bw bv bz Ag (gd [true,false] bN) gC gi hs iw iy iz iA qB) (.inr Z) ?_
 rintro gj Aw BE en cd vb ⟨ci,cp,li,dl,dw,rfl,rfl,qC⟩
 let fY:Res:=.row dl dw 3 1 (hH KL.encI cG)
 have vc:sW w U gj [.row ci cp 23 1 li,fY,.blk aa 28 B6,B0,B8,bI] en:=vb
 refine oM Z Z (oR Z (zX Z Z (v:=.slice ci dk.length cp) Z) (oR Z (zX Z Z (v:=.slice dl cG.length dw) Z) (oR Z (zX Z Z (v:=jV jm) Z) (oA Z Z (oA Z Z (oA Z Z (eN (zK (zK (yU fun bf be=>?_))))))))))
 have ii:bf 5=.pointer (some ⟨aa,0,none⟩):=(be 5).trans g9
 have mz:bf 6=.slice bH x17.length bM:=(be 6).trans mq
 have mA:bf 8=.pointer (some ⟨bd,0,none⟩):=(be 8).trans ib
 have eK:bf 9=.slice bF x100.length bK:=(be 9).trans mr
 have ij:bf 11=.slice bG x118.length bL:=(be 11).trans ms
 have ik:bf 13=.func (.func 21) #[] #[.pointer (some ⟨bd,0,none⟩)]:=(be 13).trans mu
 have cN:bf 14=jV (↑ak:Int):=(be 14).trans ic
 have mB:bf 15=jV (↑bN:Int):=(be 15).trans rfl
 have eL:bf 17=.slice ci dk.length cp:=(be 17).trans rfl
 have mC:bf 18=.slice dl cG.length dw:=(be 18).trans rfl
 have mD:bf 19=jV jm:=(be 19).trans rfl
 have mE:bf 74=jV (↑x100.length:Int):=(be 74).trans mw
 have mF:bf 75=jV (↑ak:Int):=(be 75).trans my
 have mG:bf 112=.slice (some ⟨dt,0,none⟩) ([true,false].length) 2:=(be 112).trans ie
 have mH:bf 113=jV 2:=(be 113).trans ig
 have mI:bf 114=jV (↑bN:Int):=(be 114).trans dE
 clear be
 refine ZA ZB [3,3,3,1,3,3,2,3,3,3,3,3,3,2,3,3,3,3,1,3,3,3,3,1,3,3,3,3,3] (wHf (.fx 6 (wPX (wQw (.fx 13 (.fl 27 (.fl 28 .nil)) .stop))) .stop)) (by kernel_rfl) ?_
 have dI:=vc.drew
 generalize hw_W377:({ en with drawn:=en.drawn + 1 }:World)=eu at dI ⊢
 refine oM Z mD (oR Z (Zs Z Z Z) (oM Z Z (ifc i6 ?_ ?_)))
 intro bn xa
 refine ZG Z Z Z (zR Z Z (ZS (fun h=>h bn.out))) (dI.ldBA (j:=2) Z Z ii ZK zm (vs:=B6) Z Z) Z (zk Z Z Z (zR Z Z (ZS (fun h=>h bn.out))) Z eL (zk Z Z Z (zR Z Z (ZS (fun h=>h bn.out))) Z mC ?_))
 have q:=dI.freezeRR (R:=wJT) (k:=0) rfl qC rfl (by decide)
 obtain ⟨jz,cf,xX,vd⟩:=q
 have ve:sW w U jz [fY,.blk aa 28 B6,B0,B8,bI] eu:=vd
 have q:=ve.freezeR (k:=0) (n:=cG.length) rfl (wAG (f:=KL.encI) (sz:=1) (fun _=>rfl) cG) (by decide)
 obtain ⟨gm,bV,xY,vg⟩:=q
 have vh:sW w U gm [.blk aa 28 B6,B0,B8,bI] eu:=vg
 have qD:=iw.le cd
 have qE:=qD.le cf
 have qF:=qE.le bV
 have qG:=iy.le cd
 have qH:=qG.le cf
 have qI:=qH.le bV
 have qJ:=iz.le cd
 have qK:=qJ.le cf
 have qL:=qK.le bV
 have qM:=iA.le cd
 have qN:=qM.le cf
 have qO:=qN.le bV
 have iB:=xX.le bV
 refine bnK xa fun BY qP xb=>zM 0 Z Z Z (zR Z Z (ZS (fun h=>h bn.out))) (zL Z Z Try.call24 (zC Z (zC Z (zC Z zQ))) Z) vh (fun hs=>wFE x16 bo br bp bs bu bw bv bz dk ci cp cG dl dw eu gm hs qF qI qL qO iB xY qP) (.inr Z) ?_
 rintro dY Ax BF gD dK vi ⟨rfl,rfl⟩
 have dJ:sW w U dY [.blk aa 28 B6,B0,B8,bI] gD:=vi
 refine zg Z Z Z (zR Z Z (ZS (fun h=>h bn.out))) (fun _=>Zc Z Z) (oR Z (ZM Z (ZS (fun h=>h bn.out)) Z) (oM Z Z (ifc xb ?_ ?_)))
 intro ah xc
 refine zk Z Z Z (zR Z Z (nC ah.out)) Z ik (zk Z Z Z (zR Z Z (nC ah.out)) Z eL (zk Z Z Z (zR Z Z (nC ah.out)) Z cN (zk Z Z Z (zR Z Z (nC ah.out)) Z eK (zk Z Z Z (zR Z Z (nC ah.out)) Z cN (zg Z Z Z (zR Z Z (nC ah.out)) (fun _=>ZV Z Z bD Z zr zq (wAU bB)) (zg Z Z Z (zR Z Z (nC ah.out)) (fun _=>zF Z Z zn Z zB) ?_))))))
 have wj:=wBK (xs:=x100) (wAU bB)
 refine ZG rfl rfl rfl (zR rfl rfl (nC ah.out)) (dJ.ldR (j:=2) rfl bD rfl rfl zE (wAX (sz:=2) (fun _=>rfl) _ _ 0 _ wj (by first | omega | rfl | simp) rfl)) rfl (zk rfl rfl rfl (zR rfl rfl (nC ah.out)) rfl eK (zk rfl rfl rfl (zR rfl rfl (nC ah.out)) rfl cN (zg rfl rfl rfl (zR rfl rfl (nC ah.out)) (fun _=>ZV rfl rfl bD rfl zr zq (wAU bB)) (zg rfl rfl rfl (zR rfl rfl (nC ah.out)) (fun _=>zF rfl rfl zn rfl zB) ?_))))
 have wk:=wBK (xs:=x100) (wAU bB)
 refine ZG rfl rfl rfl (zR rfl rfl (nC ah.out)) (dJ.ldR (j:=2) rfl bD rfl rfl zE (wAX (sz:=2) (fun _=>rfl) _ _ 1 _ wk (by first | omega | rfl | simp) rfl)) rfl (zg rfl rfl rfl (zR rfl rfl (nC ah.out)) (fun _=>Runs.buildA (pv:=[(0,jV ((gd x100 ak).Lo)),(1,jV ((gd x100 ak).Hi))]) (z:=[jV 0,jV 0]) (cs:=B9) rfl (wAD rfl (wAD rfl wAO)) Try.zeroValue64 Try.runUnderlying64 zB rfl rfl) (zk rfl rfl rfl (zR rfl rfl (nC ah.out)) rfl mB (bnK xc fun BZ eZ xd=>zg rfl rfl rfl (zR rfl rfl (nC ah.out)) (fun _=>Runs.ixA (cs:=hH KL.encI ([(gd x100 ak).Lo,(gd x100 ak).Hi]:List Int)) rfl rfl rfl Try.runUnderlying64 zB (wBM eZ) (wBP eZ) (wEK zE (wDT (sz:=1) (fun _=>rfl) _ _ 0 _ _ (wAW eZ) rfl))) ?_)))
 have iC:=iB.le dK
 have qQ:=iv.le cb
 have qR:=qQ.le cd
 have qS:=qR.le cf
 have qT:=qS.le bV
 have iD:=qT.le dK
 refine bnK xd fun Ca qU xe=>zM 0 Z Z Z (zR Z Z (nC ah.out)) (zL Z Z Try.call21 (zC Z (zC Z zQ)) Z) dJ (fun hs=>wCI dk ci cp (↑ak:Int) x57 bd gD dY hs iC iD qU) (.inr Z) ?_
 rintro cK Ay BG jR dL vj ⟨rfl,rfl⟩
 have fw:sW w U cK [.blk aa 28 B6,B0,B8,bI] jR:=vj
 refine zg Z Z Z (zR Z Z (nC ah.out)) (fun _=>Zs Z Z Z) (oR Z (ZM Z (nC ah.out) Z) (eN (ifc xe ?_ ?_)))
 intro eI cY
 refine ZU (ZS (fun h=>h eI.out)) (kN (sR fL6 Z (oM Z ij (oM Z cN ?_))))
 have qV:=eX.le bZ
 have qW:=qV.le cb
 have qX:=qW.le cd
 have qY:=qX.le cf
 have qZ:=qY.le bV
 have rc:=qZ.le dK
 have re:=rc.le dL
 have q:=re.el (wAW cy)
 obtain ⟨j9,yn,BR,ur,fj,xS⟩:=q
 obtain ⟨fP,fS,rfl,ri⟩:=xS
 replace fj:Cl cK j9 (yn + ak * 1) [.slice fP bb.length fS]:=fj
 refine oR Z (ZV Z Z ur Z ZI zZ (wBd cy)) (oL Z (fw.ldC (f:=0) fj (v:=.slice fP bb.length fS) Z Z zj Z) (oR Z (zt Z Z zD) (oM Z Z (eN (zd ?_)))))
 have q:=wBm cY
 obtain ⟨Br,cW⟩:=q
 have q:=wBl cW
 obtain ⟨fJ,wc⟩:=q
 replace fJ:=zI fJ
 refine yC (fun da _ σ_ w_=>∃ (U_:PHeap),σ_ 163=jV (↑da:Int)/\σ_ 5=.pointer (some ⟨aa,0,none⟩)/\σ_ 6=.slice bH x17.length bM/\σ_ 8=.pointer (some ⟨bd,0,none⟩)/\σ_ 9=.slice bF x100.length bK/\σ_ 11=.slice bG x118.length bL/\σ_ 13=.func (.func 21) #[] #[.pointer (some ⟨bd,0,none⟩)]/\σ_ 14=jV (↑ak:Int)/\σ_ 17=.slice ci dk.length cp/\σ_ 74=jV (↑x100.length:Int)/\σ_ 75=jV (↑ak:Int)/\σ_ 112=.slice (some ⟨dt,0,none⟩) ([true,false].length) 2/\σ_ 113=jV 2/\σ_ 114=jV (↑bN:Int)/\σ_ 161=.slice fP bb.length fS/\σ_ 162=jV (↑bb.length:Int)/\PHeap.Le cK U_/\sW w U U_ [.blk aa 28 B6,B0,B8,bI] w_) wc ?_ ?_ ?_
 exact ⟨cK,Z,ii,mz,mA,eK,ij,ik,cN,eL,mE,mF,mG,mH,mI,Z,Z,(zO _),fw⟩
 rintro da ⟨⟩ Cd Ck gE fD ⟨cm,eU,mJ,mK,eM,il,mL,mM,im,eO,mN,mO,mP,mQ,mR,io,ip,dM,iR⟩ jc fz
 try dsimp only at jc
 have gQ:Hid ((↑da:Int) < (↑bb.length:Int)):=zI (wAy fD)
 replace fD:=zI fD
 have wo:Hid (w64 ((↑da:Int) + 1)=(↑(da + 1):Int)):=zI (by have h1:=fJ.out;have h2:=gQ.out;rw [wAV] <;> omega)
 refine sR fL1 Z (oR Z (zY Z eU ip) (eN (zK (cT Z gQ (kN (zK (zd (sR fL3 Z (bnK jc fun jo iE xf=>?_)))))))))
 have rk:=ri.le dM
 have q:=rk.el (fun _=>rfl) (wAW iE)
 obtain ⟨AX,Bl,uu,uB⟩:=q
 refine zg rfl rfl rfl rfl (fun _=>ZV rfl io uu eU zD zB (wBd iE)) (ZG rfl rfl rfl rfl (iR.ldC (f:=0) uB (v:=jV jo) rfl rfl zE rfl) rfl (yH rfl rfl rfl rfl rfl rfl (eN (zK (ZA ZB [3,3,3,3,3,3,3,3,3,3,3,3,1,1,3,1,3,3,3,1,1,3,1,3,3] fL25 (by kernel_rfl) ?_)))))
 have bC:=iR.drew
 generalize hw_W497:({ gE with drawn:=gE.drawn + 1 }:World)=AN at bC ⊢
 refine oM Z Z (oR Z (zY Z Z Z) (oM Z Z (ifc xf ?_ ?_)))
 intro bA xg
 refine oT Z bA (oT Z bA (oT Z bA (oT Z bA (oR Z (zz Z (Zn bA.out) Z) (oM Z Z (oN Z (oN Z (oN Z (oN Z (oN Z (oN Z (oN Z (oN Z (oN Z (oN Z (oN Z (oN Z (oN Z (oN Z (oN Z (oR Z (zz Z Z Z) (eN (ZP Z (sR fL1 Z (oA Z Z (eN (zU (zP (zJ ?_)))))))))))))))))))))))))))))
 have q:=wAT xg
 obtain ⟨y6,xh,lD⟩:=q
 obtain rfl:=wAh cY cW (fz y6 lD)
 refine zJ (zP (zP (zJ ?_)))
 have q:=wAT xh
 obtain ⟨y7,xi,lE⟩:=q
 obtain rfl:=wAh bS bR (cC y7 lE)
 refine zJ (zP (zJ (zP (zJ ?_))))
 have q:=wAT xi
 obtain ⟨y8,xj,lF⟩:=q
 obtain rfl:=wAh bk bj (bt y8 lF)
 refine zJ (zP (zJ ?_))
 have hE:=nA xj;first | subst r | cases hE
 exact ⟨rfl,_,(ZW rfl),cm,_,(bC.pick [] _ (by decide) rfl),rfl,rfl⟩
 intro bA xk
 refine zk Z Z Z (wF Z bA) Z Z (zk Z Z Z (wF Z bA) Z il (rU Z (wF Z bA) (zt Z Z zr) (rU Z (wF Z bA) (Runs.geq Z Z Z) (oR Z (ZM Z (ZS bA.out) Z) (oM Z Z (ifc xk ?_ ?_))))))
 intro aj xl
 refine oT Z aj (oT Z aj (oT Z aj (oT Z aj (oT Z aj (oT Z aj (oT Z aj (oT Z aj (oT Z aj (oT Z aj (oT Z aj (oT Z aj (oT Z aj (oT Z aj (oT Z aj (oR Z (zz Z (Zn aj.out) Z) (eN (ZP Z (sR fL1 Z (oA Z Z (eN (zU (zP (zJ ?_)))))))))))))))))))))))
 have q:=wAT xl
 obtain ⟨y9,xm,lG⟩:=q
 obtain rfl:=wAh cY cW (fz y9 lG)
 refine zJ (zP (zP (zJ ?_)))
 have q:=wAT xm
 obtain ⟨z4,xn,lH⟩:=q
 obtain rfl:=wAh bS bR (cC z4 lH)
 refine zJ (zP (zJ (zP (zJ ?_))))
 have q:=wAT xn
 obtain ⟨z5,xo,lI⟩:=q
 obtain rfl:=wAh bk bj (bt z5 lI)
 refine zJ (zP (zJ ?_))
 have hE:=nA xo;first | subst r | cases hE
 exact ⟨rfl,_,(ZW rfl),cm,_,(bC.pick [] _ (by decide) rfl),rfl,rfl⟩
 intro aj xp
 refine zk Z Z Z (wF Z aj) Z eO (zk Z Z Z (wF Z aj) Z Z (bnK xp fun jp fb xq=>?_))
 have rn:=iC.le dL
 have iF:=rn.le dM
 have q:=iF.el (wAW fb)
 obtain ⟨k9,yo,BS,uv,fm,xT⟩:=q
 obtain ⟨jh,jk,rfl,ro⟩:=xT
 replace fm:Cl cm k9 (yo + jo.toNat * 1) [.slice jh jp.length jk]:=fm
 refine rU Z (wF Z aj) (ZQ Z Z uv Z ZI zZ (wBM fb) (wBP fb)) (ZG Z Z Z (wF Z aj) (bC.ldC (f:=0) fm (v:=.slice jh jp.length jk) Z Z zj Z) Z ?_)
 have rp:=iD.le dL
 have iG:=rp.le dM
 refine ZG Z Z Z (wF Z aj) (bC.ldC (f:=0) iG (v:=jV x57) Z eM zE Z) Z (bnK xq fun Ah fc xr=>?_)
 have q:=ro.el (fun _=>rfl) (wAW fc)
 obtain ⟨AY,Bm,uw,uC⟩:=q
 refine rU Z (wF Z aj) (ZQ Z Z uw Z zD zB (wBM fc) (wBP fc)) (ZG Z Z Z (wF Z aj) (bC.ldC (f:=0) uC (v:=jV Ah) Z Z zE Z) Z (zk Z Z Z (wF Z aj) Z eO (zk Z Z Z (wF Z aj) Z im (bnK xr fun jq iH xt=>?_))))
 have q:=iF.el (wAW iH)
 obtain ⟨lc,yp,BT,ux,fq,xU⟩:=q
 obtain ⟨ji,jl,rfl,rq⟩:=xU
 replace fq:Cl cm lc (yp + ak * 1) [.slice ji jq.length jl]:=fq
 refine rU Z (wF Z aj) (ZV Z Z ux Z ZI zZ (wBd iH)) (ZG Z Z Z (wF Z aj) (bC.ldC (f:=0) fq (v:=.slice ji jq.length jl) Z Z zj Z) Z (ZG Z Z Z (wF Z aj) (bC.ldC (f:=0) iG (v:=jV x57) Z eM zE Z) Z (bnK xt fun Ai fd xu=>?_)))
 have q:=rq.el (fun _=>rfl) (wAW fd)
 obtain ⟨AZ,Bn,uy,uD⟩:=q
 refine rU Z (wF Z aj) (ZQ Z Z uy Z zD zB (wBM fd) (wBP fd)) (ZG Z Z Z (wF Z aj) (bC.ldC (f:=0) uD (v:=jV Ai) Z Z zE Z) Z (rU Z (wF Z aj) (Runs.geq Z Z Z) (oR Z (ZM Z (ZS aj.out) Z) (eN (ifc xu ?_ ?_)))))
 intro eJ xw
 refine cT Z eJ (sR fL1 Z (oA Z Z (eN (zU (zP (zJ ?_))))))
 have q:=wAT xw
 obtain ⟨z6,xx,lJ⟩:=q
 obtain rfl:=wAh cY cW (fz z6 lJ)
 refine zJ (zP (zP (zJ ?_)))
 have q:=wAT xx
 obtain ⟨z7,xz,lK⟩:=q
 obtain rfl:=wAh bS bR (cC z7 lK)
 refine zJ (zP (zJ (zP (zJ ?_))))
 have q:=wAT xz
 obtain ⟨z8,xA,lL⟩:=q
 obtain rfl:=wAh bk bj (bt z8 lL)
 refine zJ (zP (zJ ?_))
 have hE:=nA xA;first | subst r | cases hE
 exact ⟨rfl,_,(ZW rfl),cm,_,(bC.pick [] _ (by decide) rfl),rfl,rfl⟩
 intro eJ xB
 refine cF Z eJ (Zq (zu (zH (rR fL2 Z (oR Z (ZR (zW Z eU Z) (congrArg (jV) wo.out)) (oM Z Z (zi ?_)))))))
 obtain rfl:=nA xB
 exact zH ⟨Z,_,Z,⟨cm,Z,mJ,mK,eM,il,mL,mM,im,eO,mN,mO,mP,mQ,mR,io,ip,dM,bC⟩⟩
 rintro ⟨⟩ Cm AQ ⟨jA,og,mS,mT,mU,mV,mW,mX,mY,Bc,mZ,m4,m5,m6,m7,Bd,m8,yf,vn⟩ v7
 have i7:=wCZ cY cW v7
 try dsimp only at i7
 have lm:Hid (¬ ((↑(((↑bb.length:Int):Int) - 0).toNat:Int) < (↑bb.length:Int))):=zI (wAi)
 refine sR fL1 Z (oR Z (zY Z og m8) (eN (zK (cF Z lm (Zb (zl (zl (ZX (zu (zH (rR fL2 Z (oR Z (ZR (zW Z m7 Z) (congrArg (jV) wn.out)) (oM Z Z (zi ?_))))))))))))))
 obtain rfl:=nA i7
 exact zH ⟨Z,_,Z,⟨jA,Z,mS,mT,mU,mV,mW,mX,mY,mZ,m4,m5,m6,(((((((bZ.trans cb).trans cd).trans cf).trans bV).trans dK).trans dL).trans yf),vn⟩⟩
 intro eI xD
 refine cT Z eI (sR fL1 Z (oA Z Z (eN (zU (zJ (zP (zJ ?_)))))))
 have q:=wAT xD
 obtain ⟨z9,xE,lM⟩:=q
 obtain rfl:=wAh bS bR (cC z9 lM)
 refine zJ (zP (zJ (zP (zJ ?_))))
 have q:=wAT xE
 obtain ⟨Aa,xF,lN⟩:=q
 obtain rfl:=wAh bk bj (bt Aa lN)
 refine zJ (zP (zJ ?_))
 have hE:=nA xF;first | subst r | cases hE
 exact ⟨rfl,_,(ZW rfl),cK,_,(fw.pick [] _ (by decide) rfl),rfl,rfl⟩
 intro ah xG
 refine Zg Z Z Z (ZL Z Z (nF (ah.out)) Z) (Zg Z Z Z (ZL Z Z (nF (ah.out)) Z) (Zg Z Z Z (ZL Z Z (nF (ah.out)) Z) (Zg Z Z Z (ZL Z Z (nF (ah.out)) Z) (Zg Z Z Z (ZL Z Z (nF (ah.out)) Z) (Zg Z Z Z (ZL Z Z (nF (ah.out)) Z) (Zg Z Z Z (ZL Z Z (nF (ah.out)) Z) (Zg Z Z Z (ZL Z Z (nF (ah.out)) Z) (Zg Z Z Z (ZL Z Z (nF (ah.out)) Z) (Zg Z Z Z (ZL Z Z (nF (ah.out)) Z) (Zg Z Z Z (ZL Z Z (nF (ah.out)) Z) (Zg Z Z Z (ZL Z Z (nF (ah.out)) Z) (Zg Z Z Z (ZL Z Z (nF (ah.out)) Z) (Zg Z Z Z (ZL Z Z (nF (ah.out)) Z) (Zg Z Z Z (ZL Z Z (nF (ah.out)) Z) (Zg Z Z Z (ZL Z Z (nF (ah.out)) Z) (OKS.px Z Z Z (ZL Z Z (nF (ah.out)) Z) (Zg Z Z Z (ZL Z Z (nF (ah.out)) Z) (oR Z (zz Z (nF (ah.out)) Z) (eN (ZP Z (sR fL1 Z (oA Z Z (eN (zU (zJ (zP (zJ ?_)))))))))))))))))))))))))))
 have q:=wAT xG
 obtain ⟨Ab,xH,lO⟩:=q
 obtain rfl:=wAh bS bR (cC Ab lO)
 refine zJ (zP (zJ (zP (zJ ?_))))
 have q:=wAT xH
 obtain ⟨Ac,xI,lP⟩:=q
 obtain rfl:=wAh bk bj (bt Ac lP)
 refine zJ (zP (zJ ?_))
 have hE:=nA xI;first | subst r | cases hE
 exact ⟨rfl,_,(ZW rfl),dY,_,(dJ.pick [] _ (by decide) rfl),rfl,rfl⟩
 intro bn xJ
 refine oT Z bn (oT Z bn (oT Z bn (OKS.px Z Z Z (ZL Z Z (Zn bn.out) Z) (oT Z bn (oR Z (zz Z (Zn bn.out) Z) (oM Z Z (oN Z (oN Z (oN Z (oN Z (oN Z (oN Z (oN Z (oN Z (oN Z (oN Z (oN Z (oN Z (oN Z (oN Z (oN Z (oN Z (OKS.px Z Z Z (ZL Z Z Z Z) (oN Z (oR Z (zz Z Z Z) (eN (ZP Z (sR fL1 Z (oA Z Z (eN (zU (zJ (zP (zJ ?_))))))))))))))))))))))))))))))))))
 have q:=wAT xJ
 obtain ⟨Ad,xK,lQ⟩:=q
 obtain rfl:=wAh bS bR (cC Ad lQ)
 refine zJ (zP (zJ (zP (zJ ?_))))
 have q:=wAT xK
 obtain ⟨Ae,xL,lR⟩:=q
 obtain rfl:=wAh bk bj (bt Ae lR)
 refine zJ (zP (zJ ?_))
 have hE:=nA xL;first | subst r | cases hE
 exact ⟨rfl,_,(ZW rfl),gj,_,(dI.pick [] _ (by decide) rfl),rfl,rfl⟩
 rintro ⟨⟩ Cn AS ⟨dZ,oh,m9,n5,n6,n7,iq,n8,ir,n9,oa,Be,oc,ba,iU⟩ v9
 have cD:=wCZ bS bR v9
 try dsimp only at cD
 have ln:Hid (¬ ((↑((2:Int) - 0).toNat:Int) < 2)):=zI (wAi)
 refine sR fL1 Z (oR Z (zY Z oh oc) (eN (zK (cF Z ln (Zb (zl (zl (ZX (zH (sR fL6 Z (oM Z iq (oM Z ir ?_))))))))))))
 have iI:=eX.le ba
 have q:=iI.el (wAW cy)
 obtain ⟨lf,yq,BU,uz,ft,xV⟩:=q
 obtain ⟨dO,dP,rfl,ry⟩:=xV
 replace ft:Cl dZ lf (yq + ak * 1) [.slice dO bb.length dP]:=ft
 refine oR Z (ZV Z Z uz Z ZI zZ (wBd cy)) (oL Z (iU.ldC (f:=0) ft (v:=.slice dO bb.length dP) Z Z zj Z) (oR Z (zt Z Z zD) (oM Z Z (eN (zd ?_)))))
 have q:=wBm cD
 obtain ⟨Bs,cX⟩:=q
 have q:=wBl cX
 obtain ⟨fK,wd⟩:=q
 replace fK:=zI fK
 refine yC (fun cE _ σ_ w_=>∃ (U_:PHeap),σ_ 199=jV (↑cE:Int)/\σ_ 5=.pointer (some ⟨aa,0,none⟩)/\σ_ 6=.slice bH x17.length bM/\σ_ 8=.pointer (some ⟨bd,0,none⟩)/\σ_ 9=.slice bF x100.length bK/\σ_ 11=.slice bG x118.length bL/\σ_ 13=.func (.func 21) #[] #[.pointer (some ⟨bd,0,none⟩)]/\σ_ 14=jV (↑ak:Int)/\σ_ 74=jV (↑x100.length:Int)/\σ_ 75=jV (↑ak:Int)/\σ_ 197=.slice dO bb.length dP/\σ_ 198=jV (↑bb.length:Int)/\PHeap.Le dZ U_/\sW w U U_ [.blk aa 28 B6,B0,B8] w_) wd ?_ ?_ ?_
 exact ⟨dZ,rfl,m9,n5,n6,n7,iq,n8,ir,n9,oa,rfl,rfl,(zO _),(iU.pick [0,1,2] _ (by decide) rfl)⟩
 rintro cE ⟨⟩ Ce Co gG fE ⟨d5,cr,cO,dy,cq,dz,dA,dB,cP,dC,dD,cQ,cR,aY,iV⟩ jd fA
 try dsimp only at jd
 have gR:Hid ((↑cE:Int) < (↑bb.length:Int)):=zI (wAy fE)
 replace fE:=zI fE
 have wp:Hid (w64 ((↑cE:Int) + 1)=(↑(cE + 1):Int)):=zI (by have h1:=fK.out;have h2:=gR.out;rw [wAV] <;> omega)
 refine sR fL1 Z (oR Z (zY Z cr cR) (eN (zK (cT Z gR (kN (zK (zd (sR fL3 Z (bnK jd fun cH iJ xM=>?_)))))))))
 have rA:=ry.le aY
 have q:=rA.el (fun _=>rfl) (wAW iJ)
 obtain ⟨A3,Bo,uA,uE⟩:=q
 refine oR Z (ZV Z cQ uA cr zD zB (wBd iJ)) (oL Z (iV.ldC (f:=0) uE (v:=jV cH) Z Z zE Z) (oA Z Z (eN ?_)))
 have q:=bnd xM
 obtain ⟨⟨jr,fU,Aj⟩,yb,i8⟩:=q
 try dsimp only at i8
 refine yD (fun σ_ w_=>∃ (U_:PHeap) (du:Nat),σ_ 5=.pointer (some ⟨aa,0,none⟩)/\σ_ 6=.slice bH x17.length bM/\σ_ 8=.pointer (some ⟨bd,0,none⟩)/\σ_ 9=.slice bF x100.length bK/\σ_ 11=.slice bG x118.length bL/\σ_ 13=.func (.func 21) #[] #[.pointer (some ⟨bd,0,none⟩)]/\σ_ 14=jV (↑ak:Int)/\σ_ 23=jV cH/\σ_ 24=.pointer (some ⟨du,0,none⟩)/\σ_ 25=jV Aj/\σ_ 74=jV (↑x100.length:Int)/\σ_ 75=jV (↑ak:Int)/\σ_ 197=.slice dO bb.length dP/\σ_ 198=jV (↑bb.length:Int)/\σ_ 199=jV (↑cE:Int)/\PHeap.Le d5 U_/\sW w U U_ [.blk aa 28 B6,B0,B8,.blk du 41 [jV jr,jV fU]] w_) ?_ ?_
 refine bnK yb fun dR iK xN=>bnK xN fun dS ff xO=>?_
 have q:=bnd xO
 obtain ⟨⟨av,dT⟩,dF,cZ⟩:=q
 try dsimp only at cZ
 refine ZA ZB [1,3,1,2,3,1,2,2,3,3,3,2,0,3] (wCz (.fl 4 (.fl 5 (.fx 3 (.fx 6 (.fx 7 (wJQ (.fx 11 gDq .stop)) (.fx 11 (.fx 7 (wJQ gDq) (.stop)) (.stop))) (.fx 11 (.fx 6 (.fx 7 (wJQ gDq) (.stop)) (.stop)) (.stop))) (.fx 11 (.fx 3 (.fx 6 (.fx 7 (wJQ gDq) (.stop)) (.stop)) (.stop)) (.stop)))))) (by kernel_rfl) ?_
 have cB:=iV.drew
 generalize hw_W783:({ gG with drawn:=gG.drawn + 1 }:World)=jU at cB ⊢
 refine oL Z (cB.ldBA (j:=0) Z Z cO ZK zm (vs:=B6) Z Z) (oM Z cP ?_)
 have rB:=eW.le aq
 have rC:=rB.le au
 have rD:=rC.le ba
 have iL:=rD.le aY
 refine oL Z (cB.ldC (f:=0) iL (v:=jV x57) Z cq zE Z) (oM Z Z (oL Z (cB.ldC (f:=0) iL (v:=jV x57) Z cq zE Z) (zh ?_ ?_)))
 refine zM 0 Z Z Z Z (zL Z Z Try.call16 (zC Z (zC Z zQ)) Z) cB (fun hs=>wBF (↑ak:Int) x57 jU d5 hs iK) (.inr Z) ?_
 rintro d7 AD BJ gI bi vv ⟨rfl,rfl⟩
 have iW:sW w U d7 [.blk aa 28 B6,B0,B8] gI:=vv
 refine zh ?_ ?_
 refine zM 0 Z Z Z Z (zL Z Z Try.call16 (zC Z (zC Z zQ)) Z) iW (fun hs=>wBF cH x57 gI d7 hs ff) (.inr Z) ?_
 rintro d9 AE BK gJ bE vw ⟨rfl,rfl⟩
 have iX:sW w U d9 [.blk aa 28 B6,B0,B8] gJ:=vw
 refine zh ?_ ?_
 have rE:=ct.le aW
 have rF:=rE.le aX
 have rG:=rF.le az
 have rH:=rG.le ap
 have rI:=rH.le aq
 have rJ:=rI.le au
 have rK:=rJ.le ba
 have rL:=rK.le aY
 have rM:=rL.le bi
 have rN:=rM.le bE
 have rO:=cu.le aW
 have rP:=rO.le aX
 have rQ:=rP.le az
 have rS:=rQ.le ap
 have rT:=rS.le aq
 have rV:=rT.le au
 have rW:=rV.le ba
 have rX:=rW.le aY
 have rY:=rX.le bi
 have rZ:=rY.le bE
 have r6:=cw.le aW
 have r7:=r6.le aX
 have r8:=r7.le az
 have r9:=r8.le ap
 have sc:=r9.le aq
 have sd:=sc.le au
 have sf:=sd.le ba
 have sg:=sf.le aY
 have sh:=sg.le bi
 have sj:=sh.le bE
 have sk:=cx.le aW
 have sm:=sk.le aX
 have sn:=sm.le az
 have so:=sn.le ap
 have sq:=so.le aq
 have ss:=sq.le au
 have su:=ss.le ba
 have sv:=su.le aY
 have sw:=sv.le bi
 have sA:=sw.le bE
 refine zM 0 Z Z Z Z (zL Z Z Try.call25 (zC Z (zC Z (zC Z zQ))) Z) iX (fun hs=>wEe x16 bo br bp bs bu bw bv bz dR dS gJ d9 hs rN rZ sj sA dF) (.inr Z) ?_
 rintro ec AG BL jW yi vz ⟨rfl,rfl⟩
 have vA:sW w U ec [.blk aa 28 B6,B0,B8] jW:=vz
 refine oM Z Z (oR Z (zX Z Z (v:=.agg #[jV av.Lo,jV av.Hi]) Z) (oR Z (zX Z Z (v:=jV dT) Z) (zS (cs:=[jV 0,jV 0]) Z Z Z Z Z Zd Z vA ?_)))
 intro AU gL vB
 refine zV (j:=0) (vs:=[jV av.Lo,jV av.Hi]) Z Z Z Z vB Z Z Z Z zq (zA Z) Z Z Z ?_
 intro jX vC
 have vD:sW w U ec [.blk gL 41 [jV av.Lo,jV av.Hi],.blk aa 28 B6,B0,B8] jX:=vC
 refine oA Z Z (zi ?_)
 cases cZ
 exact zH ⟨rfl,⟨ec,gL,cO,dy,cq,dz,dA,dB,cP,rfl,rfl,rfl,dC,dD,cQ,cR,cr,((bi.trans bE).trans yi),(vD.pick [1,2,3,0] _ (by decide) rfl)⟩⟩
 refine zS (cs:=[jV 0,jV 0]) Z Z Z Z Z Zd Z iX ?_
 intro jY eD vE
 have sB:=ct.le aW
 have sC:=sB.le aX
 have sD:=sC.le az
 have sE:=sD.le ap
 have sF:=sE.le aq
 have sG:=sF.le au
 have sH:=sG.le ba
 have sI:=sH.le aY
 have sJ:=sI.le bi
 have sK:=sJ.le bE
 have sL:=cu.le aW
 have sM:=sL.le aX
 have sN:=sM.le az
 have sO:=sN.le ap
 have sP:=sO.le aq
 have sQ:=sP.le au
 have sS:=sQ.le ba
 have sT:=sS.le aY
 have sU:=sT.le bi
 have sV:=sU.le bE
 have sX:=cw.le aW
 have sY:=sX.le aX
 have sZ:=sY.le az
 have s5:=sZ.le ap
 have s6:=s5.le aq
 have s7:=s6.le au
 have s8:=s7.le ba
 have s9:=s8.le aY
 have tc:=s9.le bi
 have td:=tc.le bE
 have te:=cx.le aW
 have tf:=te.le aX
 have tg:=tf.le az
 have th:=tg.le ap
 have tm:=th.le aq
 have tn:=tm.le au
 have tp:=tn.le ba
 have tq:=tp.le aY
 have tr:=tq.le bi
 have tu:=tr.le bE
 refine zM 0 Z Z Z Z (zL Z Z Try.call25 (zC Z (zC Z (zC Z zQ))) Z) vE (fun hs=>wEe x16 bo br bp bs bu bw bv bz dR dS jY d9 hs sK sV td tu dF) (.inr Z) ?_
 rintro ef AI BM jZ yj vK ⟨rfl,rfl⟩
 have vL:sW w U ef [.blk eD 41 [jV 0,jV 0],.blk aa 28 B6,B0,B8] jZ:=vK
 refine oM Z Z (oR Z (zX Z Z (v:=.agg #[jV av.Lo,jV av.Hi]) Z) (oR Z (zX Z Z (v:=jV dT) Z) (zV (j:=0) (vs:=[jV av.Lo,jV av.Hi]) Z Z Z Z vL Z Z Z Z zq (zA Z) Z Z Z ?_)))
 intro j0 vM
 have vO:sW w U ef [.blk eD 41 [jV av.Lo,jV av.Hi],.blk aa 28 B6,B0,B8] j0:=vM
 refine oA Z Z (zi ?_)
 cases cZ
 exact zH ⟨rfl,⟨ef,eD,cO,dy,cq,dz,dA,dB,cP,rfl,rfl,rfl,dC,dD,cQ,cR,cr,((bi.trans bE).trans yj),(vO.pick [1,2,3,0] _ (by decide) rfl)⟩⟩
 let dU:List Value:=[jV 0,jV 0]
 refine zS (cs:=dU) Z Z Z Z Z Zd Z iW ?_
 intro j3 dv vP
 refine zM 0 Z Z Z Z (zL Z Z Try.call16 (zC Z (zC Z zQ)) Z) vP (fun hs=>wBF cH x57 j3 d7 hs ff) (.inr Z) ?_
 rintro gv AJ BN gK dg vR ⟨rfl,rfl⟩
 have vS:sW w U gv [.blk dv 41 dU,.blk aa 28 B6,B0,B8] gK:=vR
 have tv:=ct.le aW
 have tw:=tv.le aX
 have tA:=tw.le az
 have tB:=tA.le ap
 have tC:=tB.le aq
 have tD:=tC.le au
 have tE:=tD.le ba
 have tF:=tE.le aY
 have tG:=tF.le bi
 have tH:=tG.le dg
 have tI:=cu.le aW
 have tJ:=tI.le aX
 have tL:=tJ.le az
 have tM:=tL.le ap
 have tO:=tM.le aq
 have tP:=tO.le au
 have tQ:=tP.le ba
 have tR:=tQ.le aY
 have tS:=tR.le bi
 have tT:=tS.le dg
 have tU:=cw.le aW
 have tV:=tU.le aX
 have tW:=tV.le az
 have tX:=tW.le ap
 have tY:=tX.le aq
 have tZ:=tY.le au
 have t7:=tZ.le ba
 have t8:=t7.le aY
 have t9:=t8.le bi
 have ua:=t9.le dg
 have ub:=cx.le aW
 have ud:=ub.le aX
 have uf:=ud.le az
 have ug:=uf.le ap
 have uh:=ug.le aq
 have ui:=uh.le au
 have uj:=ui.le ba
 have uk:=uj.le aY
 have ul:=uk.le bi
 have um:=ul.le dg
 refine zM 0 Z Z Z Z (zL Z Z Try.call25 (zC Z (zC Z (zC Z zQ))) Z) vS (fun hs=>wEe x16 bo br bp bs bu bw bv bz dR dS gK gv hs tH tT ua um dF) (.inr Z) ?_
 rintro eg AL BO j4 yk vU ⟨rfl,rfl⟩
 have vV:sW w U eg [.blk dv 41 dU,.blk aa 28 B6,B0,B8] j4:=vU
 refine oM Z Z (oR Z (zX Z Z (v:=.agg #[jV av.Lo,jV av.Hi]) Z) (oR Z (zX Z Z (v:=jV dT) Z) (zV (j:=0) (vs:=[jV av.Lo,jV av.Hi]) Z Z Z Z vV Z Z Z Z zq (zA Z) Z Z Z ?_)))
 intro j5 vW
 have vX:sW w U eg [.blk dv 41 [jV av.Lo,jV av.Hi],.blk aa 28 B6,B0,B8] j5:=vW
 refine oA Z Z (zi ?_)
 cases cZ
 exact zH ⟨rfl,⟨eg,dv,cO,dy,cq,dz,dA,dB,cP,rfl,rfl,rfl,dC,dD,cQ,cR,cr,((bi.trans dg).trans yk),(vX.pick [1,2,3,0] _ (by decide) rfl)⟩⟩
 let dm:List Value:=[jV 0,jV 0]
 refine zS (cs:=dm) Z Z Z Z Z Zd Z cB ?_
 intro j6 cL vY
 refine zM 0 Z Z Z Z (zL Z Z Try.call16 (zC Z (zC Z zQ)) Z) vY (fun hs=>wBF (↑ak:Int) x57 j6 d5 hs iK) (.inr Z) ?_
 rintro gb Ak Bt gw db uF ⟨rfl,rfl⟩
 have uG:sW w U gb [.blk cL 41 dm,.blk aa 28 B6,B0,B8] gw:=uF
 refine zM 0 Z Z Z Z (zL Z Z Try.call16 (zC Z (zC Z zQ)) Z) uG (fun hs=>wBF cH x57 gw gb hs ff) (.inr Z) ?_
 rintro ge Al Bu gx de uH ⟨rfl,rfl⟩
 have uI:sW w U ge [.blk cL 41 dm,.blk aa 28 B6,B0,B8] gx:=uH
 have oi:=ct.le aW
 have oj:=oi.le aX
 have om:=oj.le az
 have oq:=om.le ap
 have ot:=oq.le aq
 have ow:=ot.le au
 have ox:=ow.le ba
 have oy:=ox.le aY
 have oz:=oy.le db
 have oB:=oz.le de
 have oG:=cu.le aW
 have oH:=oG.le aX
 have oI:=oH.le az
 have oK:=oI.le ap
 have oO:=oK.le aq
 have oP:=oO.le au
 have oU:=oP.le ba
 have oW:=oU.le aY
 have oX:=oW.le db
 have oY:=oX.le de
 have o0:=cw.le aW
 have o3:=o0.le aX
 have o5:=o3.le az
 have o6:=o5.le ap
 have o7:=o6.le aq
 have o8:=o7.le au
 have o9:=o8.le ba
 have pe:=o9.le aY
 have pf:=pe.le db
 have pg:=pf.le de
 have ph:=cx.le aW
 have pj:=ph.le aX
 have pk:=pj.le az
 have pm:=pk.le ap
 have pn:=pm.le aq
 have po:=pn.le au
 have pp:=po.le ba
 have pq:=pp.le aY
 have pu:=pq.le db
 have py:=pu.le de
 refine zM 0 Z Z Z Z (zL Z Z Try.call25 (zC Z (zC Z (zC Z zQ))) Z) uI (fun hs=>wEe x16 bo br bp bs bu bw bv bz dR dS gx ge hs oB oY pg py dF) (.inr Z) ?_
 rintro dV An Bv jE yc uJ ⟨rfl,rfl⟩
 have uK:sW w U dV [.blk cL 41 dm,.blk aa 28 B6,B0,B8] jE:=uJ
 refine oM Z Z (oR Z (zX Z Z (v:=.agg #[jV av.Lo,jV av.Hi]) Z) (oR Z (zX Z Z (v:=jV dT) Z) (zV (j:=0) (vs:=[jV av.Lo,jV av.Hi]) Z Z Z Z uK Z Z Z Z zq (zA Z) Z Z Z ?_)))
 intro jG uL
 have uM:sW w U dV [.blk cL 41 [jV av.Lo,jV av.Hi],.blk aa 28 B6,B0,B8] jG:=uL
 refine oA Z Z (zi ?_)
 cases cZ
 exact zH ⟨rfl,⟨dV,cL,cO,dy,cq,dz,dA,dB,cP,rfl,rfl,rfl,dC,dD,cQ,cR,cr,((db.trans de).trans yc),(uM.pick [1,2,3,0] _ (by decide) rfl)⟩⟩
 rintro Cf jH ⟨dq,du,lS,lT,lU,lV,gS,lW,gT,lX,lY,lZ,l3,l4,l5,l6,l7,je,cV⟩
 refine sR (wSS (.fx 13 (.fl 14 .nil) .stop)) Z (oM Z lZ (oR Z (Zs Z Z Z) (oM Z Z (ifc i8 ?_ ?_))))
 intro bJ wq
 refine zg Z Z Z (zR Z Z (ZS (fun h=>h bJ.out))) (fun _=>zF Z lY zn Z zB) (ZG Z Z Z (zR Z Z (ZS (fun h=>h bJ.out))) (cV.ldB (j:=3) Z Z Z zE (v:=jV fU) Z) Z (zg Z Z Z (zR Z Z (ZS (fun h=>h bJ.out))) (fun _=>Runs.geq Z Z Z) (oR Z (ZM Z (ZS (fun h=>h bJ.out)) Z) (oM Z Z (ifc wq ?_ ?_)))))
 intro bg wt
 refine oT Z bg (oT Z bg (oT Z bg (oT Z bg (oT Z bg (OKS.px Z Z Z (ZL Z Z (Zn bg.out) Z) (oR Z (zz Z (Zn bg.out) Z) (eN (ZP Z (sR fL1 Z (oA Z Z (eN (zU (zP (zJ ?_))))))))))))))
 have q:=wAT wt
 obtain ⟨yr,wu,lp⟩:=q
 obtain rfl:=wAh cD cX (fA yr lp)
 refine zJ (zP (zP (zJ ?_)))
 have q:=wAT wu
 obtain ⟨yt,wv,lq⟩:=q
 obtain rfl:=wAh bk bj (bt yt lq)
 refine zJ (zP (zJ ?_))
 have hE:=nA wv;first | subst r | cases hE
 exact ⟨rfl,_,(ZW rfl),dq,_,(cV.pick [] _ (by decide) rfl),rfl,rfl⟩
 intro bg ww
 refine zk Z Z Z (wF Z bg) Z gS (zk Z Z Z (wF Z bg) Z lX (bnK ww fun fT eV wx=>?_))
 have pz:=iI.le aY
 have pB:=pz.le je
 have q:=pB.el (wAW eV)
 obtain ⟨j7,yl,BP,uo,fg,xP⟩:=q
 obtain ⟨fO,fR,rfl,pC⟩:=xP
 replace fg:Cl dq j7 (yl + cH.toNat * 1) [.slice fO fT.length fR]:=fg
 refine rU Z (wF Z bg) (ZQ Z Z uo Z ZI zZ (wBM eV) (wBP eV)) (ZG Z Z Z (wF Z bg) (cV.ldC (f:=0) fg (v:=.slice fO fT.length fR) Z Z zj Z) Z (zk Z Z Z (wF Z bg) Z gT (bnK wx fun BV pD wy=>zM 0 Z Z Z (wF Z bg) (zL Z Z Try.call26 (zC Z (zC Z zQ)) Z) cV (fun hs=>wDj fT fO fR (↑ak:Int) jH dq hs pC pD) (.inr Z) ?_)))
 rintro dW Ao Bx jJ yd uO ⟨rfl,rfl⟩
 have iP:sW w U dW [.blk aa 28 B6,B0,B8,.blk du 41 [jV jr,jV fU]] jJ:=uO
 refine oR Z (ZM Z (ZS bg.out) Z) (eN (ifc wy ?_ ?_))
 intro eE wz
 refine ZP (congrArg Value.bool eE.out) (sR fL1 Z (oA Z Z (eN (zU (zP (zJ ?_))))))
 have q:=wAT wz
 obtain ⟨yu,wA,ls⟩:=q
 obtain rfl:=wAh cD cX (fA yu ls)
 refine zJ (zP (zP (zJ ?_)))
 have q:=wAT wA
 obtain ⟨yv,wB,lu⟩:=q
 obtain rfl:=wAh bk bj (bt yv lu)
 refine zJ (zP (zJ ?_))
 have hE:=nA wB;first | subst r | cases hE
 exact ⟨rfl,_,(ZW rfl),dW,_,(iP.pick [] _ (by decide) rfl),rfl,rfl⟩
 intro eE wC
 refine ZU (congrArg Value.bool (Bool.eq_false_iff.2 eE.out)) (Zq (zu (zH (rR fL2 Z (oR Z (ZR (zW Z l7 Z) (congrArg (jV) wp.out)) (oM Z Z (zi ?_)))))))
 obtain rfl:=nA wC
 exact zH ⟨rfl,_,rfl,⟨dW,rfl,lS,lT,lU,lV,gS,lW,gT,l3,l4,l5,l6,((aY.trans je).trans yd),(iP.pick [0,1,2] _ (by decide) rfl)⟩⟩
 intro bJ wD
 refine oT Z bJ (oT Z bJ (oT Z bJ (oR Z (zz Z (Zn bJ.out) Z) (oM Z Z (oN Z (oN Z (oN Z (oN Z (oN Z (OKS.px Z Z Z (ZL Z Z Z Z) (oR Z (zz Z Z Z) (eN (ZP Z (sR fL1 Z (oA Z Z (eN (zU (zP (zJ ?_)))))))))))))))))))
 have q:=wAT wD
 obtain ⟨yw,wE,lv⟩:=q
 obtain rfl:=wAh cD cX (fA yw lv)
 refine zJ (zP (zP (zJ ?_)))
 have q:=wAT wE
 obtain ⟨yy,wG,lw⟩:=q
 obtain rfl:=wAh bk bj (bt yy lw)
 refine zJ (zP (zJ ?_))
 have hE:=nA wG;first | subst r | cases hE
 exact ⟨rfl,_,(ZW rfl),dq,_,(cV.pick [] _ (by decide) rfl),rfl,rfl⟩
 rintro ⟨⟩ Cg AM ⟨ju,od,l8,ma,mb,mc,md,me,A4,mf,mg,A5,mh,ye,uP⟩ v4
 have iZ:=wCZ cD cX v4
 try dsimp only at iZ
 have lg:Hid (¬ ((↑(((↑bb.length:Int):Int) - 0).toNat:Int) < (↑bb.length:Int))):=zI (wAi)
 refine sR fL1 Z (oR Z (zY Z od mh) (eN (zK (cF Z lg (Zb (zl (zl (ZX (zu (zH (rR fL2 Z (oR Z (ZR (zW Z mg Z) (congrArg (jV) wl.out)) (oM Z Z (zi ?_))))))))))))))
 obtain rfl:=nA iZ
 exact zH ⟨Z,_,Z,⟨ju,Z,l8,ma,mb,mc,md,me,mf,((((ap.trans aq).trans au).trans ba).trans ye),uP⟩⟩
 intro aZ wH
 refine oT Z aZ (oT Z aZ (oT Z aZ (oT Z aZ (oT Z aZ (oT Z aZ (oT Z aZ (oT Z aZ (oR Z (zz Z (Zn aZ.out) Z) (eN (ZP Z (sR fL1 Z (oA Z Z (eN (zU (zJ (zP (zJ ?_)))))))))))))))))
 have q:=wAT wH
 obtain ⟨yz,wI,lx⟩:=q
 obtain rfl:=wAh bk bj (bt yz lx)
 refine zJ (zP (zJ ?_))
 have hE:=nA wI;first | subst r | cases hE
 exact ⟨rfl,_,(ZW rfl),bQ,_,(bY.pick [] _ (by decide) rfl),rfl,rfl⟩
 intro am wJ
 refine Zg Z Z Z (ZL Z Z (nF (am.out)) Z) (Zg Z Z Z (ZL Z Z (nF (am.out)) Z) (Zg Z Z Z (ZL Z Z (nF (am.out)) Z) (Zg Z Z Z (ZL Z Z (nF (am.out)) Z) (Zg Z Z Z (ZL Z Z (nF (am.out)) Z) (Zg Z Z Z (ZL Z Z (nF (am.out)) Z) (Zg Z Z Z (ZL Z Z (nF (am.out)) Z) (Zg Z Z Z (ZL Z Z (nF (am.out)) Z) (Zg Z Z Z (ZL Z Z (nF (am.out)) Z) (Zg Z Z Z (ZL Z Z (nF (am.out)) Z) (Zg Z Z Z (ZL Z Z (nF (am.out)) Z) (Zg Z Z Z (ZL Z Z (nF (am.out)) Z) (oR Z (zz Z (nF (am.out)) Z) (oM Z Z (oN Z (oN Z (oN Z (oN Z (oN Z (oN Z (oN Z (oN Z (oR Z (zz Z Z Z) (eN (ZP Z (sR fL1 Z (oA Z Z (eN (zU (zJ (zP (zJ ?_)))))))))))))))))))))))))))))))
 have q:=wAT wJ
 obtain ⟨y4,wK,ly⟩:=q
 obtain rfl:=wAh bk bj (bt y4 ly)
 refine zJ (zP (zJ ?_))
 have hE:=nA wK;first | subst r | cases hE
 exact ⟨rfl,_,(ZW rfl),bQ,_,(bY.pick [] _ (by decide) rfl),rfl,rfl⟩
 rintro ⟨⟩ Ch jK ⟨jv,oe,A6,A7,A8,A9,Ba,Bb,mi,Bh,uQ⟩ v5
 have i3:=wCZ bk bj v5
 try dsimp only at i3
 have lh:Hid (¬ ((↑(((↑x100.length:Int):Int) - 0).toNat:Int) < (↑x100.length:Int))):=zI (wAi)
 refine sR fL1 Z (oR Z (zY Z oe mi) (eN (zK (cF Z lh (Zb (zl (zl (ZX (zH (sR gDp Z (bnK i3 fun BW pE wL=>zM 0 Z Z Z Z (zL Z Z Try.call19 zQ Z) uQ (fun hs=>wEg jK jv hs pE) (.inr Z) ?_)))))))))))
 rintro gg Ap By jL Bi uR ⟨rfl,rfl⟩
 have uS:sW w U gg [.blk aa 28 B6,B0,B8] jL:=uR
 refine oA Z Z (eN (zU ?_))
 have hE:=nA wL;first | subst r | cases hE
 exact ⟨rfl,_,(ZW rfl),gg,_,(uS.pick [] _ (by decide) rfl),rfl,rfl⟩
 intro eG wM
 refine cT Z eG (sR fL1 Z (oA Z Z (eN (zU (zJ ?_)))))
 have hE:=nA wM;first | subst r | cases hE
 exact ⟨rfl,_,(ZW rfl),cJ,_,(cz.pick [] _ (by decide) rfl),rfl,rfl⟩
 intro bm wN
 refine oT Z bm (oT Z bm (oT Z bm (oT Z bm (oT Z bm (oR Z (zz Z (Zn bm.out) Z) (eN (ZP Z (sR fL1 Z (oA Z Z (eN (zU (zJ ?_))))))))))))
 have hE:=nA wN;first | subst r | cases hE
 exact ⟨rfl,_,(ZW rfl),cJ,_,(cz.pick [] _ (by decide) rfl),rfl,rfl⟩
 intro bh wO
 refine oT Z bh (oT Z bh (oT Z bh (oT Z bh (oT Z bh (oT Z bh (oR Z (zz Z (Zn bh.out) Z) (oM Z Z (oN Z (oN Z (oN Z (oN Z (oN Z (oR Z (zz Z Z Z) (eN (ZP Z (sR fL1 Z (oA Z Z (eN (zU (zJ ?_))))))))))))))))))))
 have hE:=nA wO;first | subst r | cases hE
 exact ⟨rfl,_,(ZW rfl),cJ,_,(cz.pick [] _ (by decide) rfl),rfl,rfl⟩
 intro bX wP
 refine oT Z bX (oT Z bX (oR Z (zz Z (Zn bX.out) Z) (oM Z Z (oN Z (oN Z (oN Z (oN Z (oN Z (oN Z (oR Z (zz Z Z Z) (oM Z Z (oN Z (oN Z (oN Z (oN Z (oN Z (oR Z (zz Z Z Z) (eN (ZP Z (sR fL1 Z (oA Z Z (eN (zU (zJ ?_))))))))))))))))))))))))
 have hE:=nA wP;first | subst r | cases hE
 exact ⟨rfl,_,(ZW rfl),cJ,_,(cz.pick [] _ (by decide) rfl),rfl,rfl⟩
end Go.Proofs.Ytlnfbjphfoipaaa
