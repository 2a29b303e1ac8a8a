import Derived.Test.YtfcmijinklojbaaU6
import Derived.Test.YtfcmijinklojbaaU5
import Derived.Test.YtfcmijinklojbaaU7
set_option linter.all false
open List renaming flatMap->hH,set->nE,getElem_cons_succ->nG,getElem_cons_zero->nH,getElem_toArray->nI,length_set->nK
open Go.Value renaming bool->nA
open Bool renaming eq_false_iff->nB
open Option.some renaming inj->nD
open Int renaming toNat_natCast->nJ
namespace Go.Proofs.Ytfcmijinklojbaa
open Go.KL
def gBy:Sch:=.fx 0 (.fl 1 .nil) .stop
def gBz:Sch:=.fx 1 (.fl 2 .nil) .stop
def gCa:Sch:=.fx 6 (.fl 7 .nil) .stop
def gCb:Sch:=.fx 0 (.fx 1 .nil .stop) .stop
def gCc:Sch:=.fx 12 (.fl 13 .nil) .stop
def gCd:Sch:=.fl 10 (.fx 12 .nil .stop)
def gCe:Sch:=.fl 9 (.fx 10 .nil .stop)
def gCf:Sch:=.fx 8 (.fl 9 .nil) .stop
def gCg:Sch:=.fl 0 gBz
def gCh:Sch:=.fx 0 (.fl 1 (.fl 2 .nil)) .stop
def gCi:Sch:=.fx 4 (.fl 5 (.fl 6 .nil)) .stop
def gCj:Sch:=.fl 10 (.fx 11 (.fx 12 .nil .stop) .stop)
def gCk:Sch:=.fx 7 gCd .stop
def gCl:Sch:=.fx 8 gCe .stop
def gCm:Sch:=.fx 7 gCf .stop
def gCn:Sch:=.fx 8 (.fx 9 (.fl 10 .nil) .stop) .stop
def gCo:Sch:=.fx 9 (.fx 10 (.fl 11 .nil) .stop) .stop
def gCp:Sch:=.fl 0 (.fl 1 (.fx 2 (.fx 3 .nil .stop) .stop))
def gCq:Sch:=.fx 4 gCk .stop
def gCr:Sch:=.fx 3 gCk .stop
def gCs:Sch:=.fx 7 gCl .stop
def gCt:Sch:=.fx 6 gCl .stop
def gCu:Sch:=.fx 5 gCl .stop
def gCv:Sch:=.fl 0 (.fl 1 (.fx 2 (.fl 3 .nil) .stop))
def gCw:Sch:=.fl 0 (.fl 1 (.fx 2 (.fx 3 (.fl 4 .nil) .stop) .stop))
def gCx:Sch:=.fx 7 gCj (.fx 11 gCk .stop)
def gCy:Sch:=.fx 0 gCr .stop
def gCz:Sch:=.fx 3 gCu .stop
def gDa:Sch:=.fx 3 gCx (.fx 11 gCr .stop)
def gDb:Sch:=.fx 3 gCq (.fx 4 gCr .stop)
def gDc:Sch:=.fx 5 gCs (.fx 7 gCu .stop)
def gDd:Sch:=.fx 5 gCt (.fx 6 gCu .stop)
def gDe:Sch:=.fx 1 gCz .stop
def gDf:Sch:=.fx 6 (.fl 7 (.fl 8 (.fx 9 (.fl 10 (.fl 11 .nil)) .stop))) .stop
def gDg:Sch:=.fx 3 gDc (.fx 7 gCz .stop)
def gDh:Sch:=.fx 3 gDd (.fx 6 gCz .stop)
set_option maxHeartbeats 4000000
theorem wDR (p0:wAC) (ae:Option Addr) (aj:Nat) (ah:Option Addr) (ak:Nat) (ai:Option Addr) (am:Nat) (w:World) (U:PHeap) (hS:St0 w U []) (aV:Sl U 1 ae aj p0.Shots.length (hH KL.encI p0.Shots)) (aW:Sl U 1 ah ak p0.Down.length (hH KL.encI p0.Down)) (aX:Sl U 2 ai am p0.Across.length (hH wAE p0.Across)) {r:Int} (hm:wAc p0=some r):Gv Try.prog 24 [.agg #[.slice ae p0.Shots.length aj,.slice ah p0.Down.length ak,.slice ai p0.Across.length am]] w (wCt w [] U (fun U_ L_ v=>v=jV r/\L_=[])):=by
 unfold wAc at hm
 refine Gv.of Try.func24 Z Try.ntmps24 Try.results24 Z (sR gBy Z ?_)
 let B0:List Value:=[.slice ae p0.Shots.length aj,.slice ah p0.Down.length ak,.slice ai p0.Across.length am]
 refine ZY (cs:=B0) rfl rfl rfl rfl rfl rfl (by rfl) hS ?_
 intro W1 b2 aU
 refine oA Z Z (eN (zJ (sR gCg Z (oL Z (aU.ldBA (j:=0) Z Z Z ZK zz (vs:=B0) Z Z) (bnK hm fun x5 h6 bo=>zM 0 Z Z Z Z (zL Z Z Try.call59 (zB Z zS) Z) aU (fun hs=>wCw p0 ae aj ah ak ai am W1 U hs aV aW aX h6) (.inr Z) ?_)))))
 rintro U8 L9 bs aR aQ bh ⟨rfl,rfl⟩
 have az:sW w U U8 [.blk b2 54 B0] aR:=bh
 refine oA Z Z (eN (sR fL2 Z (oM Z Z (oR Z (ZL Z Z Z) (eN (ifc bo ?_ ?_))))))
 intro au bj
 refine zg (zm (fun h=>h au.out)) (kN (zJ (sR gCg Z (oL Z (az.ldBA (j:=0) Z Z Z ZK zz (vs:=B0) Z Z) ?_))))
 have ba:=aV.le aQ
 have bb:=aW.le aQ
 have be:=aX.le aQ
 refine bnK bj fun bu bf bk=>zM 0 Z Z Z Z (zL Z Z Try.call61 (zB Z (zB Z (zB Z zS))) Z) az (fun hs=>wBQ p0 ae aj ah ak ai am (-1) (-1) aR U8 hs ba bb be bf) (.inr Z) ?_
 rintro ap bp bt aZ br bi ⟨rfl,rfl⟩
 have aT:sW w U ap [.blk b2 54 B0] aZ:=bi
 refine oR Z (ZR Z Z) (eN (ifc bk ?_ ?_))
 intro av bl
 refine zg (nC av.out) (kN (sR fL1 Z (oA Z Z (eN (zQ ?_)))))
 cases bl
 exact ⟨rfl,_,(ZD rfl),ap,_,(aT.pick [] _ (by decide) rfl),rfl,rfl⟩
 intro av bm
 refine ZB (nF (av.out)) (sR fL1 Z (oA Z Z (eN (zQ (ze ?_)))))
 cases bm
 exact ⟨rfl,_,(ZD rfl),ap,_,(aT.pick [] _ (by decide) rfl),rfl,rfl⟩
 intro au bn
 refine cT Z au (sR fL2 Z (oM Z Z (oA Z Z (eN (zQ (ze ?_))))))
 have hE:=nD bn;first | subst r | cases hE
 exact ⟨rfl,_,(ZD rfl),U8,_,(az.pick [] _ (by decide) rfl),rfl,rfl⟩
theorem wFF (p0:wAB) (aY:Option Addr) (bb:Nat) (aZ:Option Addr) (be:Nat) (ba:Option Addr) (bf:Nat) (w:World) (U:PHeap) (hS:St0 w U []) (bM:Sl U 1 aY bb p0.Shots.length (hH KL.encI p0.Shots)) (bN:Sl U 1 aZ be p0.Down.length (hH KL.encI p0.Down)) (bO:Sl U 2 ba bf p0.Across.length (hH wAA p0.Across)) {r:(Option wAF) × Int} (hm:wBb p0=some r):Gv Try.prog 42 [.agg #[.slice aY p0.Shots.length bb,.slice aZ p0.Down.length be,.slice ba p0.Across.length bf]] w (wCt w [] U (fun U_ L_ v=>match r.1 with | none=>v=.tuple #[.pointer none,jV r.2]/\L_=[] | some d=>∃ (b0:Nat) (A0p00:Option Addr) (c0p00:Nat) (A0p01:Option Addr) (c0p01:Nat) (A0p02:Option Addr) (c0p02:Nat) (m0p1:Nat) (es0p1:Array MapEntry) (ck0p1:Nat),v=.tuple #[.pointer (some ⟨b0,0,none⟩),jV r.2]/\L_=[.blk b0 99 ([.slice A0p00 d.Bout.Shots.length c0p00,.slice A0p01 d.Bout.Down.length c0p01,.slice A0p02 d.Bout.Across.length c0p02,.map (some m0p1)] ++ ((hH KL.encI d.hits.l) ++ ((hH KL.encI d.used.l) ++ (hH KL.encT d.met.l)))),.obj m0p1 (.map es0p1 ck0p1)]/\Sl U_ 1 A0p00 c0p00 d.Bout.Shots.length (hH KL.encI d.Bout.Shots)/\Sl U_ 1 A0p01 c0p01 d.Bout.Down.length (hH KL.encI d.Bout.Down)/\Sl U_ 2 A0p02 c0p02 d.Bout.Across.length (hH wAA d.Bout.Across)/\MpR es0p1 wGP wGg d.may)):=by
 unfold wBb at hm
 refine Gv.of Try.func42 Z Try.ntmps42 Try.results42 Z (sR gCh Z ?_)
 let B0:List Value:=[.slice aY p0.Shots.length bb,.slice aZ p0.Down.length be,.slice ba p0.Across.length bf]
 refine ZY (cs:=B0) rfl rfl rfl rfl rfl rfl (by rfl) hS ?_
 intro W1 b2 br
 refine oA Z Z (oA Z Z (eN (sR (.fl 0 (.fx 1 (wJG (.nil)) .stop)) Z (oL Z (br.ldBA (j:=0) Z Z Z ZT zu (vs:=B0) Z Z) ?_))))
 have q:=bnd hm
 obtain ⟨⟨x5,x6⟩,h7,aT⟩:=q
 try dsimp only at aT
 refine zM 0 Z Z Z Z (zL Z Z Try.call69 (zB Z zS) Z) br (fun hs=>wEN p0 aY bb aZ be ba bf W1 U hs bM bN bO h7) (.inr Z) ?_
 rintro U9 bW bZ bh bY bq bp
 rcases x5 with _ | x26
 try dsimp only at aT
 obtain ⟨rfl,rfl⟩:=bp
 have bK:sW w U U9 [.blk b2 26 B0] bh:=bq
 refine oM Z Z (oR Z (ZC Z Z (v:=.pointer none) Z) (oR Z (ZC Z Z (v:=jV x6) Z) (oA Z Z (oA Z Z (eN (zJ (sR (wEX gCi) Z (oM Z Z (oR Z (Zg Z Z Z) (oM Z Z (ifc aT ?_ ?_)))))))))))
 intro av bP
 refine zW Z Z Z (wT Z av) Z Z ?_
 cases bP
 intro av bQ
 refine oF Z av (ZV Z Z Z (zF Z Z (zm av.out) Z) (oF Z av (oR Z (zP Z (zm av.out) Z) (eN (zg Z (kN (sR fL4 Z (oM Z Z (oM Z Z (oA Z Z (oA Z Z (eN (zQ ?_)))))))))))))
 cases bQ
 exact ⟨rfl,_,(wHH rfl rfl),U9,_,(bK.pick [] _ (by decide) rfl),rfl,rfl⟩
 try dsimp only at aT
 obtain ⟨ah,ai,am,aj,ap,ak,aq,ae,az,au,rfl,rfl,aU,aV,aW,aX⟩:=bp
 have bs:sW w U U9 [.blk ah 99 ([.slice ai x26.Bout.Shots.length am,.slice aj x26.Bout.Down.length ap,.slice ak x26.Bout.Across.length aq,.map (some ae)] ++ ((hH KL.encI x26.hits.l) ++ ((hH KL.encI x26.used.l) ++ (hH KL.encT x26.met.l)))),.obj ae (.map az au),.blk b2 26 B0] bh:=bq
 refine oM Z Z (oR Z (ZC Z Z (v:=.pointer (some ⟨ah,0,none⟩)) Z) (oR Z (ZC Z Z (v:=jV x6) Z) (oA Z Z (oA Z Z (eN (zJ (sR (wEX gCi) Z (oM Z Z (oR Z (Zg Z Z Z) (oM Z Z (ifc aT ?_ ?_)))))))))))
 intro ab bR
 refine zW Z Z Z (wT Z ab) Z Z ?_
 have q:=bnd bR
 obtain ⟨⟨bl,bm⟩,bA,bt⟩:=q
 try dsimp only at bt
 refine zM 2 Z Z Z (wT Z ab) (zL Z Z Try.call46 (zB Z zS) Z) bs (fun hs=>wBL x26 ah ai am aj ap ak aq ae az au bh U9 hs aU aV aW aX bA) (.inl Z) ?_
 rintro bg bX b5 bw aQ bL ⟨bn,bz,rfl,rfl,bB⟩
 have bk:sW w U bg [.row bn bz 3 1 (hH KL.encI bl),.blk ah 99 ([.slice ai x26.Bout.Shots.length am,.slice aj x26.Bout.Down.length ap,.slice ak x26.Bout.Across.length aq,.map (some ae)] ++ ((hH KL.encI bm.1.l) ++ ((hH KL.encI bm.2.1.l) ++ (hH KL.encT bm.2.2.l)))),.obj ae (.map az au),.blk b2 26 B0] bw:=bL
 have bC:bn.isNone=decide (bl=[]):=wHZ (j:=0) bk rfl (fun _=>rfl) (by decide) bB
 refine zV rfl rfl rfl (zE rfl rfl (Zf ab.out)) (fun _=>Runs.neNilR (b:=decide (¬ (bl=[]))) rfl rfl rfl zA (by simp [bC])) (zV rfl rfl rfl rfl (fun _=>zU rfl (Zf ab.out) rfl) (eN (ifc bt ?_ ?_)))
 intro bj bS
 refine zg (zm (fun h=>h bj.out)) (kN (sR fL4 Z (oM Z Z (oM Z Z (oA Z Z (oA Z Z (eN (zQ ?_))))))))
 have bD:=aU.le aQ
 have bE:=aV.le aQ
 have bF:=aW.le aQ
 cases bS
 exact ⟨rfl,_,(wHH rfl rfl),bg,_,(bk.pick [1,2] _ (by decide) rfl),ah,ai,am,aj,ap,ak,aq,ae,az,au,rfl,rfl,bD,bE,bF,aX⟩
 intro bj bT
 refine cT Z bj (rR fL1 Z (oA Z Z (eN (sR fL4 Z (oM Z Z (oM Z Z (oA Z Z (oA Z Z (eN (zQ ?_))))))))))
 have bG:=aU.le aQ
 have bH:=aV.le aQ
 have bI:=aW.le aQ
 cases bT
 exact ⟨rfl,_,(wHH rfl rfl),bg,_,(bk.pick [1,2] _ (by decide) rfl),ah,ai,am,aj,ap,ak,aq,ae,az,au,rfl,rfl,bG,bH,bI,aX⟩
 intro ab bU
 refine oF Z ab (ZV Z Z Z (zF Z Z (zm ab.out) Z) (oF Z ab (oR Z (zP Z (zm ab.out) Z) (eN (zg Z (kN (sR fL4 Z (oM Z Z (oM Z Z (oA Z Z (oA Z Z (eN (zQ ?_)))))))))))))
 cases bU
 exact ⟨rfl,_,(wHH rfl rfl),U9,_,(bs.pick [0,1] _ (by decide) rfl),ah,ai,am,aj,ap,ak,aq,ae,az,au,rfl,rfl,aU,aV,aW,aX⟩
theorem wFG (p0:wAB) (bN:Option Addr) (bQ:Nat) (bO:Option Addr) (bR:Nat) (bP:Option Addr) (bS:Nat) (w:World) (U:PHeap) (hS:St0 w U []) (iG:Sl U 1 bN bQ p0.Shots.length (hH KL.encI p0.Shots)) (iH:Sl U 1 bO bR p0.Down.length (hH KL.encI p0.Down)) (iI:Sl U 2 bP bS p0.Across.length (hH wAA p0.Across)) {r:(List wAH) × Int} (hm:wBJ p0=some r):Gv Try.prog 12 [.agg #[.slice bN p0.Shots.length bQ,.slice bO p0.Down.length bR,.slice bP p0.Across.length bS]] w (wCt w [] U (fun U_ L_ v=>∃ (A0:Option Addr) (c0:Nat),v=.tuple #[.slice A0 r.1.length c0,jV r.2]/\L_=[.row A0 c0 44 2 (hH wAZ r.1)])):=by
 unfold wBJ at hm
 refine Go.KX.Gv.ofM Try.func12 Z Try.ntmps12 Try.results12 (zC Z) ?_
 have cE:=hS.mks0
 refine sR gCh Z ?_
 let B0:List Value:=[.slice bN p0.Shots.length bQ,.slice bO p0.Down.length bR,.slice bP p0.Across.length bS]
 refine ZY (cs:=B0) rfl rfl rfl rfl rfl rfl (by rfl) cE ?_
 intro W3 b4 d6
 refine oA Z Z (oA Z Z (eN (sR (.fl 0 (.fx 1 (fC2_4 (.fx 5 gCa .stop)) .stop)) Z (oL Z (d6.ldBA (j:=0) Z Z Z ZT zu (vs:=B0) Z Z) ?_))))
 have q:=bnd hm
 obtain ⟨⟨x7,x8⟩,h9,bz⟩:=q
 try dsimp only at bz
 refine zM 0 Z Z Z Z (zL Z Z Try.call42 (zB Z zS) Z) d6 (fun hs=>wFF p0 bN bQ bO bR bP bS W3 U hs iG iH iI h9) (.inr Z) ?_
 rintro ba jt j9 dm jY dX dV
 rcases x7 with _ | x28
 try dsimp only at bz
 obtain ⟨rfl,rfl⟩:=dV
 have gR:sW w U ba [.blk b4 26 B0,mks []] dm:=dX
 refine oM Z Z (oR Z (ZC Z Z (v:=.pointer none) Z) (oR Z (ZC Z Z (v:=jV x8) Z) (zx (cs:=[.pointer none]) Z Z Z Z Z Try.zeroValue89 Z gR ?_)))
 intro jD e8 gX
 refine zt (j:=0) (vs:=[.pointer none]) Z Z Z Z gX Z Z Z Z Try.sizeOf89 (zC Z) Z Z Z ?_
 intro eP g7
 let B1:Res:=.blk e8 89 [.pointer none]
 have dZ:sW w U ba [B1,.blk b4 26 B0,mks []] eP:=g7
 refine oA Z Z (eN (zJ (sR fL2 Z (oM Z Z (oR Z (ZL Z Z Z) (eN (ifc bz ?_ ?_)))))))
 intro cq i0
 refine zg (zm (fun h=>h cq.out)) (kN (sR fL1 Z (oA Z Z (eN (zJ (sR fL7 Z (oL Z (dZ.ldB (j:=0) Z Z Z ZX (v:=.pointer none) Z) ?_)))))))
 cases i0
 intro cq i5
 refine cT Z cq (sR fL3 Z (oM Z Z (oA Z Z (oA Z Z (eN (zQ (ze ?_)))))))
 have ig:=dZ.nilrow 44 2
 refine wFM (by first | exact .inl rfl | exact .inr rfl) (rbs:=[]) (L:=[.row none 0 44 2 [],B1,.blk b4 26 B0]) (ig.pick [3,0,1,2] _ (by decide) rfl) fun eW ip=>?_
 have ir:sW w U ba [.row none 0 44 2 [],B1,.blk b4 26 B0] eW:=ip
 cases i5
 exact ⟨_,(wHH rfl rfl),ba,_,(ir.pick [0] _ (by decide) rfl),none,0,rfl,rfl⟩
 try dsimp only at bz
 obtain ⟨ab,ae,ah,ai,aj,ak,ap,aa,az,av,rfl,rfl,gq,gt,gu,gv⟩:=dV
 have iz:sW w U ba [.blk ab 99 ([.slice ae x28.Bout.Shots.length ah,.slice ai x28.Bout.Down.length aj,.slice ak x28.Bout.Across.length ap,.map (some aa)] ++ ((hH KL.encI x28.hits.l) ++ ((hH KL.encI x28.used.l) ++ (hH KL.encT x28.met.l)))),.obj aa (.map az av),.blk b4 26 B0,mks []] dm:=dX
 refine oM Z Z (oR Z (ZC Z Z (v:=.pointer (some ⟨ab,0,none⟩)) Z) (oR Z (ZC Z Z (v:=jV x8) Z) (zx (cs:=[.pointer none]) Z Z Z Z Z Try.zeroValue89 Z iz ?_)))
 intro jH au iA
 let B2:List Value:=[.pointer (some ⟨ab,0,none⟩)]
 refine zt (j:=0) (vs:=B2) Z Z Z Z iA Z Z Z Z Try.sizeOf89 (zC Z) Z Z Z ?_
 intro eZ iB
 have bH:sW w U ba [.blk au 89 B2,.blk ab 99 ([.slice ae x28.Bout.Shots.length ah,.slice ai x28.Bout.Down.length aj,.slice ak x28.Bout.Across.length ap,.map (some aa)] ++ ((hH KL.encI x28.hits.l) ++ ((hH KL.encI x28.used.l) ++ (hH KL.encT x28.met.l)))),.obj aa (.map az av),.blk b4 26 B0,mks []] eZ:=iB
 refine oA Z Z (eN (zJ (sR fL2 Z (oM Z Z (oR Z (ZL Z Z Z) (eN (ifc bz ?_ ?_)))))))
 intro cr i9
 refine zg (zm (fun h=>h cr.out)) (kN (sR fL1 Z (oA Z Z (eN (zJ (sR fL7 Z (oL Z (bH.ldB (j:=0) Z Z Z ZX (v:=.pointer (some ⟨ab,0,none⟩)) Z) (oR Z (ZQ Z Z) (oR Z (zK Z Z zj Z zu) (oR Z (zK Z Z zR Z zZ) (oL Z (bH.ldB (j:=1) Z Z Z zd (v:=.slice ae x28.Bout.Shots.length ah) Z) (oR Z (zr Z Z zA) (oM Z Z (eN (zi (bnK i9 fun jr iK ja=>?_))))))))))))))))
 have q:=wCQ iK
 obtain ⟨cI,iL⟩:=q
 replace cI:=zN cI
 refine CK.forN'D (fun aS bf D_ σ_ w_=>∃ (U_:PHeap) (aR:List Nat) (bj:Option Addr) (bk:Nat),D_=List.map Go.KX.mark aR/\σ_ 27=jV (↑aS:Int)/\σ_ 4=.pointer (some ⟨au,0,none⟩)/\σ_ 6=.slice bj bf.length bk/\σ_ 25=.slice ae x28.Bout.Shots.length ah/\σ_ 26=jV (↑x28.Bout.Shots.length:Int)/\PHeap.Le ba U_/\sW w U U_ [.blk au 89 B2,.blk ab 99 ([.slice ae x28.Bout.Shots.length ah,.slice ai x28.Bout.Down.length aj,.slice ak x28.Bout.Across.length ap,.map (some aa)] ++ ((hH KL.encI x28.hits.l) ++ ((hH KL.encI x28.used.l) ++ (hH KL.encT x28.met.l)))),.obj aa (.map az av),.blk b4 26 B0,mks aR,.row bj bk 44 2 (hH wAZ bf)] w_) iL ?_ ?_ ?_
 have iC:=bH.nilrow 44 2
 exact ⟨ba,[],none,0,rfl,rfl,rfl,rfl,rfl,rfl,(zX _),(iC.pick [1,2,3,4,5,0] _ (by decide) rfl)⟩
 rintro aS bf lp D_ lv jJ cH ⟨dg,aR,bj,bk,rfl,bE,dC,fh,dD,dE,bM,d7⟩ je
 have dz:Hid ((↑aS:Int) < (↑x28.Bout.Shots.length:Int)):=zN (wCO cH)
 replace cH:=zN cH
 have iN:Hid (w64 ((↑aS:Int) + 1)=(↑(aS + 1):Int)):=zN (by have h1:=cI.out;have h2:=dz.out;rw [wAM] <;> omega)
 refine sR fL1 Z (oR Z (zo Z bE dE) (eN (zJ (cT Z dz (kN (zJ (zi (sR fL5 Z (oM Z bE (bnK je fun x106 dQ iP=>?_))))))))))
 have dR:=gq.le bM
 have q:=dR.el (fun _=>rfl) (wAV dQ)
 obtain ⟨jK,j0,gx,gz⟩:=q
 refine oR Z (Ze Z dD gx bE zA zD (wCd dQ)) (oL Z (d7.ldC (f:=0) gz (v:=jV x106) Z Z zO Z) (oA Z Z (oA Z Z (eN (sR gCb Z (zx (cs:=[jV 0]) Z Z Z Z Z yA Z d7 ?_))))))
 intro jB bb gD
 refine zt (j:=0) (vs:=[jV 0]) Z Z Z Z gD Z Z Z Z zD (zC Z) Z Z Z ?_
 intro dh gE
 let B3:Res:=.row bj bk 44 2 (hH wAZ bf)
 have dW:sW w U dg [.blk bb 3 [jV 0],.blk au 89 B2,.blk ab 99 ([.slice ae x28.Bout.Shots.length ah,.slice ai x28.Bout.Down.length aj,.slice ak x28.Bout.Across.length ap,.map (some aa)] ++ ((hH KL.encI x28.hits.l) ++ ((hH KL.encI x28.used.l) ++ (hH KL.encT x28.met.l)))),.obj aa (.map az av),.blk b4 26 B0,mks aR,B3] dh:=gE
 refine eN (zJ (sR (.fl 0 (.fl 1 (.fx 2 .nil .stop))) Z (oL Z (dW.ldB (j:=1) Z Z dC ZX (v:=.pointer (some ⟨ab,0,none⟩)) Z) (oM Z Z ?_))))
 have q:=bnd iP
 obtain ⟨⟨⟩,fH,eb⟩:=q
 try dsimp only at eb
 refine zM 0 Z Z Z Z (zL Z Z Try.call43 (zB Z (zB Z zS)) Z) dW (fun hs=>wDt () ab (↑aS:Int) dh dg hs fH) (.inr Z) ?_
 rintro cW ju j8 eJ bI gF ⟨dt,du,dw,rfl,rfl,fJ,fK,fL⟩
 have gG:sW w U cW [.blk bb 3 [jV 0],.blk au 89 B2,.blk ab 99 ([.slice ae x28.Bout.Shots.length ah,.slice ai x28.Bout.Down.length aj,.slice ak x28.Bout.Across.length ap,.map (some aa)] ++ ((hH KL.encI x28.hits.l) ++ ((hH KL.encI x28.used.l) ++ (hH KL.encT x28.met.l)))),.obj aa (.map az av),.blk b4 26 B0,mks aR,B3] eJ:=gF
 refine eN (zi (CK.fresh fun bi be=>?_))
 have dF:bi 4=.pointer (some ⟨au,0,none⟩):=(be 4).trans dC
 have dG:bi 6=.slice bj bf.length bk:=(be 6).trans fh
 have dH:bi 7=jV (↑aS:Int):=(be 7).trans rfl
 have dI:bi 8=jV x106:=(be 8).trans rfl
 have dJ:bi 9=.pointer (some ⟨bb,0,none⟩):=(be 9).trans rfl
 have dK:bi 25=.slice ae x28.Bout.Shots.length ah:=(be 25).trans dD
 have dL:bi 26=jV (↑x28.Bout.Shots.length:Int):=(be 26).trans dE
 have dM:bi 27=jV (↑aS:Int):=(be 27).trans bE
 have fj:bi 34=.func (.func 83) #[] #[.pointer (some ⟨dt,0,none⟩),.pointer (some ⟨du,0,none⟩),.pointer (some ⟨dw,0,none⟩)]:=(be 34).trans rfl
 clear be
 refine bnK eb fun eA iO ed=>?_
 have dS:=dR.le bI
 have fM:=gt.le bM
 have cC:=fM.le bI
 have fN:=gu.le bM
 have dT:=fN.le bI
 refine CK.rangeYV (fun U_ L_=>∃ (i_ j_:Nat) (a0_:Arr Int 64) (a1_:Arr Int 8) (a2_:Arr Bool 16),L_[i_]?=some (.blk ab 99 ([.slice ae x28.Bout.Shots.length ah,.slice ai x28.Bout.Down.length aj,.slice ak x28.Bout.Across.length ap,.map (some aa)] ++ ((hH KL.encI a0_.l) ++ ((hH KL.encI a1_.l) ++ (hH KL.encT a2_.l)))))/\L_[j_]?=some (.obj aa (.map az av))) (by rintro _ _ _ ⟨i,j,a0,a1,a2,hi,hj⟩;exact ⟨i + 1,j + 1,a0,a1,a2,hi,hj⟩) (S:=Int) (E:=Empty) (ar:=wLR) (PY:=(fun (bp:Int) (U_:PHeap) (L_:List Res)=>L_=[.blk bb 3 [jV bp],.blk au 89 B2,.blk ab 99 ([.slice ae x28.Bout.Shots.length ah,.slice ai x28.Bout.Down.length aj,.slice ak x28.Bout.Across.length ap,.map (some aa)] ++ ((hH KL.encI x28.hits.l) ++ ((hH KL.encI x28.used.l) ++ (hH KL.encT x28.met.l)))),.obj aa (.map az av),.blk b4 26 B0,mks aR,.row bj bk 44 2 (hH wAZ bf)])) (PE:=(fun (_:Empty) _ _=>False)) (exO:=Empty.elim) (s0:=0) (rr:=eA) fj Try.call83 gG (by decide) (fun _ _ _ h=>by obtain rfl:=h;rfl) (fun e=>nomatch e) rfl (by rintro bp _ _ rfl;exact ⟨2,3,x28.hits,x28.used,x28.met,rfl,rfl⟩) (fun l w1 L1 PY' PE' cE gB iF iE=>wDf PY' PE' _ l _ x28 dt ab ae ah ai aj ak ap aa az av () du (↑aS:Int) dw w1 L1 cW cE gB iF iE fJ dS cC dT gv fK fL iO) ?_ ?_
 rintro cJ j7 jX bp eC lj j6 cK jv jp jj bX jf gH gC iJ d9 bg aX
 obtain rfl:=gC
 obtain rfl:=iJ
 replace aX:∀ t,bg t=upd bi 35 (jV eC) t:=aX
 have fm:bg 35=jV eC:=(aX 35).trans (wDB _ _ _)
 have ft:bg 4=.pointer (some ⟨au,0,none⟩):=(aX 4).trans ((wCV _ _ (by decide)).trans dF)
 have jN:bg 6=.slice bj bf.length bk:=(aX 6).trans ((wCV _ _ (by decide)).trans dG)
 have jO:bg 7=jV (↑aS:Int):=(aX 7).trans ((wCV _ _ (by decide)).trans dH)
 have jP:bg 8=jV x106:=(aX 8).trans ((wCV _ _ (by decide)).trans dI)
 have dO:bg 9=.pointer (some ⟨bb,0,none⟩):=(aX 9).trans ((wCV _ _ (by decide)).trans dJ)
 have jQ:bg 25=.slice ae x28.Bout.Shots.length ah:=(aX 25).trans ((wCV _ _ (by decide)).trans dK)
 have jR:bg 26=jV (↑x28.Bout.Shots.length:Int):=(aX 26).trans ((wCV _ _ (by decide)).trans dL)
 have jS:bg 27=jV (↑aS:Int):=(aX 27).trans ((wCV _ _ (by decide)).trans dM)
 clear aX
 let B4:Res:=.blk bb 3 [jV bp]
 have gI:St bX cK [.obj cJ jj,B4,.blk au 89 B2,.blk ab 99 ([.slice ae x28.Bout.Shots.length ah,.slice ai x28.Bout.Down.length aj,.slice ak x28.Bout.Across.length ap,.map (some aa)] ++ ((hH KL.encI x28.hits.l) ++ ((hH KL.encI x28.used.l) ++ (hH KL.encT x28.met.l)))),.obj aa (.map az av),.blk b4 26 B0,mks aR,B3] jp:=gH
 try dsimp only at d9
 refine rR fL1 Z (oA Z fm (zn ⟨Z,Z,_,_,gI,fun b5 ez gJ=>?_⟩))
 have gK:St bX cK [.obj cJ ez,B4,.blk au 89 B2,.blk ab 99 ([.slice ae x28.Bout.Shots.length ah,.slice ai x28.Bout.Down.length aj,.slice ak x28.Bout.Across.length ap,.map (some aa)] ++ ((hH KL.encI x28.hits.l) ++ ((hH KL.encI x28.used.l) ++ (hH KL.encT x28.met.l)))),.obj aa (.map az av),.blk b4 26 B0,mks aR,B3] b5:=gJ
 refine zi (ZN ZO [1,1,3,3,3,1,3,3,1,3,0] (wTT (.fx 10 .nil .stop)) (by kernel_rfl) ?_)
 have br:=gK.drew
 generalize hw_W226:({ b5 with drawn:=b5.drawn + 1 }:World)=jC at br ⊢
 refine oL Z (br.ldB (j:=1) Z Z dO zO (v:=jV bp) Z) (oL Z (br.ldB (j:=2) Z Z ft ZX (v:=.pointer (some ⟨ab,0,none⟩)) Z) (oR Z (ZQ Z Z) (oR Z (zK Z Z zj Z zu) (oR Z (zK Z Z zR Z zZ) (oL Z (br.ldB (j:=3) Z Z Z zd (v:=.slice ai x28.Bout.Down.length aj) Z) (oM Z Z (bnK d9 fun cM cD iQ=>?_)))))))
 have fO:=cC.le jf
 have q:=fO.el (fun _=>rfl) (wAV cD)
 obtain ⟨jL,j5,gy,gA⟩:=q
 refine oR Z (ZP Z Z gy Z zA zD (wBp cD) (wBs cD)) (oL Z (br.ldC (f:=0) gA (v:=jV cM) Z Z zO Z) (oR Z (zk Z Z Z) (zt (j:=1) (vs:=[jV (w64 (bp + cM))]) Z Z Z Z br Z dO Z Z zD (zC Z) Z Z Z ?_)))
 intro eK gL
 have gM:St bX cK [.obj cJ ez,.blk bb 3 [jV (w64 (bp + cM))],.blk au 89 B2,.blk ab 99 ([.slice ae x28.Bout.Shots.length ah,.slice ai x28.Bout.Down.length aj,.slice ak x28.Bout.Across.length ap,.map (some aa)] ++ ((hH KL.encI x28.hits.l) ++ ((hH KL.encI x28.used.l) ++ (hH KL.encT x28.met.l)))),.obj aa (.map az av),.blk b4 26 B0,mks aR,B3] eK:=gL
 refine zn (zp ?_)
 have q:=nD iQ
 obtain rfl:=q
 exact ⟨_,_,gM,Z,Z⟩
 rintro aU bv jw dp bJ gN
 rcases eA with bm | fd
 try dsimp only at ed
 rintro rfl
 let B5:Res:=.blk bb 3 [jV bm]
 have gO:sW w U bv [B5,.blk au 89 B2,.blk ab 99 ([.slice ae x28.Bout.Shots.length ah,.slice ai x28.Bout.Down.length aj,.slice ak x28.Bout.Across.length ap,.map (some aa)] ++ ((hH KL.encI x28.hits.l) ++ ((hH KL.encI x28.used.l) ++ (hH KL.encT x28.met.l)))),.obj aa (.map az av),.blk b4 26 B0,mks aR,B3,.obj aU (.deferred (some []))] dp:=gN
 have gP:sW w U bv [mks (aU :: aR),B5,.blk au 89 B2,.blk ab 99 ([.slice ae x28.Bout.Shots.length ah,.slice ai x28.Bout.Down.length aj,.slice ak x28.Bout.Across.length ap,.map (some aa)] ++ ((hH KL.encI x28.hits.l) ++ ((hH KL.encI x28.used.l) ++ (hH KL.encT x28.met.l)))),.obj aa (.map az av),.blk b4 26 B0,B3] dp:=(gO.pick [5,7,0,1,2,3,4,6] _ (by decide) rfl).mksAdd
 refine zp (zI (sR fL1 Z (oA Z Z (eN (bnK ed fun bu jd iR=>CK.cutD (fun D_ σ_ w_=>∃ (U_:PHeap),D_=List.map Go.KX.mark (aU :: aR)/\σ_ 4=.pointer (some ⟨au,0,none⟩)/\σ_ 6=.slice bj bf.length bk/\σ_ 8=jV x106/\σ_ 9=.pointer (some ⟨bb,0,none⟩)/\σ_ 11=jV bu/\σ_ 25=.slice ae x28.Bout.Shots.length ah/\σ_ 26=jV (↑x28.Bout.Shots.length:Int)/\σ_ 27=jV (↑aS:Int)/\PHeap.Le bv U_/\sW w U U_ [mks (aU :: aR),B5,.blk au 89 B2,.blk ab 99 ([.slice ae x28.Bout.Shots.length ah,.slice ai x28.Bout.Down.length aj,.slice ak x28.Bout.Across.length ap,.map (some aa)] ++ ((hH KL.encI x28.hits.l) ++ ((hH KL.encI x28.used.l) ++ (hH KL.encT x28.met.l)))),.obj aa (.map az av),.blk b4 26 B0,B3] w_) ?_ ?_)))))
 refine zi (CK.iterD (fun aY D_ σ_ w_=>∃ (U_:PHeap),D_=List.map Go.KX.mark (aU :: aR)/\σ_ 4=.pointer (some ⟨au,0,none⟩)/\σ_ 6=.slice bj bf.length bk/\σ_ 7=jV (↑aS:Int)/\σ_ 8=jV x106/\σ_ 9=.pointer (some ⟨bb,0,none⟩)/\σ_ 11=jV aY/\σ_ 25=.slice ae x28.Bout.Shots.length ah/\σ_ 26=jV (↑x28.Bout.Shots.length:Int)/\σ_ 27=jV (↑aS:Int)/\PHeap.Le bv U_/\sW w U U_ [mks (aU :: aR),B5,.blk au 89 B2,.blk ab 99 ([.slice ae x28.Bout.Shots.length ah,.slice ai x28.Bout.Down.length aj,.slice ak x28.Bout.Across.length ap,.map (some aa)] ++ ((hH KL.encI x28.hits.l) ++ ((hH KL.encI x28.used.l) ++ (hH KL.encT x28.met.l)))),.obj aa (.map az av),.blk b4 26 B0,B3] w_) jd ?_ ?_)
 exact ⟨bv,Z,dF,dG,dH,dI,dJ,Z,dK,dL,dM,(zX _),gP⟩
 rintro aY lm D_ lq eL ⟨cX,rfl,bq,cu,dP,bD,cw,bw,cy,cz,cA,bt,bG⟩ en d8
 refine zJ (sR fL3 Z (oM Z bw (oM Z bD (oR Z (zo Z Z Z) (eN ?_)))))
 by_cases bl:aY < x106
 have ef:=en;rw [if_pos bl] at ef;replace bl:=zN bl
 refine cT Z bl (kN (zi (sR (wEQ (.fx 5 (.fl 6 .nil) .stop)) Z (oL Z (bG.ldB (j:=2) Z Z bq ZX (v:=.pointer (some ⟨ab,0,none⟩)) Z) (oR Z (ZQ Z Z) (oR Z (zK Z Z zj Z zu) (oR Z (zK Z Z zR Z zZ) (oL Z (bG.ldB (j:=3) Z Z Z zd (v:=.slice ae x28.Bout.Shots.length ah) Z) ?_))))))))
 have fP:=dS.le bJ
 have fQ:=fP.le bt
 refine bnK ef fun aZ fR iT=>zM 0 Z Z Z Z (zL Z Z Try.call44 (zB Z zS) Z) bG (fun hs=>wCN x28.Bout.Shots ae ah eL cX hs fQ fR) (.inr Z) ?_
 rintro cY jx lf eM bK gQ ⟨bn,bo,rfl,rfl⟩
 have dY:sW w U cY [.row bn bo 3 1 (hH KL.encI aZ),mks (aU :: aR),B5,.blk au 89 B2,.blk ab 99 ([.slice ae x28.Bout.Shots.length ah,.slice ai x28.Bout.Down.length aj,.slice ak x28.Bout.Across.length ap,.map (some aa)] ++ ((hH KL.encI x28.hits.l) ++ ((hH KL.encI x28.used.l) ++ (hH KL.encT x28.met.l)))),.obj aa (.map az av),.blk b4 26 B0,B3] eM:=gQ
 refine oA Z Z (eN (sR (wEX (.fx 4 .nil .stop)) Z (oM Z Z (oM Z dP (oM Z bw (bnK iT fun _ bF iU=>?_))))))
 obtain ⟨jM,dU⟩:=dY.rowSome (j:=0) rfl (by rw [wAI (f:=KL.encI) (sz:=1) (fun _=>rfl) aZ];have hz:=wAd bF;omega)
 refine oR Z (Ze Z Z dU Z zA zD (wAd bF)) ?_
 have iM:=wDV (xs:=aZ) (wAd bF)
 refine OKS.stR (j:=0) (vs:=[jV aY]) (cs':=hH KL.encI (nE aZ aS aY)) rfl rfl rfl rfl dY rfl dU rfl rfl rfl zD (by rw [wAI (f:=KL.encI) (sz:=1) (fun _=>rfl)];have hz:=wAd bF;show _ + 1 <= _;first | omega | (simp only [nJ];omega) | (simp only [nI,nG,nH];omega)) rfl (wEx (sz:=1) (fo:=0) (fun _=>rfl) _ _ _ _ iM (by first | omega | (simp only [nJ];omega) | (simp only [nI,nG,nH];omega)) (zC rfl) rfl) rfl ?_
 intro b9 gS
 have gT:sW w U cY [.row bn bo 3 1 (hH KL.encI (nE aZ aS aY)),mks (aU :: aR),B5,.blk au 89 B2,.blk ab 99 ([.slice ae x28.Bout.Shots.length ah,.slice ai x28.Bout.Down.length aj,.slice ak x28.Bout.Across.length ap,.map (some aa)] ++ ((hH KL.encI x28.hits.l) ++ ((hH KL.encI x28.used.l) ++ (hH KL.encT x28.met.l)))),.obj aa (.map az av),.blk b4 26 B0,B3] b9:=gS
 refine eN (zJ (zJ (ZN ZO [3,1,3,3,3,1,1,3,3,3,1,3,2,0,3] (wLg (.fx 12 (.fx 13 (.fl 14 .nil) .stop) .stop)) (by kernel_rfl) ?_)))
 have bs:=gT.drew
 generalize hw_W303:({ b9 with drawn:=b9.drawn + 1 }:World)=dq at bs ⊢
 refine zW rfl rfl rfl rfl rfl (Eq.trans (b:=(.slice bn aZ.length bo:Value)) (c:=(.slice bn ((nE aZ aS aY).length) bo:Value)) rfl (by simp only [nK])) (zy rfl rfl rfl rfl (bs.ldB (j:=3) rfl rfl bq ZX (v:=.pointer (some ⟨ab,0,none⟩)) rfl) rfl (zV rfl rfl rfl rfl (fun _=>ZQ rfl rfl) (zV rfl rfl rfl rfl (fun _=>zK rfl rfl zj rfl zu) (zV rfl rfl rfl rfl (fun _=>zK rfl rfl zR rfl zZ) (zy rfl rfl rfl rfl (bs.ldB (j:=4) rfl rfl rfl zd (v:=.slice ai x28.Bout.Down.length aj) rfl) rfl (zy rfl rfl rfl rfl (bs.ldB (j:=3) rfl rfl bq ZX (v:=.pointer (some ⟨ab,0,none⟩)) rfl) rfl (zV rfl rfl rfl rfl (fun _=>ZQ rfl rfl) (zV rfl rfl rfl rfl (fun _=>zK rfl rfl zj rfl zu) (zV rfl rfl rfl rfl (fun _=>zK rfl rfl zR rfl Zi) (zy rfl rfl rfl rfl (bs.ldB (j:=4) rfl rfl rfl Zo (v:=.slice ak x28.Bout.Across.length ap) rfl) rfl (zV rfl rfl rfl rfl (fun _=>ZM (pv:=[(0,.slice bn ((nE aZ aS aY).length) bo),(1,.slice ai x28.Bout.Down.length aj),(2,.slice ak x28.Bout.Across.length ap)]) (z:=[.slice none 0 0,.slice none 0 0,.slice none 0 0]) (cs:=[.slice bn ((nE aZ aS aY).length) bo,.slice ai x28.Bout.Down.length aj,.slice ak x28.Bout.Across.length ap]) rfl (wAR rfl (wAR rfl (wAR rfl wAo))) Zm wIw rfl rfl) ?_)))))))))))
 have q:=bs.freezeR (k:=0) (n:=(nE aZ aS aY).length) rfl (wAI (f:=KL.encI) (sz:=1) (fun _=>rfl) (nE aZ aS aY)) (by decide)
 obtain ⟨cZ,bL,jb,gU⟩:=q
 have gW:sW w U cZ [mks (aU :: aR),B5,.blk au 89 B2,.blk ab 99 ([.slice ae x28.Bout.Shots.length ah,.slice ai x28.Bout.Down.length aj,.slice ak x28.Bout.Across.length ap,.map (some aa)] ++ ((hH KL.encI x28.hits.l) ++ ((hH KL.encI x28.used.l) ++ (hH KL.encT x28.met.l)))),.obj aa (.map az av),.blk b4 26 B0,B3] dq:=gU
 have fS:=cC.le bJ
 have fT:=fS.le bt
 have fU:=fT.le bK
 have fV:=fU.le bL
 have fW:=dT.le bJ
 have fY:=fW.le bt
 have fZ:=fY.le bK
 have ga:=fZ.le bL
 refine bnK iU fun bh gb iV=>zM 0 Z Z Z Z (zL Z Z Try.call45 (zB Z zS) Z) gW (fun hs=>wDO (⟨(nE aZ aS aY),x28.Bout.Down,x28.Bout.Across⟩:wAB) bn bo ai aj ak ap dq cZ hs jb fV ga gb) (.inr Z) ?_
 rintro da jy lg dr eu gZ ⟨cg,bT,ci,bU,cj,bV,cm,bA,ct,cn,rfl,rfl,gc,ge,gf,gg⟩
 have g6:sW w U da [.blk cg 99 ([.slice bT bh.Bout.Shots.length ci,.slice bU bh.Bout.Down.length cj,.slice bV bh.Bout.Across.length cm,.map (some bA)] ++ ((hH KL.encI bh.hits.l) ++ ((hH KL.encI bh.used.l) ++ (hH KL.encT bh.met.l)))),.obj bA (.map ct cn),mks (aU :: aR),B5,.blk au 89 B2,.blk ab 99 ([.slice ae x28.Bout.Shots.length ah,.slice ai x28.Bout.Down.length aj,.slice ak x28.Bout.Across.length ap,.map (some aa)] ++ ((hH KL.encI x28.hits.l) ++ ((hH KL.encI x28.used.l) ++ (hH KL.encT x28.met.l)))),.obj aa (.map az av),.blk b4 26 B0,B3] dr:=gZ
 have q:=bnd iV
 obtain ⟨⟨eE,cN⟩,gh,ei⟩:=q
 try dsimp only at ei
 refine zM 2 Z Z Z Z (zL Z Z Try.call46 (zB Z zS) Z) g6 (fun hs=>wBL bh cg bT ci bU cj bV cm bA ct cn dr da hs gc ge gf gg gh) (.inl Z) ?_
 rintro bZ jz lh eQ ey g8 ⟨cP,fb,rfl,rfl,gi⟩
 have cG:sW w U bZ [.row cP fb 3 1 (hH KL.encI eE),.blk cg 99 ([.slice bT bh.Bout.Shots.length ci,.slice bU bh.Bout.Down.length cj,.slice bV bh.Bout.Across.length cm,.map (some bA)] ++ ((hH KL.encI cN.1.l) ++ ((hH KL.encI cN.2.1.l) ++ (hH KL.encT cN.2.2.l)))),.obj bA (.map ct cn),mks (aU :: aR),B5,.blk au 89 B2,.blk ab 99 ([.slice ae x28.Bout.Shots.length ah,.slice ai x28.Bout.Down.length aj,.slice ak x28.Bout.Across.length ap,.map (some aa)] ++ ((hH KL.encI x28.hits.l) ++ ((hH KL.encI x28.used.l) ++ (hH KL.encT x28.met.l)))),.obj aa (.map az av),.blk b4 26 B0,B3] eQ:=g8
 have gj:cP.isNone=decide (eE=[]):=wHZ (j:=0) cG rfl (fun _=>rfl) (by decide) gi
 refine oR Z (Runs.eqNilR Z Z Z zA gj) (eN (ifc ei ?_ ?_))
 intro cp iW
 refine cT Z cp (ZS (zq (wKu ?_)))
 have q:=wAj iW
 obtain ⟨jl,iX,ff⟩:=q
 have q:=d8 jl ff
 obtain rfl:=q
 refine zq (ZJ ?_)
 cases iX
 exact zI ⟨bZ,rfl,bq,cu,bD,cw,bw,cy,cz,cA,((((bt.trans bK).trans bL).trans eu).trans ey),(cG.pick [3,4,5,6,7,8,9] _ (by decide) rfl)⟩
 intro cp iY
 refine cF Z cp (kN (rR fL3 Z (oM Z bw (oR Z (zk Z Z Z) (oA Z Z (zn (zp ?_)))))))
 have q:=nD iY
 obtain rfl:=q
 exact zI ⟨_,rfl,⟨bZ,rfl,bq,cu,dP,bD,cw,rfl,cy,cz,cA,((((bt.trans bK).trans bL).trans eu).trans ey),(cG.pick [3,4,5,6,7,8,9] _ (by decide) rfl)⟩⟩
 have ej:=en;rw [if_neg bl] at ej;replace bl:=zN bl
 refine cF Z bl (ZS (zq ?_))
 have q:=wAj ej
 obtain ⟨jm,iZ,fg⟩:=q
 have q:=d8 jm fg
 obtain rfl:=q
 refine zq (ZJ ?_)
 cases iZ
 exact zI ⟨cX,Z,bq,cu,bD,cw,bw,cy,cz,cA,bt,bG⟩
 rintro D_ ls jE ⟨eI,rfl,fu,fw,cB,fy,fz,fA,fB,fC,jg,d4⟩
 refine rR (wEX (.fx 4 (.fx 5 (wQX (.fx 11 gCc .stop)) .stop) .stop)) Z (oM Z fw (oM Z cB (oM Z cB (oL Z (d4.ldB (j:=1) Z Z fy zO (v:=jV bm) Z) (Zy (pv:=[(0,jV bm)]) (zs:=[jV 0]) (cs:=[jV bm]) Z Z Z Z Z (wAR Z wAo) zA zD yA Z Z Z Z Z d4 ?_)))))
 intro cf dx g9
 have ib:sW w U eI [.row (some ⟨dx,0,none⟩) 1 3 1 (hH KL.encI [bm]),mks (aU :: aR),B5,.blk au 89 B2,.blk ab 99 ([.slice ae x28.Bout.Shots.length ah,.slice ai x28.Bout.Down.length aj,.slice ak x28.Bout.Across.length ap,.map (some aa)] ++ ((hH KL.encI x28.hits.l) ++ ((hH KL.encI x28.used.l) ++ (hH KL.encT x28.met.l)))),.obj aa (.map az av),.blk b4 26 B0,B3] cf:=g9
 have q:=ib.freezeR (k:=0) (n:=[bm].length) rfl (wAI (f:=KL.encI) (sz:=1) (fun _=>rfl) [bm]) (by decide)
 obtain ⟨de,jh,jc,ic⟩:=q
 have ie:sW w U de [mks (aU :: aR),B5,.blk au 89 B2,.blk ab 99 ([.slice ae x28.Bout.Shots.length ah,.slice ai x28.Bout.Down.length aj,.slice ak x28.Bout.Across.length ap,.map (some aa)] ++ ((hH KL.encI x28.hits.l) ++ ((hH KL.encI x28.used.l) ++ (hH KL.encT x28.met.l)))),.obj aa (.map az av),.blk b4 26 B0,B3] cf:=ic
 refine bnK iR fun bB gm i6=>zM 0 Z Z Z Z (zL Z Z Try.call47 (zB Z (zB Z zS)) Z) ie (fun hs=>wEO x106 [bm] (some ⟨dx,0,none⟩) 1 cf de hs jc gm) (.inr Z) ?_
 rintro bC jA li eT ji ii ⟨rfl,rfl⟩
 have ij:sW w U bC [mks (aU :: aR),B5,.blk au 89 B2,.blk ab 99 ([.slice ae x28.Bout.Shots.length ah,.slice ai x28.Bout.Down.length aj,.slice ak x28.Bout.Across.length ap,.map (some aa)] ++ ((hH KL.encI x28.hits.l) ++ ((hH KL.encI x28.used.l) ++ (hH KL.encT x28.met.l)))),.obj aa (.map az av),.blk b4 26 B0,B3] eT:=ii
 refine oR Z (ZG Z Z Z) (oM Z cB (oM Z fz (oR Z (ZG Z Z Z) ?_)))
 let B6:List Value:=[jV (w64 (x106 - bB)),jV (w64 (x106 - bu))]
 refine oR Z (ZM (pv:=[(0,jV (w64 (x106 - bB))),(1,jV (w64 (x106 - bu)))]) (z:=[jV 0,jV 0]) (cs:=B6) Z (wAR Z (wAR Z wAo)) zw wBl Z Z) (Zy (pv:=[(0,.agg B6.toArray)]) (zs:=[jV 0,jV 0]) (cs:=B6) Z Z Z Z Z (wAR Z wAo) Zq zH zw Z Z Z Z Z ij ?_)
 intro eU e9 ik
 let B7:Res:=.row (some ⟨e9,0,none⟩) 1 44 2 (hH wAZ [(⟨w64 (x106 - bB),w64 (x106 - bu)⟩:wAH)])
 have d5:sW w U bC [B7,mks (aU :: aR),B5,.blk au 89 B2,.blk ab 99 ([.slice ae x28.Bout.Shots.length ah,.slice ai x28.Bout.Down.length aj,.slice ak x28.Bout.Across.length ap,.map (some aa)] ++ ((hH KL.encI x28.hits.l) ++ ((hH KL.encI x28.used.l) ++ (hH KL.encT x28.met.l)))),.obj aa (.map az av),.blk b4 26 B0,B3] eU:=ik
 refine bnK i6 fun eF gp i7=>OKS.append (j:=7) (enc:=wAZ) (xs:=bf) (ys:=[(⟨w64 (x106 - bB),w64 (x106 - bu)⟩:wAH)]) (zs:=eF) rfl rfl rfl rfl rfl Try.underlying37 wTF rfl rfl rfl rfl rfl rfl d5 rfl rfl rfl (d5.srcR (j:=0) rfl (by decide) (wAI (f:=wAZ) (sz:=2) (fun _=>rfl) [(⟨w64 (x106 - bB),w64 (x106 - bu)⟩:wAH)])) (fun _=>rfl) (fun _=>rfl) gp rfl ?_
 intro cQ dA eV im
 have io:sW w U bC [B7,mks (aU :: aR),B5,.blk au 89 B2,.blk ab 99 ([.slice ae x28.Bout.Shots.length ah,.slice ai x28.Bout.Down.length aj,.slice ak x28.Bout.Across.length ap,.map (some aa)] ++ ((hH KL.encI x28.hits.l) ++ ((hH KL.encI x28.used.l) ++ (hH KL.encT x28.met.l)))),.obj aa (.map az av),.blk b4 26 B0,.row cQ dA 44 2 (hH wAZ eF)] eV:=im
 refine oA Z Z (zn (zp (zI (rR fL2 Z (oR Z (ZI (zk Z fC Z) (congrArg (jV) iN.out)) (oM Z Z (zn ?_)))))))
 cases i7
 exact zI ⟨bC,(aU :: aR),cQ,dA,rfl,rfl,fu,rfl,fA,fB,(((((bM.trans bI).trans bJ).trans jg).trans jh).trans ji),(io.pick [3,4,5,6,1,7] _ (by decide) rfl)⟩
 exact fd.elim
 rintro D_ lu jG ⟨df,jk,cR,dB,rfl,fG,jU,fD,jW,fE,jZ,iq⟩
 have fc:Hid (¬ ((↑(((↑x28.Bout.Shots.length:Int):Int) - 0).toNat:Int) < (↑x28.Bout.Shots.length:Int))):=zN (wBi)
 refine sR fL1 Z (oR Z (zo Z fG fE) (eN (zJ (cF Z fc (ZS (zq (zq (ZJ (zI (sR fL3 Z (oM Z fD (oA Z Z (oA Z Z (eN (zQ ?_)))))))))))))))
 let B8:Res:=.row cR dB 44 2 (hH wAZ jr)
 refine wFM (by first | exact .inl rfl | exact .inr rfl) (rbs:=jk) (L:=[.blk au 89 B2,.blk ab 99 ([.slice ae x28.Bout.Shots.length ah,.slice ai x28.Bout.Down.length aj,.slice ak x28.Bout.Across.length ap,.map (some aa)] ++ ((hH KL.encI x28.hits.l) ++ ((hH KL.encI x28.used.l) ++ (hH KL.encT x28.met.l)))),.obj aa (.map az av),.blk b4 26 B0,B8]) (iq.pick [4,0,1,2,3,5] _ (by decide) rfl) fun eX it=>?_
 have iu:sW w U df [.blk au 89 B2,.blk ab 99 ([.slice ae x28.Bout.Shots.length ah,.slice ai x28.Bout.Down.length aj,.slice ak x28.Bout.Across.length ap,.map (some aa)] ++ ((hH KL.encI x28.hits.l) ++ ((hH KL.encI x28.used.l) ++ (hH KL.encT x28.met.l)))),.obj aa (.map az av),.blk b4 26 B0,B8] eX:=it
 cases ja
 exact ⟨_,(wHH rfl rfl),df,_,(iu.pick [4] _ (by decide) rfl),cR,dB,rfl,rfl⟩
 intro cr i8
 refine cT Z cr (sR fL3 Z (oM Z Z (oA Z Z (oA Z Z (eN (zQ (ze ?_)))))))
 have iv:=bH.nilrow 44 2
 refine wFM (by first | exact .inl rfl | exact .inr rfl) (rbs:=[]) (L:=[.row none 0 44 2 [],.blk au 89 B2,.blk ab 99 ([.slice ae x28.Bout.Shots.length ah,.slice ai x28.Bout.Down.length aj,.slice ak x28.Bout.Across.length ap,.map (some aa)] ++ ((hH KL.encI x28.hits.l) ++ ((hH KL.encI x28.used.l) ++ (hH KL.encT x28.met.l)))),.obj aa (.map az av),.blk b4 26 B0]) (iv.pick [5,0,1,2,3,4] _ (by decide) rfl) fun eY iw=>?_
 have iy:sW w U ba [.row none 0 44 2 [],.blk au 89 B2,.blk ab 99 ([.slice ae x28.Bout.Shots.length ah,.slice ai x28.Bout.Down.length aj,.slice ak x28.Bout.Across.length ap,.map (some aa)] ++ ((hH KL.encI x28.hits.l) ++ ((hH KL.encI x28.used.l) ++ (hH KL.encT x28.met.l)))),.obj aa (.map az av),.blk b4 26 B0] eY:=iw
 cases i8
 exact ⟨_,(wHH rfl rfl),ba,_,(iy.pick [0] _ (by decide) rfl),none,0,rfl,rfl⟩
end Go.Proofs.Ytfcmijinklojbaa
namespace Go.Proofs.Ytfcmijinklojbaa
open Go.KL
set_option maxHeartbeats 4000000
theorem wEq (p0:wAB) (be:Option Addr) (bh:Nat) (bf:Option Addr) (bi:Nat) (bg:Option Addr) (bj:Nat) (w:World) (U:PHeap) (hS:St0 w U []) (cM:Sl U 1 be bh p0.Shots.length (hH KL.encI p0.Shots)) (cN:Sl U 1 bf bi p0.Down.length (hH KL.encI p0.Down)) (cO:Sl U 2 bg bj p0.Across.length (hH wAA p0.Across)) {r:(List wAD) × Int} (hm:wAz p0=some r):Gv Try.prog 13 [.agg #[.slice be p0.Shots.length bh,.slice bf p0.Down.length bi,.slice bg p0.Across.length bj]] w (wCt w [] U (fun U_ L_ v=>∃ (A0:Option Addr) (c0:Nat),v=.tuple #[.slice A0 r.1.length c0,jV r.2]/\L_=[.row A0 c0 35 2 (hH wAA r.1)])):=by
 unfold wAz at hm
 refine Gv.of Try.func13 Z Try.ntmps13 Try.results13 Z (sR gCh Z ?_)
 let B0:List Value:=[.slice be p0.Shots.length bh,.slice bf p0.Down.length bi,.slice bg p0.Across.length bj]
 refine ZY (cs:=B0) rfl rfl rfl rfl rfl rfl (by rfl) hS ?_
 intro W1 b2 bM
 refine oA Z Z (oA Z Z (eN (sR (.fl 0 (.fx 1 (wJG (.nil)) .stop)) Z (oL Z (bM.ldBA (j:=0) Z Z Z ZT zu (vs:=B0) Z Z) ?_))))
 have q:=bnd hm
 obtain ⟨⟨x5,x6⟩,h7,aW⟩:=q
 try dsimp only at aW
 refine zM 0 Z Z Z Z (zL Z Z Try.call42 (zB Z zS) Z) bM (fun hs=>wFF p0 be bh bf bi bg bj W1 U hs cM cN cO h7) (.inr Z) ?_
 rintro U9 dm dC bC dy bL bJ
 rcases x5 with _ | x26
 try dsimp only at aW
 obtain ⟨rfl,rfl⟩:=bJ
 have cG:sW w U U9 [.blk b2 26 B0] bC:=bL
 refine oM Z Z (oR Z (ZC Z Z (v:=.pointer none) Z) (oR Z (ZC Z Z (v:=jV x6) Z) (oA Z Z (oA Z Z (eN (zJ (sR fL2 Z (oM Z Z (oR Z (ZL Z Z Z) (eN (ifc aW ?_ ?_)))))))))))
 intro bn cX
 refine zg (zm (fun h=>h bn.out)) (kN (sR fL1 Z (oA Z Z (eN (zJ (sR fL7 Z (oM Z Z ?_)))))))
 cases cX
 intro bn cY
 refine cT Z bn (sR fL3 Z (oM Z Z (oA Z Z (oA Z Z (eN (zQ (ze ?_)))))))
 have cH:=cG.nilrow 35 2
 cases cY
 exact ⟨rfl,_,(wHH rfl rfl),U9,_,(cH.pick [0] _ (by decide) rfl),none,0,rfl,rfl⟩
 try dsimp only at aW
 obtain ⟨ai,am,au,ap,av,ae,aj,aa,aQ,az,rfl,rfl,cj,cm,cn,cp⟩:=bJ
 have bt:sW w U U9 [.blk ai 99 ([.slice am x26.Bout.Shots.length au,.slice ap x26.Bout.Down.length av,.slice ae x26.Bout.Across.length aj,.map (some aa)] ++ ((hH KL.encI x26.hits.l) ++ ((hH KL.encI x26.used.l) ++ (hH KL.encT x26.met.l)))),.obj aa (.map aQ az),.blk b2 26 B0] bC:=bL
 refine oM Z Z (oR Z (ZC Z Z (v:=.pointer (some ⟨ai,0,none⟩)) Z) (oR Z (ZC Z Z (v:=jV x6) Z) (oA Z Z (oA Z Z (eN (zJ (sR fL2 Z (oM Z Z (oR Z (ZL Z Z Z) (eN (ifc aW ?_ ?_)))))))))))
 intro bo cZ
 refine zg (zm (fun h=>h bo.out)) (kN (sR fL1 Z (oA Z Z (eN (zJ (sR fL7 Z (oM Z Z (oR Z (ZQ Z Z) (oR Z (zK Z Z zj Z zu) (oR Z (zK Z Z zR Z Zi) (oL Z (bt.ldB (j:=0) Z Z Z Zo (v:=.slice ae x26.Bout.Across.length aj) Z) (oR Z (zr Z Z ZA) (oM Z Z (eN (zi (bnK cZ fun dE cP da=>?_))))))))))))))))
 have q:=wCQ cP
 obtain ⟨bw,cQ⟩:=q
 replace bw:=zN bw
 refine CK.forN' (fun aX aY σ_ w_=>∃ (U_:PHeap) (aS:Option Addr) (aV:Nat),σ_ 23=jV (↑aX:Int)/\σ_ 4=.pointer (some ⟨ai,0,none⟩)/\σ_ 6=.slice aS aY.length aV/\σ_ 21=.slice ae x26.Bout.Across.length aj/\σ_ 22=jV (↑x26.Bout.Across.length:Int)/\PHeap.Le U9 U_/\sW w U U_ [.blk ai 99 ([.slice am x26.Bout.Shots.length au,.slice ap x26.Bout.Down.length av,.slice ae x26.Bout.Across.length aj,.map (some aa)] ++ ((hH KL.encI x26.hits.l) ++ ((hH KL.encI x26.used.l) ++ (hH KL.encT x26.met.l)))),.obj aa (.map aQ az),.blk b2 26 B0,.row aS aV 35 2 (hH wAA aY)] w_) cQ ?_ ?_ ?_
 have cI:=bt.nilrow 35 2
 exact ⟨U9,none,0,rfl,rfl,rfl,rfl,rfl,(zX _),(cI.pick [1,2,3,0] _ (by decide) rfl)⟩
 rintro aX aY dD dG dr bv ⟨bk,aS,aV,bb,bp,bG,bq,br,aZ,bN⟩ df
 have bF:Hid ((↑aX:Int) < (↑x26.Bout.Across.length:Int)):=zN (wCO bv)
 replace bv:=zN bv
 have bO:Hid (w64 ((↑aX:Int) + 1)=(↑(aX + 1):Int)):=zN (by have h1:=bw.out;have h2:=bF.out;rw [wAM] <;> omega)
 refine sR fL1 Z (oR Z (zo Z bb br) (eN (zJ (cT Z bF (kN (zJ (zi (sR gCp Z (bnK df fun x83 bH de=>?_)))))))))
 have bI:=cn.le aZ
 have q:=bI.el (fun _=>rfl) (wAV bH)
 obtain ⟨du,dA,cu,cw⟩:=q
 refine oR Z (Ze Z bq cu bb ZA ZH (wCd bH)) (oL Z (bN.ldCA (f:=0) cw Z Z Zp ZH (us:=[jV x83.Skier,jV x83.Lane]) Z Z) (zx (cs:=[jV 0,jV 0]) Z Z Z Z Z Zn Z bN ?_))
 intro dt aU cJ
 let B1:List Value:=[jV x83.Skier,jV x83.Lane]
 refine zt (j:=0) (vs:=B1) Z Z Z Z cJ Z Z Z Z ZH (zC Z) Z Z Z ?_
 intro bl cK
 let B2:Res:=.row aS aV 35 2 (hH wAA aY)
 have bu:sW w U bk [.blk aU 35 B1,.blk ai 99 ([.slice am x26.Bout.Shots.length au,.slice ap x26.Bout.Down.length av,.slice ae x26.Bout.Across.length aj,.map (some aa)] ++ ((hH KL.encI x26.hits.l) ++ ((hH KL.encI x26.used.l) ++ (hH KL.encT x26.met.l)))),.obj aa (.map aQ az),.blk b2 26 B0,B2] bl:=cK
 refine eN (sR (wEQ (.fx 5 (.fl 6 (.fl 7 .nil)) .stop)) Z (oM Z bp (oR Z (zK Z Z ZW Z zD) (oL Z (bu.ldB (j:=0) Z Z Z zO (v:=jV x83.Skier) Z) (oR Z (zK Z Z ZW Z zD) (oL Z (bu.ldB (j:=0) Z Z Z zO (v:=jV x83.Lane) Z) ?_))))))
 have cr:=cj.le aZ
 have ct:=cm.le aZ
 refine bnK de fun dg cg cR=>?_
 have cy:sW w U bk [.blk ai 99 ([.slice am x26.Bout.Shots.length au,.slice ap x26.Bout.Down.length av,.slice ae x26.Bout.Across.length aj,.map (some aa)] ++ ((hH KL.encI x26.hits.l) ++ ((hH KL.encI x26.used.l) ++ (hH KL.encT x26.met.l)))),.obj aa (.map aQ az),.blk aU 35 B1,.blk b2 26 B0,B2] bl:=bu.pick [1,2,0,3,4] _ (by decide) rfl
 refine zM 2 Z Z Z Z (zL Z Z Try.call48 (zB Z (zB Z (zB Z zS))) Z) cy (fun hs=>wDP x26 ai am au ap av ae aj aa aQ az x83.Skier x83.Lane bl bk hs cr ct bI cp cg) (.inl Z) ?_
 rintro aT dp dB bU bP cz ⟨rfl,rfl⟩
 have bs:sW w U aT [.blk ai 99 ([.slice am x26.Bout.Shots.length au,.slice ap x26.Bout.Down.length av,.slice ae x26.Bout.Across.length aj,.map (some aa)] ++ ((hH KL.encI x26.hits.l) ++ ((hH KL.encI x26.used.l) ++ (hH KL.encT x26.met.l)))),.obj aa (.map aQ az),.blk aU 35 B1,.blk b2 26 B0,B2] bU:=cz
 refine oR Z (Runs.fld Z Z zh Z (wGC zO (v:=jV dg.Lo) Z)) (oR Z (Zl Z Z Z) (eN (ifc cR ?_ ?_)))
 intro bm cS
 refine cT Z bm (rR gCw Z (oM Z bG (oL Z (bs.ldBA (j:=2) Z Z Z Zp ZH (vs:=B1) Z Z) (Zy (pv:=[(0,.agg B1.toArray)]) (zs:=[jV 0,jV 0]) (cs:=B1) Z Z Z Z Z (wAR Z wAo) ZA ZH Zn Z Z Z Z Z bs ?_))))
 intro bV bX cA
 let B3:Res:=.row (some ⟨bX,0,none⟩) 1 35 2 (hH wAA [x83])
 have bK:sW w U aT [B3,.blk ai 99 ([.slice am x26.Bout.Shots.length au,.slice ap x26.Bout.Down.length av,.slice ae x26.Bout.Across.length aj,.map (some aa)] ++ ((hH KL.encI x26.hits.l) ++ ((hH KL.encI x26.used.l) ++ (hH KL.encT x26.met.l)))),.obj aa (.map aQ az),.blk aU 35 B1,.blk b2 26 B0,B2] bV:=cA
 refine bnK cS fun x118 ci cU=>OKS.append (j:=5) (enc:=wAA) (xs:=aY) (ys:=[x83]) (zs:=x118) rfl rfl rfl rfl rfl Try.underlying24 wLS rfl rfl rfl rfl rfl rfl bK rfl rfl rfl (bK.srcR (j:=0) rfl (by decide) (wAI (f:=wAA) (sz:=2) (fun _=>rfl) [x83])) (fun _=>rfl) (fun _=>rfl) ci rfl ?_
 intro bA bE bW cB
 have cC:sW w U aT [B3,.blk ai 99 ([.slice am x26.Bout.Shots.length au,.slice ap x26.Bout.Down.length av,.slice ae x26.Bout.Across.length aj,.map (some aa)] ++ ((hH KL.encI x26.hits.l) ++ ((hH KL.encI x26.used.l) ++ (hH KL.encT x26.met.l)))),.obj aa (.map aQ az),.blk aU 35 B1,.blk b2 26 B0,.row bA bE 35 2 (hH wAA x118)] bW:=cB
 refine oA Z Z (zn (zp (zI (rR fL2 Z (oR Z (ZI (zk Z bb Z) (congrArg (jV) bO.out)) (oM Z Z (zn ?_)))))))
 cases cU
 exact zI ⟨rfl,⟨aT,bA,bE,rfl,bp,rfl,bq,br,(aZ.trans bP),(cC.pick [1,2,4,5] _ (by decide) rfl)⟩⟩
 intro bm cV
 refine cF Z bm (Za (zp (zI (rR fL2 Z (oR Z (ZI (zk Z bb Z) (congrArg (jV) bO.out)) (oM Z Z (zn ?_)))))))
 cases cV
 exact zI ⟨rfl,⟨aT,aS,aV,rfl,bp,bG,bq,br,(aZ.trans bP),(bs.pick [0,1,3,4] _ (by decide) rfl)⟩⟩
 rintro dF dq ⟨bS,bR,bY,cf,dw,b5,dx,b9,dz,cD⟩
 have bZ:Hid (¬ ((↑(((↑x26.Bout.Across.length:Int):Int) - 0).toNat:Int) < (↑x26.Bout.Across.length:Int))):=zN (wBi)
 refine sR fL1 Z (oR Z (zo Z cf b9) (eN (zJ (cF Z bZ (ZS (zq (zq (ZJ (zI (sR fL3 Z (oM Z b5 (oA Z Z (oA Z Z (eN (zQ ?_)))))))))))))))
 cases da
 exact ⟨rfl,_,(wHH rfl rfl),bS,_,(cD.pick [3] _ (by decide) rfl),bR,bY,rfl,rfl⟩
 intro bo cW
 refine cT Z bo (sR fL3 Z (oM Z Z (oA Z Z (oA Z Z (eN (zQ (ze ?_)))))))
 have cE:=bt.nilrow 35 2
 cases cW
 exact ⟨rfl,_,(wHH rfl rfl),U9,_,(cE.pick [0] _ (by decide) rfl),none,0,rfl,rfl⟩
theorem wDg (p0:wAC) (aS:Option Addr) (aT:Nat) (aW:Option Addr) (aX:Nat) (ak:Option Addr) (am:Nat) (p1:Int) (w:World) (U:PHeap) (hS:St0 w U []) (cq:Sl U 1 aS aT p0.Shots.length (hH KL.encI p0.Shots)) (en:Sl U 1 aW aX p0.Down.length (hH KL.encI p0.Down)) (iF:Sl U 2 ak am p0.Across.length (hH wAE p0.Across)) {r:wAH} (hm:wBK p0 p1=some r):Gv Try.prog 25 [.agg #[.slice aS p0.Shots.length aT,.slice aW p0.Down.length aX,.slice ak p0.Across.length am],jV p1] w (wCt w [] U (fun U_ L_ v=>v=.agg #[jV r.Lo,jV r.Hi]/\L_=[])):=by
 unfold wBK at hm
 refine Gv.of Try.func25 Z Try.ntmps25 Try.results25 Z (sR gCb Z ?_)
 let B0:List Value:=[.slice aS p0.Shots.length aT,.slice aW p0.Down.length aX,.slice ak p0.Across.length am]
 refine ZY (cs:=B0) rfl rfl rfl rfl rfl rfl (by rfl) hS ?_
 intro W1 b2 qh
 let B1:List Value:=[jV 0,jV 0]
 refine zx (cs:=B1) Z Z Z Z Z zw Z qh ?_
 intro W5 b6 iA
 refine eN (sR fL4 Z (oR Z (zK Z Z zY Z zZ) (oL Z (iA.ldB (j:=1) Z Z Z zd (v:=.slice aW p0.Down.length aX) Z) (oR Z (zr Z Z zA) (oA Z Z (eN (sR fL1 Z (oA Z Z (eN (zJ (sR fL1 Z (oA Z Z (eN (zi (bnK hm fun aU rF sc=>?_)))))))))))))))
 have q:=wCQ rF
 obtain ⟨eA,rG⟩:=q
 replace eA:=zN eA
 refine CK.forN' (fun cW x14 σ_ w_=>∃ (U_:PHeap),σ_ 7=jV (↑cW:Int)/\σ_ 1=jV p1/\σ_ 2=.pointer (some ⟨b2,0,none⟩)/\σ_ 4=.pointer (some ⟨b6,0,none⟩)/\σ_ 5=jV (↑p0.Down.length:Int)/\σ_ 6=jV x14/\PHeap.Le U U_/\sW w U U_ [.blk b6 44 B1,.blk b2 54 B0] w_) rG ?_ ?_ ?_
 exact ⟨U,Z,Z,Z,Z,Z,Z,(zX _),iA⟩
 rintro cW x14 uk ur td eu ⟨iZ,ik,jP,jQ,jR,fU,jS,sI,qi⟩ sE
 have fH:Hid ((↑cW:Int) < (↑p0.Down.length:Int)):=zN (wCO eu)
 replace eu:=zN eu
 have rO:Hid (w64 ((↑cW:Int) + 1)=(↑(cW + 1):Int)):=zN (by have h1:=eA.out;have h2:=fH.out;rw [wAM] <;> omega)
 refine zJ (sR fL3 Z (oM Z ik (oM Z fU (oR Z (zo Z Z Z) (eN (cT Z fH (kN (zJ (zi (rR fL3 Z (oM Z jS (oR Z (Runs.mulw Z Z Z) (oA Z Z (zn (zp (zI (rR fL3 Z (oM Z ik (oR Z (ZI (zk Z Z Z) (congrArg (jV) rO.out)) (oA Z Z (zn ?_)))))))))))))))))))))
 cases sE
 exact zI ⟨Z,⟨iZ,Z,jP,jQ,jR,fU,Z,sI,qi⟩⟩
 rintro uv tg ⟨dM,oK,lP,lZ,l3,ge,ma,bm,qq⟩
 have jE:Hid (¬ ((↑(((↑p0.Down.length:Int):Int) - 0).toNat:Int) < (↑p0.Down.length:Int))):=zN (wBi)
 refine zJ (sR fL3 Z (oM Z oK (oM Z ge (oR Z (zo Z Z Z) (eN (cF Z jE (ZS (zq (zq (ZJ (zI (sR (.fl 0 (.fx 1 (.fx 2 .nil .stop) .stop)) Z ?_))))))))))))
 let B2:List Value:=[jV 9,jV 0]
 refine oR Z (ZM (pv:=[(0,jV 9)]) (z:=B1) (cs:=B2) Z (wAR Z wAo) zw wBl Z Z) (zx (cs:=B1) Z Z Z Z Z zw Z qq ?_)
 intro tq av qw
 refine zt (j:=0) (vs:=B2) Z Z Z Z qw Z Z Z Z zH (zC Z) Z Z Z ?_
 intro jc qA
 have qB:sW w U dM [.blk av 44 B2,.blk b6 44 B1,.blk b2 54 B0] jc:=qA
 refine eN (zJ (sR fL1 Z (oA Z Z (eN (zi ?_)))))
 have q:=bnd sc
 obtain ⟨⟨sV,sX⟩,rH,iH⟩:=q
 try dsimp only at iH
 have q:=wCQ rH
 obtain ⟨eC,rI⟩:=q
 replace eC:=zN eC
 refine CK.forN' (fun aR (bP,x69) σ_ w_=>∃ (U_:PHeap),σ_ 9=jV (↑aR:Int)/\σ_ 1=jV p1/\σ_ 2=.pointer (some ⟨b2,0,none⟩)/\σ_ 4=.pointer (some ⟨b6,0,none⟩)/\σ_ 5=jV (↑p0.Down.length:Int)/\σ_ 6=jV aU/\σ_ 8=.pointer (some ⟨av,0,none⟩)/\PHeap.Le dM U_/\sW w U U_ [.blk av 44 [jV bP,jV x69],.blk b6 44 B1,.blk b2 54 B0] w_) rI ?_ ?_ ?_
 exact ⟨dM,Z,lP,lZ,l3,ge,ma,Z,(zX _),qB⟩
 rintro aR ⟨bP,x69⟩ ul uF ft ey ⟨ap,bo,bt,bl,bu,bv,bn,bw,bf,ru⟩ iL
 try dsimp only at iL
 have fP:Hid ((↑aR:Int) < aU):=zN (wCO ey)
 replace ey:=zN ey
 have dE:Hid (w64 ((↑aR:Int) + 1)=(↑(aR + 1):Int)):=zN (by have h1:=eC.out;have h2:=fP.out;rw [wAM] <;> omega)
 refine zJ (sR fL3 Z (oM Z bo (oM Z bn (oR Z (zo Z Z Z) (eN (cT Z fP (kN (zJ (zi ?_)))))))))
 have q:=bnd iL
 obtain ⟨⟨aZ,eH⟩,sD,iG⟩:=q
 try dsimp only at iG
 let B3:Res:=.blk av 44 [jV bP,jV x69]
 refine yB (fun σ_ w_=>∃ (U_:PHeap) (bb:Nat) (bi:Option Addr) (bj:Nat) (ba:Option Addr) (be:Nat),σ_ 1=jV p1/\σ_ 2=.pointer (some ⟨b2,0,none⟩)/\σ_ 4=.pointer (some ⟨b6,0,none⟩)/\σ_ 5=jV (↑p0.Down.length:Int)/\σ_ 6=jV aU/\σ_ 8=.pointer (some ⟨av,0,none⟩)/\σ_ 9=jV (↑aR:Int)/\σ_ 10=.pointer (some ⟨bb,0,none⟩)/\PHeap.Le ap U_/\sW w U U_ [B3,.blk b6 44 B1,.blk b2 54 B0,.blk bb 54 [.slice bi aZ.length bj,.slice ba eH.length be,.slice ak p0.Across.length am],.row bi bj 3 1 (hH KL.encI aZ),.row ba be 3 1 (hH KL.encI eH)] w_) ?_ ?_
 refine bnK sD fun x111 dB r8=>bnK r8 fun aQ ip r9=>ZN ZO [2,3,1,2,2,3,1,2,3,1,3,2,0] (.fl 1 (.fl 2 (.fl 5 (.fl 6 (.fl 8 (.fl 9 (.fx 0 (.fx 3 (.fx 4 gCx (.fx 11 gCq .stop)) (.fx 4 gDa (.fx 11 gDb .stop))) (.fx 4 (.fx 0 gDa (.fx 11 gCy .stop)) (.fx 11 (.fx 0 gDb (.fx 4 gCy .stop)) .stop))))))))) (by kernel_rfl) ?_
 have bN:=ru.drew
 generalize hw_W146:({ ft with drawn:=ft.drawn + 1 }:World)=tc at bN ⊢
 refine Zb (s:=.nil) (M:=fun σ_ w_=>∃ (U_:PHeap) (dg:Nat) (bQ:Option Addr) (bY:Nat) (bR:Option Addr) (bZ:Nat),σ_ 1=jV p1/\σ_ 2=.pointer (some ⟨b2,0,none⟩)/\σ_ 4=.pointer (some ⟨b6,0,none⟩)/\σ_ 5=jV (↑p0.Down.length:Int)/\σ_ 6=jV aU/\σ_ 8=.pointer (some ⟨av,0,none⟩)/\σ_ 9=jV (↑aR:Int)/\σ_ 10=.pointer (some ⟨dg,0,none⟩)/\σ_ 33=.pointer (some ⟨b2,0,none⟩)/\σ_ 34=.slice aS p0.Shots.length aT/\σ_ 35=.slice bQ x111.length bY/\σ_ 37=.pointer (some ⟨b2,1,none⟩)/\σ_ 38=.slice aW p0.Down.length aX/\σ_ 39=.slice bR aQ.length bZ/\σ_ 40=.pointer (some ⟨b2,2,none⟩)/\σ_ 41=.slice ak p0.Across.length am/\σ_ 42=.agg #[.slice bQ x111.length bY,.slice bR aQ.length bZ,.slice ak p0.Across.length am]/\PHeap.Le ap U_/\sW w U U_ [B3,.blk b6 44 B1,.blk b2 54 B0,.blk dg 54 [.slice bQ x111.length bY,.slice bR aQ.length bZ,.slice ak p0.Across.length am],.row bQ bY 3 1 (hH KL.encI x111),.row bR bZ 3 1 (hH KL.encI aQ)] w_) ?_ fun iO=>?_
 rintro ut te ⟨i0,dg,bQ,bY,bR,bZ,jU,jW,jX,jY,jZ,j0,j5,j6,tU,tV,tW,tX,tY,tZ,t7,t8,t9,sJ,qj⟩
 refine zn ?_
 cases r9
 exact zI ⟨Z,⟨i0,dg,bQ,bY,bR,bZ,jU,jW,jX,jY,jZ,j0,j5,j6,sJ,qj⟩⟩
 let B4:List Value:=[.slice none 0 0,.slice none 0 0,.slice none 0 0]
 refine Zb (s:=.fx 12 .nil .stop) (M:=fun σ_ w_=>∃ (U_:PHeap) (cC:Nat) (bB:Option Addr) (bH:Nat) (bC:Option Addr) (bI:Nat),σ_ 1=jV p1/\σ_ 2=.pointer (some ⟨b2,0,none⟩)/\σ_ 4=.pointer (some ⟨b6,0,none⟩)/\σ_ 5=jV (↑p0.Down.length:Int)/\σ_ 6=jV aU/\σ_ 8=.pointer (some ⟨av,0,none⟩)/\σ_ 9=jV (↑aR:Int)/\σ_ 10=.pointer (some ⟨cC,0,none⟩)/\σ_ 33=.pointer (some ⟨b2,0,none⟩)/\σ_ 34=.slice aS p0.Shots.length aT/\σ_ 35=.slice bB x111.length bH/\σ_ 37=.pointer (some ⟨b2,1,none⟩)/\σ_ 38=.slice aW p0.Down.length aX/\σ_ 39=.slice bC aQ.length bI/\σ_ 40=.pointer (some ⟨b2,2,none⟩)/\σ_ 41=.slice ak p0.Across.length am/\σ_ 42=.agg #[.slice bB x111.length bH,.slice bC aQ.length bI,.slice ak p0.Across.length am]/\PHeap.Le ap U_/\sW w U U_ [B3,.blk b6 44 B1,.blk b2 54 B0,.blk cC 54 B4,.row bB bH 3 1 (hH KL.encI x111),.row bC bI 3 1 (hH KL.encI aQ)] w_) ?_ fun sF=>?_
 rintro uu tf ⟨fb,cC,bB,bH,bC,bI,j7,j8,j9,lf,lg,lh,li,fV,lj,lm,lp,lq,ls,lu,lv,lw,fW,sK,qk⟩
 let B5:List Value:=[.slice bB x111.length bH,.slice bC aQ.length bI,.slice ak p0.Across.length am]
 refine zt (j:=3) (vs:=B5) Z Z Z Z qk Z fV fW Z zz (zC Z) Z Z Z ?_
 intro i8 ql
 have qm:sW w U fb [B3,.blk b6 44 B1,.blk b2 54 B0,.blk cC 54 B5,.row bB bH 3 1 (hH KL.encI x111),.row bC bI 3 1 (hH KL.encI aQ)] i8:=ql
 exact iO _ _ ⟨fb,cC,bB,bH,bC,bI,j7,j8,j9,lf,lg,lh,li,fV,lj,lm,lp,lq,ls,lu,lv,lw,fW,sK,qm⟩
 refine Zb (s:=gCd) (M:=fun σ_ w_=>∃ (U_:PHeap) (cD:Nat) (bD:Option Addr) (bJ:Nat) (bE:Option Addr) (bK:Nat),σ_ 1=jV p1/\σ_ 2=.pointer (some ⟨b2,0,none⟩)/\σ_ 4=.pointer (some ⟨b6,0,none⟩)/\σ_ 5=jV (↑p0.Down.length:Int)/\σ_ 6=jV aU/\σ_ 8=.pointer (some ⟨av,0,none⟩)/\σ_ 9=jV (↑aR:Int)/\σ_ 10=.pointer (some ⟨cD,0,none⟩)/\σ_ 33=.pointer (some ⟨b2,0,none⟩)/\σ_ 34=.slice aS p0.Shots.length aT/\σ_ 35=.slice bD x111.length bJ/\σ_ 37=.pointer (some ⟨b2,1,none⟩)/\σ_ 38=.slice aW p0.Down.length aX/\σ_ 39=.slice bE aQ.length bK/\σ_ 40=.pointer (some ⟨b2,2,none⟩)/\σ_ 41=.slice ak p0.Across.length am/\PHeap.Le ap U_/\sW w U U_ [B3,.blk b6 44 B1,.blk b2 54 B0,.blk cD 54 B4,.row bD bJ 3 1 (hH KL.encI x111),.row bE bK 3 1 (hH KL.encI aQ)] w_) ?_ fun sG=>?_
 rintro uw th ⟨fc,cD,bD,bJ,bE,bK,lx,ly,lz,lA,lB,lC,lD,fY,lE,lF,fZ,lG,lH,ga,lI,gb,sL,qn⟩
 let B6:List Value:=[.slice bD x111.length bJ,.slice bE aQ.length bK,.slice ak p0.Across.length am]
 refine oR Z (ZM (pv:=[(0,.slice bD x111.length bJ),(1,.slice bE aQ.length bK),(2,.slice ak p0.Across.length am)]) (z:=B4) (cs:=B6) Z (wAR fZ (wAR ga (wAR gb wAo))) ZF wGQ Z Z) (zt (j:=3) (vs:=B6) Z Z Z Z qn Z fY Z Z zz (zC Z) Z Z Z ?_)
 intro i9 qo
 have qp:sW w U fc [B3,.blk b6 44 B1,.blk b2 54 B0,.blk cD 54 B6,.row bD bJ 3 1 (hH KL.encI x111),.row bE bK 3 1 (hH KL.encI aQ)] i9:=qo
 exact iO _ _ ⟨fc,cD,bD,bJ,bE,bK,lx,ly,lz,lA,lB,lC,lD,fY,lE,lF,fZ,lG,lH,ga,lI,gb,Z,sL,qp⟩
 refine Zb (s:=gCk) (M:=fun σ_ w_=>∃ (U_:PHeap) (cE:Nat) (cw:Option Addr) (cN:Nat) (dT:Nat),σ_ 1=jV p1/\σ_ 2=.pointer (some ⟨b2,0,none⟩)/\σ_ 4=.pointer (some ⟨b6,0,none⟩)/\σ_ 5=jV (↑p0.Down.length:Int)/\σ_ 6=jV aU/\σ_ 8=.pointer (some ⟨av,0,none⟩)/\σ_ 9=jV (↑aR:Int)/\σ_ 10=.pointer (some ⟨cE,0,none⟩)/\σ_ 33=.pointer (some ⟨b2,0,none⟩)/\σ_ 34=.slice aS p0.Shots.length aT/\σ_ 35=.slice cw x111.length cN/\σ_ 36=.slice (some ⟨dT,0,none⟩) (([]:List Int).length) 0/\σ_ 37=.pointer (some ⟨b2,1,none⟩)/\σ_ 38=.slice aW p0.Down.length aX/\σ_ 40=.pointer (some ⟨b2,2,none⟩)/\σ_ 41=.slice ak p0.Across.length am/\PHeap.Le ap U_/\sW w U U_ [B3,.blk b6 44 B1,.blk b2 54 B0,.blk cE 54 B4,.row cw cN 3 1 (hH KL.encI x111),.row (some ⟨dT,0,none⟩) 0 3 1 (hH KL.encI ([]:List Int))] w_) ?_ fun eF=>?_
 rintro ux tj ⟨fd,cE,cw,cN,dT,lJ,lK,lL,lM,lN,lO,lQ,lR,lS,lT,lU,lV,lW,gc,lX,lY,iV,iy⟩
 have pb:=en.le bm
 have pc:=pb.le bf
 have pe:=pc.le iV
 refine Zt (j:=5) (enc:=KL.encI) (ys:=p0.Down) (zs:=aQ) Z Z Z Z Z Zd wFr Z Z Z Z Z Z iy Z lV gc (iy.srcS pe) (fun _=>Z) ip ?_
 intro eO fJ ja qr
 have qt:sW w U fd [B3,.blk b6 44 B1,.blk b2 54 B0,.blk cE 54 B4,.row cw cN 3 1 (hH KL.encI x111),.row eO fJ 3 1 (hH KL.encI aQ)] ja:=qr
 exact sG _ _ ⟨fd,cE,cw,cN,eO,fJ,lJ,lK,lL,lM,lN,lO,lQ,lR,lS,lT,lU,lW,gc,Z,lX,lY,iV,qt⟩
 refine Zb (s:=gCj) (M:=fun σ_ w_=>∃ (U_:PHeap) (bS:Option Addr) (b5:Nat) (bT:Option Addr) (b9:Nat),σ_ 1=jV p1/\σ_ 2=.pointer (some ⟨b2,0,none⟩)/\σ_ 4=.pointer (some ⟨b6,0,none⟩)/\σ_ 5=jV (↑p0.Down.length:Int)/\σ_ 6=jV aU/\σ_ 8=.pointer (some ⟨av,0,none⟩)/\σ_ 9=jV (↑aR:Int)/\σ_ 33=.pointer (some ⟨b2,0,none⟩)/\σ_ 34=.slice aS p0.Shots.length aT/\σ_ 35=.slice bS x111.length b5/\σ_ 37=.pointer (some ⟨b2,1,none⟩)/\σ_ 38=.slice aW p0.Down.length aX/\σ_ 39=.slice bT aQ.length b9/\σ_ 40=.pointer (some ⟨b2,2,none⟩)/\σ_ 41=.slice ak p0.Across.length am/\PHeap.Le ap U_/\sW w U U_ [B3,.blk b6 44 B1,.blk b2 54 B0,.row bS b5 3 1 (hH KL.encI x111),.row bT b9 3 1 (hH KL.encI aQ)] w_) ?_ fun sH=>?_
 rintro uy tn ⟨i5,bS,b5,bT,b9,l4,l5,l6,l7,l8,l9,mb,md,mf,gf,mg,mh,gg,mi,gh,sM,qu⟩
 refine oR Z (ZM (pv:=[(0,.slice bS x111.length b5),(1,.slice bT aQ.length b9),(2,.slice ak p0.Across.length am)]) (z:=B4) (cs:=[.slice bS x111.length b5,.slice bT aQ.length b9,.slice ak p0.Across.length am]) Z (wAR gf (wAR gg (wAR gh wAo))) ZF wGQ Z Z) (zx (cs:=B4) Z Z Z Z Z ZF Z qu ?_)
 intro tp jv qv
 exact sF _ _ ⟨i5,jv,bS,b5,bT,b9,l4,l5,l6,l7,l8,l9,mb,rfl,md,mf,gf,mg,mh,gg,mi,gh,rfl,sM,(qv.pick [1,2,3,0,4,5] _ (by decide) rfl)⟩
 refine Zb (s:=gCr) (M:=fun σ_ w_=>∃ (U_:PHeap) (cG:Nat) (dU:Nat) (cH:Nat),σ_ 1=jV p1/\σ_ 2=.pointer (some ⟨b2,0,none⟩)/\σ_ 4=.pointer (some ⟨b6,0,none⟩)/\σ_ 5=jV (↑p0.Down.length:Int)/\σ_ 6=jV aU/\σ_ 8=.pointer (some ⟨av,0,none⟩)/\σ_ 9=jV (↑aR:Int)/\σ_ 10=.pointer (some ⟨cG,0,none⟩)/\σ_ 32=.slice (some ⟨dU,0,none⟩) (([]:List Int).length) 0/\σ_ 33=.pointer (some ⟨b2,0,none⟩)/\σ_ 34=.slice aS p0.Shots.length aT/\σ_ 36=.slice (some ⟨cH,0,none⟩) (([]:List Int).length) 0/\σ_ 37=.pointer (some ⟨b2,1,none⟩)/\σ_ 38=.slice aW p0.Down.length aX/\σ_ 40=.pointer (some ⟨b2,2,none⟩)/\σ_ 41=.slice ak p0.Across.length am/\PHeap.Le ap U_/\sW w U U_ [B3,.blk b6 44 B1,.blk b2 54 B0,.blk cG 54 B4,.row (some ⟨dU,0,none⟩) 0 3 1 (hH KL.encI ([]:List Int)),.row (some ⟨cH,0,none⟩) 0 3 1 (hH KL.encI ([]:List Int))] w_) ?_ fun eG=>?_
 rintro uz tr ⟨ff,cG,dU,cH,mn,mp,mq,mr,ms,mu,mw,my,mz,mA,gi,mB,mC,mD,mE,mF,iW,iz⟩
 have pf:=cq.le bm
 have pg:=pf.le bf
 have ph:=pg.le iW
 refine Zt (j:=4) (enc:=KL.encI) (ys:=p0.Shots) (zs:=x111) Z Z Z Z Z Zd wFr Z Z Z Z Z Z iz Z mz gi (iz.srcS ph) (fun _=>Z) dB ?_
 intro eP fK jb qx
 have qy:sW w U ff [B3,.blk b6 44 B1,.blk b2 54 B0,.blk cG 54 B4,.row eP fK 3 1 (hH KL.encI x111),.row (some ⟨cH,0,none⟩) 0 3 1 (hH KL.encI ([]:List Int))] jb:=qx
 exact eF _ _ ⟨ff,cG,eP,fK,cH,mn,mp,mq,mr,ms,mu,mw,my,mA,gi,Z,mB,mC,mD,mE,mF,iW,qy⟩
 refine Zb (s:=gCq) (M:=fun σ_ w_=>∃ (U_:PHeap) (cI:Nat) (cy:Option Addr) (cO:Nat),σ_ 1=jV p1/\σ_ 2=.pointer (some ⟨b2,0,none⟩)/\σ_ 4=.pointer (some ⟨b6,0,none⟩)/\σ_ 5=jV (↑p0.Down.length:Int)/\σ_ 6=jV aU/\σ_ 8=.pointer (some ⟨av,0,none⟩)/\σ_ 9=jV (↑aR:Int)/\σ_ 10=.pointer (some ⟨cI,0,none⟩)/\σ_ 33=.pointer (some ⟨b2,0,none⟩)/\σ_ 34=.slice aS p0.Shots.length aT/\σ_ 35=.slice cy x111.length cO/\σ_ 37=.pointer (some ⟨b2,1,none⟩)/\σ_ 38=.slice aW p0.Down.length aX/\σ_ 40=.pointer (some ⟨b2,2,none⟩)/\σ_ 41=.slice ak p0.Across.length am/\PHeap.Le ap U_/\sW w U U_ [B3,.blk b6 44 B1,.blk b2 54 B0,.blk cI 54 B4,.row cy cO 3 1 (hH KL.encI x111)] w_) ?_ fun iP=>?_
 rintro uA tu ⟨fg,cI,cy,cO,mG,mH,mI,mJ,mK,mL,mM,mN,mO,mP,mQ,mR,mS,mT,mU,sO,qz⟩
 refine ZU 1 Z Z Z Z Z zA zD qz ?_
 intro jd fy qC
 have qD:sW w U fg [.row (some ⟨fy,0,none⟩) 0 3 1 (hH KL.encI ([]:List Int)),B3,.blk b6 44 B1,.blk b2 54 B0,.blk cI 54 B4,.row cy cO 3 1 (hH KL.encI x111)] jd:=qC
 exact eF _ _ ⟨fg,cI,cy,cO,fy,mG,mH,mI,mJ,mK,mL,mM,mN,mO,mP,mQ,rfl,mR,mS,mT,mU,sO,(qD.pick [1,2,3,4,5,0] _ (by decide) rfl)⟩
 refine Zb (s:=gCx) (M:=fun σ_ w_=>∃ (U_:PHeap) (bU:Option Addr) (cf:Nat) (dh:Nat),σ_ 1=jV p1/\σ_ 2=.pointer (some ⟨b2,0,none⟩)/\σ_ 4=.pointer (some ⟨b6,0,none⟩)/\σ_ 5=jV (↑p0.Down.length:Int)/\σ_ 6=jV aU/\σ_ 8=.pointer (some ⟨av,0,none⟩)/\σ_ 9=jV (↑aR:Int)/\σ_ 33=.pointer (some ⟨b2,0,none⟩)/\σ_ 34=.slice aS p0.Shots.length aT/\σ_ 35=.slice bU x111.length cf/\σ_ 36=.slice (some ⟨dh,0,none⟩) (([]:List Int).length) 0/\σ_ 37=.pointer (some ⟨b2,1,none⟩)/\σ_ 38=.slice aW p0.Down.length aX/\σ_ 40=.pointer (some ⟨b2,2,none⟩)/\σ_ 41=.slice ak p0.Across.length am/\PHeap.Le ap U_/\sW w U U_ [B3,.blk b6 44 B1,.blk b2 54 B0,.row bU cf 3 1 (hH KL.encI x111),.row (some ⟨dh,0,none⟩) 0 3 1 (hH KL.encI ([]:List Int))] w_) ?_ fun iQ=>?_
 rintro uB tv ⟨dO,bU,cf,dh,gj,gm,gp,gq,gt,gu,gv,gw,gx,gy,gz,gA,d6,gB,gC,eJ,ef⟩
 refine Zc ?_ ?_
 have pi:=en.le bm
 have pj:=pi.le bf
 have pk:=pj.le eJ
 refine Zt (j:=4) (enc:=KL.encI) (ys:=p0.Down) (zs:=aQ) Z Z Z Z Z Zd wFr Z Z Z Z Z Z ef Z gz d6 (ef.srcS pk) (fun _=>Z) ip ?_
 intro eQ fL je qE
 have qF:sW w U dO [B3,.blk b6 44 B1,.blk b2 54 B0,.row bU cf 3 1 (hH KL.encI x111),.row eQ fL 3 1 (hH KL.encI aQ)] je:=qE
 exact sH _ _ ⟨dO,bU,cf,eQ,fL,gj,gm,gp,gq,gt,gu,gv,gw,gx,gy,gA,d6,Z,gB,gC,eJ,qF⟩
 refine zx (cs:=B4) Z Z Z Z Z ZF Z ef ?_
 intro tw jw qG
 exact eF _ _ ⟨dO,jw,bU,cf,dh,gj,gm,gp,gq,gt,gu,gv,rfl,gw,gx,gy,gz,gA,d6,gB,gC,eJ,(qG.pick [1,2,3,0,4,5] _ (by decide) rfl)⟩
 refine Zb (s:=gCy) (M:=fun σ_ w_=>∃ (U_:PHeap) (cJ:Nat) (cK:Nat),σ_ 1=jV p1/\σ_ 2=.pointer (some ⟨b2,0,none⟩)/\σ_ 4=.pointer (some ⟨b6,0,none⟩)/\σ_ 5=jV (↑p0.Down.length:Int)/\σ_ 6=jV aU/\σ_ 8=.pointer (some ⟨av,0,none⟩)/\σ_ 9=jV (↑aR:Int)/\σ_ 10=.pointer (some ⟨cJ,0,none⟩)/\σ_ 33=.pointer (some ⟨b2,0,none⟩)/\σ_ 34=.slice aS p0.Shots.length aT/\σ_ 36=.slice (some ⟨cK,0,none⟩) (([]:List Int).length) 0/\σ_ 37=.pointer (some ⟨b2,1,none⟩)/\σ_ 38=.slice aW p0.Down.length aX/\σ_ 40=.pointer (some ⟨b2,2,none⟩)/\σ_ 41=.slice ak p0.Across.length am/\PHeap.Le ap U_/\sW w U U_ [B3,.blk b6 44 B1,.blk b2 54 B0,.blk cJ 54 B4,.row (some ⟨cK,0,none⟩) 0 3 1 (hH KL.encI ([]:List Int))] w_) ?_ fun iR=>?_
 rintro uC tz ⟨fh,cJ,cK,mV,mW,mX,mY,mZ,m4,m5,m6,m7,m8,m9,n5,n6,n7,n9,sP,qH⟩
 refine ZU 1 Z Z Z Z Z zA zD qH ?_
 intro jf fz qI
 have qJ:sW w U fh [.row (some ⟨fz,0,none⟩) 0 3 1 (hH KL.encI ([]:List Int)),B3,.blk b6 44 B1,.blk b2 54 B0,.blk cJ 54 B4,.row (some ⟨cK,0,none⟩) 0 3 1 (hH KL.encI ([]:List Int))] jf:=qI
 exact eG _ _ ⟨fh,cJ,fz,cK,mV,mW,mX,mY,mZ,m4,m5,m6,rfl,m7,m8,m9,n5,n6,n7,n9,sP,(qJ.pick [1,2,3,4,0,5] _ (by decide) rfl)⟩
 refine Zb (s:=gDb) (M:=fun σ_ w_=>∃ (U_:PHeap) (bF:Nat) (cM:Nat),σ_ 1=jV p1/\σ_ 2=.pointer (some ⟨b2,0,none⟩)/\σ_ 4=.pointer (some ⟨b6,0,none⟩)/\σ_ 5=jV (↑p0.Down.length:Int)/\σ_ 6=jV aU/\σ_ 8=.pointer (some ⟨av,0,none⟩)/\σ_ 9=jV (↑aR:Int)/\σ_ 10=.pointer (some ⟨bF,0,none⟩)/\σ_ 32=.slice (some ⟨cM,0,none⟩) (([]:List Int).length) 0/\σ_ 33=.pointer (some ⟨b2,0,none⟩)/\σ_ 34=.slice aS p0.Shots.length aT/\σ_ 37=.pointer (some ⟨b2,1,none⟩)/\σ_ 38=.slice aW p0.Down.length aX/\σ_ 40=.pointer (some ⟨b2,2,none⟩)/\σ_ 41=.slice ak p0.Across.length am/\PHeap.Le ap U_/\sW w U U_ [B3,.blk b6 44 B1,.blk b2 54 B0,.blk bF 54 B4,.row (some ⟨cM,0,none⟩) 0 3 1 (hH KL.encI ([]:List Int))] w_) ?_ fun iT=>?_
 rintro uD tA ⟨df,bF,cM,gD,gE,gF,gG,gH,gI,gJ,gK,gL,gM,d7,gN,gO,gP,gQ,eK,ei⟩
 refine Zc ?_ ?_
 have pn:=cq.le bm
 have po:=pn.le bf
 have pp:=po.le eK
 refine Zt (j:=4) (enc:=KL.encI) (ys:=p0.Shots) (zs:=x111) Z Z Z Z Z Zd wFr Z Z Z Z Z Z ei Z gL d7 (ei.srcS pp) (fun _=>Z) dB ?_
 intro eT fM jg qK
 have qL:sW w U df [B3,.blk b6 44 B1,.blk b2 54 B0,.blk bF 54 B4,.row eT fM 3 1 (hH KL.encI x111)] jg:=qK
 exact iP _ _ ⟨df,bF,eT,fM,gD,gE,gF,gG,gH,gI,gJ,gK,gM,d7,Z,gN,gO,gP,gQ,eK,qL⟩
 refine ZU 1 Z Z Z Z Z zA zD ei ?_
 intro jh fA qM
 have qN:sW w U df [.row (some ⟨fA,0,none⟩) 0 3 1 (hH KL.encI ([]:List Int)),B3,.blk b6 44 B1,.blk b2 54 B0,.blk bF 54 B4,.row (some ⟨cM,0,none⟩) 0 3 1 (hH KL.encI ([]:List Int))] jh:=qM
 exact eG _ _ ⟨df,bF,cM,fA,gD,gE,gF,gG,gH,gI,gJ,gK,gL,gM,d7,rfl,gN,gO,gP,gQ,eK,(qN.pick [1,2,3,4,5,0] _ (by decide) rfl)⟩
 refine Zb (s:=gDa) (M:=fun σ_ w_=>∃ (U_:PHeap) (dm:Nat) (bX:Nat),σ_ 1=jV p1/\σ_ 2=.pointer (some ⟨b2,0,none⟩)/\σ_ 4=.pointer (some ⟨b6,0,none⟩)/\σ_ 5=jV (↑p0.Down.length:Int)/\σ_ 6=jV aU/\σ_ 8=.pointer (some ⟨av,0,none⟩)/\σ_ 9=jV (↑aR:Int)/\σ_ 32=.slice (some ⟨dm,0,none⟩) (([]:List Int).length) 0/\σ_ 33=.pointer (some ⟨b2,0,none⟩)/\σ_ 34=.slice aS p0.Shots.length aT/\σ_ 36=.slice (some ⟨bX,0,none⟩) (([]:List Int).length) 0/\σ_ 37=.pointer (some ⟨b2,1,none⟩)/\σ_ 38=.slice aW p0.Down.length aX/\σ_ 40=.pointer (some ⟨b2,2,none⟩)/\σ_ 41=.slice ak p0.Across.length am/\PHeap.Le ap U_/\sW w U U_ [B3,.blk b6 44 B1,.blk b2 54 B0,.row (some ⟨dm,0,none⟩) 0 3 1 (hH KL.encI ([]:List Int)),.row (some ⟨bX,0,none⟩) 0 3 1 (hH KL.encI ([]:List Int))] w_) ?_ fun iU=>?_
 rintro uE tB ⟨dP,dm,bX,gR,gS,gT,gU,gW,gX,gZ,g6,g7,d8,g8,g9,ib,ic,ie,eL,ej⟩
 refine Zc ?_ ?_
 have pq:=cq.le bm
 have pt:=pq.le bf
 have pu:=pt.le eL
 refine Zt (j:=3) (enc:=KL.encI) (ys:=p0.Shots) (zs:=x111) Z Z Z Z Z Zd wFr Z Z Z Z Z Z ej Z g6 d8 (ej.srcS pu) (fun _=>Z) dB ?_
 intro eU fN ji qO
 have qP:sW w U dP [B3,.blk b6 44 B1,.blk b2 54 B0,.row eU fN 3 1 (hH KL.encI x111),.row (some ⟨bX,0,none⟩) 0 3 1 (hH KL.encI ([]:List Int))] ji:=qO
 exact iQ _ _ ⟨dP,eU,fN,bX,gR,gS,gT,gU,gW,gX,gZ,g7,d8,Z,g8,g9,ib,ic,ie,eL,qP⟩
 refine zx (cs:=B4) Z Z Z Z Z ZF Z ej ?_
 intro tC jx qQ
 exact eG _ _ ⟨dP,jx,dm,bX,gR,gS,gT,gU,gW,gX,gZ,rfl,g6,g7,d8,g8,g9,ib,ic,ie,eL,(qQ.pick [1,2,3,0,4,5] _ (by decide) rfl)⟩
 refine oR Z (zK Z bl zY Z zZ) (oL Z (bN.ldB (j:=2) Z Z Z zd (v:=.slice aS p0.Shots.length aT) Z) (oR Z (zK Z bl zY Z zZ) (oL Z (bN.ldB (j:=2) Z Z Z zd (v:=.slice aW p0.Down.length aX) Z) (oR Z (zK Z bl zY Z Zr) (oL Z (bN.ldB (j:=2) Z Z Z Zw (v:=.slice ak p0.Across.length am) Z) (Zc ?_ ?_))))))
 refine ZU 1 Z Z Z Z Z zA zD bN ?_
 intro jj dV qR
 let B7:Res:=.row (some ⟨dV,0,none⟩) 0 3 1 (hH KL.encI ([]:List Int))
 have dD:sW w U ap [B7,B3,.blk b6 44 B1,.blk b2 54 B0] jj:=qR
 refine Zc ?_ ?_
 have py:=cq.le bm
 have pz:=py.le bf
 refine Zt (j:=0) (enc:=KL.encI) (ys:=p0.Shots) (zs:=x111) Z Z Z Z Z Zd wFr Z Z Z Z Z Z dD Z Z Z (dD.srcS pz) (fun _=>Z) dB ?_
 intro dH dZ jk qS
 let B8:Res:=.row dH dZ 3 1 (hH KL.encI x111)
 have iB:sW w U ap [B8,B3,.blk b6 44 B1,.blk b2 54 B0] jk:=qS
 refine Zc ?_ ?_
 refine ZU 1 Z Z Z Z Z zA zD iB ?_
 intro jl fB qT
 have qU:sW w U ap [.row (some ⟨fB,0,none⟩) 0 3 1 (hH KL.encI ([]:List Int)),B8,B3,.blk b6 44 B1,.blk b2 54 B0] jl:=qT
 exact iQ _ _ ⟨ap,dH,dZ,fB,bt,bl,bu,bv,bn,bw,bo,rfl,rfl,rfl,rfl,rfl,rfl,rfl,rfl,(zX _),(qU.pick [2,3,4,1,0] _ (by decide) rfl)⟩
 refine zx (cs:=B4) Z Z Z Z Z ZF Z iB ?_
 intro tD jy qV
 exact iP _ _ ⟨ap,jy,dH,dZ,bt,bl,bu,bv,bn,bw,bo,rfl,rfl,rfl,rfl,rfl,rfl,rfl,rfl,(zX _),(qV.pick [2,3,4,0,1] _ (by decide) rfl)⟩
 refine Zc ?_ ?_
 refine ZU 1 Z Z Z Z Z zA zD dD ?_
 intro jm fC qW
 have qX:sW w U ap [.row (some ⟨fC,0,none⟩) 0 3 1 (hH KL.encI ([]:List Int)),B7,B3,.blk b6 44 B1,.blk b2 54 B0] jm:=qW
 exact iU _ _ ⟨ap,dV,fC,bt,bl,bu,bv,bn,bw,bo,rfl,rfl,rfl,rfl,rfl,rfl,rfl,rfl,(zX _),(qX.pick [2,3,4,1,0] _ (by decide) rfl)⟩
 refine zx (cs:=B4) Z Z Z Z Z ZF Z dD ?_
 intro tE jz qY
 exact iT _ _ ⟨ap,jz,dV,bt,bl,bu,bv,bn,bw,bo,rfl,rfl,rfl,rfl,rfl,rfl,rfl,rfl,(zX _),(qY.pick [2,3,4,0,1] _ (by decide) rfl)⟩
 refine Zc ?_ ?_
 refine ZU 1 Z Z Z Z Z zA zD bN ?_
 intro jo dW qZ
 let B9:Res:=.row (some ⟨dW,0,none⟩) 0 3 1 (hH KL.encI ([]:List Int))
 have iC:sW w U ap [B9,B3,.blk b6 44 B1,.blk b2 54 B0] jo:=qZ
 refine Zc ?_ ?_
 refine ZU 1 Z Z Z Z Z zA zD iC ?_
 intro jp fD rc
 have re:sW w U ap [.row (some ⟨fD,0,none⟩) 0 3 1 (hH KL.encI ([]:List Int)),B9,B3,.blk b6 44 B1,.blk b2 54 B0] jp:=rc
 exact iU _ _ ⟨ap,fD,dW,bt,bl,bu,bv,bn,bw,bo,rfl,rfl,rfl,rfl,rfl,rfl,rfl,rfl,(zX _),(re.pick [2,3,4,0,1] _ (by decide) rfl)⟩
 refine zx (cs:=B4) Z Z Z Z Z ZF Z iC ?_
 intro tF jA ri
 exact iR _ _ ⟨ap,jA,dW,bt,bl,bu,bv,bn,bw,bo,rfl,rfl,rfl,rfl,rfl,rfl,rfl,rfl,(zX _),(ri.pick [2,3,4,0,1] _ (by decide) rfl)⟩
 refine zx (cs:=B4) Z Z Z Z Z ZF Z bN ?_
 intro tG dp iE
 refine Zc ?_ ?_
 refine ZU 1 Z Z Z Z Z zA zD iE ?_
 intro jq fE rj
 have rn:sW w U ap [.row (some ⟨fE,0,none⟩) 0 3 1 (hH KL.encI ([]:List Int)),.blk dp 54 B4,B3,.blk b6 44 B1,.blk b2 54 B0] jq:=rj
 exact iT _ _ ⟨ap,dp,fE,bt,bl,bu,bv,bn,bw,bo,rfl,rfl,rfl,rfl,rfl,rfl,rfl,rfl,(zX _),(rn.pick [2,3,4,1,0] _ (by decide) rfl)⟩
 refine ZU 1 Z Z Z Z Z zA zD iE ?_
 intro jr fG ro
 have rp:sW w U ap [.row (some ⟨fG,0,none⟩) 0 3 1 (hH KL.encI ([]:List Int)),.blk dp 54 B4,B3,.blk b6 44 B1,.blk b2 54 B0] jr:=ro
 exact iR _ _ ⟨ap,dp,fG,bt,bl,bu,bv,bn,bw,bo,rfl,rfl,rfl,rfl,rfl,rfl,rfl,rfl,(zX _),(rp.pick [2,3,4,1,0] _ (by decide) rfl)⟩
 rintro uG tH ⟨fj,bb,bi,bj,ba,be,oa,oc,od,oe,og,oh,ig,oi,br,rt⟩
 refine sR fL3 Z (oM Z ig (oA Z Z (oA Z Z (eN (sR fL1 Z (oA Z Z (eN (zJ (sR fL1 Z (oA Z Z (eN (zi ?_))))))))))))
 have q:=bnd iG
 obtain ⟨⟨ct,uo,cu,up⟩,rJ,iI⟩:=q
 try dsimp only at iI
 have q:=wCQ rJ
 obtain ⟨eE,rK⟩:=q
 replace eE:=zN eE
 let bV:Res:=.row bi bj 3 1 (hH KL.encI aZ)
 refine CK.forN' (fun bg (aV,iX,eM,dX) σ_ w_=>∃ (U_:PHeap),σ_ 14=jV (↑bg:Int)/\σ_ 1=jV p1/\σ_ 2=.pointer (some ⟨b2,0,none⟩)/\σ_ 4=.pointer (some ⟨b6,0,none⟩)/\σ_ 5=jV (↑p0.Down.length:Int)/\σ_ 6=jV aU/\σ_ 8=.pointer (some ⟨av,0,none⟩)/\σ_ 9=jV (↑aR:Int)/\σ_ 10=.pointer (some ⟨bb,0,none⟩)/\σ_ 11=jV iX/\σ_ 12=jV eM/\σ_ 13=.bool dX/\PHeap.Le fj U_/\sW w U U_ [B3,.blk b6 44 B1,.blk b2 54 B0,bV,.row ba be 3 1 (hH KL.encI aV),.blk bb 54 [.slice bi aZ.length bj,.slice ba aV.length be,.slice ak p0.Across.length am]] w_/\aV.length=eH.length) rK ?_ ?_ ?_
 exact ⟨fj,rfl,oa,oc,od,oe,og,oh,ig,oi,rfl,rfl,rfl,(zX _),(rt.pick [0,1,2,4,5,3] _ (by decide) rfl),rfl⟩
 rintro bg ⟨aV,iX,eM,dX⟩ um uH jt ez ⟨cA,bM,cQ,cj,du,cR,dw,dx,dy,dz,ii,dA,oj,dG,bO,pA⟩ iM
 try dsimp only at iM
 have fO:Hid ((↑bg:Int) < (↑p0.Down.length:Int)):=zN (wCO ez)
 replace ez:=zN ez
 have rP:Hid (w64 ((↑bg:Int) + 1)=(↑(bg + 1):Int)):=zN (by have h1:=eE.out;have h2:=fO.out;rw [wAM] <;> omega)
 refine zJ (sR fL3 Z (oM Z bM (oM Z cR (oR Z (zo Z Z Z) (eN (cT Z fO (kN (zJ (zi (sR fL3 Z (oM Z ii (bnK iM fun cY pC sd=>oR Z (Runs.rem Z Z Z pC) (oA Z Z (eN (sR fL3 Z (oM Z ii (bnK sd fun sT pD sf=>oR Z (Runs.quo Z Z Z pD) (oA Z Z (eN (bnK sf fun jB iN sg=>?_))))))))))))))))))))
 let cZ:Res:=.blk bb 54 [.slice bi aZ.length bj,.slice ba aV.length be,.slice ak p0.Across.length am]
 let eV:Res:=.row ba be 3 1 (hH KL.encI aV)
 refine yB (fun σ_ w_=>∃ (U_:PHeap),σ_ 1=jV p1/\σ_ 2=.pointer (some ⟨b2,0,none⟩)/\σ_ 4=.pointer (some ⟨b6,0,none⟩)/\σ_ 5=jV (↑p0.Down.length:Int)/\σ_ 6=jV aU/\σ_ 8=.pointer (some ⟨av,0,none⟩)/\σ_ 9=jV (↑aR:Int)/\σ_ 10=.pointer (some ⟨bb,0,none⟩)/\σ_ 11=jV sT/\σ_ 12=jV eM/\σ_ 13=.bool jB/\σ_ 14=jV (↑bg:Int)/\σ_ 15=jV cY/\PHeap.Le cA U_/\sW w U U_ [B3,.blk b6 44 B1,.blk b2 54 B0,bV,eV,cZ] w_) ?_ ?_
 refine rR (wQV (.fx 17 (wRz (.nil)) .stop)) Z (oM Z oj (oM Z Z ?_))
 by_cases az:dX=true
 have iJ:=iN;rw [if_pos az] at iJ;replace az:=zN az
 refine zW Z Z Z (zE Z Z (congrArg nA az.out)) Z Z (zV Z Z Z (zE Z Z (congrArg nA az.out)) (fun _=>zK Z cj zY Z zZ) (zy Z Z Z (zE Z Z (congrArg nA az.out)) (bO.ldB (j:=2) Z Z Z zd (v:=.slice aW p0.Down.length aX) Z) Z (zW Z Z Z (zE Z Z (congrArg nA az.out)) Z bM (bnK iJ fun sU iq sj=>?_))))
 have pE:=en.le bm
 have pF:=pE.le bf
 have pG:=pF.le br
 have ir:=pG.le dG
 have q:=ir.el (fun _=>rfl) (wAV iq)
 obtain ⟨tO,uf,pT,pX⟩:=q
 refine zV Z Z Z (zE Z Z (congrArg nA az.out)) (fun _=>Ze Z Z pT Z zA zD (wCd iq)) (zy Z Z Z (zE Z Z (congrArg nA az.out)) (bO.ldC (f:=0) pX (v:=jV sU) Z Z zO Z) Z (zV Z Z Z (zE Z Z (congrArg nA az.out)) (fun _=>Runs.leq Z Z Z) (oR Z (zU Z (congrArg nA az.out) Z) (oM Z Z (ifc sj ?_ ?_)))))
 intro bh sn
 refine zW Z Z Z (wT Z bh) Z Z (rU Z (wT Z bh) (Zg Z Z Z) (zW Z Z Z (wT Z bh) Z Z (ifc sn ?_ ?_)))
 intro bk sq
 refine oT Z bk (oT Z bk (oT Z bk (ZV Z Z Z (zF Z Z (Zf bk.out) Z) (rU Z (wT Z bh) (zU Z (Zf bk.out) Z) (oR Z (zU Z (Zf bh.out) Z) (oA Z Z (zn ?_)))))))
 cases sq
 exact zI ⟨Z,⟨cA,cQ,cj,du,cR,dw,dx,dy,dz,Z,dA,Z,bM,Z,(zX _),bO⟩⟩
 intro bk ss
 refine zy Z Z Z (wF Z bk) (bO.ldBA (j:=2) Z Z cj ZK zz (vs:=B0) Z Z) Z (zW Z Z Z (wF Z bk) Z cQ (zW Z Z Z (wF Z bk) Z bM ?_))
 have pH:=cq.le bm
 have pI:=pH.le bf
 have pJ:=pI.le br
 have pK:=pJ.le dG
 have pL:=iF.le bm
 have pM:=pL.le bf
 have pN:=pM.le br
 have pO:=pN.le dG
 refine bnK ss fun uj pP su=>zM 0 Z Z Z (wF Z bk) (zL Z Z Try.call62 (zB Z (zB Z (zB Z zS))) Z) bO (fun hs=>wBw p0 aS aT aW aX ak am p1 (↑bg:Int) jt cA hs pK ir pO pP) (.inr Z) ?_
 rintro fm sZ uh ju sQ rx ⟨rfl,rfl⟩
 have ry:sW w U fm [B3,.blk b6 44 B1,.blk b2 54 B0,bV,eV,cZ] ju:=rx
 refine rU Z (wT Z bh) (zP Z (zm bk.out) Z) (oR Z (zU Z (Zf bh.out) Z) (oA Z Z (zn ?_)))
 cases su
 exact zI ⟨Z,⟨fm,cQ,cj,du,cR,dw,dx,dy,dz,Z,dA,Z,bM,Z,sQ,ry⟩⟩
 intro bh sw
 refine oF Z bh (oF Z bh (oF Z bh (zG Z Z Z (wAG Z Z Z) (zG Z Z Z (wAG Z Z Z) (zG Z Z Z (wAG Z Z Z) (ZV Z Z Z (wAG Z Z Z) (oF Z bh (oR Z (zP Z (zm bh.out) Z) (oA Z Z (zn ?_))))))))))
 cases sw
 exact zI ⟨Z,⟨cA,cQ,cj,du,cR,dw,dx,dy,dz,Z,dA,Z,bM,Z,(zX _),bO⟩⟩
 have iK:=iN;rw [if_neg az] at iK;replace az:=zN az
 refine zG Z Z Z (zF Z Z (congrArg nA (nB.2 az.out)) Z) (zG Z Z Z (zF Z Z (congrArg nA (nB.2 az.out)) Z) (zG Z Z Z (zF Z Z (congrArg nA (nB.2 az.out)) Z) (zG Z Z Z (zF Z Z (congrArg nA (nB.2 az.out)) Z) (zG Z Z Z (zF Z Z (congrArg nA (nB.2 az.out)) Z) (zG Z Z Z (zF Z Z (congrArg nA (nB.2 az.out)) Z) (zG Z Z Z (zF Z Z (congrArg nA (nB.2 az.out)) Z) (oR Z (zP Z (congrArg nA (nB.2 az.out)) Z) (oM Z Z (oN Z (oN Z (oN Z (zG Z Z Z (wAG Z Z Z) (zG Z Z Z (wAG Z Z Z) (zG Z Z Z (wAG Z Z Z) (ZV Z Z Z (wAG Z Z Z) (oN Z (oR Z (zP Z Z Z) (oA Z Z (zn ?_)))))))))))))))))))
 cases iK
 exact zI ⟨Z,⟨cA,cQ,cj,du,cR,dw,dx,dy,dz,Z,dA,Z,bM,Z,(zX _),bO⟩⟩
 rintro uI fu ⟨dQ,om,oq,ot,ou,ow,ox,oy,d9,oz,oB,oG,eb,ij,sS,rA⟩
 refine zJ (ZN ZO [3,1,3,3,1,3,3,1,3,3,3,0] (wHz (.fx 11 .nil .stop)) (by kernel_rfl) ?_)
 have cp:=rA.drew
 generalize hw_W984:({ fu with drawn:=fu.drawn + 1 }:World)=tI at cp ⊢
 refine oR Z (zK Z d9 zY Z zZ) (oL Z (cp.ldB (j:=5) Z Z Z zd (v:=.slice ba aV.length be) Z) (oM Z eb (oR Z (zK Z d9 zY Z zZ) (oL Z (cp.ldB (j:=5) Z Z Z zd (v:=.slice ba aV.length be) Z) (oM Z eb (bnK sg fun _ cm sA=>?_))))))
 obtain ⟨tP,dC⟩:=cp.rowSome (j:=4) rfl (by rw [wAI (f:=KL.encI) (sz:=1) (fun _=>rfl) aV];have hz:=wAd cm;omega)
 refine oR Z (Ze Z Z dC Z zA zD (wAd cm)) ?_
 have rM:=wDV (xs:=aV) (wAd cm)
 refine zy rfl rfl rfl rfl (cp.ldR (j:=4) rfl dC rfl rfl zO (wDH (sz:=1) (fun _=>rfl) _ _ 0 _ rM (by first | omega | rfl | simp) rfl)) rfl (zW rfl rfl rfl rfl rfl ij (zV rfl rfl rfl rfl (fun _=>ZG rfl rfl rfl) (zV rfl rfl rfl rfl (fun _=>Ze rfl rfl dC rfl zA zD (wAd cm)) ?_)))
 have rN:=wDV (xs:=aV) (wAd cm)
 refine OKS.stR (j:=4) (vs:=[jV (w64 ((gd aV bg) - cY))]) (cs':=hH KL.encI (nE aV bg (w64 ((gd aV bg) - cY)))) rfl rfl rfl rfl cp rfl dC rfl rfl rfl zD (by rw [wAI (f:=KL.encI) (sz:=1) (fun _=>rfl)];have hz:=wAd cm;show _ + 1 <= _;first | omega | (simp only [nJ];omega) | (simp only [nI,nG,nH];omega)) rfl (wEx (sz:=1) (fo:=0) (fun _=>rfl) _ _ _ _ rN (by first | omega | (simp only [nJ];omega) | (simp only [nI,nG,nH];omega)) (zC rfl) rfl) rfl ?_
 intro fw rC
 let dI:Res:=.row ba be 3 1 (hH KL.encI (nE aV bg (w64 ((gd aV bg) - cY))))
 have rD:sW w U dQ [B3,.blk b6 44 B1,.blk b2 54 B0,bV,dI,cZ] fw:=rC
 have rE:sW w U dQ [B3,.blk b6 44 B1,.blk b2 54 B0,bV,dI,.blk bb 54 [.slice bi aZ.length bj,.slice ba ((nE aV bg (w64 ((gd aV bg) - cY))).length) be,.slice ak p0.Across.length am]] fw:=by simpa only [B0,B1,bV,cZ,dI,B3,nK] using rD
 refine eN (rR fL4 Z (oM Z oB (oM Z ij (oR Z (zk Z Z Z) (oA Z Z (zn (zp (zI (rR fL3 Z (oM Z eb (oR Z (ZI (zk Z Z Z) (congrArg (jV) rP.out)) (oA Z Z (zn ?_)))))))))))))
 cases sA
 exact zI ⟨Z,⟨dQ,Z,om,oq,ot,ou,ow,ox,oy,d9,oz,Z,oG,(dG.trans sS),rE,(nK.trans pA)⟩⟩
 rintro uJ s6 ⟨de,oH,bL,cg,dq,cP,dr,ci,dt,fQ,tQ,d4,jG,cr,ed,ua⟩
 have jC:Hid (¬ ((↑(((↑p0.Down.length:Int):Int) - 0).toNat:Int) < (↑p0.Down.length:Int))):=zN (wBi)
 refine zJ (sR fL3 Z (oM Z oH (oM Z cP (oR Z (zo Z Z Z) (eN (cF Z jC (ZS (zq (zq (ZJ (zI (sR (wEX (.fx 4 .nil .stop)) Z (oR Z (zK Z fQ zY Z zZ) (oL Z (ed.ldB (j:=5) Z Z Z zd (v:=.slice bi aZ.length bj) Z) (oM Z bL (bnK iI fun _ cS rQ=>?_))))))))))))))))
 obtain ⟨tJ,it⟩:=ed.rowSome (j:=3) rfl (by rw [wAI (f:=KL.encI) (sz:=1) (fun _=>rfl) aZ];have hz:=wAd cS;omega)
 refine oR Z (ZP Z Z it Z zA zD (wCA cS) (wCB cS)) ?_
 have rL:=wDV (xs:=aZ) (wAd cS)
 refine OKS.stR (j:=3) (vs:=[jV 0]) (cs':=hH KL.encI (nE aZ p1.toNat 0)) rfl rfl rfl rfl ed rfl it rfl rfl rfl zD (by rw [wAI (f:=KL.encI) (sz:=1) (fun _=>rfl)];have hz:=wAd cS;show _ + 1 <= _;first | omega | (simp only [nJ];omega) | (simp only [nI,nG,nH];omega)) rfl (wEx (sz:=1) (fo:=0) (fun _=>rfl) _ _ _ _ rL (by first | omega | (simp only [nJ];omega) | (simp only [nI,nG,nH];omega)) (zC rfl) rfl) rfl ?_
 intro cB pY
 let da:Res:=.row ba be 3 1 (hH KL.encI ct)
 let dJ:Res:=.row bi bj 3 1 (hH KL.encI (nE aZ p1.toNat 0))
 have pZ:sW w U de [B3,.blk b6 44 B1,.blk b2 54 B0,dJ,da,.blk bb 54 [.slice bi aZ.length bj,.slice ba ct.length be,.slice ak p0.Across.length am]] cB:=pY
 let bs:List Value:=[.slice bi ((nE aZ p1.toNat 0).length) bj,.slice ba ct.length be,.slice ak p0.Across.length am]
 have cn:sW w U de [B3,.blk b6 44 B1,.blk b2 54 B0,dJ,da,.blk bb 54 bs] cB:=by simpa only [B0,B1,da,dJ,bs,B3,nK] using pZ
 refine eN (sR (wLg gCc) Z (oM Z jG (oM Z Z (ifc rQ ?_ ?_))))
 intro aY rS
 refine zW Z Z Z (zE Z Z (congrArg nA aY.out)) Z d4 (zV Z Z Z (zE Z Z (congrArg nA aY.out)) (fun _=>zK Z cg zY Z zZ) (zy Z Z Z (zE Z Z (congrArg nA aY.out)) (cn.ldB (j:=2) Z Z Z zd (v:=.slice aS p0.Shots.length aT) Z) Z (zW Z Z Z (zE Z Z (congrArg nA aY.out)) Z bL (bnK rS fun bz bp rT=>?_))))
 have oO:=cq.le bm
 have oP:=oO.le bf
 have oU:=oP.le br
 have im:=oU.le cr
 have q:=im.el (fun _=>rfl) (wAV bp)
 obtain ⟨tK,uc,pQ,pU⟩:=q
 refine zV Z Z Z (zE Z Z (congrArg nA aY.out)) (fun _=>ZP Z Z pQ Z zA zD (wBp bp) (wBs bp)) (zy Z Z Z (zE Z Z (congrArg nA aY.out)) (cn.ldC (f:=0) pU (v:=jV bz) Z Z zO Z) Z (zV Z Z Z (zE Z Z (congrArg nA aY.out)) (fun _=>Runs.leq Z Z Z) (oR Z (zU Z (congrArg nA aY.out) Z) (oM Z Z (ifc rT ?_ ?_)))))
 intro bG rV
 refine zy Z Z Z (wT Z bG) (cn.ldBA (j:=5) Z Z fQ ZK zz (vs:=bs) Z Z) Z ?_
 have q:=cn.freezeR (k:=3) (n:=(nE aZ p1.toNat 0).length) rfl (wAI (f:=KL.encI) (sz:=1) (fun _=>rfl) (nE aZ p1.toNat 0)) (by decide)
 obtain ⟨iY,dF,sB,p7⟩:=q
 have p8:sW w U iY [B3,.blk b6 44 B1,.blk b2 54 B0,da,.blk bb 54 bs] cB:=p7
 have q:=p8.freezeR (k:=3) (n:=ct.length) rfl (wAI (f:=KL.encI) (sz:=1) (fun _=>rfl) ct) (by decide)
 obtain ⟨e8,cX,sC,p9⟩:=q
 have qa:sW w U e8 [B3,.blk b6 44 B1,.blk b2 54 B0,.blk bb 54 bs] cB:=p9
 have oW:=sB.le cX
 have oX:=iF.le bm
 have oY:=oX.le bf
 have o0:=oY.le br
 have o5:=o0.le cr
 have o6:=o5.le dF
 have o7:=o6.le cX
 refine bnK rV fun ui o8 rW=>zM 0 Z Z Z (wT Z bG) (zL Z Z Try.call61 (zB Z (zB Z (zB Z zS))) Z) qa (fun hs=>wBQ (⟨(nE aZ p1.toNat 0),ct,p0.Across⟩:wAC) bi bj ba be ak am (-1) (-1) cB e8 hs oW sC o7 o8) (.inr Z) ?_
 rintro cz sY ug dR eI qb ⟨rfl,rfl⟩
 have iu:sW w U cz [B3,.blk b6 44 B1,.blk b2 54 B0,.blk bb 54 bs] dR:=qb
 refine oR Z (zU Z (Zf bG.out) Z) (eN (ifc rW ?_ ?_))
 intro dY rX
 refine ZB (congrArg nA dY.out) (zJ (ZN ZO [3,1,3,1,3,3,1,3,3,3,3,0] (wHz (.fx 11 .nil .stop)) (by kernel_rfl) ?_))
 have cU:=iu.drew
 generalize hw_W1077:({ dR with drawn:=dR.drawn + 1 }:World)=s7 at cU ⊢
 refine oR Z (zK Z ci zh Z zD) (oL Z (cU.ldB (j:=0) Z Z Z zO (v:=jV bP) Z) (oR Z (zK Z cg zY Z zZ) (oL Z (cU.ldB (j:=2) Z Z Z zd (v:=.slice aS p0.Shots.length aT) Z) (oM Z bL ?_))))
 have o9:=im.le dF
 have pa:=o9.le cX
 have io:=pa.le eI
 have q:=io.el (fun _=>rfl) (wAV bp)
 obtain ⟨tL,ud,pR,pV⟩:=q
 refine oR Z (ZP Z Z pR Z zA zD (wBp bp) (wBs bp)) (oL Z (cU.ldC (f:=0) pV (v:=jV bz) Z Z zO Z) (oM Z d4 (oR Z (ZG Z Z Z) (oR Z (Runs.min Z Z Z) (oR Z (zK Z ci zh Z zD) (zt (j:=0) (vs:=[jV (min bP (w64 (bz - cu)))]) Z Z Z Z cU Z Z Z Z zD (zC Z) Z Z Z ?_))))))
 intro dS qc
 have qd:sW w U cz [.blk av 44 [jV (min bP (w64 (bz - cu))),jV x69],.blk b6 44 B1,.blk b2 54 B0,.blk bb 54 bs] dS:=qc
 refine eN (CK.fresh fun bA bq=>?_)
 have fR:bA 1=jV p1:=(bq 1).trans bL
 have fS:bA 2=.pointer (some ⟨b2,0,none⟩):=(bq 2).trans cg
 have jH:bA 4=.pointer (some ⟨b6,0,none⟩):=(bq 4).trans dq
 have jJ:bA 5=jV (↑p0.Down.length:Int):=(bq 5).trans cP
 have jK:bA 6=jV aU:=(bq 6).trans dr
 have d5:bA 8=.pointer (some ⟨av,0,none⟩):=(bq 8).trans ci
 have jL:bA 9=jV (↑aR:Int):=(bq 9).trans dt
 have jM:bA 12=jV cu:=(bq 12).trans d4
 clear bq
 refine ZN ZO [3,1,3,1,3,3,1,3,3,3,3,0] (wHz (.fx 11 .nil .stop)) (by kernel_rfl) ?_
 have cV:=qd.drew
 generalize hw_W1099:({ dS with drawn:=dS.drawn + 1 }:World)=s8 at cV ⊢
 refine oR Z (zK Z d5 zh Z zD) (oL Z (cV.ldB (j:=0) Z Z Z zO (v:=jV x69) Z) (oR Z (zK Z fS zY Z zZ) (oL Z (cV.ldB (j:=2) Z Z Z zd (v:=.slice aS p0.Shots.length aT) Z) (oM Z fR ?_))))
 have q:=io.el (fun _=>rfl) (wAV bp)
 obtain ⟨tM,ue,pS,pW⟩:=q
 refine oR Z (ZP Z Z pS Z zA zD (wBp bp) (wBs bp)) (oL Z (cV.ldC (f:=0) pW (v:=jV bz) Z Z zO Z) (oM Z jM (oR Z (ZG Z Z Z) (oR Z (Runs.max Z Z Z) (oR Z (zK Z d5 zh Z zD) (zt (j:=0) (vs:=[jV (max x69 (w64 (bz - cu)))]) Z Z Z Z cV Z Z Z Z zD (zC Z) Z Z Z ?_))))))
 intro i6 qe
 have qf:sW w U cz [.blk av 44 [jV (min bP (w64 (bz - cu))),jV (max x69 (w64 (bz - cu)))],.blk b6 44 B1,.blk b2 54 B0,.blk bb 54 bs] i6:=qe
 refine zn (zp (zI (rR fL3 Z (oM Z jL (oR Z (ZI (zk Z Z Z) (congrArg (jV) dE.out)) (oA Z Z (zn ?_)))))))
 cases rX
 exact zI ⟨rfl,⟨cz,rfl,fR,fS,jH,jJ,jK,d5,(((((bf.trans br).trans cr).trans dF).trans cX).trans eI),(qf.pick [0,1,2] _ (by decide) rfl)⟩⟩
 intro dY rY
 refine zg (congrArg nA (nB.2 dY.out)) (Za (zp (zI (rR fL3 Z (oM Z dt (oR Z (ZI (zk Z Z Z) (congrArg (jV) dE.out)) (oA Z Z (zn ?_))))))))
 cases rY
 exact zI ⟨rfl,⟨cz,rfl,bL,cg,dq,cP,dr,ci,(((((bf.trans br).trans cr).trans dF).trans cX).trans eI),(iu.pick [0,1,2] _ (by decide) rfl)⟩⟩
 intro bG rZ
 refine oF Z bG (ZV Z Z Z (zF Z Z (zm bG.out) Z) (oR Z (zP Z (zm bG.out) Z) (eN (zg Z (Za (zp (zI (rR fL3 Z (oM Z dt (oR Z (ZI (zk Z Z Z) (congrArg (jV) dE.out)) (oA Z Z (zn ?_))))))))))))
 cases rZ
 exact zI ⟨rfl,⟨de,rfl,bL,cg,dq,cP,dr,ci,((bf.trans br).trans cr),(cn.pick [0,1,2] _ (by decide) rfl)⟩⟩
 intro aY r6
 refine zG Z Z Z (zF Z Z (congrArg nA (nB.2 aY.out)) Z) (zG Z Z Z (zF Z Z (congrArg nA (nB.2 aY.out)) Z) (zG Z Z Z (zF Z Z (congrArg nA (nB.2 aY.out)) Z) (zG Z Z Z (zF Z Z (congrArg nA (nB.2 aY.out)) Z) (zG Z Z Z (zF Z Z (congrArg nA (nB.2 aY.out)) Z) (zG Z Z Z (zF Z Z (congrArg nA (nB.2 aY.out)) Z) (zG Z Z Z (zF Z Z (congrArg nA (nB.2 aY.out)) Z) (oR Z (zP Z (congrArg nA (nB.2 aY.out)) Z) (oM Z Z (oN Z (ZV Z Z Z (zF Z Z Z Z) (oR Z (zP Z Z Z) (eN (zg Z (Za (zp (zI (rR fL3 Z (oM Z dt (oR Z (ZI (zk Z Z Z) (congrArg (jV) dE.out)) (oA Z Z (zn ?_)))))))))))))))))))))
 cases r6
 exact zI ⟨rfl,⟨de,rfl,bL,cg,dq,cP,dr,ci,((bf.trans br).trans cr),(cn.pick [0,1,2] _ (by decide) rfl)⟩⟩
 rintro uq s9 ⟨e9,oI,tR,tS,fT,tT,jN,jO,ub,iv⟩
 have jD:Hid (¬ ((↑((aU:Int) - 0).toNat:Int) < aU)):=zN (wBi)
 refine zJ (sR fL3 Z (oM Z oI (oM Z jN (oR Z (zo Z Z Z) (eN (cF Z jD (ZS (zq (zq (ZJ (zI (sR (.fl 0 (.fx 1 .nil .stop)) Z ?_))))))))))))
 let bW:List Value:=[jV sV,jV sX]
 refine oL Z (iv.ldBA (j:=0) Z Z jO zf zH (vs:=bW) Z Z) (zt (j:=1) (vs:=bW) Z Z Z Z iv Z fT Z Z zH (zC Z) Z Z Z ?_)
 intro i7 qg
 have iw:sW w U e9 [.blk av 44 bW,.blk b6 44 bW,.blk b2 54 B0] i7:=qg
 refine eN (zQ ?_)
 cases iH
 exact ⟨rfl,_,(wIh (v:=.agg bW.toArray) ⟨⟨_,fT,(wBR zf zH (iw.blkAt (k:=1) rfl) (vs:=bW) rfl rfl)⟩,trivial⟩),e9,_,(iw.pick [] _ (by decide) rfl),rfl,rfl⟩
end Go.Proofs.Ytfcmijinklojbaa
namespace Go.Proofs.Ytfcmijinklojbaa
open Go.KL
set_option maxHeartbeats 4000000
theorem wBr (p0:List wAD) (az:Option Addr) (aR:Nat) (p1:List wAD) (aQ:Option Addr) (aS:Nat) (w:World) (U:PHeap) (hS:St0 w U []) (bu:Sl U 2 az aR p0.length (hH wAA p0)) (bv:Sl U 2 aQ aS p1.length (hH wAA p1)) {r:Bool} (hm:wAN p0 p1=some r):Gv Try.prog 26 [.slice az p0.length aR,.slice aQ p1.length aS] w (wCt w [] U (fun U_ L_ v=>v=.bool r/\L_=[])):=by
 unfold wAN at hm
 refine Gv.of Try.func26 Z Try.ntmps26 Try.results26 Z (sR fL1 Z (oA Z Z (eN (zJ (sR fL5 Z (oM Z Z (oR Z (zr Z Z ZA) (oM Z Z (oR Z (zr Z Z ZA) (oR Z (ZL Z Z Z) (eN ?_)))))))))))
 by_cases c1:(↑p0.length:Int)=(↑p1.length:Int)
 have aj:=hm;rw [if_pos c1] at aj;replace c1:=zN c1
 refine zg (zm (fun h=>h c1.out)) (kN (zJ (sR fL3 Z (oM Z Z (oR Z (zr Z Z ZA) (oM Z Z (eN (zi ?_))))))))
 have q:=wDL aj
 obtain ⟨r5,ap⟩:=q
 have q:=wDK ap
 obtain ⟨au,bA⟩:=q
 replace au:=zN au
 refine yD (fun k4 _ σ_ w_=>∃ (U_:PHeap),σ_ 13=jV (↑k4:Int)/\σ_ 0=.slice az p0.length aR/\σ_ 1=.slice aQ p1.length aS/\σ_ 12=jV (↑p0.length:Int)/\PHeap.Le U U_/\sW w U U_ [] w_) bA ?_ ?_ ?_
 exact ⟨U,Z,Z,Z,Z,(zX _),hS⟩
 rintro k4 ⟨⟩ bS bU aV aq ⟨aU,am,aX,aY,aZ,av,bs⟩ bg bw
 try dsimp only at bg
 have aW:Hid ((↑k4:Int) < (↑p0.length:Int)):=zN (wCO aq)
 replace aq:=zN aq
 have bB:Hid (w64 ((↑k4:Int) + 1)=(↑(k4 + 1):Int)):=zN (by have h1:=au.out;have h2:=aW.out;rw [wAM] <;> omega)
 refine sR fL1 rfl (zV rfl rfl rfl rfl (fun _=>zo rfl am aZ) (eN (zJ (cT Z aW (kN (zJ (zi (sR fL2 rfl (zW rfl rfl rfl rfl rfl am (OKS.ra rfl rfl rfl rfl rfl rfl (eN (zJ (ZN ZO [3,3,3,1,3,3,3,1,3] fL9 (by kernel_rfl) ?_)))))))))))))
 have ah:=bs.drew
 generalize hw_W25:({ aV with drawn:=aV.drawn + 1 }:World)=bI at ah ⊢
 refine oM Z aX (oM Z Z (bnK bg fun x26 ba bC=>?_))
 have bm:=bu.le av
 have q:=bm.el (fun _=>rfl) (wAV ba)
 obtain ⟨bK,bP,bo,bq⟩:=q
 refine oR Z (Ze Z Z bo Z ZA ZH (wCd ba)) (oL Z (ah.ldCA (f:=0) bq Z Z Zp ZH (us:=[jV x26.Skier,jV x26.Lane]) Z Z) (oM Z aY (oM Z Z (bnK bC fun aT bb bD=>?_))))
 have bn:=bv.le av
 have q:=bn.el (fun _=>rfl) (wAV bb)
 obtain ⟨bL,bQ,bp,br⟩:=q
 refine oR Z (Ze Z Z bp Z ZA ZH (wCd bb)) (oL Z (ah.ldCA (f:=0) br Z Z Zp ZH (us:=[jV aT.Skier,jV aT.Lane]) Z Z) (oR Z (ZI (Runs.neS (enc:=wAA) (a:=x26) (b:=aT) Z Z Z eqT35 eqG35) (congrArg nA (decide_not).symm)) (eN (ifc bD ?_ ?_))))
 intro ak bE
 refine zg (zm (fun h=>h ak.out)) (Za (zp (zI (rR fL2 Z (oR Z (ZI (zk Z am Z) (congrArg (jV) bB.out)) (oM Z Z (zn ?_)))))))
 have q:=nD bE
 obtain rfl:=q
 exact zI ⟨Z,_,Z,⟨aU,Z,aX,aY,aZ,av,ah⟩⟩
 intro ak bF
 refine cT Z ak (sR fL1 Z (oA Z Z (eN (zQ (ZE (ze ?_))))))
 have q:=wAj bF
 obtain ⟨bH,bG,bj⟩:=q
 have q:=wDl aj ap (bw bH bj)
 obtain rfl:=q
 refine ze (ZE (ze ?_))
 have hE:=nD bG;first | subst r | cases hE
 exact ⟨Z,_,(ZD Z),aU,_,ah,Z,Z⟩
 rintro ⟨⟩ bT bJ ⟨bh,bl,bM,bN,bk,bO,bt⟩ bz
 have be:=wEA aj ap bz
 try dsimp only at be
 have bi:Hid (¬ ((↑(((↑p0.length:Int):Int) - 0).toNat:Int) < (↑p0.length:Int))):=zN (wBi)
 refine sR fL1 Z (oR Z (zo Z bl bk) (eN (zJ (cF Z bi (ZS (zq (zq (ZJ (zI (sR fL1 Z (oA Z Z (eN (zQ ?_)))))))))))))
 have hE:=nD be;first | subst r | cases hE
 exact ⟨Z,_,(ZD Z),bh,_,bt,Z,Z⟩
 have bf:=hm;rw [if_neg c1] at bf;replace c1:=zN c1
 refine cT Z c1 (sR fL1 Z (oA Z Z (eN (zQ (ze ?_)))))
 have hE:=nD bf;first | subst r | cases hE
 exact ⟨Z,_,(ZD Z),U,_,hS,Z,Z⟩
theorem wBa (p0:List Int) (az:Option Addr) (aR:Nat) (p1:List Int) (aQ:Option Addr) (aS:Nat) (w:World) (U:PHeap) (hS:St0 w U []) (bt:Sl U 1 az aR p0.length (hH KL.encI p0)) (bu:Sl U 1 aQ aS p1.length (hH KL.encI p1)) {r:Bool} (hm:wAU p0 p1=some r):Gv Try.prog 28 [.slice az p0.length aR,.slice aQ p1.length aS] w (wCt w [] U (fun U_ L_ v=>v=.bool r/\L_=[])):=by
 unfold wAU at hm
 refine Gv.of Try.func28 Z Try.ntmps28 Try.results28 Z (sR fL1 Z (oA Z Z (eN (zJ (sR fL5 Z (oM Z Z (oR Z (zr Z Z zA) (oM Z Z (oR Z (zr Z Z zA) (oR Z (ZL Z Z Z) (eN ?_)))))))))))
 by_cases c1:(↑p0.length:Int)=(↑p1.length:Int)
 have aj:=hm;rw [if_pos c1] at aj;replace c1:=zN c1
 refine zg (zm (fun h=>h c1.out)) (kN (zJ (sR fL3 Z (oM Z Z (oR Z (zr Z Z zA) (oM Z Z (eN (zi ?_))))))))
 have q:=wDL aj
 obtain ⟨r5,ap⟩:=q
 have q:=wDK ap
 obtain ⟨au,bz⟩:=q
 replace au:=zN au
 refine yD (fun k4 _ σ_ w_=>∃ (U_:PHeap),σ_ 13=jV (↑k4:Int)/\σ_ 0=.slice az p0.length aR/\σ_ 1=.slice aQ p1.length aS/\σ_ 12=jV (↑p0.length:Int)/\PHeap.Le U U_/\sW w U U_ [] w_) bz ?_ ?_ ?_
 exact ⟨U,Z,Z,Z,Z,(zX _),hS⟩
 rintro k4 ⟨⟩ bS bU aU aq ⟨aT,am,aW,aX,aY,av,br⟩ bf bv
 try dsimp only at bf
 have aV:Hid ((↑k4:Int) < (↑p0.length:Int)):=zN (wCO aq)
 replace aq:=zN aq
 have bA:Hid (w64 ((↑k4:Int) + 1)=(↑(k4 + 1):Int)):=zN (by have h1:=au.out;have h2:=aV.out;rw [wAM] <;> omega)
 refine sR fL1 rfl (zV rfl rfl rfl rfl (fun _=>zo rfl am aY) (eN (zJ (cT Z aV (kN (zJ (zi (sR fL2 rfl (zW rfl rfl rfl rfl rfl am (OKS.ra rfl rfl rfl rfl rfl rfl (eN (zJ (ZN ZO [3,3,3,1,3,3,3,1,3] fL9 (by kernel_rfl) ?_)))))))))))))
 have ah:=br.drew
 generalize hw_W25:({ aU with drawn:=aU.drawn + 1 }:World)=bI at ah ⊢
 refine oM Z aW (oM Z Z (bnK bf fun x26 aZ bB=>?_))
 have bl:=bt.le av
 have q:=bl.el (fun _=>rfl) (wAV aZ)
 obtain ⟨bK,bP,bn,bp⟩:=q
 refine oR Z (Ze Z Z bn Z zA zD (wCd aZ)) (oL Z (ah.ldC (f:=0) bp (v:=jV x26) Z Z zO Z) (oM Z aX (oM Z Z (bnK bB fun bH ba bC=>?_))))
 have bm:=bu.le av
 have q:=bm.el (fun _=>rfl) (wAV ba)
 obtain ⟨bL,bQ,bo,bq⟩:=q
 refine oR Z (Ze Z Z bo Z zA zD (wCd ba)) (oL Z (ah.ldC (f:=0) bq (v:=jV bH) Z Z zO Z) (oR Z (ZL Z Z Z) (eN (ifc bC ?_ ?_))))
 intro ak bD
 refine zg (zm (fun h=>h ak.out)) (Za (zp (zI (rR fL2 Z (oR Z (ZI (zk Z am Z) (congrArg (jV) bA.out)) (oM Z Z (zn ?_)))))))
 have q:=nD bD
 obtain rfl:=q
 exact zI ⟨Z,_,Z,⟨aT,Z,aW,aX,aY,av,ah⟩⟩
 intro ak bE
 refine cT Z ak (sR fL1 Z (oA Z Z (eN (zQ (ZE (ze ?_))))))
 have q:=wAj bE
 obtain ⟨bG,bF,bi⟩:=q
 have q:=wDl aj ap (bv bG bi)
 obtain rfl:=q
 refine ze (ZE (ze ?_))
 have hE:=nD bF;first | subst r | cases hE
 exact ⟨Z,_,(ZD Z),aT,_,ah,Z,Z⟩
 rintro ⟨⟩ bT bJ ⟨bg,bk,bM,bN,bj,bO,bs⟩ bw
 have bb:=wEA aj ap bw
 try dsimp only at bb
 have bh:Hid (¬ ((↑(((↑p0.length:Int):Int) - 0).toNat:Int) < (↑p0.length:Int))):=zN (wBi)
 refine sR fL1 Z (oR Z (zo Z bk bj) (eN (zJ (cF Z bh (ZS (zq (zq (ZJ (zI (sR fL1 Z (oA Z Z (eN (zQ ?_)))))))))))))
 have hE:=nD bb;first | subst r | cases hE
 exact ⟨Z,_,(ZD Z),bg,_,bs,Z,Z⟩
 have be:=hm;rw [if_neg c1] at be;replace c1:=zN c1
 refine cT Z c1 (sR fL1 Z (oA Z Z (eN (zQ (ze ?_)))))
 have hE:=nD be;first | subst r | cases hE
 exact ⟨Z,_,(ZD Z),U,_,hS,Z,Z⟩
theorem wCf (p0:wAB) (ai:Option Addr) (au:Nat) (aj:Option Addr) (av:Nat) (ak:Option Addr) (az:Nat) (p1:wAB) (am:Option Addr) (aQ:Nat) (ap:Option Addr) (aR:Nat) (aq:Option Addr) (aS:Nat) (w:World) (U:PHeap) (hS:St0 w U []) (bB:Sl U 1 ai au p0.Shots.length (hH KL.encI p0.Shots)) (bC:Sl U 1 aj av p0.Down.length (hH KL.encI p0.Down)) (bD:Sl U 2 ak az p0.Across.length (hH wAA p0.Across)) (bE:Sl U 1 am aQ p1.Shots.length (hH KL.encI p1.Shots)) (bF:Sl U 1 ap aR p1.Down.length (hH KL.encI p1.Down)) (bG:Sl U 2 aq aS p1.Across.length (hH wAA p1.Across)) {r:Bool} (hm:wAs p0 p1=some r):Gv Try.prog 27 [.agg #[.slice ai p0.Shots.length au,.slice aj p0.Down.length av,.slice ak p0.Across.length az],.agg #[.slice am p1.Shots.length aQ,.slice ap p1.Down.length aR,.slice aq p1.Across.length aS]] w (wCt w [] U (fun U_ L_ v=>v=.bool r/\L_=[])):=by
 unfold wAs at hm
 refine Gv.of Try.func27 Z Try.ntmps27 Try.results27 Z (sR (.fx 0 gBz .stop) Z ?_)
 let B0:List Value:=[.slice ai p0.Shots.length au,.slice aj p0.Down.length av,.slice ak p0.Across.length az]
 refine ZY (cs:=B0) rfl rfl rfl rfl rfl rfl (by rfl) hS ?_
 intro W1 b2 bv
 let B1:List Value:=[.slice am p1.Shots.length aQ,.slice ap p1.Down.length aR,.slice aq p1.Across.length aS]
 refine ZY (cs:=B1) rfl rfl rfl rfl rfl rfl (by rfl) bv ?_
 intro W5 b6 be
 refine oA Z Z (eN (sR (wEX (.fx 4 (wRt (.fx 10 (wRv (.fx 17 (.fl 18 (.fl 19 .nil)) .stop)) .stop)) .stop)) Z (oR Z (zK Z Z zR Z zZ) (oL Z (be.ldB (j:=1) Z Z Z zd (v:=.slice ai p0.Shots.length au) Z) (oR Z (zK Z Z zR Z zZ) (oL Z (be.ldB (j:=0) Z Z Z zd (v:=.slice am p1.Shots.length aQ) Z) (bnK hm fun x9 bl bH=>zM 0 Z Z Z Z (zL Z Z Try.call28 (zB Z (zB Z zS)) Z) be (fun hs=>wBa p0.Shots ai au p1.Shots am aQ W5 U hs bB bE bl) (.inr Z) ?_)))))))
 rintro aY bO bT bg aX bu ⟨rfl,rfl⟩
 have aV:sW w U aY [.blk b6 26 B1,.blk b2 26 B0] bg:=bu
 refine oM Z Z (ifc bH ?_ ?_)
 intro ae bI
 refine zV Z Z Z (zE Z Z (congrArg nA ae.out)) (fun _=>zK Z Z zR Z zZ) (zy Z Z Z (zE Z Z (congrArg nA ae.out)) (aV.ldB (j:=1) Z Z Z zd (v:=.slice aj p0.Down.length av) Z) Z (zV Z Z Z (zE Z Z (congrArg nA ae.out)) (fun _=>zK Z Z zR Z zZ) (zy Z Z Z (zE Z Z (congrArg nA ae.out)) (aV.ldB (j:=0) Z Z Z zd (v:=.slice ap p1.Down.length aR) Z) Z ?_)))
 have bm:=bC.le aX
 have bn:=bF.le aX
 refine bnK bI fun x23 bo bJ=>zM 0 Z Z Z (zE Z Z (congrArg nA ae.out)) (zL Z Z Try.call28 (zB Z (zB Z zS)) Z) aV (fun hs=>wBa p0.Down aj av p1.Down ap aR bg aY hs bm bn bo) (.inr Z) ?_
 rintro aZ bP bU bh bi bw ⟨rfl,rfl⟩
 have aW:sW w U aZ [.blk b6 26 B1,.blk b2 26 B0] bh:=bw
 refine oR Z (zU Z (congrArg nA ae.out) Z) (oM Z Z (ifc bJ ?_ ?_))
 intro ah bK
 refine zV Z Z Z (zE Z Z (congrArg nA ah.out)) (fun _=>zK Z Z zR Z Zi) (zy Z Z Z (zE Z Z (congrArg nA ah.out)) (aW.ldB (j:=1) Z Z Z Zo (v:=.slice ak p0.Across.length az) Z) Z (zV Z Z Z (zE Z Z (congrArg nA ah.out)) (fun _=>zK Z Z zR Z Zi) (zy Z Z Z (zE Z Z (congrArg nA ah.out)) (aW.ldB (j:=0) Z Z Z Zo (v:=.slice aq p1.Across.length aS) Z) Z ?_)))
 have bp:=bD.le aX
 have bq:=bp.le bi
 have br:=bG.le aX
 have bs:=br.le bi
 refine bnK bK fun x39 bt bL=>zM 0 Z Z Z (zE Z Z (congrArg nA ah.out)) (zL Z Z Try.call26 (zB Z (zB Z zS)) Z) aW (fun hs=>wBr p0.Across ak az p1.Across aq aS bh aZ hs bq bs bt) (.inr Z) ?_
 rintro bf bQ bV bj bS bz ⟨rfl,rfl⟩
 have bA:sW w U bf [.blk b6 26 B1,.blk b2 26 B0] bj:=bz
 refine oR Z (zU Z (congrArg nA ah.out) Z) (oA Z Z (eN (zQ ?_)))
 have hE:=nD bL;first | subst r | cases hE
 exact ⟨rfl,_,(ZD rfl),bf,_,(bA.pick [] _ (by decide) rfl),rfl,rfl⟩
 intro ah bM
 refine zG Z Z Z (zF Z Z (congrArg nA (nB.2 ah.out)) Z) (zG Z Z Z (zF Z Z (congrArg nA (nB.2 ah.out)) Z) (zG Z Z Z (zF Z Z (congrArg nA (nB.2 ah.out)) Z) (zG Z Z Z (zF Z Z (congrArg nA (nB.2 ah.out)) Z) (ZV Z Z Z (zF Z Z (congrArg nA (nB.2 ah.out)) Z) (oR Z (zP Z (congrArg nA (nB.2 ah.out)) Z) (oA Z Z (eN (zQ ?_))))))))
 have hE:=nD bM;first | subst r | cases hE
 exact ⟨rfl,_,(ZD rfl),aZ,_,(aW.pick [] _ (by decide) rfl),rfl,rfl⟩
 intro ae bN
 refine zG Z Z Z (zF Z Z (congrArg nA (nB.2 ae.out)) Z) (zG Z Z Z (zF Z Z (congrArg nA (nB.2 ae.out)) Z) (zG Z Z Z (zF Z Z (congrArg nA (nB.2 ae.out)) Z) (zG Z Z Z (zF Z Z (congrArg nA (nB.2 ae.out)) Z) (ZV Z Z Z (zF Z Z (congrArg nA (nB.2 ae.out)) Z) (oR Z (zP Z (congrArg nA (nB.2 ae.out)) Z) (oM Z Z (oN Z (oN Z (oN Z (oN Z (ZV Z Z Z (zF Z Z Z Z) (oR Z (zP Z Z Z) (oA Z Z (eN (zQ ?_)))))))))))))))
 have hE:=nD bN;first | subst r | cases hE
 exact ⟨rfl,_,(ZD rfl),aY,_,(aV.pick [] _ (by decide) rfl),rfl,rfl⟩
theorem wDy (p0:wAB) (bL:Option Addr) (bM:Nat) (cg:Option Addr) (ci:Nat) (bC:Option Addr) (bD:Nat) (p1:Int) (p2:Int) (p3:List Int) (av:Option Addr) (az:Nat) (w:World) (U:PHeap) (hS:St0 w U []) (cS:Sl U 1 bL bM p0.Shots.length (hH KL.encI p0.Shots)) (cU:Sl U 1 cg ci p0.Down.length (hH KL.encI p0.Down)) (cy:Sl U 2 bC bD p0.Across.length (hH wAA p0.Across)) (gh:Sl U 1 av az p3.length (hH KL.encI p3)) {r:Bool} (hm:wBn p0 p1 p2 p3=some r):Gv Try.prog 4 [.agg #[.slice bL p0.Shots.length bM,.slice cg p0.Down.length ci,.slice bC p0.Across.length bD],jV p1,jV p2,.slice av p3.length az] w (wCt w [] U (fun U_ L_ v=>v=.bool r/\L_=[])):=by
 unfold wBn at hm
 refine Gv.of Try.func4 Z Try.ntmps4 Try.results4 Z (sR gBy Z ?_)
 let B0:List Value:=[.slice bL p0.Shots.length bM,.slice cg p0.Down.length ci,.slice bC p0.Across.length bD]
 refine ZY (cs:=B0) rfl rfl rfl rfl rfl rfl (by rfl) hS ?_
 intro W1 b2 vv
 refine oA Z Z (eN (zJ (sR (.fl 0 (.fx 1 (wJG (.nil)) .stop)) Z (oL Z (vv.ldBA (j:=0) Z Z Z ZT zu (vs:=B0) Z Z) (bnK hm fun x5 h6 TG=>zM 0 Z Z Z Z (zL Z Z Try.call16 (zB Z (zB Z zS)) Z) vv (fun hs=>wFU p0 bL bM cg ci bC bD 4 W1 U hs cS cU cy h6) (.inr Z) ?_)))))
 rintro U8 L9 Wq gR aR O1 ⟨rfl,rfl⟩
 have o9:sW w U U8 [.blk b2 26 B0] gR:=O1
 refine oM Z Z (ifc TG ?_ ?_)
 intro dw RI
 refine zG Z Z Z (zF Z Z (congrArg nA dw.out) Z) (zG Z Z Z (zF Z Z (congrArg nA dw.out) Z) (zG Z Z Z (zF Z Z (congrArg nA dw.out) Z) (oR Z (zU Z (congrArg nA dw.out) Z) (eN (ZB Z (sR gBy Z (bnK RI fun Xl C7 RO=>zM 0 Z Z Z Z (zL Z Z Try.call15 zS Z) o9 (fun hs=>wBm gR U8 hs C7) (.inr Z) ?_)))))))
 rintro qy UH WN xB Wc Qw ⟨rfl,rfl⟩
 have Qy:sW w U qy [.blk b2 26 B0] xB:=Qw
 refine oA Z Z (eN (zQ (ze ?_)))
 have hE:=nD RO;first | subst r | cases hE
 exact ⟨rfl,_,(ZD rfl),qy,_,(Qy.pick [] _ (by decide) rfl),rfl,rfl⟩
 intro dw Sz
 refine zW Z Z Z (zE Z Z (congrArg nA (nB.2 dw.out))) Z Z (zV Z Z Z (zE Z Z (congrArg nA (nB.2 dw.out))) (fun _=>zr Z Z zA) (zV Z Z Z (zE Z Z (congrArg nA (nB.2 dw.out))) (fun _=>Zl Z Z Z) (oR Z (zP Z (congrArg nA (nB.2 dw.out)) Z) (eN (ifc Sz ?_ ?_)))))
 intro mM S4
 refine cT Z mM (sR gBy Z (bnK S4 fun Xt K6 Tj=>zM 0 Z Z Z Z (zL Z Z Try.call15 zS Z) o9 (fun hs=>wBm gR U8 hs K6) (.inr Z) ?_))
 rintro qN Vf Xj xW Wl Rh ⟨rfl,rfl⟩
 have Ri:sW w U qN [.blk b2 26 B0] xW:=Rh
 refine oA Z Z (eN (zQ (ze ?_)))
 have hE:=nD Tj;first | subst r | cases hE
 exact ⟨rfl,_,(ZD rfl),qN,_,(Ri.pick [] _ (by decide) rfl),rfl,rfl⟩
 intro mM TF
 refine cF Z mM (kN ?_)
 have q:=bnd TF
 obtain ⟨⟨bR,bI,bJ,bl,cr,ct,bS⟩,TR,v7⟩:=q
 try dsimp only at v7
 refine yB (fun σ_ w_=>∃ (U_:PHeap) (ah:Nat) (bV:Option Addr) (bY:Nat) (bN:Option Addr) (bP:Nat) (bO:Option Addr) (bQ:Nat) (bq:Option Addr) (bs:Nat) (ai:Nat) (cj:Option Addr) (cp:Nat) (cm:Option Addr) (cq:Nat) (bW:Option Addr) (bZ:Nat),σ_ 1=jV p1/\σ_ 2=jV p2/\σ_ 3=.slice av p3.length az/\σ_ 4=.pointer (some ⟨b2,0,none⟩)/\σ_ 9=.pointer (some ⟨ah,0,none⟩)/\σ_ 10=.slice bq bl.length bs/\σ_ 11=.pointer (some ⟨ai,0,none⟩)/\PHeap.Le U8 U_/\sW w U U_ [.blk b2 26 B0,.blk ah 26 [.slice bV bR.length bY,.slice bN bI.length bP,.slice bO bJ.length bQ],.row bV bY 3 1 (hH KL.encI bR),.row bN bP 3 1 (hH KL.encI bI),.row bO bQ 35 2 (hH wAA bJ),.row bq bs 3 1 (hH KL.encI bl),.blk ai 54 [.slice cj cr.length cp,.slice cm ct.length cq,.slice bW bS.length bZ],.row bW bZ 124 2 (hH wAE bS)] w_/\Sl U_ 1 cj cp cr.length (hH KL.encI cr)/\Sl U_ 1 cm cq ct.length (hH KL.encI ct)) ?_ ?_
 refine bnK TR fun ae lD SN=>bnK SN fun bh lE SO=>bnK SO fun aq lF SP=>ZN ZO [1,2,3,2,1,2,2,2,0,3,0] (.fl 0 (.fl 2 (.fl 4 (.fx 1 (.fx 3 (.fx 5 (.fx 6 gCs (.fx 7 gCt .stop)) (.fx 6 gDc (.fx 7 gDd .stop))) (.fx 6 gDg (.fx 7 gDh .stop))) (.fx 6 (.fx 1 gDg (.fx 7 gDe .stop)) (.fx 7 (.fx 1 gDh (.fx 6 gDe .stop)) .stop)))))) (by kernel_rfl) ?_
 have ge:=o9.drew
 generalize hw_W282:({ gR with drawn:=gR.drawn + 1 }:World)=xK at ge ⊢
 refine Zb (s:=.nil) (M:=fun σ_ w_=>∃ (U_:PHeap) (jW:Nat) (gA:Option Addr) (iy:Nat) (gB:Option Addr) (iz:Nat) (gC:Option Addr) (iA:Nat) (gD:Option Addr) (iB:Nat) (jX:Nat) (jC:Option Addr) (lp:Nat) (jD:Option Addr) (lq:Nat) (gE:Option Addr) (iC:Nat) (lV:Option Addr) (mT:Nat) (lW:Option Addr) (mU:Nat),σ_ 1=jV p1/\σ_ 2=jV p2/\σ_ 3=.slice av p3.length az/\σ_ 4=.pointer (some ⟨b2,0,none⟩)/\σ_ 9=.pointer (some ⟨jW,0,none⟩)/\σ_ 10=.slice gD bh.length iB/\σ_ 11=.pointer (some ⟨jX,0,none⟩)/\σ_ 40=.agg B0.toArray/\σ_ 41=.agg #[.slice gA ae.Shots.length iy,.slice gB ae.Down.length iz,.slice gC ae.Across.length iA]/\σ_ 42=.slice av p3.length az/\σ_ 43=.slice gD bh.length iB/\σ_ 44=.agg B0.toArray/\σ_ 45=.agg #[.slice lV aq.Shots.length mT,.slice lW aq.Down.length mU,.slice gE aq.Across.length iC]/\PHeap.Le U8 U_/\sW w U U_ [.blk b2 26 B0,.blk jW 26 [.slice gA ae.Shots.length iy,.slice gB ae.Down.length iz,.slice gC ae.Across.length iA],.row gA iy 3 1 (hH KL.encI ae.Shots),.row gB iz 3 1 (hH KL.encI ae.Down),.row gC iA 35 2 (hH wAA ae.Across),.row gD iB 3 1 (hH KL.encI bh),.blk jX 54 [.slice jC aq.Shots.length lp,.slice jD aq.Down.length lq,.slice gE aq.Across.length iC],.row gE iC 124 2 (hH wAE aq.Across)] w_/\Sl U_ 1 jC lp aq.Shots.length (hH KL.encI aq.Shots)/\Sl U_ 1 jD lq aq.Down.length (hH KL.encI aq.Down)/\Sl U_ 1 lV mT aq.Shots.length (hH KL.encI aq.Shots)/\Sl U_ 1 lW mU aq.Down.length (hH KL.encI aq.Down)) ?_ fun TS=>?_
 rintro X0 VP ⟨wY,jW,gA,iy,gB,iz,gC,iA,gD,iB,jX,jC,lp,jD,lq,gE,iC,lV,mT,lW,mU,Bp,Bq,Br,Bs,Bt,Bu,Bv,V4,V5,V6,V7,V8,V9,T6,Rj,Oz,OA,Wa,Wb⟩
 refine zn ?_
 cases SP
 exact zI ⟨Z,⟨wY,jW,gA,iy,gB,iz,gC,iA,gD,iB,jX,jC,lp,jD,lq,gE,iC,Bp,Bq,Br,Bs,Bt,Bu,Bv,T6,Rj,Oz,OA⟩⟩
 let B1:List Value:=[.slice none 0 0,.slice none 0 0,.slice none 0 0]
 refine Zb (s:=gCe) (M:=fun σ_ w_=>∃ (U_:PHeap) (g6:Nat) (d5:Option Addr) (en:Nat) (d6:Option Addr) (eu:Nat) (d7:Option Addr) (ey:Nat) (g7:Nat) (gF:Option Addr) (iE:Nat) (eZ:Option Addr) (fO:Nat) (e8:Option Addr) (fP:Nat) (e9:Option Addr) (fQ:Nat),σ_ 1=jV p1/\σ_ 2=jV p2/\σ_ 3=.slice av p3.length az/\σ_ 4=.pointer (some ⟨b2,0,none⟩)/\σ_ 9=.pointer (some ⟨g6,0,none⟩)/\σ_ 11=.pointer (some ⟨g7,0,none⟩)/\σ_ 40=.agg B0.toArray/\σ_ 41=.agg #[.slice d5 ae.Shots.length en,.slice d6 ae.Down.length eu,.slice d7 ae.Across.length ey]/\σ_ 42=.slice av p3.length az/\σ_ 43=.slice gF bh.length iE/\σ_ 44=.agg B0.toArray/\σ_ 45=.agg #[.slice eZ aq.Shots.length fO,.slice e8 aq.Down.length fP,.slice e9 aq.Across.length fQ]/\PHeap.Le U8 U_/\sW w U U_ [.blk b2 26 B0,.blk g6 26 [.slice d5 ae.Shots.length en,.slice d6 ae.Down.length eu,.slice d7 ae.Across.length ey],.row d5 en 3 1 (hH KL.encI ae.Shots),.row d6 eu 3 1 (hH KL.encI ae.Down),.row d7 ey 35 2 (hH wAA ae.Across),.blk g7 54 B1,.row gF iE 3 1 (hH KL.encI bh),.row e9 fQ 124 2 (hH wAE aq.Across)] w_/\Sl U_ 1 eZ fO aq.Shots.length (hH KL.encI aq.Shots)/\Sl U_ 1 e8 fP aq.Down.length (hH KL.encI aq.Down)) ?_ fun TT=>?_
 rintro X2 VQ ⟨qQ,g6,d5,en,d6,eu,d7,ey,g7,gF,iE,eZ,fO,e8,fP,e9,fQ,Bw,Bx,By,Bz,BA,ue,BB,BC,BD,uf,BE,ug,T7,Rk,uT,uU⟩
 refine oA Z uf ?_
 let B2:List Value:=[.slice eZ aq.Shots.length fO,.slice e8 aq.Down.length fP,.slice e9 aq.Across.length fQ]
 refine zt (j:=5) (vs:=B2) Z Z Z Z Rk Z ue ug Z zz (zC Z) Z Z Z ?_
 intro xX Rl
 have Rm:sW w U qQ [.blk b2 26 B0,.blk g6 26 [.slice d5 ae.Shots.length en,.slice d6 ae.Down.length eu,.slice d7 ae.Across.length ey],.row d5 en 3 1 (hH KL.encI ae.Shots),.row d6 eu 3 1 (hH KL.encI ae.Down),.row d7 ey 35 2 (hH wAA ae.Across),.blk g7 54 B2,.row gF iE 3 1 (hH KL.encI bh),.row e9 fQ 124 2 (hH wAE aq.Across)] xX:=Rl
 exact TS _ _ ⟨qQ,g6,d5,en,d6,eu,d7,ey,gF,iE,g7,eZ,fO,e8,fP,e9,fQ,eZ,fO,e8,fP,Bw,Bx,By,Bz,BA,rfl,ue,BB,BC,BD,uf,BE,ug,T7,(Rm.pick [0,1,2,3,4,6,5,7] _ (by decide) rfl),uT,uU,uT,uU⟩
 refine Zb (s:=gCl) (M:=fun σ_ w_=>∃ (U_:PHeap) (g8:Nat) (g9:Nat) (fb:Option Addr) (fR:Nat) (fc:Option Addr) (fS:Nat) (fd:Option Addr) (fT:Nat) (gG:Option Addr) (iF:Nat) (jE:Option Addr) (ls:Nat) (jG:Option Addr) (lu:Nat) (gH:Option Addr) (iG:Nat),σ_ 1=jV p1/\σ_ 2=jV p2/\σ_ 3=.slice av p3.length az/\σ_ 4=.pointer (some ⟨b2,0,none⟩)/\σ_ 9=.pointer (some ⟨g8,0,none⟩)/\σ_ 11=.pointer (some ⟨g9,0,none⟩)/\σ_ 40=.agg B0.toArray/\σ_ 41=.agg #[.slice fb ae.Shots.length fR,.slice fc ae.Down.length fS,.slice fd ae.Across.length fT]/\σ_ 42=.slice av p3.length az/\σ_ 43=.slice gG bh.length iF/\σ_ 44=.agg B0.toArray/\σ_ 45=.agg #[.slice jE aq.Shots.length ls,.slice jG aq.Down.length lu,.slice gH aq.Across.length iG]/\PHeap.Le U8 U_/\sW w U U_ [.blk b2 26 B0,.blk g8 26 B1,.blk g9 54 B1,.row fb fR 3 1 (hH KL.encI ae.Shots),.row fc fS 3 1 (hH KL.encI ae.Down),.row fd fT 35 2 (hH wAA ae.Across),.row gG iF 3 1 (hH KL.encI bh),.row gH iG 124 2 (hH wAE aq.Across)] w_/\Sl U_ 1 jE ls aq.Shots.length (hH KL.encI aq.Shots)/\Sl U_ 1 jG lu aq.Down.length (hH KL.encI aq.Down)) ?_ fun pC=>?_
 rintro X3 VR ⟨qR,g8,g9,fb,fR,fc,fS,fd,fT,gG,iF,jE,ls,jG,lu,gH,iG,BF,BG,BH,BI,uh,BJ,BK,ui,BL,BM,BN,BO,T8,Rn,OB,OC⟩
 let B3:List Value:=[.slice fb ae.Shots.length fR,.slice fc ae.Down.length fS,.slice fd ae.Across.length fT]
 refine zt (j:=1) (vs:=B3) Z Z Z Z Rn Z uh ui Z zu (zC Z) Z Z Z ?_
 intro xY Ro
 have Rp:sW w U qR [.blk b2 26 B0,.blk g8 26 B3,.blk g9 54 B1,.row fb fR 3 1 (hH KL.encI ae.Shots),.row fc fS 3 1 (hH KL.encI ae.Down),.row fd fT 35 2 (hH wAA ae.Across),.row gG iF 3 1 (hH KL.encI bh),.row gH iG 124 2 (hH wAE aq.Across)] xY:=Ro
 exact TT _ _ ⟨qR,g8,fb,fR,fc,fS,fd,fT,g9,gG,iF,jE,ls,jG,lu,gH,iG,BF,BG,BH,BI,uh,BJ,BK,ui,BL,BM,BN,BO,T8,(Rp.pick [0,1,3,4,5,2,6,7] _ (by decide) rfl),OB,OC⟩
 refine Zb (s:=gCu) (M:=fun σ_ w_=>∃ (U_:PHeap) (ib:Nat) (ic:Nat) (gI:Option Addr) (iH:Nat) (gJ:Option Addr) (iI:Nat) (gK:Option Addr) (iJ:Nat) (gL:Option Addr) (iK:Nat),σ_ 1=jV p1/\σ_ 2=jV p2/\σ_ 3=.slice av p3.length az/\σ_ 4=.pointer (some ⟨b2,0,none⟩)/\σ_ 9=.pointer (some ⟨ib,0,none⟩)/\σ_ 11=.pointer (some ⟨ic,0,none⟩)/\σ_ 40=.agg B0.toArray/\σ_ 41=.agg #[.slice gI ae.Shots.length iH,.slice gJ ae.Down.length iI,.slice gK ae.Across.length iJ]/\σ_ 42=.slice av p3.length az/\σ_ 43=.slice gL bh.length iK/\σ_ 44=.agg B0.toArray/\PHeap.Le U8 U_/\sW w U U_ [.blk b2 26 B0,.blk ib 26 B1,.blk ic 54 B1,.row gI iH 3 1 (hH KL.encI ae.Shots),.row gJ iI 3 1 (hH KL.encI ae.Down),.row gK iJ 35 2 (hH wAA ae.Across),.row gL iK 3 1 (hH KL.encI bh)] w_) ?_ fun pD=>?_
 rintro X4 xZ ⟨wZ,ib,ic,gI,iH,gJ,iI,gK,iJ,gL,iK,BP,BQ,BR,BS,BT,BU,BV,BW,BX,BY,uj,lP,Rq⟩
 have OD:=cS.le aR
 have OE:=OD.le lP
 have OF:=cU.le aR
 have OG:=OF.le lP
 have OH:=cy.le aR
 have OI:=OH.le lP
 refine zM 0 Z Z Z Z (zL Z Z Try.call19 (zB uj zS) Z) Rq (fun hs=>wCe p0 bL bM cg ci bC bD xZ wZ hs OE OG OI lF) (.inr Z) ?_
 rintro qS Vj Xk x2 T9 Rr ⟨wK,yJ,wL,yK,p8,sn,rfl,rfl,OJ,OL⟩
 have Rs:sW w U qS [.row p8 sn 124 2 (hH wAE aq.Across),.blk b2 26 B0,.blk ib 26 B1,.blk ic 54 B1,.row gI iH 3 1 (hH KL.encI ae.Shots),.row gJ iI 3 1 (hH KL.encI ae.Down),.row gK iJ 35 2 (hH wAA ae.Across),.row gL iK 3 1 (hH KL.encI bh)] x2:=Rr
 exact pC _ _ ⟨qS,ib,ic,gI,iH,gJ,iI,gK,iJ,gL,iK,wK,yJ,wL,yK,p8,sn,BP,BQ,BR,BS,BT,BU,BV,BW,BX,BY,uj,rfl,(lP.trans T9),(Rs.pick [1,2,3,4,5,6,7,0] _ (by decide) rfl),OJ,OL⟩
 refine Zb (s:=gCt) (M:=fun σ_ w_=>∃ (U_:PHeap) (jS:Nat) (jm:Option Addr) (jY:Nat) (jo:Option Addr) (jZ:Nat) (jp:Option Addr) (j0:Nat) (jq:Option Addr) (j5:Nat) (jr:Option Addr) (j6:Nat) (jt:Option Addr) (j7:Nat) (ju:Option Addr) (j8:Nat),σ_ 1=jV p1/\σ_ 2=jV p2/\σ_ 3=.slice av p3.length az/\σ_ 4=.pointer (some ⟨b2,0,none⟩)/\σ_ 11=.pointer (some ⟨jS,0,none⟩)/\σ_ 40=.agg B0.toArray/\σ_ 41=.agg #[.slice jm ae.Shots.length jY,.slice jo ae.Down.length jZ,.slice jp ae.Across.length j0]/\σ_ 42=.slice av p3.length az/\σ_ 43=.slice jq bh.length j5/\σ_ 44=.agg B0.toArray/\σ_ 45=.agg #[.slice jr aq.Shots.length j6,.slice jt aq.Down.length j7,.slice ju aq.Across.length j8]/\PHeap.Le U8 U_/\sW w U U_ [.blk b2 26 B0,.blk jS 54 B1,.row jm jY 3 1 (hH KL.encI ae.Shots),.row jo jZ 3 1 (hH KL.encI ae.Down),.row jp j0 35 2 (hH wAA ae.Across),.row jq j5 3 1 (hH KL.encI bh),.row ju j8 124 2 (hH wAE aq.Across)] w_/\Sl U_ 1 jr j6 aq.Shots.length (hH KL.encI aq.Shots)/\Sl U_ 1 jt j7 aq.Down.length (hH KL.encI aq.Down)) ?_ fun wg=>?_
 rintro XG Vn ⟨wM,jS,jm,jY,jo,jZ,jp,j0,jq,j5,jr,j6,jt,j7,ju,j8,yN,yO,yP,yQ,yR,yS,yT,yU,yV,yW,yX,TU,OQ,Cd,Ce⟩
 refine zx (cs:=B1) Z Z Z Z Z Zm Z OQ ?_
 intro Vo ya OR
 exact pC _ _ ⟨wM,ya,jS,jm,jY,jo,jZ,jp,j0,jq,j5,jr,j6,jt,j7,ju,j8,yN,yO,yP,yQ,rfl,yR,yS,yT,yU,yV,yW,yX,TU,(OR.pick [1,0,2,3,4,5,6,7] _ (by decide) rfl),Cd,Ce⟩
 refine Zb (s:=gCs) (M:=fun σ_ w_=>∃ (U_:PHeap) (jU:Nat) (jv:Option Addr) (j9:Nat) (jw:Option Addr) (lf:Nat) (jx:Option Addr) (lg:Nat) (jy:Option Addr) (lh:Nat) (jz:Option Addr) (li:Nat) (jA:Option Addr) (lj:Nat) (jB:Option Addr) (lm:Nat),σ_ 1=jV p1/\σ_ 2=jV p2/\σ_ 3=.slice av p3.length az/\σ_ 4=.pointer (some ⟨b2,0,none⟩)/\σ_ 9=.pointer (some ⟨jU,0,none⟩)/\σ_ 40=.agg B0.toArray/\σ_ 41=.agg #[.slice jv ae.Shots.length j9,.slice jw ae.Down.length lf,.slice jx ae.Across.length lg]/\σ_ 42=.slice av p3.length az/\σ_ 43=.slice jy bh.length lh/\σ_ 44=.agg B0.toArray/\σ_ 45=.agg #[.slice jz aq.Shots.length li,.slice jA aq.Down.length lj,.slice jB aq.Across.length lm]/\PHeap.Le U8 U_/\sW w U U_ [.blk b2 26 B0,.blk jU 26 B1,.row jv j9 3 1 (hH KL.encI ae.Shots),.row jw lf 3 1 (hH KL.encI ae.Down),.row jx lg 35 2 (hH wAA ae.Across),.row jy lh 3 1 (hH KL.encI bh),.row jB lm 124 2 (hH wAE aq.Across)] w_/\Sl U_ 1 jz li aq.Shots.length (hH KL.encI aq.Shots)/\Sl U_ 1 jA lj aq.Down.length (hH KL.encI aq.Down)) ?_ fun wh=>?_
 rintro XH Vp ⟨wN,jU,jv,j9,jw,lf,jx,lg,jy,lh,jz,li,jA,lj,jB,lm,yY,yZ,y4,y5,y6,y7,y8,y9,z0,z4,z5,TV,OT,Cf,Cg⟩
 refine zx (cs:=B1) Z Z Z Z Z ZF Z OT ?_
 intro Vq yb OU
 exact pC _ _ ⟨wN,jU,yb,jv,j9,jw,lf,jx,lg,jy,lh,jz,li,jA,lj,jB,lm,yY,yZ,y4,y5,y6,rfl,y7,y8,y9,z0,z4,z5,TV,(OU.pick [1,2,0,3,4,5,6,7] _ (by decide) rfl),Cf,Cg⟩
 refine Zb (s:=gCz) (M:=fun σ_ w_=>∃ (U_:PHeap) (gS:Nat) (gT:Nat) (gm:Option Addr) (ie:Nat) (gp:Option Addr) (ig:Nat) (gq:Option Addr) (ii:Nat),σ_ 1=jV p1/\σ_ 2=jV p2/\σ_ 3=.slice av p3.length az/\σ_ 4=.pointer (some ⟨b2,0,none⟩)/\σ_ 9=.pointer (some ⟨gS,0,none⟩)/\σ_ 11=.pointer (some ⟨gT,0,none⟩)/\σ_ 40=.agg B0.toArray/\σ_ 41=.agg #[.slice gm ae.Shots.length ie,.slice gp ae.Down.length ig,.slice gq ae.Across.length ii]/\σ_ 42=.slice av p3.length az/\σ_ 44=.agg B0.toArray/\PHeap.Le U8 U_/\sW w U U_ [.blk b2 26 B0,.blk gS 26 B1,.blk gT 54 B1,.row gm ie 3 1 (hH KL.encI ae.Shots),.row gp ig 3 1 (hH KL.encI ae.Down),.row gq ii 35 2 (hH wAA ae.Across)] w_) ?_ fun pA=>?_
 rintro XI w6 ⟨wO,gS,gT,gm,ie,gp,ig,gq,ii,z6,z7,z8,z9,Aa,Ab,Ac,Ad,sq,Ae,wq,OV⟩
 have Ch:=gh.le aR
 have Ci:=Ch.le wq
 refine zM 0 Z Z Z Z (zL Z Z Try.call18 (zB sq zS) Z) OV (fun hs=>wBZ p3 av az w6 wO hs Ci lE) (.inr Z) ?_
 rintro qf Uo Wr w7 TW OW ⟨pH,rI,rfl,rfl⟩
 have OX:sW w U qf [.row pH rI 3 1 (hH KL.encI bh),.blk b2 26 B0,.blk gS 26 B1,.blk gT 54 B1,.row gm ie 3 1 (hH KL.encI ae.Shots),.row gp ig 3 1 (hH KL.encI ae.Down),.row gq ii 35 2 (hH wAA ae.Across)] w7:=OW
 exact pD _ _ ⟨qf,gS,gT,gm,ie,gp,ig,gq,ii,pH,rI,z6,z7,z8,z9,Aa,Ab,Ac,Ad,sq,rfl,Ae,(wq.trans TW),(OX.pick [1,2,3,4,5,6,0] _ (by decide) rfl)⟩
 refine Zb (s:=gDd) (M:=fun σ_ w_=>∃ (U_:PHeap) (fj:Nat) (eH:Option Addr) (fw:Nat) (eI:Option Addr) (fy:Nat) (eJ:Option Addr) (fz:Nat) (eK:Option Addr) (fA:Nat),σ_ 1=jV p1/\σ_ 2=jV p2/\σ_ 3=.slice av p3.length az/\σ_ 4=.pointer (some ⟨b2,0,none⟩)/\σ_ 11=.pointer (some ⟨fj,0,none⟩)/\σ_ 40=.agg B0.toArray/\σ_ 41=.agg #[.slice eH ae.Shots.length fw,.slice eI ae.Down.length fy,.slice eJ ae.Across.length fz]/\σ_ 42=.slice av p3.length az/\σ_ 43=.slice eK bh.length fA/\σ_ 44=.agg B0.toArray/\PHeap.Le U8 U_/\sW w U U_ [.blk b2 26 B0,.blk fj 54 B1,.row eH fw 3 1 (hH KL.encI ae.Shots),.row eI fy 3 1 (hH KL.encI ae.Down),.row eJ fz 35 2 (hH wAA ae.Across),.row eK fA 3 1 (hH KL.encI bh)] w_) ?_ fun wi=>?_
 rintro XJ w8 ⟨qg,fj,eH,fw,eI,fy,eJ,fz,eK,fA,ss,su,sw,sA,sB,sC,sD,sE,sF,mV,ja,uX⟩
 refine Zc ?_ ?_
 have Ck:=cS.le aR
 have Cm:=Ck.le ja
 have Cn:=cU.le aR
 have Co:=Cn.le ja
 have Cp:=cy.le aR
 have Cq:=Cp.le ja
 refine zM 0 Z Z Z Z (zL Z Z Try.call19 (zB mV zS) Z) uX (fun hs=>wCe p0 bL bM cg ci bC bD w8 qg hs Cm Co Cq lF) (.inr Z) ?_
 rintro qh Up Ws w9 TX OY ⟨wG,yu,wH,yv,pI,rJ,rfl,rfl,Cr,Cs⟩
 have OZ:sW w U qh [.row pI rJ 124 2 (hH wAE aq.Across),.blk b2 26 B0,.blk fj 54 B1,.row eH fw 3 1 (hH KL.encI ae.Shots),.row eI fy 3 1 (hH KL.encI ae.Down),.row eJ fz 35 2 (hH wAA ae.Across),.row eK fA 3 1 (hH KL.encI bh)] w9:=OY
 exact wg _ _ ⟨qh,fj,eH,fw,eI,fy,eJ,fz,eK,fA,wG,yu,wH,yv,pI,rJ,ss,su,sw,sA,sB,sC,sD,sE,sF,mV,rfl,(ja.trans TX),(OZ.pick [1,2,3,4,5,6,0] _ (by decide) rfl),Cr,Cs⟩
 refine zx (cs:=B1) Z Z Z Z Z Zm Z uX ?_
 intro Vr yc O0
 exact pD _ _ ⟨qg,yc,fj,eH,fw,eI,fy,eJ,fz,eK,fA,ss,su,sw,sA,rfl,sB,sC,sD,sE,sF,mV,ja,(O0.pick [1,0,2,3,4,5,6] _ (by decide) rfl)⟩
 refine Zb (s:=gDc) (M:=fun σ_ w_=>∃ (U_:PHeap) (fm:Nat) (eL:Option Addr) (fB:Nat) (eM:Option Addr) (fC:Nat) (eO:Option Addr) (fD:Nat) (eP:Option Addr) (fE:Nat),σ_ 1=jV p1/\σ_ 2=jV p2/\σ_ 3=.slice av p3.length az/\σ_ 4=.pointer (some ⟨b2,0,none⟩)/\σ_ 9=.pointer (some ⟨fm,0,none⟩)/\σ_ 40=.agg B0.toArray/\σ_ 41=.agg #[.slice eL ae.Shots.length fB,.slice eM ae.Down.length fC,.slice eO ae.Across.length fD]/\σ_ 42=.slice av p3.length az/\σ_ 43=.slice eP bh.length fE/\σ_ 44=.agg B0.toArray/\PHeap.Le U8 U_/\sW w U U_ [.blk b2 26 B0,.blk fm 26 B1,.row eL fB 3 1 (hH KL.encI ae.Shots),.row eM fC 3 1 (hH KL.encI ae.Down),.row eO fD 35 2 (hH wAA ae.Across),.row eP fE 3 1 (hH KL.encI bh)] w_) ?_ fun wj=>?_
 rintro XK xa ⟨qi,fm,eL,fB,eM,fC,eO,fD,eP,fE,sG,sH,sI,sJ,sK,sL,sM,sO,sP,mW,jb,uY⟩
 refine Zc ?_ ?_
 have Ct:=cS.le aR
 have Cu:=Ct.le jb
 have Cv:=cU.le aR
 have Cw:=Cv.le jb
 have Cx:=cy.le aR
 have Cy:=Cx.le jb
 refine zM 0 Z Z Z Z (zL Z Z Try.call19 (zB mW zS) Z) uY (fun hs=>wCe p0 bL bM cg ci bC bD xa qi hs Cu Cw Cy lF) (.inr Z) ?_
 rintro qj Uq Wt xb TY O2 ⟨wI,yw,wJ,yy,pJ,rK,rfl,rfl,Cz,CA⟩
 have O3:sW w U qj [.row pJ rK 124 2 (hH wAE aq.Across),.blk b2 26 B0,.blk fm 26 B1,.row eL fB 3 1 (hH KL.encI ae.Shots),.row eM fC 3 1 (hH KL.encI ae.Down),.row eO fD 35 2 (hH wAA ae.Across),.row eP fE 3 1 (hH KL.encI bh)] xb:=O2
 exact wh _ _ ⟨qj,fm,eL,fB,eM,fC,eO,fD,eP,fE,wI,yw,wJ,yy,pJ,rK,sG,sH,sI,sJ,sK,sL,sM,sO,sP,mW,rfl,(jb.trans TY),(O3.pick [1,2,3,4,5,6,0] _ (by decide) rfl),Cz,CA⟩
 refine zx (cs:=B1) Z Z Z Z Z ZF Z uY ?_
 intro Vs yd O4
 exact pD _ _ ⟨qi,fm,yd,eL,fB,eM,fC,eO,fD,eP,fE,sG,sH,sI,sJ,sK,rfl,sL,sM,sO,sP,mW,jb,(O4.pick [1,2,0,3,4,5,6] _ (by decide) rfl)⟩
 refine Zb (s:=gDe) (M:=fun σ_ w_=>∃ (U_:PHeap) (gU:Nat) (gW:Nat),σ_ 1=jV p1/\σ_ 2=jV p2/\σ_ 3=.slice av p3.length az/\σ_ 4=.pointer (some ⟨b2,0,none⟩)/\σ_ 9=.pointer (some ⟨gU,0,none⟩)/\σ_ 11=.pointer (some ⟨gW,0,none⟩)/\σ_ 40=.agg B0.toArray/\σ_ 42=.slice av p3.length az/\σ_ 44=.agg B0.toArray/\PHeap.Le U8 U_/\sW w U U_ [.blk b2 26 B0,.blk gU 26 B1,.blk gW 54 B1] w_) ?_ fun wk=>?_
 rintro XL xc ⟨wP,gU,gW,Af,Ag,Ah,Ai,Aj,Ak,sQ,Al,Am,lM,O5⟩
 have CB:=cS.le aR
 have CD:=CB.le lM
 have CE:=cU.le aR
 have CF:=CE.le lM
 have CG:=cy.le aR
 have CH:=CG.le lM
 refine zM 0 Z Z Z Z (zL Z Z Try.call17 (zB sQ zS) Z) O5 (fun hs=>wCX p0 bL bM cg ci bC bD xc wP hs CD CF CH lD) (.inr Z) ?_
 rintro qk Ur Wu xd TZ O6 ⟨pK,rL,pL,rM,pM,rN,rfl,rfl⟩
 have O7:sW w U qk [.row pK rL 3 1 (hH KL.encI ae.Shots),.row pL rM 3 1 (hH KL.encI ae.Down),.row pM rN 35 2 (hH wAA ae.Across),.blk b2 26 B0,.blk gU 26 B1,.blk gW 54 B1] xd:=O6
 exact pA _ _ ⟨qk,gU,gW,pK,rL,pL,rM,pM,rN,Af,Ag,Ah,Ai,Aj,Ak,sQ,rfl,Al,Am,(lM.trans TZ),(O7.pick [3,4,5,0,1,2] _ (by decide) rfl)⟩
 refine Zb (s:=gDh) (M:=fun σ_ w_=>∃ (U_:PHeap) (ft:Nat) (eQ:Option Addr) (fG:Nat) (eT:Option Addr) (fH:Nat) (eU:Option Addr) (fJ:Nat),σ_ 1=jV p1/\σ_ 2=jV p2/\σ_ 3=.slice av p3.length az/\σ_ 4=.pointer (some ⟨b2,0,none⟩)/\σ_ 11=.pointer (some ⟨ft,0,none⟩)/\σ_ 40=.agg B0.toArray/\σ_ 41=.agg #[.slice eQ ae.Shots.length fG,.slice eT ae.Down.length fH,.slice eU ae.Across.length fJ]/\σ_ 42=.slice av p3.length az/\σ_ 44=.agg B0.toArray/\PHeap.Le U8 U_/\sW w U U_ [.blk b2 26 B0,.blk ft 54 B1,.row eQ fG 3 1 (hH KL.encI ae.Shots),.row eT fH 3 1 (hH KL.encI ae.Down),.row eU fJ 35 2 (hH wAA ae.Across)] w_) ?_ fun wn=>?_
 rintro XM xe ⟨ql,ft,eQ,fG,eT,fH,eU,fJ,sS,sT,sU,sV,sX,sY,sZ,mX,s5,pE,uZ⟩
 refine Zc ?_ ?_
 have CI:=gh.le aR
 have CJ:=CI.le pE
 refine zM 0 Z Z Z Z (zL Z Z Try.call18 (zB mX zS) Z) uZ (fun hs=>wBZ p3 av az xe ql hs CJ lE) (.inr Z) ?_
 rintro qm Us Wv xf T0 O8 ⟨pN,rO,rfl,rfl⟩
 have O9:sW w U qm [.row pN rO 3 1 (hH KL.encI bh),.blk b2 26 B0,.blk ft 54 B1,.row eQ fG 3 1 (hH KL.encI ae.Shots),.row eT fH 3 1 (hH KL.encI ae.Down),.row eU fJ 35 2 (hH wAA ae.Across)] xf:=O8
 exact wi _ _ ⟨qm,ft,eQ,fG,eT,fH,eU,fJ,pN,rO,sS,sT,sU,sV,sX,sY,sZ,mX,rfl,s5,(pE.trans T0),(O9.pick [1,2,3,4,5,0] _ (by decide) rfl)⟩
 refine zx (cs:=B1) Z Z Z Z Z Zm Z uZ ?_
 intro Vt ye Pb
 exact pA _ _ ⟨ql,ye,ft,eQ,fG,eT,fH,eU,fJ,sS,sT,sU,sV,rfl,sX,sY,sZ,mX,s5,pE,(Pb.pick [1,0,2,3,4,5] _ (by decide) rfl)⟩
 refine Zb (s:=gDg) (M:=fun σ_ w_=>∃ (U_:PHeap) (fu:Nat) (eV:Option Addr) (fK:Nat) (eW:Option Addr) (fL:Nat) (eX:Option Addr) (fM:Nat),σ_ 1=jV p1/\σ_ 2=jV p2/\σ_ 3=.slice av p3.length az/\σ_ 4=.pointer (some ⟨b2,0,none⟩)/\σ_ 9=.pointer (some ⟨fu,0,none⟩)/\σ_ 40=.agg B0.toArray/\σ_ 41=.agg #[.slice eV ae.Shots.length fK,.slice eW ae.Down.length fL,.slice eX ae.Across.length fM]/\σ_ 42=.slice av p3.length az/\σ_ 44=.agg B0.toArray/\PHeap.Le U8 U_/\sW w U U_ [.blk b2 26 B0,.blk fu 26 B1,.row eV fK 3 1 (hH KL.encI ae.Shots),.row eW fL 3 1 (hH KL.encI ae.Down),.row eX fM 35 2 (hH wAA ae.Across)] w_) ?_ fun wp=>?_
 rintro XN xg ⟨qn,fu,eV,fK,eW,fL,eX,fM,s6,s7,s8,s9,tc,td,te,mY,tf,pF,u0⟩
 refine Zc ?_ ?_
 have CL:=gh.le aR
 have CM:=CL.le pF
 refine zM 0 Z Z Z Z (zL Z Z Try.call18 (zB mY zS) Z) u0 (fun hs=>wBZ p3 av az xg qn hs CM lE) (.inr Z) ?_
 rintro qo Ut Ww xh T1 Pe ⟨pO,rP,rfl,rfl⟩
 have Pf:sW w U qo [.row pO rP 3 1 (hH KL.encI bh),.blk b2 26 B0,.blk fu 26 B1,.row eV fK 3 1 (hH KL.encI ae.Shots),.row eW fL 3 1 (hH KL.encI ae.Down),.row eX fM 35 2 (hH wAA ae.Across)] xh:=Pe
 exact wj _ _ ⟨qo,fu,eV,fK,eW,fL,eX,fM,pO,rP,s6,s7,s8,s9,tc,td,te,mY,rfl,tf,(pF.trans T1),(Pf.pick [1,2,3,4,5,0] _ (by decide) rfl)⟩
 refine zx (cs:=B1) Z Z Z Z Z ZF Z u0 ?_
 intro Vu yf Pg
 exact pA _ _ ⟨qn,fu,yf,eV,fK,eW,fL,eX,fM,s6,s7,s8,s9,tc,rfl,td,te,mY,tf,pF,(Pg.pick [1,2,0,3,4,5] _ (by decide) rfl)⟩
 refine oL Z (ge.ldBA (j:=0) Z Z Z ZT zu (vs:=B0) Z Z) (oM Z Z (oL Z (ge.ldBA (j:=0) Z Z Z ZT zu (vs:=B0) Z Z) (Zc ?_ ?_)))
 have uk:=cS.le aR
 have ul:=cU.le aR
 have um:=cy.le aR
 refine zM 0 Z Z Z Z (zL Z Z Try.call17 (zB Z zS) Z) ge (fun hs=>wCX p0 bL bM cg ci bC bD xK U8 hs uk ul um lD) (.inr Z) ?_
 rintro jM Uu Wx qT dp Ph ⟨dX,eb,dY,ed,dZ,ef,rfl,rfl⟩
 let B4:Res:=.row dZ ef 35 2 (hH wAA ae.Across)
 let B5:Res:=.row dX eb 3 1 (hH KL.encI ae.Shots)
 let B6:Res:=.row dY ed 3 1 (hH KL.encI ae.Down)
 have pa:sW w U jM [B5,B6,B4,.blk b2 26 B0] qT:=Ph
 refine Zc ?_ ?_
 have CN:=gh.le aR
 have CO:=CN.le dp
 refine zM 0 Z Z Z Z (zL Z Z Try.call18 (zB Z zS) Z) pa (fun hs=>wBZ p3 av az qT jM hs CO lE) (.inr Z) ?_
 rintro jN Uv Wy qU eC Pi ⟨gt,ij,rfl,rfl⟩
 let B7:Res:=.row gt ij 3 1 (hH KL.encI bh)
 have pb:sW w U jN [B7,B5,B6,B4,.blk b2 26 B0] qU:=Pi
 refine Zc ?_ ?_
 have CP:=uk.le dp
 have CQ:=CP.le eC
 have CR:=ul.le dp
 have CT:=CR.le eC
 have CU:=um.le dp
 have CV:=CU.le eC
 refine zM 0 Z Z Z Z (zL Z Z Try.call19 (zB Z zS) Z) pb (fun hs=>wCe p0 bL bM cg ci bC bD qU jN hs CQ CT CV lF) (.inr Z) ?_
 rintro l3 Uw Wz xi wt Pj ⟨pP,rQ,pQ,rS,lU,mB,rfl,rfl,uo,up⟩
 have u4:sW w U l3 [.row lU mB 124 2 (hH wAE aq.Across),B7,B5,B6,B4,.blk b2 26 B0] xi:=Pj
 refine Zc ?_ ?_
 refine zx (cs:=B1) Z Z Z Z Z Zm Z u4 ?_
 intro Vv yg Pk
 exact wh _ _ ⟨l3,yg,dX,eb,dY,ed,dZ,ef,gt,ij,pP,rQ,pQ,rS,lU,mB,rfl,rfl,rfl,rfl,rfl,rfl,rfl,rfl,rfl,rfl,rfl,((dp.trans eC).trans wt),(Pk.pick [6,0,3,4,5,2,1] _ (by decide) rfl),uo,up⟩
 refine zx (cs:=B1) Z Z Z Z Z ZF Z u4 ?_
 intro Vw yh Pm
 exact wg _ _ ⟨l3,yh,dX,eb,dY,ed,dZ,ef,gt,ij,pP,rQ,pQ,rS,lU,mB,rfl,rfl,rfl,rfl,rfl,rfl,rfl,rfl,rfl,rfl,rfl,((dp.trans eC).trans wt),(Pm.pick [6,0,3,4,5,2,1] _ (by decide) rfl),uo,up⟩
 refine Zc ?_ ?_
 refine zx (cs:=B1) Z Z Z Z Z Zm Z pb ?_
 intro Vx yi Pn
 exact wj _ _ ⟨jN,yi,dX,eb,dY,ed,dZ,ef,gt,ij,rfl,rfl,rfl,rfl,rfl,rfl,rfl,rfl,rfl,rfl,(dp.trans eC),(Pn.pick [5,0,2,3,4,1] _ (by decide) rfl)⟩
 refine zx (cs:=B1) Z Z Z Z Z ZF Z pb ?_
 intro Vy yj Po
 exact wi _ _ ⟨jN,yj,dX,eb,dY,ed,dZ,ef,gt,ij,rfl,rfl,rfl,rfl,rfl,rfl,rfl,rfl,rfl,rfl,(dp.trans eC),(Po.pick [5,0,2,3,4,1] _ (by decide) rfl)⟩
 refine Zc ?_ ?_
 refine zx (cs:=B1) Z Z Z Z Z Zm Z pa ?_
 intro Vz yk Pp
 exact wp _ _ ⟨jM,yk,dX,eb,dY,ed,dZ,ef,rfl,rfl,rfl,rfl,rfl,rfl,rfl,rfl,rfl,dp,(Pp.pick [4,0,1,2,3] _ (by decide) rfl)⟩
 refine zx (cs:=B1) Z Z Z Z Z ZF Z pa ?_
 intro VA yl Pq
 exact wn _ _ ⟨jM,yl,dX,eb,dY,ed,dZ,ef,rfl,rfl,rfl,rfl,rfl,rfl,rfl,rfl,rfl,dp,(Pq.pick [4,0,1,2,3] _ (by decide) rfl)⟩
 refine Zc ?_ ?_
 refine zx (cs:=B1) Z Z Z Z Z Zm Z ge ?_
 intro xj mw u5
 refine Zc ?_ ?_
 have CW:=cS.le aR
 have CX:=cU.le aR
 have CY:=cy.le aR
 refine zM 0 Z Z Z Z (zL Z Z Try.call17 (zB Z zS) Z) u5 (fun hs=>wCX p0 bL bM cg ci bC bD xj U8 hs CW CX CY lD) (.inr Z) ?_
 rintro qp Ux WA xk T2 Pr ⟨pR,rT,pS,rV,pT,rW,rfl,rfl⟩
 have Ps:sW w U qp [.row pR rT 3 1 (hH KL.encI ae.Shots),.row pS rV 3 1 (hH KL.encI ae.Down),.row pT rW 35 2 (hH wAA ae.Across),.blk mw 26 B1,.blk b2 26 B0] xk:=Pr
 exact wp _ _ ⟨qp,mw,pR,rT,pS,rV,pT,rW,rfl,rfl,rfl,rfl,rfl,rfl,rfl,rfl,rfl,T2,(Ps.pick [4,3,0,1,2] _ (by decide) rfl)⟩
 refine zx (cs:=B1) Z Z Z Z Z ZF Z u5 ?_
 intro VB ym Pt
 exact wk _ _ ⟨U8,mw,ym,rfl,rfl,rfl,rfl,rfl,rfl,rfl,rfl,rfl,(zX _),(Pt.pick [2,1,0] _ (by decide) rfl)⟩
 refine zx (cs:=B1) Z Z Z Z Z ZF Z ge ?_
 intro xl my u6
 refine Zc ?_ ?_
 have CZ:=cS.le aR
 have C0:=cU.le aR
 have C1:=cy.le aR
 refine zM 0 Z Z Z Z (zL Z Z Try.call17 (zB Z zS) Z) u6 (fun hs=>wCX p0 bL bM cg ci bC bD xl U8 hs CZ C0 C1 lD) (.inr Z) ?_
 rintro qq Uy WB xm T3 Pu ⟨pU,rX,pV,rY,pW,rZ,rfl,rfl⟩
 have Pv:sW w U qq [.row pU rX 3 1 (hH KL.encI ae.Shots),.row pV rY 3 1 (hH KL.encI ae.Down),.row pW rZ 35 2 (hH wAA ae.Across),.blk my 54 B1,.blk b2 26 B0] xm:=Pu
 exact wn _ _ ⟨qq,my,pU,rX,pV,rY,pW,rZ,rfl,rfl,rfl,rfl,rfl,rfl,rfl,rfl,rfl,T3,(Pv.pick [4,3,0,1,2] _ (by decide) rfl)⟩
 refine zx (cs:=B1) Z Z Z Z Z Zm Z u6 ?_
 intro VC yn Pw
 exact wk _ _ ⟨U8,yn,my,rfl,rfl,rfl,rfl,rfl,rfl,rfl,rfl,rfl,(zX _),(Pw.pick [2,0,1] _ (by decide) rfl)⟩
 rintro XO jQ ⟨Vk,ah,bV,bY,bN,bP,bO,bQ,bq,bs,ai,cj,cp,cm,cq,bW,bZ,lv,lw,An,Ao,mZ,Ap,tg,b5,u7,C2,C4⟩
 refine sR (wDw (.fx 3 (wRs gCm) .stop)) Z ?_
 let B8:List Value:=[.slice bV bR.length bY,.slice bN bI.length bP,.slice bO bJ.length bQ]
 refine oL Z (u7.ldBA (j:=1) Z Z mZ ZT zu (vs:=B8) Z Z) (oM Z lv (oM Z lw ?_))
 have q:=u7.freezeR (k:=2) (n:=bR.length) rfl (wAI (f:=KL.encI) (sz:=1) (fun _=>rfl) bR) (by decide)
 obtain ⟨wQ,bK,TH,Px⟩:=q
 let B9:List Value:=[.slice cj cr.length cp,.slice cm ct.length cq,.slice bW bS.length bZ]
 let bX:Res:=.row bq bs 3 1 (hH KL.encI bl)
 let gM:Res:=.row bW bZ 124 2 (hH wAE bS)
 let p9:Res:=.row bO bQ 35 2 (hH wAA bJ)
 have Py:sW w U wQ [.blk b2 26 B0,.blk ah 26 B8,.row bN bP 3 1 (hH KL.encI bI),p9,bX,.blk ai 54 B9,gM] jQ:=Px
 have q:=Py.freezeR (k:=2) (n:=bI.length) rfl (wAI (f:=KL.encI) (sz:=1) (fun _=>rfl) bI) (by decide)
 obtain ⟨wR,bF,TI,Pz⟩:=q
 have PA:sW w U wR [.blk b2 26 B0,.blk ah 26 B8,p9,bX,.blk ai 54 B9,gM] jQ:=Pz
 have q:=PA.freezeR (k:=2) (n:=bJ.length) rfl (wAI (f:=wAA) (sz:=2) (fun _=>rfl) bJ) (by decide)
 obtain ⟨qr,bv,v9,PB⟩:=q
 have PC:sW w U qr [.blk b2 26 B0,.blk ah 26 B8,bX,.blk ai 54 B9,gM] jQ:=PB
 have C5:=TH.le bF
 have uq:=C5.le bv
 have ur:=TI.le bv
 have q:=bnd v7
 obtain ⟨⟨eE,Uc⟩,C6,vE⟩:=q
 try dsimp only at vE
 refine zM 0 Z Z Z Z (zL Z Z Try.call14 (zB Z (zB Z (zB Z zS))) Z) PC (fun hs=>wIy (⟨bR,bI,bJ⟩:wAB) bV bY bN bP bO bQ p1 p2 jQ qr hs uq ur v9 C6) (.inr Z) ?_
 rintro qt Uz WC xn bt PD ⟨rfl,rfl⟩
 have PF:sW w U qt [.blk b2 26 B0,.blk ah 26 B8,bX,.blk ai 54 B9,gM] xn:=PD
 refine oM Z Z (oR Z (ZC Z Z (v:=.agg #[jV eE.Lo,jV eE.Hi]) Z) (oR Z (ZC Z Z (v:=jV Uc) Z) ?_))
 let dg:List Value:=[jV 0,jV 0]
 refine zx (cs:=dg) Z Z Z Z Z zw Z PF ?_
 intro VD am PG
 let bG:List Value:=[jV eE.Lo,jV eE.Hi]
 refine zt (j:=0) (vs:=bG) Z Z Z Z PG Z Z Z Z zH (zC Z) Z Z Z ?_
 intro mp PH
 have u9:sW w U qt [.blk am 44 bG,.blk b2 26 B0,.blk ah 26 B8,bX,.blk ai 54 B9,gM] mp:=PH
 refine oA Z Z (eN (sR (wDw (.fx 3 (wRs gCm) .stop)) Z (oL Z (u9.ldBA (j:=4) Z Z tg ZK zz (vs:=B9) Z Z) (oM Z lv (oM Z lw ?_)))))
 have q:=u9.freezeR (k:=5) (n:=bS.length) rfl (wAI (f:=wAE) (sz:=2) (fun _=>rfl) bS) (by decide)
 obtain ⟨qu,bu,pu,PI⟩:=q
 have PJ:sW w U qu [.blk am 44 bG,.blk b2 26 B0,.blk ah 26 B8,bX,.blk ai 54 B9] mp:=PI
 have C8:=C2.le bK
 have C9:=C8.le bF
 have Da:=C9.le bv
 have Dc:=Da.le bt
 have ou:=Dc.le bu
 have Dd:=C4.le bK
 have De:=Dd.le bF
 have Df:=De.le bv
 have Dg:=Df.le bt
 have ow:=Dg.le bu
 have q:=bnd vE
 obtain ⟨⟨jc,pG⟩,Dh,vF⟩:=q
 try dsimp only at vF
 refine zM 0 Z Z Z Z (zL Z Z Try.call20 (zB Z (zB Z (zB Z zS))) Z) PJ (fun hs=>wDF (⟨cr,ct,bS⟩:wAC) cj cp cm cq bW bZ p1 p2 mp qu hs ou ow pu Dh) (.inr Z) ?_
 rintro gN UA WD xo bi PK ⟨rfl,rfl⟩
 have PL:sW w U gN [.blk am 44 bG,.blk b2 26 B0,.blk ah 26 B8,bX,.blk ai 54 B9] xo:=PK
 refine oM Z Z (oR Z (ZC Z Z (v:=.agg #[jV jc.Lo,jV jc.Hi]) Z) (oR Z (ZC Z Z (v:=jV pG) Z) (zx (cs:=dg) Z Z Z Z Z zw Z PL ?_)))
 intro VE ap PM
 let bE:List Value:=[jV jc.Lo,jV jc.Hi]
 refine zt (j:=0) (vs:=bE) Z Z Z Z PM Z Z Z Z zH (zC Z) Z Z Z ?_
 intro qV PN
 have ga:sW w U gN [.blk ap 44 bE,.blk am 44 bG,.blk b2 26 B0,.blk ah 26 B8,bX,.blk ai 54 B9] qV:=PN
 refine oA Z Z (eN (zJ (sR fL8 Z (oL Z (ga.ldBA (j:=1) Z Z Z zf zH (vs:=bG) Z Z) (oL Z (ga.ldBA (j:=0) Z Z Z zf zH (vs:=bE) Z Z) (oR Z (ZI (Runs.neS (enc:=wAZ) (a:=eE) (b:=jc) Z Z Z wOH wOG) (congrArg nA (decide_not).symm)) (oM Z Z (ifc vF ?_ ?_))))))))
 intro dx RJ
 refine zW Z Z Z (zE Z Z (zm (fun h=>h dx.out))) Z Z (zW Z Z Z (zE Z Z (zm (fun h=>h dx.out))) Z Z (zV Z Z Z (zE Z Z (zm (fun h=>h dx.out))) (fun _=>ZL Z Z Z) (oR Z (zP Z (zm (fun h=>h dx.out)) Z) (eN (ifc RJ ?_ ?_)))))
 intro mC RK
 refine zg (zm (fun h=>h mC.out)) (kN (sR (wDw (.fx 3 (wTY (.nil)) .stop)) Z (oL Z (ga.ldBA (j:=3) Z Z mZ ZT zu (vs:=B8) Z Z) (oM Z lv (oM Z lw ?_)))))
 have Di:=uq.le bt
 have Dj:=Di.le bu
 have ox:=Dj.le bi
 have Dk:=ur.le bt
 have Dl:=Dk.le bu
 have oy:=Dl.le bi
 have Dm:=v9.le bt
 have Dn:=Dm.le bu
 have oz:=Dn.le bi
 have q:=bnd RK
 obtain ⟨⟨eF,eG,jd⟩,Do,vG⟩:=q
 try dsimp only at vG
 refine zM 0 Z Z Z Z (zL Z Z Try.call21 (zB Z (zB Z (zB Z zS))) Z) ga (fun hs=>wGv (⟨bR,bI,bJ⟩:wAB) bV bY bN bP bO bQ p1 p2 qV gN hs ox oy oz Do) (.inr Z) ?_
 rintro gO UB WE xp aY PO ⟨gu,ik,gv,im,rfl,rfl⟩
 let cJ:Res:=.row gv im 3 1 (hH KL.encI eG)
 let dh:Res:=.row gu ik 3 1 (hH KL.encI eF)
 have pc:sW w U gO [dh,cJ,.blk ap 44 bE,.blk am 44 bG,.blk b2 26 B0,.blk ah 26 B8,bX,.blk ai 54 B9] xp:=PO
 refine oM Z Z (oR Z (ZC Z Z (v:=.slice gu eF.length ik) Z) (oR Z (ZC Z Z (v:=.slice gv eG.length im) Z) (oR Z (ZC Z Z (v:=jV jd) Z) (oA Z Z (oA Z Z (oA Z Z (eN (zJ (bnK vG fun yo wa RL=>yB (fun σ_ w_=>∃ (U_:PHeap),σ_ 1=jV p1/\σ_ 2=jV p2/\σ_ 3=.slice av p3.length az/\σ_ 4=.pointer (some ⟨b2,0,none⟩)/\σ_ 9=.pointer (some ⟨ah,0,none⟩)/\σ_ 10=.slice bq bl.length bs/\σ_ 11=.pointer (some ⟨ai,0,none⟩)/\σ_ 12=.pointer (some ⟨am,0,none⟩)/\σ_ 13=jV jd/\σ_ 14=.pointer (some ⟨ap,0,none⟩)/\σ_ 16=.slice gu eF.length ik/\σ_ 17=.slice gv eG.length im/\σ_ 90=.bool yo/\PHeap.Le gO U_/\sW w U U_ [.blk ap 44 bE,.blk am 44 bG,.blk b2 26 B0,.blk ah 26 B8,.blk ai 54 B9,bX,dh,cJ] w_) ?_ ?_)))))))))
 refine CK.fresh fun cR cz=>?_
 have m4:cR 1=jV p1:=(cz 1).trans lv
 have m5:cR 2=jV p2:=(cz 2).trans lw
 have m6:cR 3=.slice av p3.length az:=(cz 3).trans An
 have m7:cR 4=.pointer (some ⟨b2,0,none⟩):=(cz 4).trans Ao
 have m8:cR 9=.pointer (some ⟨ah,0,none⟩):=(cz 9).trans mZ
 have m9:cR 10=.slice bq bl.length bs:=(cz 10).trans Ap
 have n5:cR 11=.pointer (some ⟨ai,0,none⟩):=(cz 11).trans tg
 have n6:cR 12=.pointer (some ⟨am,0,none⟩):=(cz 12).trans rfl
 have iL:cR 13=jV jd:=(cz 13).trans rfl
 have n7:cR 14=.pointer (some ⟨ap,0,none⟩):=(cz 14).trans rfl
 have Aq:cR 15=jV pG:=(cz 15).trans rfl
 have lx:cR 16=.slice gu eF.length ik:=(cz 16).trans rfl
 have ly:cR 17=.slice gv eG.length im:=(cz 17).trans rfl
 clear cz
 refine rR fL15 Z (oM Z iL (oM Z Aq (oR Z (ZL Z Z Z) (oM Z Z ?_))))
 by_cases bH:jd=pG
 have vH:=wa;rw [if_pos bH] at vH;replace bH:=zN bH
 refine zW Z Z Z (zE Z Z (zm (fun h=>h bH.out))) Z iL (zV Z Z Z (zE Z Z (zm (fun h=>h bH.out))) (fun _=>ZL Z Z Z) (zW Z Z Z (zE Z Z (zm (fun h=>h bH.out))) Z Z (ifc vH ?_ ?_)))
 intro cn RM
 refine zG Z Z Z (zF Z Z (zm (fun h=>h cn.out)) Z) (zG Z Z Z (zF Z Z (zm (fun h=>h cn.out)) Z) (zG Z Z Z (zF Z Z (zm (fun h=>h cn.out)) Z) (zG Z Z Z (zF Z Z (zm (fun h=>h cn.out)) Z) (zG Z Z Z (zF Z Z (zm (fun h=>h cn.out)) Z) (zG Z Z Z (zF Z Z (zm (fun h=>h cn.out)) Z) (zV Z Z Z (zE Z Z (zm (fun h=>h bH.out))) (fun _=>zP Z (zm (fun h=>h cn.out)) Z) (oR Z (zP Z (zm (fun h=>h bH.out)) Z) (zn ?_))))))))
 cases RM
 exact zI ⟨rfl,⟨gO,m4,m5,m6,m7,m8,m9,n5,n6,iL,n7,lx,ly,rfl,(zX _),(pc.pick [2,3,4,5,7,6,0,1] _ (by decide) rfl)⟩⟩
 intro cn RN
 refine zW Z Z Z (wT Z cn) Z lx (rU Z (wT Z cn) (zr Z Z zA) (zW Z Z Z (wT Z cn) Z ly (rU Z (wT Z cn) (zr Z Z zA) (rU Z (wT Z cn) (zk Z Z Z) (rU Z (wT Z cn) (Zl Z Z Z) (zV Z Z Z (zE Z Z (zm (fun h=>h bH.out))) (fun _=>zU Z (Zf cn.out) Z) (oR Z (zP Z (zm (fun h=>h bH.out)) Z) (zn ?_))))))))
 have q:=nD RN
 obtain rfl:=q
 exact zI ⟨rfl,⟨gO,m4,m5,m6,m7,m8,m9,n5,n6,iL,n7,lx,ly,rfl,(zX _),(pc.pick [2,3,4,5,7,6,0,1] _ (by decide) rfl)⟩⟩
 have vJ:=wa;rw [if_neg bH] at vJ;replace bH:=zN bH
 refine oT Z bH (oT Z bH (oT Z bH (zG Z Z Z (wAG Z Z Z) (zG Z Z Z (wAG Z Z Z) (zG Z Z Z (wAG Z Z Z) (zG Z Z Z (wAG Z Z Z) (zG Z Z Z (wAG Z Z Z) (zG Z Z Z (wAG Z Z Z) (oT Z bH (oR Z (zU Z (Zf bH.out) Z) (zn ?_)))))))))))
 cases vJ
 exact zI ⟨rfl,⟨gO,m4,m5,m6,m7,m8,m9,n5,n6,iL,n7,lx,ly,rfl,(zX _),(pc.pick [2,3,4,5,7,6,0,1] _ (by decide) rfl)⟩⟩
 rintro XP jR ⟨wS,iM,iN,n9,th,lz,oa,fU,iO,tj,oc,Ar,As,tm,aZ,iX⟩
 refine ifc RL ?_ ?_
 intro mD RP
 refine ZB (tm.trans (congrArg nA mD.out)) (sR fL1 Z (oA Z Z (eN (zQ (ze ?_)))))
 have hE:=nD RP;first | subst r | cases hE
 exact ⟨rfl,_,(ZD rfl),wS,_,(iX.pick [] _ (by decide) rfl),rfl,rfl⟩
 intro mD RQ
 refine zg (tm.trans (congrArg nA (nB.2 mD.out))) (kN (zJ (sR fL2 Z (oM Z tj (oR Z (Zg Z Z Z) (eN (ifc RQ ?_ ?_)))))))
 intro mE RS
 refine cT Z mE (sR (wEX (.fx 4 (wMV gCn) .stop)) Z (oL Z (iX.ldBA (j:=4) Z Z fU ZK zz (vs:=B9) Z Z) (oM Z iM (oM Z iN (oM Z Ar ?_)))))
 have q:=iX.freezeR (k:=6) (n:=eF.length) rfl (wAI (f:=KL.encI) (sz:=1) (fun _=>rfl) eF) (by decide)
 obtain ⟨qv,cA,TJ,PP⟩:=q
 have PQ:sW w U qv [.blk ap 44 bE,.blk am 44 bG,.blk b2 26 B0,.blk ah 26 B8,.blk ai 54 B9,bX,cJ] jR:=PP
 have Dp:=ou.le bi
 have Dq:=Dp.le aY
 have Dr:=Dq.le aZ
 have ut:=Dr.le cA
 have Ds:=ow.le bi
 have Dt:=Ds.le aY
 have Du:=Dt.le aZ
 have uu:=Du.le cA
 have Dw:=pu.le bi
 have Dx:=Dw.le aY
 have Dy:=Dx.le aZ
 have uv:=Dy.le cA
 have q:=bnd RS
 obtain ⟨⟨je,Ud⟩,Dz,vK⟩:=q
 try dsimp only at vK
 refine zM 0 Z Z Z Z (zL Z Z Try.call22 (zB Z (zB Z (zB Z (zB Z zS)))) Z) PQ (fun hs=>wCY (⟨cr,ct,bS⟩:wAC) cj cp cm cq bW bZ p1 p2 eF gu ik jR qv hs ut uu uv TJ Dz) (.inr Z) ?_
 rintro qw UC WG xq cB PR ⟨rfl,rfl⟩
 have PS:sW w U qw [.blk ap 44 bE,.blk am 44 bG,.blk b2 26 B0,.blk ah 26 B8,.blk ai 54 B9,bX,cJ] xq:=PR
 refine oM Z Z (oR Z (ZC Z Z (v:=.agg #[jV je.Lo,jV je.Hi]) Z) (oR Z (ZC Z Z (v:=jV Ud) Z) (zx (cs:=dg) Z Z Z Z Z zw Z PS ?_)))
 intro VF aU PT
 let aT:List Value:=[jV je.Lo,jV je.Hi]
 refine zt (j:=0) (vs:=aT) Z Z Z Z PT Z Z Z Z zH (zC Z) Z Z Z ?_
 intro mq PU
 have va:sW w U qw [.blk aU 44 aT,.blk ap 44 bE,.blk am 44 bG,.blk b2 26 B0,.blk ah 26 B8,.blk ai 54 B9,bX,cJ] mq:=PU
 refine oA Z Z (eN (sR (wEX (.fx 4 (wMV gCn) .stop)) Z (oL Z (va.ldBA (j:=5) Z Z fU ZK zz (vs:=B9) Z Z) (oM Z iM (oM Z iN (oM Z As ?_))))))
 have q:=va.freezeR (k:=7) (n:=eG.length) rfl (wAI (f:=KL.encI) (sz:=1) (fun _=>rfl) eG) (by decide)
 obtain ⟨qx,cC,TK,PV⟩:=q
 have PX:sW w U qx [.blk aU 44 aT,.blk ap 44 bE,.blk am 44 bG,.blk b2 26 B0,.blk ah 26 B8,.blk ai 54 B9,bX] mq:=PV
 have DA:=ut.le cB
 have uw:=DA.le cC
 have DB:=uu.le cB
 have ux:=DB.le cC
 have DC:=uv.le cB
 have uy:=DC.le cC
 have q:=bnd vK
 obtain ⟨⟨jf,Ue⟩,DD,vL⟩:=q
 try dsimp only at vL
 refine zM 0 Z Z Z Z (zL Z Z Try.call22 (zB Z (zB Z (zB Z (zB Z zS)))) Z) PX (fun hs=>wCY (⟨cr,ct,bS⟩:wAC) cj cp cm cq bW bZ p1 p2 eG gv im mq qx hs uw ux uy TK DD) (.inr Z) ?_
 rintro ff UD WH xr cD PZ ⟨rfl,rfl⟩
 have P0:sW w U ff [.blk aU 44 aT,.blk ap 44 bE,.blk am 44 bG,.blk b2 26 B0,.blk ah 26 B8,.blk ai 54 B9,bX] xr:=PZ
 refine oM Z Z (oR Z (ZC Z Z (v:=.agg #[jV jf.Lo,jV jf.Hi]) Z) (oR Z (ZC Z Z (v:=jV Ue) Z) (zx (cs:=dg) Z Z Z Z Z zw Z P0 ?_)))
 intro VG ba P1
 let aX:List Value:=[jV jf.Lo,jV jf.Hi]
 refine zt (j:=0) (vs:=aX) Z Z Z Z P1 Z Z Z Z zH (zC Z) Z Z Z ?_
 intro mr P2
 have dm:sW w U ff [.blk ba 44 aX,.blk aU 44 aT,.blk ap 44 bE,.blk am 44 bG,.blk b2 26 B0,.blk ah 26 B8,.blk ai 54 B9,bX] mr:=P2
 refine oA Z Z (eN (sR fL20 Z (oM Z Z (oR Z (ZL Z Z Z) (oM Z Z (ifc vL ?_ ?_))))))
 intro ei RT
 refine zW Z Z Z (zE Z Z (zm (fun h=>h ei.out))) Z Z (zV Z Z Z (zE Z Z (zm (fun h=>h ei.out))) (fun _=>ZL Z Z Z) (oR Z (zP Z (zm (fun h=>h ei.out)) Z) (oM Z Z (ifc RT ?_ ?_))))
 intro cN RU
 refine zV Z Z Z (zE Z Z (zm (fun h=>h cN.out))) (fun _=>zK Z Z zh Z zD) (zy Z Z Z (zE Z Z (zm (fun h=>h cN.out))) (dm.ldB (j:=1) Z Z Z zO (v:=jV je.Lo) Z) Z (zV Z Z Z (zE Z Z (zm (fun h=>h cN.out))) (fun _=>zK Z iO zh Z zD) (zy Z Z Z (zE Z Z (zm (fun h=>h cN.out))) (dm.ldB (j:=3) Z Z Z zO (v:=jV eE.Lo) Z) Z (zV Z Z Z (zE Z Z (zm (fun h=>h cN.out))) (fun _=>ZL Z Z Z) (oR Z (zP Z (zm (fun h=>h cN.out)) Z) (oM Z Z (ifc RU ?_ ?_)))))))
 intro cO RV
 refine zV Z Z Z (zE Z Z (zm (fun h=>h cO.out))) (fun _=>zK Z Z zh Z zD) (zy Z Z Z (zE Z Z (zm (fun h=>h cO.out))) (dm.ldB (j:=0) Z Z Z zO (v:=jV jf.Hi) Z) Z (zV Z Z Z (zE Z Z (zm (fun h=>h cO.out))) (fun _=>zK Z iO zh Z zD) (zy Z Z Z (zE Z Z (zm (fun h=>h cO.out))) (dm.ldB (j:=3) Z Z Z zO (v:=jV eE.Hi) Z) Z (zV Z Z Z (zE Z Z (zm (fun h=>h cO.out))) (fun _=>ZL Z Z Z) (oR Z (zP Z (zm (fun h=>h cO.out)) Z) (eN (ifc RV ?_ ?_)))))))
 intro mF RW
 refine zg (zm (fun h=>h mF.out)) (kN (zJ (CK.fresh fun dq cZ=>?_)))
 have tn:dq 1=jV p1:=(cZ 1).trans iM
 have tp:dq 2=jV p2:=(cZ 2).trans iN
 have tq:dq 3=.slice av p3.length az:=(cZ 3).trans n9
 have Au:dq 4=.pointer (some ⟨b2,0,none⟩):=(cZ 4).trans th
 have lA:dq 9=.pointer (some ⟨ah,0,none⟩):=(cZ 9).trans lz
 have tr:dq 10=.slice bq bl.length bs:=(cZ 10).trans oa
 have od:dq 11=.pointer (some ⟨ai,0,none⟩):=(cZ 11).trans fU
 have tu:dq 12=.pointer (some ⟨am,0,none⟩):=(cZ 12).trans iO
 have VX:dq 13=jV jd:=(cZ 13).trans tj
 have tv:dq 14=.pointer (some ⟨ap,0,none⟩):=(cZ 14).trans oc
 clear cZ
 refine rR (wEX (.fx 4 (wMV gCf) .stop)) Z (oL Z (dm.ldBA (j:=5) Z Z lA ZT zu (vs:=B8) Z Z) (oM Z tn (oM Z tp (oM Z tr ?_))))
 have q:=dm.freezeR (k:=7) (n:=bl.length) rfl (wAI (f:=KL.encI) (sz:=1) (fun _=>rfl) bl) (by decide)
 obtain ⟨qz,cE,py,P3⟩:=q
 have P4:sW w U qz [.blk ba 44 aX,.blk aU 44 aT,.blk ap 44 bE,.blk am 44 bG,.blk b2 26 B0,.blk ah 26 B8,.blk ai 54 B9] mr:=P3
 have DE:=ox.le aY
 have DF:=DE.le aZ
 have DG:=DF.le cA
 have DH:=DG.le cB
 have DI:=DH.le cC
 have DJ:=DI.le cD
 have uz:=DJ.le cE
 have DK:=oy.le aY
 have DL:=DK.le aZ
 have DM:=DL.le cA
 have DN:=DM.le cB
 have DO:=DN.le cC
 have DP:=DO.le cD
 have uA:=DP.le cE
 have DQ:=oz.le aY
 have DR:=DQ.le aZ
 have DS:=DR.le cA
 have DT:=DS.le cB
 have DU:=DT.le cC
 have DV:=DU.le cD
 have uB:=DV.le cE
 have q:=bnd RW
 obtain ⟨⟨jg,Uf⟩,DW,vM⟩:=q
 try dsimp only at vM
 refine zM 0 Z Z Z Z (zL Z Z Try.call23 (zB Z (zB Z (zB Z (zB Z zS)))) Z) P4 (fun hs=>wFb (⟨bR,bI,bJ⟩:wAB) bV bY bN bP bO bQ p1 p2 bl bq bs mr qz hs uz uA uB py DW) (.inr Z) ?_
 rintro l4 UE WI xt b9 P5 ⟨rfl,rfl⟩
 have P6:sW w U l4 [.blk ba 44 aX,.blk aU 44 aT,.blk ap 44 bE,.blk am 44 bG,.blk b2 26 B0,.blk ah 26 B8,.blk ai 54 B9] xt:=P5
 refine oM Z Z (oR Z (ZC Z Z (v:=.agg #[jV jg.Lo,jV jg.Hi]) Z) (oR Z (ZC Z Z (v:=jV Uf) Z) ?_))
 let bf:List Value:=[jV jg.Lo,jV jg.Hi]
 refine zt (j:=3) (vs:=bf) Z Z Z Z P6 Z tu Z Z zH (zC Z) Z Z Z ?_
 intro qW P7
 have vb:sW w U l4 [.blk ba 44 aX,.blk aU 44 aT,.blk ap 44 bE,.blk am 44 bf,.blk b2 26 B0,.blk ah 26 B8,.blk ai 54 B9] qW:=P7
 refine oA Z Z (eN (sR (wEX (.fx 4 (wMV gCf) .stop)) Z (oL Z (vb.ldBA (j:=6) Z Z od ZK zz (vs:=B9) Z Z) (oM Z tn (oM Z tp (oM Z tq ?_))))))
 have DX:=uw.le cD
 have DY:=DX.le cE
 have uC:=DY.le b9
 have DZ:=ux.le cD
 have D0:=DZ.le cE
 have uD:=D0.le b9
 have D5:=uy.le cD
 have D6:=D5.le cE
 have uE:=D6.le b9
 have D7:=gh.le aR
 have D8:=D7.le b5
 have D9:=D8.le bK
 have Ea:=D9.le bF
 have Eb:=Ea.le bv
 have Ec:=Eb.le bt
 have Ed:=Ec.le bu
 have Ee:=Ed.le bi
 have Ef:=Ee.le aY
 have Eg:=Ef.le aZ
 have Eh:=Eg.le cA
 have Ei:=Eh.le cB
 have Ej:=Ei.le cC
 have Ek:=Ej.le cD
 have El:=Ek.le cE
 have oB:=El.le b9
 have q:=bnd vM
 obtain ⟨⟨jh,Ug⟩,Em,vN⟩:=q
 try dsimp only at vN
 refine zM 0 Z Z Z Z (zL Z Z Try.call22 (zB Z (zB Z (zB Z (zB Z zS)))) Z) vb (fun hs=>wCY (⟨cr,ct,bS⟩:wAC) cj cp cm cq bW bZ p1 p2 p3 av az qW l4 hs uC uD uE oB Em) (.inr Z) ?_
 rintro gP UF WJ xu bT P8 ⟨rfl,rfl⟩
 have P9:sW w U gP [.blk ba 44 aX,.blk aU 44 aT,.blk ap 44 bE,.blk am 44 bf,.blk b2 26 B0,.blk ah 26 B8,.blk ai 54 B9] xu:=P8
 refine oM Z Z (oR Z (ZC Z Z (v:=.agg #[jV jh.Lo,jV jh.Hi]) Z) (oR Z (ZC Z Z (v:=jV Ug) Z) ?_))
 let bj:List Value:=[jV jh.Lo,jV jh.Hi]
 refine zt (j:=2) (vs:=bj) Z Z Z Z P9 Z tv Z Z zH (zC Z) Z Z Z ?_
 intro qX Qa
 have gb:sW w U gP [.blk ba 44 aX,.blk aU 44 aT,.blk ap 44 bj,.blk am 44 bf,.blk b2 26 B0,.blk ah 26 B8,.blk ai 54 B9] qX:=Qa
 refine oA Z Z (eN (zJ (sR fL8 Z (oL Z (gb.ldBA (j:=3) Z Z tu zf zH (vs:=bf) Z Z) (oL Z (gb.ldBA (j:=2) Z Z tv zf zH (vs:=bj) Z Z) (oR Z (ZI (Runs.neS (enc:=wAZ) (a:=jg) (b:=jh) Z Z Z wOH wOG) (congrArg nA (decide_not).symm)) (oM Z Z (ifc vN ?_ ?_))))))))
 intro dy RX
 refine zW Z Z Z (zE Z Z (zm (fun h=>h dy.out))) Z Z (zW Z Z Z (zE Z Z (zm (fun h=>h dy.out))) Z Z (zV Z Z Z (zE Z Z (zm (fun h=>h dy.out))) (fun _=>ZL Z Z Z) (oR Z (zP Z (zm (fun h=>h dy.out)) Z) (eN (ifc RX ?_ ?_)))))
 intro mG RY
 refine zg (zm (fun h=>h mG.out)) (kN (sR gCg Z (oL Z (gb.ldBA (j:=6) Z Z od ZK zz (vs:=B9) Z Z) ?_)))
 have oG:=uC.le bT
 have oH:=uD.le bT
 have oI:=uE.le bT
 refine bnK RY fun wA En RZ=>zM 0 Z Z Z Z (zL Z Z Try.call24 (zB Z zS) Z) gb (fun hs=>wDR (⟨cr,ct,bS⟩:wAC) cj cp cm cq bW bZ qX gP hs oG oH oI En) (.inr Z) ?_
 rintro qA UG WK qY bw Qb ⟨rfl,rfl⟩
 have vc:sW w U qA [.blk ba 44 aX,.blk aU 44 aT,.blk ap 44 bj,.blk am 44 bf,.blk b2 26 B0,.blk ah 26 B8,.blk ai 54 B9] qY:=Qb
 refine oA Z Z (eN (sR (.fl 0 (.fx 1 (wJG (.nil)) .stop)) Z (oL Z (vc.ldBA (j:=5) Z Z lA ZT zu (vs:=B8) Z Z) ?_)))
 have Eo:=uz.le b9
 have Ep:=Eo.le bT
 have uF:=Ep.le bw
 have Er:=uA.le b9
 have Es:=Er.le bT
 have uG:=Es.le bw
 have Et:=uB.le b9
 have Eu:=Et.le bT
 have uH:=Eu.le bw
 have q:=bnd RZ
 obtain ⟨⟨cH,lQ⟩,Ev,vO⟩:=q
 try dsimp only at vO
 refine zM 0 Z Z Z Z (zL Z Z Try.call12 (zB Z zS) Z) vc (fun hs=>wFG (⟨bR,bI,bJ⟩:wAB) bV bY bN bP bO bQ qY qA hs uF uG uH Ev) (.inr Z) ?_
 rintro qB UI WL qZ bz Qc ⟨gw,io,rfl,rfl⟩
 let dM:Res:=.row gw io 44 2 (hH wAZ cH)
 have vd:sW w U qB [dM,.blk ba 44 aX,.blk aU 44 aT,.blk ap 44 bj,.blk am 44 bf,.blk b2 26 B0,.blk ah 26 B8,.blk ai 54 B9] qZ:=Qc
 refine oM Z Z (oR Z (ZC Z Z (v:=.slice gw cH.length io) Z) (oR Z (ZC Z Z (v:=jV lQ) Z) (oA Z Z (oA Z Z (eN (sR (.fl 0 (.fx 1 (wJG (.nil)) .stop)) Z (oL Z (vd.ldBA (j:=6) Z Z lA ZT zu (vs:=B8) Z Z) ?_)))))))
 have oK:=uF.le bz
 have oO:=uG.le bz
 have oP:=uH.le bz
 have q:=bnd vO
 obtain ⟨⟨dL,wB⟩,Ew,vP⟩:=q
 try dsimp only at vP
 refine zM 0 Z Z Z Z (zL Z Z Try.call13 (zB Z zS) Z) vd (fun hs=>wEq (⟨bR,bI,bJ⟩:wAB) bV bY bN bP bO bQ qZ qB hs oK oO oP Ew) (.inr Z) ?_
 rintro d8 UJ WM xw bm Qd ⟨d4,ej,rfl,rfl⟩
 let cK:Res:=.row d4 ej 35 2 (hH wAA dL)
 have gc:sW w U d8 [cK,dM,.blk ba 44 aX,.blk aU 44 aT,.blk ap 44 bj,.blk am 44 bf,.blk b2 26 B0,.blk ah 26 B8,.blk ai 54 B9] xw:=Qd
 refine oM Z Z (oR Z (ZC Z Z (v:=.slice d4 dL.length ej) Z) (oR Z (ZC Z Z (v:=jV wB) Z) (oA Z Z (oA Z Z (eN (zJ (bnK vP fun yp wb R0=>yB (fun σ_ w_=>∃ (U_:PHeap),σ_ 3=.slice av p3.length az/\σ_ 4=.pointer (some ⟨b2,0,none⟩)/\σ_ 9=.pointer (some ⟨ah,0,none⟩)/\σ_ 10=.slice bq bl.length bs/\σ_ 11=.pointer (some ⟨ai,0,none⟩)/\σ_ 13=jV lQ/\σ_ 23=.slice gw cH.length io/\σ_ 24=.slice d4 dL.length ej/\σ_ 196=.bool yp/\PHeap.Le d8 U_/\sW w U U_ [.blk ba 44 aX,.blk aU 44 aT,.blk ap 44 bj,.blk am 44 bf,.blk b2 26 B0,.blk ah 26 B8,.blk ai 54 B9,dM,cK] w_) ?_ ?_)))))))
 refine CK.fresh fun dr da=>?_
 have iP:dr 3=.slice av p3.length az:=(da 3).trans tq
 have fV:dr 4=.pointer (some ⟨b2,0,none⟩):=(da 4).trans Au
 have iQ:dr 9=.pointer (some ⟨ah,0,none⟩):=(da 9).trans lA
 have iR:dr 10=.slice bq bl.length bs:=(da 10).trans tr
 have iT:dr 11=.pointer (some ⟨ai,0,none⟩):=(da 11).trans od
 have dE:dr 13=jV lQ:=(da 13).trans rfl
 have tw:dr 22=jV wA:=(da 22).trans rfl
 have ez:dr 23=.slice gw cH.length io:=(da 23).trans rfl
 have fW:dr 24=.slice d4 dL.length ej:=(da 24).trans rfl
 have Av:dr 25=jV wB:=(da 25).trans rfl
 clear da
 refine rR fL32 Z (oM Z dE (oM Z tw (oR Z (ZL Z Z Z) (oM Z Z ?_))))
 by_cases cu:lQ=wA
 have vQ:=wb;rw [if_pos cu] at vQ;replace cu:=zN cu
 refine zW Z Z Z (zE Z Z (zm (fun h=>h cu.out))) Z Av (zW Z Z Z (zE Z Z (zm (fun h=>h cu.out))) Z tw (zV Z Z Z (zE Z Z (zm (fun h=>h cu.out))) (fun _=>ZL Z Z Z) (oR Z (zP Z (zm (fun h=>h cu.out)) Z) (oM Z Z (ifc vQ ?_ ?_)))))
 intro cP R1
 refine zW Z Z Z (zE Z Z (zm (fun h=>h cP.out))) Z dE (zV Z Z Z (zE Z Z (zm (fun h=>h cP.out))) (fun _=>ZL Z Z Z) (zW Z Z Z (zE Z Z (zm (fun h=>h cP.out))) Z Z (ifc R1 ?_ ?_)))
 intro aV R2
 refine zG Z Z Z (zF Z Z (zm (fun h=>h aV.out)) Z) (zG Z Z Z (zF Z Z (zm (fun h=>h aV.out)) Z) (zG Z Z Z (zF Z Z (zm (fun h=>h aV.out)) Z) (zG Z Z Z (zF Z Z (zm (fun h=>h aV.out)) Z) (zG Z Z Z (zF Z Z (zm (fun h=>h aV.out)) Z) (zG Z Z Z (zF Z Z (zm (fun h=>h aV.out)) Z) (zV Z Z Z (zE Z Z (zm (fun h=>h cP.out))) (fun _=>zP Z (zm (fun h=>h aV.out)) Z) (oR Z (zP Z (zm (fun h=>h cP.out)) Z) (oM Z Z (zW Z Z Z (zE Z Z Z) Z dE (zV Z Z Z (zE Z Z Z) (fun _=>Zg Z Z Z) (zW Z Z Z (zE Z Z Z) Z Z (zW Z Z Z (wT Z aV) Z ez (rU Z (wT Z aV) (zr Z Z Zq) (rU Z (wT Z aV) (zK Z fV zR Z zZ) (zy Z Z Z (wT Z aV) (gc.ldB (j:=6) Z Z Z zd (v:=.slice bL p0.Shots.length bM) Z) Z (rU Z (wT Z aV) (zr Z Z zA) (rU Z (wT Z aV) (ZL Z Z Z) (zV Z Z Z (zE Z Z Z) (fun _=>zU Z (Zf aV.out) Z) (oR Z (zP Z Z Z) (zn ?_))))))))))))))))))))
 have q:=nD R2
 obtain rfl:=q
 exact zI ⟨rfl,⟨d8,iP,fV,iQ,iR,iT,dE,ez,fW,rfl,(zX _),(gc.pick [2,3,4,5,6,7,8,1,0] _ (by decide) rfl)⟩⟩
 intro aV R4
 refine zW Z Z Z (wT Z aV) Z ez (rU Z (wT Z aV) (zr Z Z Zq) (zW Z Z Z (wT Z aV) Z fW (rU Z (wT Z aV) (zr Z Z ZA) (rU Z (wT Z aV) (zk Z Z Z) (rU Z (wT Z aV) (Zl Z Z Z) (zV Z Z Z (zE Z Z (zm (fun h=>h cP.out))) (fun _=>zU Z (Zf aV.out) Z) (oR Z (zP Z (zm (fun h=>h cP.out)) Z) (oM Z Z (ifc R4 ?_ ?_)))))))))
 intro cX R5
 refine oT Z cX (oT Z cX (oT Z cX (zG Z Z Z (wAG Z Z Z) (zG Z Z Z (wAG Z Z Z) (zG Z Z Z (wAG Z Z Z) (zG Z Z Z (wAG Z Z Z) (zG Z Z Z (wAG Z Z Z) (zG Z Z Z (wAG Z Z Z) (oT Z cX (oR Z (zU Z (Zf cX.out) Z) (zn ?_)))))))))))
 cases R5
 exact zI ⟨rfl,⟨d8,iP,fV,iQ,iR,iT,dE,ez,fW,rfl,(zX _),(gc.pick [2,3,4,5,6,7,8,1,0] _ (by decide) rfl)⟩⟩
 intro cX R6
 refine zW Z Z Z (wF Z cX) Z dE (rU Z (wF Z cX) (Zg Z Z Z) (zW Z Z Z (wF Z cX) Z Z (oF Z aV (oF Z aV (oF Z aV (oF Z aV (oF Z aV (oF Z aV (rU Z (wF Z cX) (zP Z (zm aV.out) Z) (oR Z (zP Z (zm cX.out) Z) (zn ?_)))))))))))
 cases R6
 exact zI ⟨rfl,⟨d8,iP,fV,iQ,iR,iT,dE,ez,fW,rfl,(zX _),(gc.pick [2,3,4,5,6,7,8,1,0] _ (by decide) rfl)⟩⟩
 intro cP R7
 refine oT Z cP (oT Z cP (oT Z cP (zG Z Z Z (wAG Z Z Z) (zG Z Z Z (wAG Z Z Z) (zG Z Z Z (wAG Z Z Z) (zG Z Z Z (wAG Z Z Z) (zG Z Z Z (wAG Z Z Z) (zG Z Z Z (wAG Z Z Z) (oT Z cP (oR Z (zU Z (Zf cP.out) Z) (oM Z Z (oN Z (oN Z (oN Z (zG Z Z Z (wAG Z Z Z) (zG Z Z Z (wAG Z Z Z) (zG Z Z Z (wAG Z Z Z) (zG Z Z Z (wAG Z Z Z) (zG Z Z Z (wAG Z Z Z) (zG Z Z Z (wAG Z Z Z) (oN Z (oR Z (zU Z Z Z) (zn ?_)))))))))))))))))))))))
 cases R7
 exact zI ⟨rfl,⟨d8,iP,fV,iQ,iR,iT,dE,ez,fW,rfl,(zX _),(gc.pick [2,3,4,5,6,7,8,1,0] _ (by decide) rfl)⟩⟩
 have vR:=wb;rw [if_neg cu] at vR;replace cu:=zN cu
 refine oT Z cu (oT Z cu (oT Z cu (oR Z (zU Z (Zf cu.out) Z) (oM Z Z (oN Z (oN Z (oN Z (zG Z Z Z (wAG Z Z Z) (zG Z Z Z (wAG Z Z Z) (zG Z Z Z (wAG Z Z Z) (zG Z Z Z (wAG Z Z Z) (zG Z Z Z (wAG Z Z Z) (zG Z Z Z (wAG Z Z Z) (oN Z (oR Z (zU Z Z Z) (oM Z Z (oN Z (oN Z (oN Z (zG Z Z Z (wAG Z Z Z) (zG Z Z Z (wAG Z Z Z) (zG Z Z Z (wAG Z Z Z) (zG Z Z Z (wAG Z Z Z) (zG Z Z Z (wAG Z Z Z) (zG Z Z Z (wAG Z Z Z) (oN Z (oR Z (zU Z Z Z) (zn ?_))))))))))))))))))))))))))))
 cases vR
 exact zI ⟨rfl,⟨d8,iP,fV,iQ,iR,iT,dE,ez,fW,rfl,(zX _),(gc.pick [2,3,4,5,6,7,8,1,0] _ (by decide) rfl)⟩⟩
 rintro XQ xx ⟨jO,tz,tA,tB,tC,Aw,Ax,tD,Ay,tE,bn,iY⟩
 refine ifc R0 ?_ ?_
 intro mH R8
 refine ZB (tE.trans (congrArg nA mH.out)) (sR fL1 Z (oA Z Z (eN (zQ (ze ?_)))))
 have hE:=nD R8;first | subst r | cases hE
 exact ⟨rfl,_,(ZD rfl),jO,_,(iY.pick [] _ (by decide) rfl),rfl,rfl⟩
 intro mH R9
 refine zg (tE.trans (congrArg nA (nB.2 mH.out))) (kN (zJ (sR fL2 Z (oM Z Ax (oR Z (Zg Z Z Z) (eN (ifc R9 ?_ ?_)))))))
 intro mI pq
 refine cT Z mI (zJ (sR fL3 Z (oM Z tD (oR Z (zr Z Z Zq) (oM Z Z (eN (zi ?_)))))))
 have q:=wDL pq
 obtain ⟨Wo,pe⟩:=q
 have q:=wDK pe
 obtain ⟨pk,Ry⟩:=q
 replace pk:=zN pk
 refine yD (fun dH _ σ_ w_=>∃ (U_:PHeap),σ_ 201=jV (↑dH:Int)/\σ_ 3=.slice av p3.length az/\σ_ 4=.pointer (some ⟨b2,0,none⟩)/\σ_ 9=.pointer (some ⟨ah,0,none⟩)/\σ_ 10=.slice bq bl.length bs/\σ_ 11=.pointer (some ⟨ai,0,none⟩)/\σ_ 23=.slice gw cH.length io/\σ_ 24=.slice d4 dL.length ej/\σ_ 200=jV (↑cH.length:Int)/\PHeap.Le jO U_/\sW w U U_ [.blk ba 44 aX,.blk aU 44 aT,.blk ap 44 bj,.blk am 44 bf,.blk b2 26 B0,.blk ah 26 B8,.blk ai 54 B9,dM,cK] w_) Ry ?_ ?_ ?_
 exact ⟨jO,Z,tz,tA,tB,tC,Aw,tD,Ay,Z,(zX _),iY⟩
 rintro dH ⟨⟩ XC XR rc pg ⟨wU,oq,Az,AA,AD,AE,tF,tG,AG,tH,lN,Qe⟩ wc Rt
 try dsimp only at wc
 have r6:Hid ((↑dH:Int) < (↑cH.length:Int)):=zN (wCO pg)
 replace pg:=zN pg
 have RG:Hid (w64 ((↑dH:Int) + 1)=(↑(dH + 1):Int)):=zN (by have h1:=pk.out;have h2:=r6.out;rw [wAM] <;> omega)
 refine sR fL1 rfl (zV rfl rfl rfl rfl (fun _=>zo rfl oq tH) (eN (zJ (cT Z r6 (kN (zJ (zi (sR fL2 rfl (zW rfl rfl rfl rfl rfl oq (OKS.ra rfl rfl rfl rfl rfl rfl (eN (zJ (ZN ZO [3,3,3,1,1,3,2,3] (wJu gCa) (by kernel_rfl) ?_)))))))))))))
 have iZ:=Qe.drew
 generalize hw_W2221:({ rc with drawn:=rc.drawn + 1 }:World)=xz at iZ ⊢
 refine oM Z tG (oM Z Z (bnK wc fun _ oU Sa=>?_))
 obtain ⟨VT,uV⟩:=iZ.rowSome (j:=7) rfl (by rw [wAI (f:=wAZ) (sz:=2) (fun _=>rfl) cH];have hz:=wAd oU;omega)
 refine oR Z (Ze Z Z uV Z Zq zH (wAd oU)) ?_
 have RE:=wDV (xs:=cH) (wAd oU)
 refine zy rfl rfl rfl rfl (iZ.ldRA (j:=7) rfl uV rfl rfl zf zH (vs:=[jV ((gd cH dH).Lo),jV ((gd cH dH).Hi)]) (wHP (sz:=2) (fun _=>rfl) _ _ _ RE (by first | omega | rfl | simp) rfl) rfl) rfl (zy rfl rfl rfl rfl (iZ.ldBA (j:=6) rfl rfl tF ZK zz (vs:=B9) rfl rfl) rfl (zW rfl rfl rfl rfl rfl rfl ?_))
 have Ey:=oG.le bw
 have Ez:=Ey.le bz
 have EA:=Ez.le bm
 have EB:=EA.le bn
 have EC:=EB.le lN
 have ED:=oH.le bw
 have EE:=ED.le bz
 have EF:=EE.le bm
 have EG:=EF.le bn
 have EH:=EG.le lN
 have EI:=oI.le bw
 have EJ:=EI.le bz
 have EK:=EJ.le bm
 have EL:=EK.le bn
 have EM:=EL.le lN
 refine bnK Sa fun Uh EN Sb=>zM 0 Z Z Z Z (zL Z Z Try.call25 (zB Z (zB Z zS)) Z) iZ (fun hs=>wDg (⟨cr,ct,bS⟩:wAC) cj cp cm cq bW bZ (↑dH:Int) xz wU hs EC EH EM EN) (.inr Z) ?_
 rintro l5 UK WO xA T4 Qf ⟨rfl,rfl⟩
 have ve:sW w U l5 [.blk ba 44 aX,.blk aU 44 aT,.blk ap 44 bj,.blk am 44 bf,.blk b2 26 B0,.blk ah 26 B8,.blk ai 54 B9,dM,cK] xA:=Qf
 refine oR Z (ZI (Runs.neS (enc:=wAZ) (a:=(gd cH dH)) (b:=Uh) Z Z Z wOH wOG) (congrArg nA (decide_not).symm)) (eN (ifc Sb ?_ ?_))
 intro mJ Sc
 refine zg (zm (fun h=>h mJ.out)) (Za (zp (zI (rR fL2 Z (oR Z (ZI (zk Z oq Z) (congrArg (jV) RG.out)) (oM Z Z (zn ?_)))))))
 have q:=nD Sc
 obtain rfl:=q
 exact zI ⟨Z,_,Z,⟨l5,Z,Az,AA,AD,AE,tF,tG,AG,tH,(lN.trans T4),ve⟩⟩
 intro mJ Sd
 refine cT Z mJ (sR fL1 Z (oA Z Z (eN (zQ (ZE (ze ?_))))))
 have q:=wAj Sd
 obtain ⟨Ua,Se,yL⟩:=q
 have q:=wDl pq pe (Rt Ua yL)
 obtain rfl:=q
 refine ze (ZE (ze (ze ?_)))
 have hE:=nD Se;first | subst r | cases hE
 exact ⟨rfl,_,(ZD rfl),l5,_,(ve.pick [] _ (by decide) rfl),rfl,rfl⟩
 rintro ⟨⟩ XS VH ⟨qC,BZ,AI,tI,AJ,AL,AM,VY,AN,AP,cV,vg⟩ Ru
 have vS:=wEA pq pe Ru
 try dsimp only at vS
 have yz:Hid (¬ ((↑(((↑cH.length:Int):Int) - 0).toNat:Int) < (↑cH.length:Int))):=zN (wBi)
 refine sR fL1 Z (oR Z (zo Z BZ AP) (eN (zJ (cF Z yz (ZS (zq (zq (ZJ (zI (sR fL1 Z (oA Z Z (eN (zJ (sR fL4 Z (oR Z (zK Z tI zR Z Zi) (oL Z (vg.ldB (j:=4) Z Z Z Zo (v:=.slice bC p0.Across.length bD) Z) (oR Z (zr Z Z ZA) (oM Z Z (eN (zi (bnK vS fun lS Rz Sf=>?_)))))))))))))))))))))
 have q:=wCQ Rz
 obtain ⟨pn,RA⟩:=q
 replace pn:=zN pn
 refine CK.forN' (fun i6 i8 σ_ w_=>∃ (U_:PHeap) (gx:Option Addr) (ip:Nat),σ_ 216=jV (↑i6:Int)/\σ_ 3=.slice av p3.length az/\σ_ 4=.pointer (some ⟨b2,0,none⟩)/\σ_ 9=.pointer (some ⟨ah,0,none⟩)/\σ_ 10=.slice bq bl.length bs/\σ_ 11=.pointer (some ⟨ai,0,none⟩)/\σ_ 24=.slice d4 dL.length ej/\σ_ 27=.slice gx i8.length ip/\σ_ 214=.slice bC p0.Across.length bD/\σ_ 215=jV (↑p0.Across.length:Int)/\PHeap.Le qC U_/\sW w U U_ [.blk ba 44 aX,.blk aU 44 aT,.blk ap 44 bj,.blk am 44 bf,.blk b2 26 B0,.blk ah 26 B8,.blk ai 54 B9,cK,.row gx ip 35 2 (hH wAA i8)] w_) RA ?_ ?_ ?_
 have Qg:=vg.nilrow 35 2
 exact ⟨qC,none,0,rfl,AI,tI,AJ,AL,AM,AN,rfl,rfl,rfl,(zX _),(Qg.pick [1,2,3,4,5,6,7,9,0] _ (by decide) rfl)⟩
 rintro i6 i8 XD XT VI ph ⟨qD,gx,ip,lB,tJ,tK,tL,tM,oe,tO,tP,og,oh,gi,vh⟩ TP
 have r8:Hid ((↑i6:Int) < (↑p0.Across.length:Int)):=zN (wCO ph)
 replace ph:=zN ph
 have vC:Hid (w64 ((↑i6:Int) + 1)=(↑(i6 + 1):Int)):=zN (by have h1:=pn.out;have h2:=r8.out;rw [wAM] <;> omega)
 refine sR fL1 Z (oR Z (zo Z lB oh) (eN (zJ (cT Z r8 (kN (zJ (zi (sR gCp Z (bnK TP fun de uI Sg=>?_)))))))))
 have EO:=cy.le aR
 have EP:=EO.le b5
 have EQ:=EP.le bK
 have ER:=EQ.le bF
 have ES:=ER.le bv
 have ET:=ES.le bt
 have EU:=ET.le bu
 have EV:=EU.le bi
 have EW:=EV.le aY
 have EX:=EW.le aZ
 have EY:=EX.le cA
 have EZ:=EY.le cB
 have E1:=EZ.le cC
 have E2:=E1.le cD
 have E3:=E2.le cE
 have E4:=E3.le b9
 have E5:=E4.le bT
 have E6:=E5.le bw
 have E7:=E6.le bz
 have E8:=E7.le bm
 have E9:=E8.le bn
 have Fa:=E9.le cV
 have Fb:=Fa.le gi
 have q:=Fb.el (fun _=>rfl) (wAV uI)
 obtain ⟨VU,Wm,OM,OO⟩:=q
 refine oR Z (Ze Z og OM lB ZA ZH (wCd uI)) (oL Z (vh.ldCA (f:=0) OO Z Z Zp ZH (us:=[jV de.Skier,jV de.Lane]) Z Z) (zx (cs:=dg) Z Z Z Z Z Zn Z vh ?_))
 intro VJ gX Qh
 let dt:List Value:=[jV de.Skier,jV de.Lane]
 refine zt (j:=0) (vs:=dt) Z Z Z Z Qh Z Z Z Z ZH (zC Z) Z Z Z ?_
 intro re Qi
 let jH:Res:=.row gx ip 35 2 (hH wAA i8)
 have lG:sW w U qD [.blk gX 35 dt,.blk ba 44 aX,.blk aU 44 aT,.blk ap 44 bj,.blk am 44 bf,.blk b2 26 B0,.blk ah 26 B8,.blk ai 54 B9,cK,jH] re:=Qi
 refine eN (sR (wEQ (.fx 5 (wTa gCo) .stop)) Z (oL Z (lG.ldBA (j:=7) Z Z oe ZK zz (vs:=B9) Z Z) (oR Z (zK Z Z ZW Z zD) (oL Z (lG.ldB (j:=0) Z Z Z zO (v:=jV de.Skier) Z) (oR Z (zK Z Z ZW Z zD) (oL Z (lG.ldB (j:=0) Z Z Z zO (v:=jV de.Lane) Z) ?_))))))
 have Fc:=oG.le bw
 have Fd:=Fc.le bz
 have Fe:=Fd.le bm
 have Ff:=Fe.le bn
 have Fg:=Ff.le cV
 have Fh:=Fg.le gi
 have Fi:=oH.le bw
 have Fj:=Fi.le bz
 have Fk:=Fj.le bm
 have Fm:=Fk.le bn
 have Fo:=Fm.le cV
 have Fp:=Fo.le gi
 have Fq:=oI.le bw
 have Fs:=Fq.le bz
 have Ft:=Fs.le bm
 have Fu:=Ft.le bn
 have Fv:=Fu.le cV
 have Fw:=Fv.le gi
 have q:=bnd Sg
 obtain ⟨⟨ji,Ui⟩,Fx,vT⟩:=q
 try dsimp only at vT
 refine zM 0 Z Z Z Z (zL Z Z Try.call20 (zB Z (zB Z (zB Z zS))) Z) lG (fun hs=>wDF (⟨cr,ct,bS⟩:wAC) cj cp cm cq bW bZ de.Skier de.Lane re qD hs Fh Fp Fw Fx) (.inr Z) ?_
 rintro fg UL WP xC wu Qj ⟨rfl,rfl⟩
 have Qk:sW w U fg [.blk gX 35 dt,.blk ba 44 aX,.blk aU 44 aT,.blk ap 44 bj,.blk am 44 bf,.blk b2 26 B0,.blk ah 26 B8,.blk ai 54 B9,cK,jH] xC:=Qj
 refine oM Z Z (oR Z (ZC Z Z (v:=.agg #[jV ji.Lo,jV ji.Hi]) Z) (oR Z (ZC Z Z (v:=jV Ui) Z) (zx (cs:=dg) Z Z Z Z Z zw Z Qk ?_)))
 intro VK mz Ql
 let jJ:List Value:=[jV ji.Lo,jV ji.Hi]
 refine zt (j:=0) (vs:=jJ) Z Z Z Z Ql Z Z Z Z zH (zC Z) Z Z Z ?_
 intro xD Qm
 have lH:sW w U fg [.blk mz 44 jJ,.blk gX 35 dt,.blk ba 44 aX,.blk aU 44 aT,.blk ap 44 bj,.blk am 44 bf,.blk b2 26 B0,.blk ah 26 B8,.blk ai 54 B9,cK,jH] xD:=Qm
 refine oA Z Z (eN (sR fL3 Z (oR Z (zK Z Z zh Z zD) (oL Z (lH.ldB (j:=0) Z Z Z zO (v:=jV ji.Lo) Z) (oR Z (Zl Z Z Z) (eN (ifc vT ?_ ?_)))))))
 intro mK Si
 refine cT Z mK (rR gCw Z (oM Z tP (oL Z (lH.ldBA (j:=1) Z Z Z Zp ZH (vs:=dt) Z Z) (Zy (pv:=[(0,.agg dt.toArray)]) (zs:=dg) (cs:=dt) Z Z Z Z Z (wAR Z wAo) ZA ZH Zn Z Z Z Z Z lH ?_))))
 intro xE yq Qn
 let qb:Res:=.row (some ⟨yq,0,none⟩) 1 35 2 (hH wAA [de])
 have vi:sW w U fg [qb,.blk mz 44 jJ,.blk gX 35 dt,.blk ba 44 aX,.blk aU 44 aT,.blk ap 44 bj,.blk am 44 bf,.blk b2 26 B0,.blk ah 26 B8,.blk ai 54 B9,cK,jH] xE:=Qn
 refine bnK Si fun wC Fy Sj=>OKS.append (j:=11) (enc:=wAA) (xs:=i8) (ys:=[de]) (zs:=wC) rfl rfl rfl rfl rfl Try.underlying24 wLS rfl rfl rfl rfl rfl rfl vi rfl rfl rfl (vi.srcR (j:=0) rfl (by decide) (wAI (f:=wAA) (sz:=2) (fun _=>rfl) [de])) (fun _=>rfl) (fun _=>rfl) Fy rfl ?_
 intro pX r9 xF Qo
 have Qp:sW w U fg [qb,.blk mz 44 jJ,.blk gX 35 dt,.blk ba 44 aX,.blk aU 44 aT,.blk ap 44 bj,.blk am 44 bf,.blk b2 26 B0,.blk ah 26 B8,.blk ai 54 B9,cK,.row pX r9 35 2 (hH wAA wC)] xF:=Qo
 refine oA Z Z (zn (zp (zI (rR fL2 Z (oR Z (ZI (zk Z lB Z) (congrArg (jV) vC.out)) (oM Z Z (zn ?_)))))))
 cases Sj
 exact zI ⟨rfl,⟨fg,pX,r9,rfl,tJ,tK,tL,tM,oe,tO,rfl,og,oh,(gi.trans wu),(Qp.pick [3,4,5,6,7,8,9,10,11] _ (by decide) rfl)⟩⟩
 intro mK Sk
 refine cF Z mK (Za (zp (zI (rR fL2 Z (oR Z (ZI (zk Z lB Z) (congrArg (jV) vC.out)) (oM Z Z (zn ?_)))))))
 cases Sk
 exact zI ⟨rfl,⟨fg,gx,ip,rfl,tJ,tK,tL,tM,oe,tO,tP,og,oh,(gi.trans wu),(lH.pick [2,3,4,5,6,7,8,9,10] _ (by decide) rfl)⟩⟩
 rintro XU ms ⟨Vl,pY,sc,Ca,AQ,AS,AT,AU,VZ,AW,AX,V0,AY,dP,Qq⟩
 have yG:Hid (¬ ((↑(((↑p0.Across.length:Int):Int) - 0).toNat:Int) < (↑p0.Across.length:Int))):=zN (wBi)
 refine sR fL1 Z (oR Z (zo Z Ca AY) (eN (zJ (cF Z yG (ZS (zq (zq (ZJ (zI (sR gCv Z (oM Z AW (oM Z AX ?_))))))))))))
 have q:=Qq.freezeR (k:=7) (n:=dL.length) rfl (wAI (f:=wAA) (sz:=2) (fun _=>rfl) dL) (by decide)
 obtain ⟨wV,dQ,TL,Qr⟩:=q
 have Qs:sW w U wV [.blk ba 44 aX,.blk aU 44 aT,.blk ap 44 bj,.blk am 44 bf,.blk b2 26 B0,.blk ah 26 B8,.blk ai 54 B9,.row pY sc 35 2 (hH wAA lS)] ms:=Qr
 have q:=Qs.freezeR (k:=7) (n:=lS.length) rfl (wAI (f:=wAA) (sz:=2) (fun _=>rfl) lS) (by decide)
 obtain ⟨qE,dJ,TM,Qt⟩:=q
 have Qu:sW w U qE [.blk ba 44 aX,.blk aU 44 aT,.blk ap 44 bj,.blk am 44 bf,.blk b2 26 B0,.blk ah 26 B8,.blk ai 54 B9] ms:=Qt
 have Fz:=TL.le dJ
 refine bnK Sf fun Xm FA Sm=>zM 0 Z Z Z Z (zL Z Z Try.call26 (zB Z (zB Z zS)) Z) Qu (fun hs=>wBr dL d4 ej lS pY sc ms qE hs Fz TM FA) (.inr Z) ?_
 rintro l6 UM WQ ri dR Qv ⟨rfl,rfl⟩
 have lI:sW w U l6 [.blk ba 44 aX,.blk aU 44 aT,.blk ap 44 bj,.blk am 44 bf,.blk b2 26 B0,.blk ah 26 B8,.blk ai 54 B9] ri:=Qv
 refine oR Z (ZR Z Z) (eN (ifc Sm ?_ ?_))
 intro mL Sn
 refine zg (nC mL.out) (kN (sR (.fl 0 (.fl 1 (.fx 2 (wPr gDf) .stop))) Z (oL Z (lI.ldBA (j:=5) Z Z AT ZT zu (vs:=B8) Z Z) (oL Z (lI.ldBA (j:=4) Z Z AS ZT zu (vs:=B0) Z Z) ?_))))
 have FB:=oK.le bm
 have FC:=FB.le bn
 have FD:=FC.le cV
 have FF:=FD.le dP
 have FG:=FF.le dQ
 have FH:=FG.le dJ
 have FI:=FH.le dR
 have FJ:=oO.le bm
 have FK:=FJ.le bn
 have FL:=FK.le cV
 have FM:=FL.le dP
 have FN:=FM.le dQ
 have FO:=FN.le dJ
 have FP:=FO.le dR
 have FQ:=oP.le bm
 have FR:=FQ.le bn
 have FS:=FR.le cV
 have FT:=FS.le dP
 have FU:=FT.le dQ
 have FV:=FU.le dJ
 have FW:=FV.le dR
 have FX:=cS.le aR
 have FZ:=FX.le b5
 have F0:=FZ.le bK
 have F1:=F0.le bF
 have F2:=F1.le bv
 have F4:=F2.le bt
 have F5:=F4.le bu
 have F6:=F5.le bi
 have F7:=F6.le aY
 have F8:=F7.le aZ
 have F9:=F8.le cA
 have Ga:=F9.le cB
 have Gb:=Ga.le cC
 have Gc:=Gb.le cD
 have Gd:=Gc.le cE
 have Ge:=Gd.le b9
 have Gf:=Ge.le bT
 have Gg:=Gf.le bw
 have Gi:=Gg.le bz
 have Gj:=Gi.le bm
 have Gk:=Gj.le bn
 have Gl:=Gk.le cV
 have Gm:=Gl.le dP
 have Gn:=Gm.le dQ
 have Gp:=Gn.le dJ
 have Gq:=Gp.le dR
 have Gr:=cU.le aR
 have Gs:=Gr.le b5
 have Gt:=Gs.le bK
 have Gu:=Gt.le bF
 have Gw:=Gu.le bv
 have Gx:=Gw.le bt
 have Gy:=Gx.le bu
 have Gz:=Gy.le bi
 have GA:=Gz.le aY
 have GB:=GA.le aZ
 have GC:=GB.le cA
 have GD:=GC.le cB
 have GE:=GD.le cC
 have GF:=GE.le cD
 have GG:=GF.le cE
 have GH:=GG.le b9
 have GI:=GH.le bT
 have GJ:=GI.le bw
 have GK:=GJ.le bz
 have GL:=GK.le bm
 have GM:=GL.le bn
 have GN:=GM.le cV
 have GO:=GN.le dP
 have GP:=GO.le dQ
 have GQ:=GP.le dJ
 have GR:=GQ.le dR
 have GS:=cy.le aR
 have GT:=GS.le b5
 have GU:=GT.le bK
 have GV:=GU.le bF
 have GW:=GV.le bv
 have GX:=GW.le bt
 have GY:=GX.le bu
 have GZ:=GY.le bi
 have G0:=GZ.le aY
 have Ha:=G0.le aZ
 have Hb:=Ha.le cA
 have Hc:=Hb.le cB
 have Hd:=Hc.le cC
 have He:=Hd.le cD
 have Hf:=He.le cE
 have Hj:=Hf.le b9
 have Hk:=Hj.le bT
 have Hl:=Hk.le bw
 have Hm:=Hl.le bz
 have Hn:=Hm.le bm
 have Ho:=Hn.le bn
 have Hp:=Ho.le cV
 have Hq:=Hp.le dP
 have Hr:=Hq.le dQ
 have Hs:=Hr.le dJ
 have Ht:=Hs.le dR
 refine bnK Sn fun Xn Hu So=>zM 0 Z Z Z Z (zL Z Z Try.call27 (zB Z (zB Z zS)) Z) lI (fun hs=>wCf (⟨bR,bI,bJ⟩:wAB) bV bY bN bP bO bQ p0 bL bM cg ci bC bD ri l6 hs FI FP FW Gq GR Ht Hu) (.inr Z) ?_
 rintro l7 UN WR rj wv Qx ⟨rfl,rfl⟩
 have vj:sW w U l7 [.blk ba 44 aX,.blk aU 44 aT,.blk ap 44 bj,.blk am 44 bf,.blk b2 26 B0,.blk ah 26 B8,.blk ai 54 B9] rj:=Qx
 refine oM Z Z (ifc So ?_ ?_)
 intro dz Sp
 refine zW Z Z Z (zE Z Z (congrArg nA dz.out)) Z AU (zW Z Z Z (zE Z Z (congrArg nA dz.out)) Z AQ ?_)
 have Hv:=py.le b9
 have Hw:=Hv.le bT
 have Hx:=Hw.le bw
 have Hy:=Hx.le bz
 have Hz:=Hy.le bm
 have HA:=Hz.le bn
 have HB:=HA.le cV
 have HD:=HB.le dP
 have HF:=HD.le dQ
 have HG:=HF.le dJ
 have HH:=HG.le dR
 have HI:=HH.le wv
 have HJ:=oB.le bT
 have HK:=HJ.le bw
 have HM:=HK.le bz
 have HN:=HM.le bm
 have HO:=HN.le bn
 have HP:=HO.le cV
 have HQ:=HP.le dP
 have HS:=HQ.le dQ
 have HT:=HS.le dJ
 have HU:=HT.le dR
 have HV:=HU.le wv
 refine bnK Sp fun Xo HW Sq=>zM 0 Z Z Z (zE Z Z (congrArg nA dz.out)) (zL Z Z Try.call28 (zB Z (zB Z zS)) Z) vj (fun hs=>wBa bl bq bs p3 av az rj l7 hs HI HV HW) (.inr Z) ?_
 rintro l8 UO WS rn Wd Qz ⟨rfl,rfl⟩
 have vk:sW w U l8 [.blk ba 44 aX,.blk aU 44 aT,.blk ap 44 bj,.blk am 44 bf,.blk b2 26 B0,.blk ah 26 B8,.blk ai 54 B9] rn:=Qz
 refine oR Z (zU Z (congrArg nA dz.out) Z) (oM Z Z (ifc Sq ?_ ?_))
 intro iq Sr
 refine bnK Sr fun Xp HX Ss=>zM 0 Z Z Z (zE Z Z (congrArg nA iq.out)) (zL Z Z Try.call15 zS Z) vk (fun hs=>wBm rn l8 hs HX) (.inr Z) ?_
 rintro qF UP WT xG We QA ⟨rfl,rfl⟩
 have QB:sW w U qF [.blk ba 44 aX,.blk aU 44 aT,.blk ap 44 bj,.blk am 44 bf,.blk b2 26 B0,.blk ah 26 B8,.blk ai 54 B9] xG:=QA
 refine oR Z (zU Z (congrArg nA iq.out) Z) (oA Z Z (eN (zQ ?_)))
 have hE:=nD Ss;first | subst r | cases hE
 exact ⟨rfl,_,(ZD rfl),qF,_,(QB.pick [] _ (by decide) rfl),rfl,rfl⟩
 intro iq Su
 refine ZV Z Z Z (zF Z Z (congrArg nA (nB.2 iq.out)) Z) (oR Z (zP Z (congrArg nA (nB.2 iq.out)) Z) (oA Z Z (eN (zQ ?_))))
 have hE:=nD Su;first | subst r | cases hE
 exact ⟨rfl,_,(ZD rfl),l8,_,(vk.pick [] _ (by decide) rfl),rfl,rfl⟩
 intro dz Sv
 refine zG Z Z Z (zF Z Z (congrArg nA (nB.2 dz.out)) Z) (zG Z Z Z (zF Z Z (congrArg nA (nB.2 dz.out)) Z) (ZV Z Z Z (zF Z Z (congrArg nA (nB.2 dz.out)) Z) (oR Z (zP Z (congrArg nA (nB.2 dz.out)) Z) (oM Z Z (ZV Z Z Z (zF Z Z Z Z) (oR Z (zP Z Z Z) (oA Z Z (eN (zQ ?_)))))))))
 have hE:=nD Sv;first | subst r | cases hE
 exact ⟨rfl,_,(ZD rfl),l7,_,(vj.pick [] _ (by decide) rfl),rfl,rfl⟩
 intro mL Sw
 refine ZB (nF (mL.out)) (sR fL1 Z (oA Z Z (eN (zQ (ze ?_)))))
 have hE:=nD Sw;first | subst r | cases hE
 exact ⟨rfl,_,(ZD rfl),l6,_,(lI.pick [] _ (by decide) rfl),rfl,rfl⟩
 intro mI Sx
 refine cF Z mI (kN (sR (.fl 0 (.fl 1 (.fx 2 (wPr gDf) .stop))) Z (oL Z (iY.ldBA (j:=5) Z Z tB ZT zu (vs:=B8) Z Z) (oL Z (iY.ldBA (j:=4) Z Z tA ZT zu (vs:=B0) Z Z) ?_))))
 have HZ:=oK.le bm
 have H0:=HZ.le bn
 have H1:=oO.le bm
 have H2:=H1.le bn
 have H3:=oP.le bm
 have H4:=H3.le bn
 have H5:=cS.le aR
 have H6:=H5.le b5
 have H7:=H6.le bK
 have H8:=H7.le bF
 have H9:=H8.le bv
 have Ia:=H9.le bt
 have Ib:=Ia.le bu
 have Ic:=Ib.le bi
 have Ie:=Ic.le aY
 have If:=Ie.le aZ
 have Ig:=If.le cA
 have Ih:=Ig.le cB
 have Ii:=Ih.le cC
 have Ij:=Ii.le cD
 have Ik:=Ij.le cE
 have Il:=Ik.le b9
 have Im:=Il.le bT
 have In:=Im.le bw
 have Io:=In.le bz
 have Ip:=Io.le bm
 have Iq:=Ip.le bn
 have Ir:=cU.le aR
 have Is:=Ir.le b5
 have It:=Is.le bK
 have Iu:=It.le bF
 have Iv:=Iu.le bv
 have Iw:=Iv.le bt
 have Ix:=Iw.le bu
 have Iy:=Ix.le bi
 have Iz:=Iy.le aY
 have IA:=Iz.le aZ
 have IB:=IA.le cA
 have IC:=IB.le cB
 have ID:=IC.le cC
 have IE:=ID.le cD
 have IF:=IE.le cE
 have IG:=IF.le b9
 have II:=IG.le bT
 have IJ:=II.le bw
 have IK:=IJ.le bz
 have IL:=IK.le bm
 have IM:=IL.le bn
 have IN:=cy.le aR
 have IP:=IN.le b5
 have IQ:=IP.le bK
 have IR:=IQ.le bF
 have IS:=IR.le bv
 have IT:=IS.le bt
 have IU:=IT.le bu
 have IV:=IU.le bi
 have IW:=IV.le aY
 have IX:=IW.le aZ
 have IY:=IX.le cA
 have IZ:=IY.le cB
 have I0:=IZ.le cC
 have I6:=I0.le cD
 have I7:=I6.le cE
 have I8:=I7.le b9
 have I9:=I8.le bT
 have Ja:=I9.le bw
 have Jb:=Ja.le bz
 have Jc:=Jb.le bm
 have Jd:=Jc.le bn
 refine bnK Sx fun Xq Je Sy=>zM 0 Z Z Z Z (zL Z Z Try.call27 (zB Z (zB Z zS)) Z) iY (fun hs=>wCf (⟨bR,bI,bJ⟩:wAB) bV bY bN bP bO bQ p0 bL bM cg ci bC bD xx jO hs H0 H2 H4 Iq IM Jd Je) (.inr Z) ?_
 rintro l9 UQ WU ro ww QC ⟨rfl,rfl⟩
 have vm:sW w U l9 [.blk ba 44 aX,.blk aU 44 aT,.blk ap 44 bj,.blk am 44 bf,.blk b2 26 B0,.blk ah 26 B8,.blk ai 54 B9,dM,cK] ro:=QC
 refine oM Z Z (ifc Sy ?_ ?_)
 intro dA SA
 refine zW Z Z Z (zE Z Z (congrArg nA dA.out)) Z tC (zW Z Z Z (zE Z Z (congrArg nA dA.out)) Z tz ?_)
 have Jf:=py.le b9
 have Jg:=Jf.le bT
 have Jh:=Jg.le bw
 have Ji:=Jh.le bz
 have Jj:=Ji.le bm
 have Jk:=Jj.le bn
 have Jl:=Jk.le ww
 have Jm:=oB.le bT
 have Jn:=Jm.le bw
 have Jo:=Jn.le bz
 have Jp:=Jo.le bm
 have Jq:=Jp.le bn
 have Jr:=Jq.le ww
 refine bnK SA fun Xr Js SB=>zM 0 Z Z Z (zE Z Z (congrArg nA dA.out)) (zL Z Z Try.call28 (zB Z (zB Z zS)) Z) vm (fun hs=>wBa bl bq bs p3 av az ro l9 hs Jl Jr Js) (.inr Z) ?_
 rintro ma UR WV rp Wf QD ⟨rfl,rfl⟩
 have vo:sW w U ma [.blk ba 44 aX,.blk aU 44 aT,.blk ap 44 bj,.blk am 44 bf,.blk b2 26 B0,.blk ah 26 B8,.blk ai 54 B9,dM,cK] rp:=QD
 refine oR Z (zU Z (congrArg nA dA.out) Z) (oM Z Z (ifc SB ?_ ?_))
 intro ir SC
 refine bnK SC fun Xs Jt SD=>zM 0 Z Z Z (zE Z Z (congrArg nA ir.out)) (zL Z Z Try.call15 zS Z) vo (fun hs=>wBm rp ma hs Jt) (.inr Z) ?_
 rintro qG US WW xH Wg QE ⟨rfl,rfl⟩
 have QF:sW w U qG [.blk ba 44 aX,.blk aU 44 aT,.blk ap 44 bj,.blk am 44 bf,.blk b2 26 B0,.blk ah 26 B8,.blk ai 54 B9,dM,cK] xH:=QE
 refine oR Z (zU Z (congrArg nA ir.out) Z) (oA Z Z (eN (zQ ?_)))
 have hE:=nD SD;first | subst r | cases hE
 exact ⟨rfl,_,(ZD rfl),qG,_,(QF.pick [] _ (by decide) rfl),rfl,rfl⟩
 intro ir SE
 refine ZV Z Z Z (zF Z Z (congrArg nA (nB.2 ir.out)) Z) (oR Z (zP Z (congrArg nA (nB.2 ir.out)) Z) (oA Z Z (eN (zQ ?_))))
 have hE:=nD SE;first | subst r | cases hE
 exact ⟨rfl,_,(ZD rfl),ma,_,(vo.pick [] _ (by decide) rfl),rfl,rfl⟩
 intro dA SF
 refine zG Z Z Z (zF Z Z (congrArg nA (nB.2 dA.out)) Z) (zG Z Z Z (zF Z Z (congrArg nA (nB.2 dA.out)) Z) (ZV Z Z Z (zF Z Z (congrArg nA (nB.2 dA.out)) Z) (oR Z (zP Z (congrArg nA (nB.2 dA.out)) Z) (oM Z Z (ZV Z Z Z (zF Z Z Z Z) (oR Z (zP Z Z Z) (oA Z Z (eN (zQ ?_)))))))))
 have hE:=nD SF;first | subst r | cases hE
 exact ⟨rfl,_,(ZD rfl),l9,_,(vm.pick [] _ (by decide) rfl),rfl,rfl⟩
 intro mG SG
 refine cT Z mG (sR fL1 Z (oA Z Z (eN (zQ (ze ?_)))))
 have hE:=nD SG;first | subst r | cases hE
 exact ⟨rfl,_,(ZD rfl),gP,_,(gb.pick [] _ (by decide) rfl),rfl,rfl⟩
 intro dy SH
 refine oT Z dy (oT Z dy (oT Z dy (oR Z (zU Z (Zf dy.out) Z) (eN (ZB Z (sR fL1 Z (oA Z Z (eN (zQ (ze ?_))))))))))
 have hE:=nD SH;first | subst r | cases hE
 exact ⟨rfl,_,(ZD rfl),gP,_,(gb.pick [] _ (by decide) rfl),rfl,rfl⟩
 intro mF SI
 refine cT Z mF (sR fL1 Z (oA Z Z (eN (zQ (ze ?_)))))
 have hE:=nD SI;first | subst r | cases hE
 exact ⟨rfl,_,(ZD rfl),ff,_,(dm.pick [] _ (by decide) rfl),rfl,rfl⟩
 intro cO SJ
 refine oT Z cO (oT Z cO (oT Z cO (oT Z cO (oT Z cO (oR Z (zU Z (Zf cO.out) Z) (eN (ZB Z (sR fL1 Z (oA Z Z (eN (zQ (ze ?_))))))))))))
 have hE:=nD SJ;first | subst r | cases hE
 exact ⟨rfl,_,(ZD rfl),ff,_,(dm.pick [] _ (by decide) rfl),rfl,rfl⟩
 intro cN SK
 refine oT Z cN (oT Z cN (oT Z cN (oT Z cN (oT Z cN (oR Z (zU Z (Zf cN.out) Z) (oM Z Z (oN Z (oN Z (oN Z (oN Z (oN Z (oR Z (zU Z Z Z) (eN (ZB Z (sR fL1 Z (oA Z Z (eN (zQ (ze ?_)))))))))))))))))))
 have hE:=nD SK;first | subst r | cases hE
 exact ⟨rfl,_,(ZD rfl),ff,_,(dm.pick [] _ (by decide) rfl),rfl,rfl⟩
 intro ei SL
 refine oT Z ei (oT Z ei (oR Z (zU Z (Zf ei.out) Z) (oM Z Z (oN Z (oN Z (oN Z (oN Z (oN Z (oR Z (zU Z Z Z) (oM Z Z (oN Z (oN Z (oN Z (oN Z (oN Z (oR Z (zU Z Z Z) (eN (ZB Z (sR fL1 Z (oA Z Z (eN (zQ (ze ?_)))))))))))))))))))))))
 have hE:=nD SL;first | subst r | cases hE
 exact ⟨rfl,_,(ZD rfl),ff,_,(dm.pick [] _ (by decide) rfl),rfl,rfl⟩
 intro mE SM
 refine cF Z mE (kN (sR (wEX (.fx 4 (wMV gCf) .stop)) Z (oL Z (iX.ldBA (j:=3) Z Z lz ZT zu (vs:=B8) Z Z) (oM Z iM (oM Z iN (oM Z oa ?_))))))
 have q:=iX.freezeR (k:=5) (n:=bl.length) rfl (wAI (f:=KL.encI) (sz:=1) (fun _=>rfl) bl) (by decide)
 obtain ⟨qH,cG,pz,QG⟩:=q
 have QH:sW w U qH [.blk ap 44 bE,.blk am 44 bG,.blk b2 26 B0,.blk ah 26 B8,.blk ai 54 B9,dh,cJ] jR:=QG
 have Ju:=ox.le aY
 have Jv:=Ju.le aZ
 have uJ:=Jv.le cG
 have Jw:=oy.le aY
 have Jx:=Jw.le aZ
 have uK:=Jx.le cG
 have Jy:=oz.le aY
 have Jz:=Jy.le aZ
 have uL:=Jz.le cG
 have q:=bnd SM
 obtain ⟨⟨jj,Uj⟩,JA,vU⟩:=q
 try dsimp only at vU
 refine zM 0 Z Z Z Z (zL Z Z Try.call23 (zB Z (zB Z (zB Z (zB Z zS)))) Z) QH (fun hs=>wFb (⟨bR,bI,bJ⟩:wAB) bV bY bN bP bO bQ p1 p2 bl bq bs jR qH hs uJ uK uL pz JA) (.inr Z) ?_
 rintro mb UT WX xI cf QI ⟨rfl,rfl⟩
 have QJ:sW w U mb [.blk ap 44 bE,.blk am 44 bG,.blk b2 26 B0,.blk ah 26 B8,.blk ai 54 B9,dh,cJ] xI:=QI
 refine oM Z Z (oR Z (ZC Z Z (v:=.agg #[jV jj.Lo,jV jj.Hi]) Z) (oR Z (ZC Z Z (v:=jV Uj) Z) ?_))
 let bg:List Value:=[jV jj.Lo,jV jj.Hi]
 refine zt (j:=1) (vs:=bg) Z Z Z Z QJ Z iO Z Z zH (zC Z) Z Z Z ?_
 intro rt QK
 have vp:sW w U mb [.blk ap 44 bE,.blk am 44 bg,.blk b2 26 B0,.blk ah 26 B8,.blk ai 54 B9,dh,cJ] rt:=QK
 refine oA Z Z (eN (sR (wEX (.fx 4 (wMV gCf) .stop)) Z (oL Z (vp.ldBA (j:=4) Z Z fU ZK zz (vs:=B9) Z Z) (oM Z iM (oM Z iN (oM Z n9 ?_))))))
 have JB:=ou.le bi
 have JC:=JB.le aY
 have JD:=JC.le aZ
 have JE:=JD.le cG
 have uM:=JE.le cf
 have JF:=ow.le bi
 have JG:=JF.le aY
 have JH:=JG.le aZ
 have JI:=JH.le cG
 have uN:=JI.le cf
 have JJ:=pu.le bi
 have JK:=JJ.le aY
 have JL:=JK.le aZ
 have JM:=JL.le cG
 have uO:=JM.le cf
 have JN:=gh.le aR
 have JO:=JN.le b5
 have JP:=JO.le bK
 have JQ:=JP.le bF
 have JR:=JQ.le bv
 have JT:=JR.le bt
 have JU:=JT.le bu
 have JV:=JU.le bi
 have JW:=JV.le aY
 have JX:=JW.le aZ
 have JY:=JX.le cG
 have oW:=JY.le cf
 have q:=bnd vU
 obtain ⟨⟨jk,Uk⟩,JZ,vV⟩:=q
 try dsimp only at vV
 refine zM 0 Z Z Z Z (zL Z Z Try.call22 (zB Z (zB Z (zB Z (zB Z zS)))) Z) vp (fun hs=>wCY (⟨cr,ct,bS⟩:wAC) cj cp cm cq bW bZ p1 p2 p3 av az rt mb hs uM uN uO oW JZ) (.inr Z) ?_
 rintro gQ UU WY xJ bU QL ⟨rfl,rfl⟩
 have QM:sW w U gQ [.blk ap 44 bE,.blk am 44 bg,.blk b2 26 B0,.blk ah 26 B8,.blk ai 54 B9,dh,cJ] xJ:=QL
 refine oM Z Z (oR Z (ZC Z Z (v:=.agg #[jV jk.Lo,jV jk.Hi]) Z) (oR Z (ZC Z Z (v:=jV Uk) Z) ?_))
 let bk:List Value:=[jV jk.Lo,jV jk.Hi]
 refine zt (j:=0) (vs:=bk) Z Z Z Z QM Z oc Z Z zH (zC Z) Z Z Z ?_
 intro ru QN
 have gf:sW w U gQ [.blk ap 44 bk,.blk am 44 bg,.blk b2 26 B0,.blk ah 26 B8,.blk ai 54 B9,dh,cJ] ru:=QN
 refine oA Z Z (eN (zJ (sR fL8 Z (oL Z (gf.ldBA (j:=1) Z Z iO zf zH (vs:=bg) Z Z) (oL Z (gf.ldBA (j:=0) Z Z oc zf zH (vs:=bk) Z Z) (oR Z (ZI (Runs.neS (enc:=wAZ) (a:=jj) (b:=jk) Z Z Z wOH wOG) (congrArg nA (decide_not).symm)) (oM Z Z (ifc vV ?_ ?_))))))))
 intro dB SQ
 refine zW Z Z Z (zE Z Z (zm (fun h=>h dB.out))) Z Z (zW Z Z Z (zE Z Z (zm (fun h=>h dB.out))) Z Z (zV Z Z Z (zE Z Z (zm (fun h=>h dB.out))) (fun _=>ZL Z Z Z) (oR Z (zP Z (zm (fun h=>h dB.out)) Z) (eN (ifc SQ ?_ ?_)))))
 intro mN SR
 refine zg (zm (fun h=>h mN.out)) (kN (sR gCg Z (oL Z (gf.ldBA (j:=4) Z Z fU ZK zz (vs:=B9) Z Z) ?_)))
 have oX:=uM.le bU
 have oY:=uN.le bU
 have o0:=uO.le bU
 refine bnK SR fun wD J3 SS=>zM 0 Z Z Z Z (zL Z Z Try.call24 (zB Z zS) Z) gf (fun hs=>wDR (⟨cr,ct,bS⟩:wAC) cj cp cm cq bW bZ ru gQ hs oX oY o0 J3) (.inr Z) ?_
 rintro qI UV WZ rx bA QO ⟨rfl,rfl⟩
 have vq:sW w U qI [.blk ap 44 bk,.blk am 44 bg,.blk b2 26 B0,.blk ah 26 B8,.blk ai 54 B9,dh,cJ] rx:=QO
 refine oA Z Z (eN (sR (.fl 0 (.fx 1 (wJG (.nil)) .stop)) Z (oL Z (vq.ldBA (j:=3) Z Z lz ZT zu (vs:=B8) Z Z) ?_)))
 have J4:=uJ.le cf
 have J5:=J4.le bU
 have uP:=J5.le bA
 have J6:=uK.le cf
 have J7:=J6.le bU
 have uQ:=J7.le bA
 have J8:=uL.le cf
 have J9:=J8.le bU
 have uR:=J9.le bA
 have q:=bnd SS
 obtain ⟨⟨cI,lR⟩,Ka,vW⟩:=q
 try dsimp only at vW
 refine zM 0 Z Z Z Z (zL Z Z Try.call12 (zB Z zS) Z) vq (fun hs=>wFG (⟨bR,bI,bJ⟩:wAB) bV bY bN bP bO bQ rx qI hs uP uQ uR Ka) (.inr Z) ?_
 rintro qJ UW W0 ry bB QP ⟨gy,it,rfl,rfl⟩
 let dO:Res:=.row gy it 44 2 (hH wAZ cI)
 have vr:sW w U qJ [dO,.blk ap 44 bk,.blk am 44 bg,.blk b2 26 B0,.blk ah 26 B8,.blk ai 54 B9,dh,cJ] ry:=QP
 refine oM Z Z (oR Z (ZC Z Z (v:=.slice gy cI.length it) Z) (oR Z (ZC Z Z (v:=jV lR) Z) (oA Z Z (oA Z Z (eN (zJ (CK.fresh fun dW dG=>?_)))))))
 have iU:dW 3=.slice av p3.length az:=(dG 3).trans n9
 have fY:dW 4=.pointer (some ⟨b2,0,none⟩):=(dG 4).trans th
 have fZ:dW 9=.pointer (some ⟨ah,0,none⟩):=(dG 9).trans lz
 have iV:dW 10=.slice bq bl.length bs:=(dG 10).trans oa
 have iW:dW 11=.pointer (some ⟨ai,0,none⟩):=(dG 11).trans fU
 have dF:dW 13=jV lR:=(dG 13).trans rfl
 have tQ:dW 22=jV wD:=(dG 22).trans rfl
 have eA:dW 23=.slice gy cI.length it:=(dG 23).trans rfl
 clear dG
 refine rR (.fl 0 (.fx 1 (wJG (.nil)) .stop)) Z (oL Z (vr.ldBA (j:=4) Z Z fZ ZT zu (vs:=B8) Z Z) ?_)
 have o5:=uP.le bB
 have o6:=uQ.le bB
 have o7:=uR.le bB
 have q:=bnd vW
 obtain ⟨⟨dV,Ul⟩,Kb,vX⟩:=q
 try dsimp only at vX
 refine zM 0 Z Z Z Z (zL Z Z Try.call13 (zB Z zS) Z) vr (fun hs=>wEq (⟨bR,bI,bJ⟩:wAB) bV bY bN bP bO bQ ry qJ hs o5 o6 o7 Kb) (.inr Z) ?_
 rintro d9 UX W2 xL bo QQ ⟨eY,fN,rfl,rfl⟩
 let cM:Res:=.row eY fN 35 2 (hH wAA dV)
 have gg:sW w U d9 [cM,dO,.blk ap 44 bk,.blk am 44 bg,.blk b2 26 B0,.blk ah 26 B8,.blk ai 54 B9,dh,cJ] xL:=QQ
 refine oM Z Z (oR Z (ZC Z Z (v:=.slice eY dV.length fN) Z) (oR Z (ZC Z Z (v:=jV Ul) Z) (oA Z Z (oA Z Z (eN (zJ (bnK vX fun yr wd ST=>yB (fun σ_ w_=>∃ (U_:PHeap),σ_ 3=.slice av p3.length az/\σ_ 4=.pointer (some ⟨b2,0,none⟩)/\σ_ 9=.pointer (some ⟨ah,0,none⟩)/\σ_ 10=.slice bq bl.length bs/\σ_ 11=.pointer (some ⟨ai,0,none⟩)/\σ_ 13=jV lR/\σ_ 23=.slice gy cI.length it/\σ_ 24=.slice eY dV.length fN/\σ_ 196=.bool yr/\PHeap.Le d9 U_/\sW w U U_ [.blk ap 44 bk,.blk am 44 bg,.blk b2 26 B0,.blk ah 26 B8,.blk ai 54 B9,dO,cM] w_) ?_ ?_)))))))
 refine rR fL32 Z (oM Z dF (oM Z tQ (oR Z (ZL Z Z Z) (oM Z Z ?_))))
 by_cases cw:lR=wD
 have vY:=wd;rw [if_pos cw] at vY;replace cw:=zN cw
 refine zW Z Z Z (zE Z Z (zm (fun h=>h cw.out))) Z Z (zW Z Z Z (zE Z Z (zm (fun h=>h cw.out))) Z tQ (zV Z Z Z (zE Z Z (zm (fun h=>h cw.out))) (fun _=>ZL Z Z Z) (oR Z (zP Z (zm (fun h=>h cw.out)) Z) (oM Z Z (ifc vY ?_ ?_)))))
 intro cQ SU
 refine zW Z Z Z (zE Z Z (zm (fun h=>h cQ.out))) Z dF (zV Z Z Z (zE Z Z (zm (fun h=>h cQ.out))) (fun _=>ZL Z Z Z) (zW Z Z Z (zE Z Z (zm (fun h=>h cQ.out))) Z Z (ifc SU ?_ ?_)))
 intro aW SV
 refine zG Z Z Z (zF Z Z (zm (fun h=>h aW.out)) Z) (zG Z Z Z (zF Z Z (zm (fun h=>h aW.out)) Z) (zG Z Z Z (zF Z Z (zm (fun h=>h aW.out)) Z) (zG Z Z Z (zF Z Z (zm (fun h=>h aW.out)) Z) (zG Z Z Z (zF Z Z (zm (fun h=>h aW.out)) Z) (zG Z Z Z (zF Z Z (zm (fun h=>h aW.out)) Z) (zV Z Z Z (zE Z Z (zm (fun h=>h cQ.out))) (fun _=>zP Z (zm (fun h=>h aW.out)) Z) (oR Z (zP Z (zm (fun h=>h cQ.out)) Z) (oM Z Z (zW Z Z Z (zE Z Z Z) Z dF (zV Z Z Z (zE Z Z Z) (fun _=>Zg Z Z Z) (zW Z Z Z (zE Z Z Z) Z Z (zW Z Z Z (wT Z aW) Z eA (rU Z (wT Z aW) (zr Z Z Zq) (rU Z (wT Z aW) (zK Z fY zR Z zZ) (zy Z Z Z (wT Z aW) (gg.ldB (j:=4) Z Z Z zd (v:=.slice bL p0.Shots.length bM) Z) Z (rU Z (wT Z aW) (zr Z Z zA) (rU Z (wT Z aW) (ZL Z Z Z) (zV Z Z Z (zE Z Z Z) (fun _=>zU Z (Zf aW.out) Z) (oR Z (zP Z Z Z) (zn ?_))))))))))))))))))))
 have q:=nD SV
 obtain rfl:=q
 exact zI ⟨rfl,⟨d9,iU,fY,fZ,iV,iW,dF,eA,rfl,rfl,(zX _),(gg.pick [2,3,4,5,6,1,0] _ (by decide) rfl)⟩⟩
 intro aW SX
 refine zW Z Z Z (wT Z aW) Z eA (rU Z (wT Z aW) (zr Z Z Zq) (zW Z Z Z (wT Z aW) Z Z (rU Z (wT Z aW) (zr Z Z ZA) (rU Z (wT Z aW) (zk Z Z Z) (rU Z (wT Z aW) (Zl Z Z Z) (zV Z Z Z (zE Z Z (zm (fun h=>h cQ.out))) (fun _=>zU Z (Zf aW.out) Z) (oR Z (zP Z (zm (fun h=>h cQ.out)) Z) (oM Z Z (ifc SX ?_ ?_)))))))))
 intro cY SY
 refine oT Z cY (oT Z cY (oT Z cY (zG Z Z Z (wAG Z Z Z) (zG Z Z Z (wAG Z Z Z) (zG Z Z Z (wAG Z Z Z) (zG Z Z Z (wAG Z Z Z) (zG Z Z Z (wAG Z Z Z) (zG Z Z Z (wAG Z Z Z) (oT Z cY (oR Z (zU Z (Zf cY.out) Z) (zn ?_)))))))))))
 cases SY
 exact zI ⟨rfl,⟨d9,iU,fY,fZ,iV,iW,dF,eA,rfl,rfl,(zX _),(gg.pick [2,3,4,5,6,1,0] _ (by decide) rfl)⟩⟩
 intro cY SZ
 refine zW Z Z Z (wF Z cY) Z dF (rU Z (wF Z cY) (Zg Z Z Z) (zW Z Z Z (wF Z cY) Z Z (oF Z aW (oF Z aW (oF Z aW (oF Z aW (oF Z aW (oF Z aW (rU Z (wF Z cY) (zP Z (zm aW.out) Z) (oR Z (zP Z (zm cY.out) Z) (zn ?_)))))))))))
 cases SZ
 exact zI ⟨rfl,⟨d9,iU,fY,fZ,iV,iW,dF,eA,rfl,rfl,(zX _),(gg.pick [2,3,4,5,6,1,0] _ (by decide) rfl)⟩⟩
 intro cQ S3
 refine oT Z cQ (oT Z cQ (oT Z cQ (zG Z Z Z (wAG Z Z Z) (zG Z Z Z (wAG Z Z Z) (zG Z Z Z (wAG Z Z Z) (zG Z Z Z (wAG Z Z Z) (zG Z Z Z (wAG Z Z Z) (zG Z Z Z (wAG Z Z Z) (oT Z cQ (oR Z (zU Z (Zf cQ.out) Z) (oM Z Z (oN Z (oN Z (oN Z (zG Z Z Z (wAG Z Z Z) (zG Z Z Z (wAG Z Z Z) (zG Z Z Z (wAG Z Z Z) (zG Z Z Z (wAG Z Z Z) (zG Z Z Z (wAG Z Z Z) (zG Z Z Z (wAG Z Z Z) (oN Z (oR Z (zU Z Z Z) (zn ?_)))))))))))))))))))))))
 cases S3
 exact zI ⟨rfl,⟨d9,iU,fY,fZ,iV,iW,dF,eA,rfl,rfl,(zX _),(gg.pick [2,3,4,5,6,1,0] _ (by decide) rfl)⟩⟩
 have vZ:=wd;rw [if_neg cw] at vZ;replace cw:=zN cw
 refine oT Z cw (oT Z cw (oT Z cw (oR Z (zU Z (Zf cw.out) Z) (oM Z Z (oN Z (oN Z (oN Z (zG Z Z Z (wAG Z Z Z) (zG Z Z Z (wAG Z Z Z) (zG Z Z Z (wAG Z Z Z) (zG Z Z Z (wAG Z Z Z) (zG Z Z Z (wAG Z Z Z) (zG Z Z Z (wAG Z Z Z) (oN Z (oR Z (zU Z Z Z) (oM Z Z (oN Z (oN Z (oN Z (zG Z Z Z (wAG Z Z Z) (zG Z Z Z (wAG Z Z Z) (zG Z Z Z (wAG Z Z Z) (zG Z Z Z (wAG Z Z Z) (zG Z Z Z (wAG Z Z Z) (zG Z Z Z (wAG Z Z Z) (oN Z (oR Z (zU Z Z Z) (zn ?_))))))))))))))))))))))))))))
 cases vZ
 exact zI ⟨rfl,⟨d9,iU,fY,fZ,iV,iW,dF,eA,rfl,rfl,(zX _),(gg.pick [2,3,4,5,6,1,0] _ (by decide) rfl)⟩⟩
 rintro XV xM ⟨jP,tR,tS,tT,tU,AZ,A4,tV,A5,tW,bp,i0⟩
 refine ifc ST ?_ ?_
 intro mO S5
 refine ZB (tW.trans (congrArg nA mO.out)) (sR fL1 Z (oA Z Z (eN (zQ (ze ?_)))))
 have hE:=nD S5;first | subst r | cases hE
 exact ⟨rfl,_,(ZD rfl),jP,_,(i0.pick [] _ (by decide) rfl),rfl,rfl⟩
 intro mO S6
 refine zg (tW.trans (congrArg nA (nB.2 mO.out))) (kN (zJ (sR fL2 Z (oM Z A4 (oR Z (Zg Z Z Z) (eN (ifc S6 ?_ ?_)))))))
 intro mP pt
 refine cT Z mP (zJ (sR fL3 Z (oM Z tV (oR Z (zr Z Z Zq) (oM Z Z (eN (zi ?_)))))))
 have q:=wDL pt
 obtain ⟨Wp,pf⟩:=q
 have q:=wDK pf
 obtain ⟨po,RB⟩:=q
 replace po:=zN po
 refine yD (fun dI _ σ_ w_=>∃ (U_:PHeap),σ_ 201=jV (↑dI:Int)/\σ_ 3=.slice av p3.length az/\σ_ 4=.pointer (some ⟨b2,0,none⟩)/\σ_ 9=.pointer (some ⟨ah,0,none⟩)/\σ_ 10=.slice bq bl.length bs/\σ_ 11=.pointer (some ⟨ai,0,none⟩)/\σ_ 23=.slice gy cI.length it/\σ_ 24=.slice eY dV.length fN/\σ_ 200=jV (↑cI.length:Int)/\PHeap.Le jP U_/\sW w U U_ [.blk ap 44 bk,.blk am 44 bg,.blk b2 26 B0,.blk ah 26 B8,.blk ai 54 B9,dO,cM] w_) RB ?_ ?_ ?_
 exact ⟨jP,Z,tR,tS,tT,tU,AZ,tV,A5,Z,(zX _),i0⟩
 rintro dI ⟨⟩ XE XW rA pi ⟨wW,ot,A6,A8,A9,Ba,tX,tY,Bb,tZ,lO,QR⟩ we Rw
 try dsimp only at we
 have sd:Hid ((↑dI:Int) < (↑cI.length:Int)):=zN (wCO pi)
 replace pi:=zN pi
 have RH:Hid (w64 ((↑dI:Int) + 1)=(↑(dI + 1):Int)):=zN (by have h1:=po.out;have h2:=sd.out;rw [wAM] <;> omega)
 refine sR fL1 rfl (zV rfl rfl rfl rfl (fun _=>zo rfl ot tZ) (eN (zJ (cT Z sd (kN (zJ (zi (sR fL2 rfl (zW rfl rfl rfl rfl rfl ot (OKS.ra rfl rfl rfl rfl rfl rfl (eN (zJ (ZN ZO [3,3,3,1,1,3,2,3] (wJu gCa) (by kernel_rfl) ?_)))))))))))))
 have i5:=QR.drew
 generalize hw_W2950:({ rA with drawn:=rA.drawn + 1 }:World)=xN at i5 ⊢
 refine oM Z tY (oM Z Z (bnK we fun _ o8 S7=>?_))
 obtain ⟨VV,uW⟩:=i5.rowSome (j:=5) rfl (by rw [wAI (f:=wAZ) (sz:=2) (fun _=>rfl) cI];have hz:=wAd o8;omega)
 refine oR Z (Ze Z Z uW Z Zq zH (wAd o8)) ?_
 have RF:=wDV (xs:=cI) (wAd o8)
 refine zy rfl rfl rfl rfl (i5.ldRA (j:=5) rfl uW rfl rfl zf zH (vs:=[jV ((gd cI dI).Lo),jV ((gd cI dI).Hi)]) (wHP (sz:=2) (fun _=>rfl) _ _ _ RF (by first | omega | rfl | simp) rfl) rfl) rfl (zy rfl rfl rfl rfl (i5.ldBA (j:=4) rfl rfl tX ZK zz (vs:=B9) rfl rfl) rfl (zW rfl rfl rfl rfl rfl rfl ?_))
 have Kc:=oX.le bA
 have Kd:=Kc.le bB
 have Ke:=Kd.le bo
 have Kf:=Ke.le bp
 have Kg:=Kf.le lO
 have Kh:=oY.le bA
 have Ki:=Kh.le bB
 have Kj:=Ki.le bo
 have Kk:=Kj.le bp
 have Kl:=Kk.le lO
 have Km:=o0.le bA
 have Kn:=Km.le bB
 have Ko:=Kn.le bo
 have Kp:=Ko.le bp
 have Kq:=Kp.le lO
 refine bnK S7 fun Um Kr S8=>zM 0 Z Z Z Z (zL Z Z Try.call25 (zB Z (zB Z zS)) Z) i5 (fun hs=>wDg (⟨cr,ct,bS⟩:wAC) cj cp cm cq bW bZ (↑dI:Int) xN wW hs Kg Kl Kq Kr) (.inr Z) ?_
 rintro md UY Xa xO T5 QS ⟨rfl,rfl⟩
 have vt:sW w U md [.blk ap 44 bk,.blk am 44 bg,.blk b2 26 B0,.blk ah 26 B8,.blk ai 54 B9,dO,cM] xO:=QS
 refine oR Z (ZI (Runs.neS (enc:=wAZ) (a:=(gd cI dI)) (b:=Um) Z Z Z wOH wOG) (congrArg nA (decide_not).symm)) (eN (ifc S8 ?_ ?_))
 intro mQ S9
 refine zg (zm (fun h=>h mQ.out)) (Za (zp (zI (rR fL2 Z (oR Z (ZI (zk Z ot Z) (congrArg (jV) RH.out)) (oM Z Z (zn ?_)))))))
 have q:=nD S9
 obtain rfl:=q
 exact zI ⟨Z,_,Z,⟨md,Z,A6,A8,A9,Ba,tX,tY,Bb,tZ,(lO.trans T5),vt⟩⟩
 intro mQ Ta
 refine cT Z mQ (sR fL1 Z (oA Z Z (eN (zQ (ZE (ze ?_))))))
 have q:=wAj Ta
 obtain ⟨Ub,Tb,yM⟩:=q
 have q:=wDl pt pf (Rw Ub yM)
 obtain rfl:=q
 refine ze (ZE (ze (ze ?_)))
 have hE:=nD Tb;first | subst r | cases hE
 exact ⟨rfl,_,(ZD rfl),md,_,(vt.pick [] _ (by decide) rfl),rfl,rfl⟩
 rintro ⟨⟩ XX VL ⟨qK,Cb,Bc,t7,Bd,Be,Bf,V1,Bg,Bh,cW,vu⟩ Rx
 have v4:=wEA pt pf Rx
 try dsimp only at v4
 have yH:Hid (¬ ((↑(((↑cI.length:Int):Int) - 0).toNat:Int) < (↑cI.length:Int))):=zN (wBi)
 refine sR fL1 Z (oR Z (zo Z Cb Bh) (eN (zJ (cF Z yH (ZS (zq (zq (ZJ (zI (sR fL1 Z (oA Z Z (eN (zJ (sR fL4 Z (oR Z (zK Z t7 zR Z Zi) (oL Z (vu.ldB (j:=2) Z Z Z Zo (v:=.slice bC p0.Across.length bD) Z) (oR Z (zr Z Z ZA) (oM Z Z (eN (zi (bnK v4 fun lT RC Tc=>?_)))))))))))))))))))))
 have q:=wCQ RC
 obtain ⟨pp,RD⟩:=q
 replace pp:=zN pp
 refine CK.forN' (fun i7 i9 σ_ w_=>∃ (U_:PHeap) (gz:Option Addr) (iu:Nat),σ_ 216=jV (↑i7:Int)/\σ_ 3=.slice av p3.length az/\σ_ 4=.pointer (some ⟨b2,0,none⟩)/\σ_ 9=.pointer (some ⟨ah,0,none⟩)/\σ_ 10=.slice bq bl.length bs/\σ_ 11=.pointer (some ⟨ai,0,none⟩)/\σ_ 24=.slice eY dV.length fN/\σ_ 27=.slice gz i9.length iu/\σ_ 214=.slice bC p0.Across.length bD/\σ_ 215=jV (↑p0.Across.length:Int)/\PHeap.Le qK U_/\sW w U U_ [.blk ap 44 bk,.blk am 44 bg,.blk b2 26 B0,.blk ah 26 B8,.blk ai 54 B9,cM,.row gz iu 35 2 (hH wAA i9)] w_) RD ?_ ?_ ?_
 have QT:=vu.nilrow 35 2
 exact ⟨qK,none,0,rfl,Bc,t7,Bd,Be,Bf,Bg,rfl,rfl,rfl,(zX _),(QT.pick [1,2,3,4,5,7,0] _ (by decide) rfl)⟩
 rintro i7 i9 XF XY VM pj ⟨qL,gz,iu,lC,t8,t9,ua,ub,oi,uc,ud,oj,om,gj,vw⟩ TQ
 have sf:Hid ((↑i7:Int) < (↑p0.Across.length:Int)):=zN (wCO pj)
 replace pj:=zN pj
 have vD:Hid (w64 ((↑i7:Int) + 1)=(↑(i7 + 1):Int)):=zN (by have h1:=pp.out;have h2:=sf.out;rw [wAM] <;> omega)
 refine sR fL1 Z (oR Z (zo Z lC om) (eN (zJ (cT Z sf (kN (zJ (zi (sR gCp Z (bnK TQ fun df uS Td=>?_)))))))))
 have Ks:=cy.le aR
 have Kt:=Ks.le b5
 have Ku:=Kt.le bK
 have Kv:=Ku.le bF
 have Kw:=Kv.le bv
 have Kx:=Kw.le bt
 have Ky:=Kx.le bu
 have Kz:=Ky.le bi
 have KA:=Kz.le aY
 have KB:=KA.le aZ
 have KC:=KB.le cG
 have KD:=KC.le cf
 have KE:=KD.le bU
 have KF:=KE.le bA
 have KG:=KF.le bB
 have KH:=KG.le bo
 have KI:=KH.le bp
 have KJ:=KI.le cW
 have KK:=KJ.le gj
 have q:=KK.el (fun _=>rfl) (wAV uS)
 obtain ⟨VW,Wn,ON,OP⟩:=q
 refine oR Z (Ze Z oj ON lC ZA ZH (wCd uS)) (oL Z (vw.ldCA (f:=0) OP Z Z Zp ZH (us:=[jV df.Skier,jV df.Lane]) Z Z) (zx (cs:=dg) Z Z Z Z Z Zn Z vw ?_))
 intro VN gZ QU
 let du:List Value:=[jV df.Skier,jV df.Lane]
 refine zt (j:=0) (vs:=du) Z Z Z Z QU Z Z Z Z ZH (zC Z) Z Z Z ?_
 intro rC QV
 let jK:Res:=.row gz iu 35 2 (hH wAA i9)
 have lJ:sW w U qL [.blk gZ 35 du,.blk ap 44 bk,.blk am 44 bg,.blk b2 26 B0,.blk ah 26 B8,.blk ai 54 B9,cM,jK] rC:=QV
 refine eN (sR (wEQ (.fx 5 (wTa gCo) .stop)) Z (oL Z (lJ.ldBA (j:=5) Z Z oi ZK zz (vs:=B9) Z Z) (oR Z (zK Z Z ZW Z zD) (oL Z (lJ.ldB (j:=0) Z Z Z zO (v:=jV df.Skier) Z) (oR Z (zK Z Z ZW Z zD) (oL Z (lJ.ldB (j:=0) Z Z Z zO (v:=jV df.Lane) Z) ?_))))))
 have KM:=oX.le bA
 have KN:=KM.le bB
 have KO:=KN.le bo
 have KP:=KO.le bp
 have KQ:=KP.le cW
 have KR:=KQ.le gj
 have KS:=oY.le bA
 have KT:=KS.le bB
 have KU:=KT.le bo
 have KV:=KU.le bp
 have KW:=KV.le cW
 have KY:=KW.le gj
 have KZ:=o0.le bA
 have K0:=KZ.le bB
 have K1:=K0.le bo
 have K3:=K1.le bp
 have K5:=K3.le cW
 have K7:=K5.le gj
 have q:=bnd Td
 obtain ⟨⟨jl,Un⟩,K8,v5⟩:=q
 try dsimp only at v5
 refine zM 0 Z Z Z Z (zL Z Z Try.call20 (zB Z (zB Z (zB Z zS))) Z) lJ (fun hs=>wDF (⟨cr,ct,bS⟩:wAC) cj cp cm cq bW bZ df.Skier df.Lane rC qL hs KR KY K7 K8) (.inr Z) ?_
 rintro fh UZ Xb xP wx QW ⟨rfl,rfl⟩
 have QX:sW w U fh [.blk gZ 35 du,.blk ap 44 bk,.blk am 44 bg,.blk b2 26 B0,.blk ah 26 B8,.blk ai 54 B9,cM,jK] xP:=QW
 refine oM Z Z (oR Z (ZC Z Z (v:=.agg #[jV jl.Lo,jV jl.Hi]) Z) (oR Z (ZC Z Z (v:=jV Un) Z) (zx (cs:=dg) Z Z Z Z Z zw Z QX ?_)))
 intro VO mA QY
 let jL:List Value:=[jV jl.Lo,jV jl.Hi]
 refine zt (j:=0) (vs:=jL) Z Z Z Z QY Z Z Z Z zH (zC Z) Z Z Z ?_
 intro xR QZ
 have lK:sW w U fh [.blk mA 44 jL,.blk gZ 35 du,.blk ap 44 bk,.blk am 44 bg,.blk b2 26 B0,.blk ah 26 B8,.blk ai 54 B9,cM,jK] xR:=QZ
 refine oA Z Z (eN (sR fL3 Z (oR Z (zK Z Z zh Z zD) (oL Z (lK.ldB (j:=0) Z Z Z zO (v:=jV jl.Lo) Z) (oR Z (Zl Z Z Z) (eN (ifc v5 ?_ ?_)))))))
 intro mR Te
 refine cT Z mR (rR gCw Z (oM Z ud (oL Z (lK.ldBA (j:=1) Z Z Z Zp ZH (vs:=du) Z Z) (Zy (pv:=[(0,.agg du.toArray)]) (zs:=dg) (cs:=du) Z Z Z Z Z (wAR Z wAo) ZA ZH Zn Z Z Z Z Z lK ?_))))
 intro xS yt Q0
 let qd:Res:=.row (some ⟨yt,0,none⟩) 1 35 2 (hH wAA [df])
 have vx:sW w U fh [qd,.blk mA 44 jL,.blk gZ 35 du,.blk ap 44 bk,.blk am 44 bg,.blk b2 26 B0,.blk ah 26 B8,.blk ai 54 B9,cM,jK] xS:=Q0
 refine bnK Te fun wE K9 Tf=>OKS.append (j:=9) (enc:=wAA) (xs:=i9) (ys:=[df]) (zs:=wE) rfl rfl rfl rfl rfl Try.underlying24 wLS rfl rfl rfl rfl rfl rfl vx rfl rfl rfl (vx.srcR (j:=0) rfl (by decide) (wAI (f:=wAA) (sz:=2) (fun _=>rfl) [df])) (fun _=>rfl) (fun _=>rfl) K9 rfl ?_
 intro pZ sg xT Q1
 have Q2:sW w U fh [qd,.blk mA 44 jL,.blk gZ 35 du,.blk ap 44 bk,.blk am 44 bg,.blk b2 26 B0,.blk ah 26 B8,.blk ai 54 B9,cM,.row pZ sg 35 2 (hH wAA wE)] xT:=Q1
 refine oA Z Z (zn (zp (zI (rR fL2 Z (oR Z (ZI (zk Z lC Z) (congrArg (jV) vD.out)) (oM Z Z (zn ?_)))))))
 cases Tf
 exact zI ⟨rfl,⟨fh,pZ,sg,rfl,t8,t9,ua,ub,oi,uc,rfl,oj,om,(gj.trans wx),(Q2.pick [3,4,5,6,7,8,9] _ (by decide) rfl)⟩⟩
 intro mR Tg
 refine cF Z mR (Za (zp (zI (rR fL2 Z (oR Z (ZI (zk Z lC Z) (congrArg (jV) vD.out)) (oM Z Z (zn ?_)))))))
 cases Tg
 exact zI ⟨rfl,⟨fh,gz,iu,rfl,t8,t9,ua,ub,oi,uc,ud,oj,om,(gj.trans wx),(lK.pick [2,3,4,5,6,7,8] _ (by decide) rfl)⟩⟩
 rintro XZ mu ⟨Vm,p7,sj,Cc,Bi,Bj,Bk,Bl,V2,Bm,Bn,V3,Bo,dS,Q3⟩
 have yI:Hid (¬ ((↑(((↑p0.Across.length:Int):Int) - 0).toNat:Int) < (↑p0.Across.length:Int))):=zN (wBi)
 refine sR fL1 Z (oR Z (zo Z Cc Bo) (eN (zJ (cF Z yI (ZS (zq (zq (ZJ (zI (sR gCv Z (oM Z Bm (oM Z Bn ?_))))))))))))
 have q:=Q3.freezeR (k:=5) (n:=dV.length) rfl (wAI (f:=wAA) (sz:=2) (fun _=>rfl) dV) (by decide)
 obtain ⟨wX,dT,TN,Q4⟩:=q
 have Q5:sW w U wX [.blk ap 44 bk,.blk am 44 bg,.blk b2 26 B0,.blk ah 26 B8,.blk ai 54 B9,.row p7 sj 35 2 (hH wAA lT)] mu:=Q4
 have q:=Q5.freezeR (k:=5) (n:=lT.length) rfl (wAI (f:=wAA) (sz:=2) (fun _=>rfl) lT) (by decide)
 obtain ⟨qM,dK,TO,Q6⟩:=q
 have Q7:sW w U qM [.blk ap 44 bk,.blk am 44 bg,.blk b2 26 B0,.blk ah 26 B8,.blk ai 54 B9] mu:=Q6
 have La:=TN.le dK
 refine bnK Tc fun Xu Lb Th=>zM 0 Z Z Z Z (zL Z Z Try.call26 (zB Z (zB Z zS)) Z) Q7 (fun hs=>wBr dV eY fN lT p7 sj mu qM hs La TO Lb) (.inr Z) ?_
 rintro mf Va Xc rD dU Q8 ⟨rfl,rfl⟩
 have lL:sW w U mf [.blk ap 44 bk,.blk am 44 bg,.blk b2 26 B0,.blk ah 26 B8,.blk ai 54 B9] rD:=Q8
 refine oR Z (ZR Z Z) (eN (ifc Th ?_ ?_))
 intro mS Ti
 refine zg (nC mS.out) (kN (sR (.fl 0 (.fl 1 (.fx 2 (wPr gDf) .stop))) Z (oL Z (lL.ldBA (j:=3) Z Z Bk ZT zu (vs:=B8) Z Z) (oL Z (lL.ldBA (j:=2) Z Z Bj ZT zu (vs:=B0) Z Z) ?_))))
 have Lc:=o5.le bo
 have Ld:=Lc.le bp
 have Lf:=Ld.le cW
 have Lg:=Lf.le dS
 have Lh:=Lg.le dT
 have Li:=Lh.le dK
 have Lk:=Li.le dU
 have Ll:=o6.le bo
 have Lm:=Ll.le bp
 have Ln:=Lm.le cW
 have Lp:=Ln.le dS
 have Lq:=Lp.le dT
 have Lr:=Lq.le dK
 have Ls:=Lr.le dU
 have Lu:=o7.le bo
 have Lv:=Lu.le bp
 have Lw:=Lv.le cW
 have Lx:=Lw.le dS
 have Ly:=Lx.le dT
 have Lz:=Ly.le dK
 have LA:=Lz.le dU
 have LB:=cS.le aR
 have LC:=LB.le b5
 have LD:=LC.le bK
 have LE:=LD.le bF
 have LF:=LE.le bv
 have LG:=LF.le bt
 have LH:=LG.le bu
 have LI:=LH.le bi
 have LJ:=LI.le aY
 have LK:=LJ.le aZ
 have LL:=LK.le cG
 have LM:=LL.le cf
 have LN:=LM.le bU
 have LO:=LN.le bA
 have LP:=LO.le bB
 have LQ:=LP.le bo
 have LT:=LQ.le bp
 have LU:=LT.le cW
 have LV:=LU.le dS
 have LW:=LV.le dT
 have LX:=LW.le dK
 have LY:=LX.le dU
 have LZ:=cU.le aR
 have L0:=LZ.le b5
 have L4:=L0.le bK
 have L6:=L4.le bF
 have L8:=L6.le bv
 have Ma:=L8.le bt
 have Mb:=Ma.le bu
 have Mc:=Mb.le bi
 have Md:=Mc.le aY
 have Me:=Md.le aZ
 have Mf:=Me.le cG
 have Mg:=Mf.le cf
 have Mh:=Mg.le bU
 have Mi:=Mh.le bA
 have Mj:=Mi.le bB
 have Ml:=Mj.le bo
 have Mm:=Ml.le bp
 have Mn:=Mm.le cW
 have Mo:=Mn.le dS
 have Mp:=Mo.le dT
 have Mq:=Mp.le dK
 have Mr:=Mq.le dU
 have Ms:=cy.le aR
 have Mt:=Ms.le b5
 have Mv:=Mt.le bK
 have Mw:=Mv.le bF
 have Mx:=Mw.le bv
 have My:=Mx.le bt
 have Mz:=My.le bu
 have MA:=Mz.le bi
 have MB:=MA.le aY
 have MC:=MB.le aZ
 have MD:=MC.le cG
 have ME:=MD.le cf
 have MF:=ME.le bU
 have MG:=MF.le bA
 have MH:=MG.le bB
 have MI:=MH.le bo
 have MJ:=MI.le bp
 have MK:=MJ.le cW
 have ML:=MK.le dS
 have MM:=ML.le dT
 have MN:=MM.le dK
 have MO:=MN.le dU
 refine bnK Ti fun Xv MP Tk=>zM 0 Z Z Z Z (zL Z Z Try.call27 (zB Z (zB Z zS)) Z) lL (fun hs=>wCf (⟨bR,bI,bJ⟩:wAB) bV bY bN bP bO bQ p0 bL bM cg ci bC bD rD mf hs Lk Ls LA LY Mr MO MP) (.inr Z) ?_
 rintro mg Vb Xd rE wy Q9 ⟨rfl,rfl⟩
 have vy:sW w U mg [.blk ap 44 bk,.blk am 44 bg,.blk b2 26 B0,.blk ah 26 B8,.blk ai 54 B9] rE:=Q9
 refine oM Z Z (ifc Tk ?_ ?_)
 intro dC Tl
 refine zW Z Z Z (zE Z Z (congrArg nA dC.out)) Z Bl (zW Z Z Z (zE Z Z (congrArg nA dC.out)) Z Bi ?_)
 have MQ:=pz.le cf
 have MS:=MQ.le bU
 have MT:=MS.le bA
 have MU:=MT.le bB
 have MV:=MU.le bo
 have MW:=MV.le bp
 have MX:=MW.le cW
 have MY:=MX.le dS
 have MZ:=MY.le dT
 have M2:=MZ.le dK
 have M3:=M2.le dU
 have M4:=M3.le wy
 have M5:=oW.le bU
 have M6:=M5.le bA
 have M7:=M6.le bB
 have M8:=M7.le bo
 have M9:=M8.le bp
 have Na:=M9.le cW
 have Nb:=Na.le dS
 have Nc:=Nb.le dT
 have Nd:=Nc.le dK
 have Nf:=Nd.le dU
 have Ng:=Nf.le wy
 refine bnK Tl fun Xw Nh Tm=>zM 0 Z Z Z (zE Z Z (congrArg nA dC.out)) (zL Z Z Try.call28 (zB Z (zB Z zS)) Z) vy (fun hs=>wBa bl bq bs p3 av az rE mg hs M4 Ng Nh) (.inr Z) ?_
 rintro mh Vc Xe rF Wh Ra ⟨rfl,rfl⟩
 have vz:sW w U mh [.blk ap 44 bk,.blk am 44 bg,.blk b2 26 B0,.blk ah 26 B8,.blk ai 54 B9] rF:=Ra
 refine oR Z (zU Z (congrArg nA dC.out) Z) (oM Z Z (ifc Tm ?_ ?_))
 intro iv Tn
 refine bnK Tn fun Xx Ni To=>zM 0 Z Z Z (zE Z Z (congrArg nA iv.out)) (zL Z Z Try.call15 zS Z) vz (fun hs=>wBm rF mh hs Ni) (.inr Z) ?_
 rintro qO Vd Xf xU Wi Rb ⟨rfl,rfl⟩
 have Rc:sW w U qO [.blk ap 44 bk,.blk am 44 bg,.blk b2 26 B0,.blk ah 26 B8,.blk ai 54 B9] xU:=Rb
 refine oR Z (zU Z (congrArg nA iv.out) Z) (oA Z Z (eN (zQ ?_)))
 have hE:=nD To;first | subst r | cases hE
 exact ⟨rfl,_,(ZD rfl),qO,_,(Rc.pick [] _ (by decide) rfl),rfl,rfl⟩
 intro iv Tp
 refine ZV Z Z Z (zF Z Z (congrArg nA (nB.2 iv.out)) Z) (oR Z (zP Z (congrArg nA (nB.2 iv.out)) Z) (oA Z Z (eN (zQ ?_))))
 have hE:=nD Tp;first | subst r | cases hE
 exact ⟨rfl,_,(ZD rfl),mh,_,(vz.pick [] _ (by decide) rfl),rfl,rfl⟩
 intro dC Tq
 refine zG Z Z Z (zF Z Z (congrArg nA (nB.2 dC.out)) Z) (zG Z Z Z (zF Z Z (congrArg nA (nB.2 dC.out)) Z) (ZV Z Z Z (zF Z Z (congrArg nA (nB.2 dC.out)) Z) (oR Z (zP Z (congrArg nA (nB.2 dC.out)) Z) (oM Z Z (ZV Z Z Z (zF Z Z Z Z) (oR Z (zP Z Z Z) (oA Z Z (eN (zQ ?_)))))))))
 have hE:=nD Tq;first | subst r | cases hE
 exact ⟨rfl,_,(ZD rfl),mg,_,(vy.pick [] _ (by decide) rfl),rfl,rfl⟩
 intro mS Ts
 refine ZB (nF (mS.out)) (sR fL1 Z (oA Z Z (eN (zQ (ze ?_)))))
 have hE:=nD Ts;first | subst r | cases hE
 exact ⟨rfl,_,(ZD rfl),mf,_,(lL.pick [] _ (by decide) rfl),rfl,rfl⟩
 intro mP Tt
 refine cF Z mP (kN (sR (.fl 0 (.fl 1 (.fx 2 (wPr gDf) .stop))) Z (oL Z (i0.ldBA (j:=3) Z Z tT ZT zu (vs:=B8) Z Z) (oL Z (i0.ldBA (j:=2) Z Z tS ZT zu (vs:=B0) Z Z) ?_))))
 have Nj:=o5.le bo
 have Nk:=Nj.le bp
 have Nl:=o6.le bo
 have Nm:=Nl.le bp
 have Nn:=o7.le bo
 have No:=Nn.le bp
 have Np:=cS.le aR
 have Nq:=Np.le b5
 have Nr:=Nq.le bK
 have Ns:=Nr.le bF
 have Nt:=Ns.le bv
 have Nu:=Nt.le bt
 have Nv:=Nu.le bu
 have Nw:=Nv.le bi
 have Nx:=Nw.le aY
 have Ny:=Nx.le aZ
 have Nz:=Ny.le cG
 have NA:=Nz.le cf
 have NB:=NA.le bU
 have NC:=NB.le bA
 have ND:=NC.le bB
 have NE:=ND.le bo
 have NF:=NE.le bp
 have NG:=cU.le aR
 have NH:=NG.le b5
 have NI:=NH.le bK
 have NJ:=NI.le bF
 have NK:=NJ.le bv
 have NL:=NK.le bt
 have NM:=NL.le bu
 have NN:=NM.le bi
 have NO:=NN.le aY
 have NP:=NO.le aZ
 have NQ:=NP.le cG
 have NR:=NQ.le cf
 have NT:=NR.le bU
 have NU:=NT.le bA
 have NV:=NU.le bB
 have NW:=NV.le bo
 have NX:=NW.le bp
 have NY:=cy.le aR
 have NZ:=NY.le b5
 have N0:=NZ.le bK
 have N1:=N0.le bF
 have N2:=N1.le bv
 have N3:=N2.le bt
 have N4:=N3.le bu
 have N5:=N4.le bi
 have N6:=N5.le aY
 have N7:=N6.le aZ
 have N8:=N7.le cG
 have N9:=N8.le cf
 have Oa:=N9.le bU
 have Ob:=Oa.le bA
 have Oc:=Ob.le bB
 have Od:=Oc.le bo
 have Oe:=Od.le bp
 refine bnK Tt fun Xy Of Tu=>zM 0 Z Z Z Z (zL Z Z Try.call27 (zB Z (zB Z zS)) Z) i0 (fun hs=>wCf (⟨bR,bI,bJ⟩:wAB) bV bY bN bP bO bQ p0 bL bM cg ci bC bD xM jP hs Nk Nm No NF NX Oe Of) (.inr Z) ?_
 rintro mi Ve Xg rG wz Rd ⟨rfl,rfl⟩
 have vA:sW w U mi [.blk ap 44 bk,.blk am 44 bg,.blk b2 26 B0,.blk ah 26 B8,.blk ai 54 B9,dO,cM] rG:=Rd
 refine oM Z Z (ifc Tu ?_ ?_)
 intro dD Tv
 refine zW Z Z Z (zE Z Z (congrArg nA dD.out)) Z tU (zW Z Z Z (zE Z Z (congrArg nA dD.out)) Z tR ?_)
 have Og:=pz.le cf
 have Oh:=Og.le bU
 have Oi:=Oh.le bA
 have Oj:=Oi.le bB
 have Ok:=Oj.le bo
 have Ol:=Ok.le bp
 have Om:=Ol.le wz
 have On:=oW.le bU
 have Oo:=On.le bA
 have Oq:=Oo.le bB
 have Ot:=Oq.le bo
 have Ou:=Ot.le bp
 have Ov:=Ou.le wz
 refine bnK Tv fun Xz Ow Tw=>zM 0 Z Z Z (zE Z Z (congrArg nA dD.out)) (zL Z Z Try.call28 (zB Z (zB Z zS)) Z) vA (fun hs=>wBa bl bq bs p3 av az rG mi hs Om Ov Ow) (.inr Z) ?_
 rintro mn Vg Xh rH Wj Re ⟨rfl,rfl⟩
 have vB:sW w U mn [.blk ap 44 bk,.blk am 44 bg,.blk b2 26 B0,.blk ah 26 B8,.blk ai 54 B9,dO,cM] rH:=Re
 refine oR Z (zU Z (congrArg nA dD.out) Z) (oM Z Z (ifc Tw ?_ ?_))
 intro iw Tx
 refine bnK Tx fun XA Ox Ty=>zM 0 Z Z Z (zE Z Z (congrArg nA iw.out)) (zL Z Z Try.call15 zS Z) vB (fun hs=>wBm rH mn hs Ox) (.inr Z) ?_
 rintro qP Vh Xi xV Wk Rf ⟨rfl,rfl⟩
 have Rg:sW w U qP [.blk ap 44 bk,.blk am 44 bg,.blk b2 26 B0,.blk ah 26 B8,.blk ai 54 B9,dO,cM] xV:=Rf
 refine oR Z (zU Z (congrArg nA iw.out) Z) (oA Z Z (eN (zQ ?_)))
 have hE:=nD Ty;first | subst r | cases hE
 exact ⟨rfl,_,(ZD rfl),qP,_,(Rg.pick [] _ (by decide) rfl),rfl,rfl⟩
 intro iw Tz
 refine ZV Z Z Z (zF Z Z (congrArg nA (nB.2 iw.out)) Z) (oR Z (zP Z (congrArg nA (nB.2 iw.out)) Z) (oA Z Z (eN (zQ ?_))))
 have hE:=nD Tz;first | subst r | cases hE
 exact ⟨rfl,_,(ZD rfl),mn,_,(vB.pick [] _ (by decide) rfl),rfl,rfl⟩
 intro dD TA
 refine zG Z Z Z (zF Z Z (congrArg nA (nB.2 dD.out)) Z) (zG Z Z Z (zF Z Z (congrArg nA (nB.2 dD.out)) Z) (ZV Z Z Z (zF Z Z (congrArg nA (nB.2 dD.out)) Z) (oR Z (zP Z (congrArg nA (nB.2 dD.out)) Z) (oM Z Z (ZV Z Z Z (zF Z Z Z Z) (oR Z (zP Z Z Z) (oA Z Z (eN (zQ ?_)))))))))
 have hE:=nD TA;first | subst r | cases hE
 exact ⟨rfl,_,(ZD rfl),mi,_,(vA.pick [] _ (by decide) rfl),rfl,rfl⟩
 intro mN TB
 refine cT Z mN (sR fL1 Z (oA Z Z (eN (zQ (ze ?_)))))
 have hE:=nD TB;first | subst r | cases hE
 exact ⟨rfl,_,(ZD rfl),gQ,_,(gf.pick [] _ (by decide) rfl),rfl,rfl⟩
 intro dB TC
 refine oT Z dB (oT Z dB (oT Z dB (oR Z (zU Z (Zf dB.out) Z) (eN (ZB Z (sR fL1 Z (oA Z Z (eN (zQ (ze ?_))))))))))
 have hE:=nD TC;first | subst r | cases hE
 exact ⟨rfl,_,(ZD rfl),gQ,_,(gf.pick [] _ (by decide) rfl),rfl,rfl⟩
 intro mC TD
 refine cT Z mC (sR fL1 Z (oA Z Z (eN (zQ (ze ?_)))))
 have hE:=nD TD;first | subst r | cases hE
 exact ⟨rfl,_,(ZD rfl),gN,_,(ga.pick [] _ (by decide) rfl),rfl,rfl⟩
 intro dx TE
 refine oT Z dx (oT Z dx (oT Z dx (oR Z (zU Z (Zf dx.out) Z) (eN (ZB Z (sR fL1 Z (oA Z Z (eN (zQ (ze ?_))))))))))
 have hE:=nD TE;first | subst r | cases hE
 exact ⟨rfl,_,(ZD rfl),gN,_,(ga.pick [] _ (by decide) rfl),rfl,rfl⟩
end Go.Proofs.Ytfcmijinklojbaa
