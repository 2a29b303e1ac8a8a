import Derived.Test.YtkeeechdijfkhaaY5
import Derived.Test.YtkeeechdijfkhaaY4
set_option linter.all false
open List renaming flatMap->hH,set->nA,getElem_cons_succ->nG,getElem_cons_zero->nH,getElem_toArray->nI
open Go.Value renaming bool->nB
open Option.some renaming inj->nD
open Bool renaming eq_false_iff->nE
open Int renaming toNat_natCast->nJ
namespace Go.Proofs.Ytkeeechdijfkhaa
open Go.KL
def gBc:Sch:=.fx 0 (.fl 1 .nil) .stop
def gBd:Sch:=.fx 2 (.fx 3 .nil .stop) .stop
def gBe:Sch:=.fl 17 (.fx 18 .nil .stop)
def gBf:Sch:=.fx 0 (.fl 1 (.fl 2 .nil)) .stop
def gBg:Sch:=.fx 4 (.fl 5 (.fl 6 .nil)) .stop
def gBh:Sch:=.fx 16 gBe .stop
def gBi:Sch:=.fx 13 (.fl 14 (.fl 15 .nil)) .stop
def gBj:Sch:=.fx 14 gBh .stop
def gBk:Sch:=.fx 5 (.fx 6 (.fl 7 (.fx 8 .nil .stop)) .stop) .stop
def gBl:Sch:=.fl 15 (.fx 13 gBj .stop)
def gBm:Sch:=.fx 12 (.fl 15 gBj) .stop
def gBn:Sch:=.fx 10 (.fl 15 gBj) .stop
def gBo:Sch:=.fx 9 gBn .stop
def gBp:Sch:=.fx 10 gBl (.fx 13 gBn .stop)
def gBq:Sch:=.fx 10 gBm (.fx 12 gBn .stop)
set_option maxHeartbeats 4000000
theorem wFx (p0:wAC) (bf:Option Addr) (bi:Nat) (bg:Option Addr) (bj:Nat) (bh:Option Addr) (bk:Nat) (w:World) (U:PHeap) (hS:St0 w U []) (bO:Sl U 1 bf bi p0.Shots.length (hH KL.encI p0.Shots)) (bP:Sl U 1 bg bj p0.Down.length (hH KL.encI p0.Down)) (bQ:Sl U 2 bh bk p0.Across.length (hH wAB p0.Across)) {r:(Option wAD) × Int} (hm:wCI p0=some r):Gv Try.prog 20 [.agg #[.slice bf p0.Shots.length bi,.slice bg p0.Down.length bj,.slice bh p0.Across.length bk]] w (wCb w [] U (fun U_ L_ v=>match r.1 with | none=>v=.tuple #[.pointer none,jV r.2]/\L_=[] | some d=>∃ (b0:Nat) (A0p00:Option Addr) (c0p00:Nat) (A0p01:Option Addr) (c0p01:Nat) (A0p02:Option Addr) (c0p02:Nat) (m0p1:Nat) (es0p1:Array MapEntry) (ck0p1:Nat),v=.tuple #[.pointer (some ⟨b0,0,none⟩),jV r.2]/\L_=[.blk b0 67 ([.slice A0p00 d.Bout.Shots.length c0p00,.slice A0p01 d.Bout.Down.length c0p01,.slice A0p02 d.Bout.Across.length c0p02,.map (some m0p1)] ++ ((hH KL.encI d.hits.l) ++ ((hH KL.encI d.used.l) ++ (hH KL.encT d.met.l)))),.obj m0p1 (.map es0p1 ck0p1)]/\Sl U_ 1 A0p00 c0p00 d.Bout.Shots.length (hH KL.encI d.Bout.Shots)/\Sl U_ 1 A0p01 c0p01 d.Bout.Down.length (hH KL.encI d.Bout.Down)/\Sl U_ 2 A0p02 c0p02 d.Bout.Across.length (hH wAB d.Bout.Across)/\MpR es0p1 wGK wGi d.may)):=by
 unfold wCI at hm
 refine Gv.of Try.func20 Z Try.ntmps20 Try.results20 Z (sR gBf Z ?_)
 let B0:List Value:=[.slice bf p0.Shots.length bi,.slice bg p0.Down.length bj,.slice bh p0.Across.length bk]
 refine ZR (cs:=B0) rfl rfl rfl rfl rfl rfl (by rfl) hS ?_
 intro W1 b2 bu
 refine oA Z Z (oA Z Z (eN (sR (.fl 0 (.fx 1 (wMn (.nil)) .stop)) Z (oL Z (bu.ldBA (j:=0) Z Z Z Zc zj (vs:=B0) Z Z) ?_))))
 have q:=bnd hm
 obtain ⟨⟨x5,x6⟩,h7,aY⟩:=q
 try dsimp only at aY
 refine zQ 0 Z Z Z Z (zN Z Z Try.call36 (zE Z zS) Z) bu (fun hs=>wDp p0 bf bi bg bj bh bk W1 U hs bO bP bQ h7) (.inr Z) ?_
 rintro U9 bY b9 bm b5 bt bs
 rcases x5 with _ | x26
 try dsimp only at aY
 obtain ⟨rfl,rfl⟩:=bs
 have bM:sW w U U9 [.blk b2 26 B0] bm:=bt
 refine oM Z Z (oR Z (ZP Z Z (v:=.pointer none) Z) (oR Z (ZP Z Z (v:=jV x6) Z) (oA Z Z (oA Z Z (eN (zI (sR (wKA gBg) Z (oM Z Z (oR Z (Zl Z Z Z) (oM Z Z (ifc aY ?_ ?_)))))))))))
 intro az bR
 refine zZ Z Z Z (wT Z az) Z Z ?_
 cases bR
 intro az bS
 refine oF Z az (Zb Z Z Z (zM Z Z (zq az.out) Z) (oF Z az (oR Z (zX Z (zq az.out) Z) (eN (zk Z (kN (sR fL4 Z (oM Z Z (oM Z Z (oA Z Z (oA Z Z (eN (zR ?_)))))))))))))
 cases bS
 exact ⟨rfl,_,(wHP rfl rfl),U9,_,(bM.pick [] _ (by decide) rfl),rfl,rfl⟩
 try dsimp only at aY
 obtain ⟨ah,ai,am,aj,aq,ak,au,ae,aU,av,rfl,rfl,aZ,ba,bb,be⟩:=bs
 have bv:sW w U U9 [.blk ah 67 ([.slice ai x26.Bout.Shots.length am,.slice aj x26.Bout.Down.length aq,.slice ak x26.Bout.Across.length au,.map (some ae)] ++ ((hH KL.encI x26.hits.l) ++ ((hH KL.encI x26.used.l) ++ (hH KL.encT x26.met.l)))),.obj ae (.map aU av),.blk b2 26 B0] bm:=bt
 refine oM Z Z (oR Z (ZP Z Z (v:=.pointer (some ⟨ah,0,none⟩)) Z) (oR Z (ZP Z Z (v:=jV x6) Z) (oA Z Z (oA Z Z (eN (zI (sR (wKA gBg) Z (oM Z Z (oR Z (Zl Z Z Z) (oM Z Z (ifc aY ?_ ?_)))))))))))
 intro ab bT
 refine zZ Z Z Z (wT Z ab) Z Z ?_
 have q:=bnd bT
 obtain ⟨⟨x40,x41⟩,bC,bw⟩:=q
 try dsimp only at bw
 refine zQ 2 Z Z Z (wT Z ab) (zN Z Z Try.call38 (zE Z zS) Z) bv (fun hs=>wBu x26 ah ai am aj aq ak au ae aU av bm U9 hs aZ ba bb be bC) (.inl Z) ?_
 rintro bl bZ cd bA aV bN ⟨bq,bB,rfl,rfl,bD⟩
 have bp:sW w U bl [.row bq bB 3 1 (hH KL.encI x40),.blk ah 67 ([.slice ai x26.Bout.Shots.length am,.slice aj x26.Bout.Down.length aq,.slice ak x26.Bout.Across.length au,.map (some ae)] ++ ((hH KL.encI x41.1.l) ++ ((hH KL.encI x41.2.1.l) ++ (hH KL.encT x41.2.2.l)))),.obj ae (.map aU av),.blk b2 26 B0] bA:=bN
 have bE:bq.isNone=decide (x40=[]):=wIU (j:=0) bp rfl (fun _=>rfl) (by decide) bD
 refine zK rfl rfl rfl (zP rfl rfl (Zf ab.out)) (fun _=>Runs.neNilR (b:=decide (¬ (x40=[]))) rfl rfl rfl zA (by simp [bE])) (zK rfl rfl rfl rfl (fun _=>zd rfl (Zf ab.out) rfl) (eN (ifc bw ?_ ?_)))
 intro bo bU
 refine zk (zq (fun h=>h bo.out)) (kN (sR fL4 Z (oM Z Z (oM Z Z (oA Z Z (oA Z Z (eN (zR ?_))))))))
 have bF:=aZ.le aV
 have bG:=ba.le aV
 have bH:=bb.le aV
 cases bU
 exact ⟨rfl,_,(wHP rfl rfl),bl,_,(bp.pick [1,2] _ (by decide) rfl),ah,ai,am,aj,aq,ak,au,ae,aU,av,rfl,rfl,bF,bG,bH,be⟩
 intro bo bV
 refine cT Z bo (rR fL1 Z (oA Z Z (eN (sR fL4 Z (oM Z Z (oM Z Z (oA Z Z (oA Z Z (eN (zR ?_))))))))))
 have bI:=aZ.le aV
 have bJ:=ba.le aV
 have bK:=bb.le aV
 cases bV
 exact ⟨rfl,_,(wHP rfl rfl),bl,_,(bp.pick [1,2] _ (by decide) rfl),ah,ai,am,aj,aq,ak,au,ae,aU,av,rfl,rfl,bI,bJ,bK,be⟩
 intro ab bW
 refine oF Z ab (Zb Z Z Z (zM Z Z (zq ab.out) Z) (oF Z ab (oR Z (zX Z (zq ab.out) Z) (eN (zk Z (kN (sR fL4 Z (oM Z Z (oM Z Z (oA Z Z (oA Z Z (eN (zR ?_)))))))))))))
 cases bW
 exact ⟨rfl,_,(wHP rfl rfl),U9,_,(bv.pick [0,1] _ (by decide) rfl),ah,ai,am,aj,aq,ak,au,ae,aU,av,rfl,rfl,aZ,ba,bb,be⟩
theorem wFy (p0:wAC) (bl:Option Addr) (bo:Nat) (bm:Option Addr) (bp:Nat) (bn:Option Addr) (bq:Nat) (w:World) (U:PHeap) (hS:St0 w U []) (cZ:Sl U 1 bl bo p0.Shots.length (hH KL.encI p0.Shots)) (da:Sl U 1 bm bp p0.Down.length (hH KL.encI p0.Down)) (db:Sl U 2 bn bq p0.Across.length (hH wAB p0.Across)) {r:(List (List Int)) × Int} (hm:wBg p0=some r):Gv Try.prog 9 [.agg #[.slice bl p0.Shots.length bo,.slice bm p0.Down.length bp,.slice bn p0.Across.length bq]] w (wCb w [] U (fun U_ L_ v=>∃ (A0:Option Addr) (c0:Nat) (bP:List Value),v=.tuple #[.slice A0 r.1.length c0,jV r.2]/\L_=[.row A0 c0 23 1 bP]/\RlL U_ wMG r.1 bP)):=by
 unfold wBg at hm
 refine Gv.of Try.func9 Z Try.ntmps9 Try.results9 Z (sR gBf Z ?_)
 let B0:List Value:=[.slice bl p0.Shots.length bo,.slice bm p0.Down.length bp,.slice bn p0.Across.length bq]
 refine ZR (cs:=B0) rfl rfl rfl rfl rfl rfl (by rfl) hS ?_
 intro W1 b2 bW
 refine oA Z Z (oA Z Z (eN (sR (.fl 0 (.fx 1 (wMn (.nil)) .stop)) Z (oL Z (bW.ldBA (j:=0) Z Z Z Zc zj (vs:=B0) Z Z) ?_))))
 have q:=bnd hm
 obtain ⟨⟨x5,x6⟩,h7,bb⟩:=q
 try dsimp only at bb
 refine zQ 0 Z Z Z Z (zN Z Z Try.call20 (zE Z zS) Z) bW (fun hs=>wFx p0 bl bo bm bp bn bq W1 U hs cZ da db h7) (.inr Z) ?_
 rintro U9 dG dU bJ dS bV bT
 rcases x5 with _ | x26
 try dsimp only at bb
 obtain ⟨rfl,rfl⟩:=bT
 have cV:sW w U U9 [.blk b2 26 B0] bJ:=bV
 refine oM Z Z (oR Z (ZP Z Z (v:=.pointer none) Z) (oR Z (ZP Z Z (v:=jV x6) Z) (oA Z Z (oA Z Z (eN (zI (sR fL2 Z (oM Z Z (oR Z (Ze Z Z Z) (eN (ifc bb ?_ ?_)))))))))))
 intro bs dq
 refine zk (zq (fun h=>h bs.out)) (kN (sR fL1 Z (oA Z Z (eN (zI (sR fL7 Z (oM Z Z ?_)))))))
 cases dq
 intro bs dr
 refine cT Z bs (sR fL3 Z (oM Z Z (oA Z Z (oA Z Z (eN (zR (zg ?_)))))))
 have cW:=cV.nilrow 23 1
 cases dr
 exact ⟨rfl,_,(wHP rfl rfl),U9,_,(cW.pick [0] _ (by decide) rfl),none,0,[],rfl,rfl,RlL.nil⟩
 try dsimp only at bb
 obtain ⟨ah,au,az,av,aU,aV,aX,aa,am,ak,rfl,rfl,dL,dM,dN,dO⟩:=bT
 have bz:sW w U U9 [.blk ah 67 ([.slice au x26.Bout.Shots.length az,.slice av x26.Bout.Down.length aU,.slice aV x26.Bout.Across.length aX,.map (some aa)] ++ ((hH KL.encI x26.hits.l) ++ ((hH KL.encI x26.used.l) ++ (hH KL.encT x26.met.l)))),.obj aa (.map am ak),.blk b2 26 B0] bJ:=bV
 refine oM Z Z (oR Z (ZP Z Z (v:=.pointer (some ⟨ah,0,none⟩)) Z) (oR Z (ZP Z Z (v:=jV x6) Z) (oA Z Z (oA Z Z (eN (zI (sR fL2 Z (oM Z Z (oR Z (Ze Z Z Z) (eN (ifc bb ?_ ?_)))))))))))
 intro bt dt
 refine zk (zq (fun h=>h bt.out)) (kN (sR fL1 Z (oA Z Z (eN (zI (sR fL7 Z (oM Z Z (oR Z (ze Z Z) (oR Z (zF Z Z zL Z zj) (oR Z (zF Z Z zB Z zO) (oL Z (bz.ldB (j:=0) Z Z Z zV (v:=.slice au x26.Bout.Shots.length az) Z) (oR Z (ZH Z Z zA) (oM Z Z (eN (zh (bnK dt fun dX df du=>?_))))))))))))))))
 have q:=wBp df
 obtain ⟨bC,dg⟩:=q
 replace bC:=zG bC
 refine CK.forN' (fun ai bk σ_ w_=>∃ (U_:PHeap) (bf:Option Addr) (bi:Nat) (bj:List Value),σ_ 22=jV (↑ai:Int)/\σ_ 4=.pointer (some ⟨ah,0,none⟩)/\σ_ 6=.slice bf bk.length bi/\σ_ 21=jV (↑x26.Bout.Shots.length:Int)/\PHeap.Le U9 U_/\sW w U U_ [.blk ah 67 ([.slice au x26.Bout.Shots.length az,.slice av x26.Bout.Down.length aU,.slice aV x26.Bout.Across.length aX,.map (some aa)] ++ ((hH KL.encI x26.hits.l) ++ ((hH KL.encI x26.used.l) ++ (hH KL.encT x26.met.l)))),.obj aa (.map am ak),.blk b2 26 B0,.row bf bi 23 1 bj] w_/\RlL U_ wMG bk bj) dg ?_ ?_ ?_
 have cX:=bz.nilrow 23 1
 exact ⟨U9,none,0,[],rfl,rfl,rfl,rfl,(zY _),(cX.pick [1,2,3,0] _ (by decide) rfl),RlL.nil⟩
 rintro ai bk dW dZ bK bB ⟨dI,bf,bi,bj,bv,bu,cx,bR,dC,cY,cE⟩ dA
 have bO:Hid ((↑ai:Int) < (↑x26.Bout.Shots.length:Int)):=zG (wBx bB)
 replace bB:=zG bB
 have dh:Hid (w64 ((↑ai:Int) + 1)=(↑(ai + 1):Int)):=zG (by have h1:=bC.out;have h2:=bO.out;rw [wAf] <;> omega)
 refine sR fL1 rfl (zK rfl rfl rfl rfl (fun _=>zf rfl bv bR) (eN (zI (cT Z bO (kN (zI (zh (sR fL2 rfl (zZ rfl rfl rfl rfl rfl bv (OKS.ra rfl rfl rfl rfl rfl rfl (eN (ZJ ZK [3,3,3,3,3,3,3,3,3,3,1,3,3,2,2,0,3] (wGn (.fx 13 (.fx 14 (.fx 15 (.fl 16 .nil) .stop) .stop) .stop)) (by kernel_rfl) ?_))))))))))))
 have bA:=cY.drew
 generalize hw_W88:({ bK with drawn:=bK.drawn + 1 }:World)=bL at bA ⊢
 refine oM Z cx (oM Z bu (oM Z Z (oR Z (ze Z Z) (oR Z (zF Z Z zL Z Zn) (bnK dA fun _ bw dv=>oR Z (ZF Z Z Z ZV Zd (wAr bw) (wAs bw)) (oM Z bu (oR Z (ze Z Z) (oR Z (zF Z Z zL Z zj) (oR Z (zF Z Z zB Z zO) (oL Z (bA.ldB (j:=0) Z Z Z zV (v:=.slice av x26.Bout.Down.length aU) Z) (oR Z (ZH Z Z zA) (bnK dv fun bD cG dw=>?_))))))))))))
 have q:=wPE cG
 obtain ⟨dP,dQ,aY,de,bX⟩:=q
 have aY:x26.Bout.Down.length <= 8:=by have h1:=aY;rw [List.length_take] at h1;omega
 refine zK (v:=.slice (some ⟨ah,4 + ai * 8,none⟩) bD.length 8) rfl rfl rfl rfl (fun _=>zw (Runs.slAh (k:=x26.Bout.Down.length) rfl rfl rfl ZE zC aY) (by rw [bX];rfl)) ?_
 obtain ⟨bI,dR,dy,cH,dD⟩:=St.freezeTP (c:=8) (xs:=bD) (off:=4 + ai * 8) (f:=KL.encI) (sz:=1) bA (k:=0) rfl (fun _=>rfl) (wNg (f:=KL.encI) (sz:=1) (s:=(ai * 8)) (n:=x26.Bout.Down.length) (len:=8) (fun _=>rfl) (by first | omega | (simp only [List.length_cons,List.length_nil];omega) | (show _=4 + _;omega) | (simp;done)) de aY (by have h9:=x26.hits.h;have h8:(ai * 8) < 64:=(by have hz0:=wAI bw;omega);have h7:=aY;rw [h9];omega)) (by rw [bX];exact aY)
 let B1:Res:=.row bf bi 23 1 bj
 have cI:sW w U bI [.obj aa (.map am ak),.blk b2 26 B0,B1] bL:=cH
 refine bnK dw fun aq cz dk=>zQ 0 Z Z Z Z (zN Z Z Try.call21 (zE Z zS) Z) cI (fun hs=>wBb bD (some ⟨ah,4 + ai * 8,none⟩) 8 bL bI hs dy cz) (.inr Z) ?_
 rintro cd dH dV br dB cJ ⟨be,bh,rfl,rfl⟩
 let B2:Res:=.row be bh 3 1 (hH KL.encI aq)
 have cK:sW w U cd [B2,.obj aa (.map am ak),.blk b2 26 B0,B1] br:=cJ
 have q:=dD _ _ _ dB cK
 obtain ⟨cf,bZ,cL⟩:=q
 have cM:sW w U cf [.blk ah 67 ([.slice au x26.Bout.Shots.length az,.slice av x26.Bout.Down.length aU,.slice aV x26.Bout.Across.length aX,.map (some aa)] ++ ((hH KL.encI x26.hits.l) ++ ((hH KL.encI x26.used.l) ++ (hH KL.encT x26.met.l)))),B2,.obj aa (.map am ak),.blk b2 26 B0,B1] br:=cL
 have q:=cM.freezeR (k:=1) (n:=aq.length) rfl (wAF (f:=KL.encI) (sz:=1) (fun _=>rfl) aq) (by decide)
 obtain ⟨ba,b5,dz,cO⟩:=q
 have cP:sW w U ba [.blk ah 67 ([.slice au x26.Bout.Shots.length az,.slice av x26.Bout.Down.length aU,.slice aV x26.Bout.Across.length aX,.map (some aa)] ++ ((hH KL.encI x26.hits.l) ++ ((hH KL.encI x26.used.l) ++ (hH KL.encT x26.met.l)))),.obj aa (.map am ak),.blk b2 26 B0,B1] br:=cO
 let B3:List Value:=[.slice be aq.length bh]
 refine zu (pv:=[(0,.slice be aq.length bh)]) (zs:=[.slice none 0 0]) (cs:=B3) Z Z Z Z Z (wAJ Z wAc) Try.runUnderlying27 zO Try.zeroValue23 Z Z Z Z Z cP ?_
 intro cj cp cN
 have bY:RlL ba wMG [aq] B3:=(RlL.cons (R:=wMG) (x:=aq) (vs:=B3) ⟨be,bh,rfl,dz⟩ RlL.nil)
 let B4:Res:=.row (some ⟨cp,0,none⟩) 1 23 1 B3
 have bU:sW w U ba [B4,.blk ah 67 ([.slice au x26.Bout.Shots.length az,.slice av x26.Bout.Down.length aU,.slice aV x26.Bout.Across.length aX,.map (some aa)] ++ ((hH KL.encI x26.hits.l) ++ ((hH KL.encI x26.used.l) ++ (hH KL.encT x26.met.l)))),.obj aa (.map am ak),.blk b2 26 B0,B1] cj:=cN
 refine bnK dk fun dE cA dm=>?_
 have cB:=cE.le bZ
 have cC:=cB.le b5
 refine OKS.appendR (R:=wMG) (j:=4) (xs:=bk) (ys:=[aq]) (zs:=dE) rfl rfl rfl rfl rfl Try.underlying27 wNJ rfl rfl rfl rfl rfl rfl rfl bU rfl rfl rfl cC bY (bU.srcR (j:=0) rfl (by decide) (RlL.len bY)) cA rfl ?_
 intro bF bN bQ cn cQ dx
 have cR:sW w U ba [B4,.blk ah 67 ([.slice au x26.Bout.Shots.length az,.slice av x26.Bout.Down.length aU,.slice aV x26.Bout.Across.length aX,.map (some aa)] ++ ((hH KL.encI x26.hits.l) ++ ((hH KL.encI x26.used.l) ++ (hH KL.encT x26.met.l)))),.obj aa (.map am ak),.blk b2 26 B0,.row bF bN 23 1 bQ] cn:=cQ
 refine oA Z Z (zo (zi (zH (rR fL2 Z (oR Z (zw (zW Z bv Z) (congrArg (jV) dh.out)) (oM Z Z (zo ?_)))))))
 cases dm
 exact zH ⟨rfl,⟨ba,bF,bN,bQ,rfl,bu,rfl,bR,((dC.trans bZ).trans b5),(cR.pick [1,2,3,4] _ (by decide) rfl),dx⟩⟩
 rintro dY dJ ⟨cg,b9,cq,cr,cy,dK,cu,cw,dT,cS,cD⟩
 have ct:Hid (¬ ((↑(((↑x26.Bout.Shots.length:Int):Int) - 0).toNat:Int) < (↑x26.Bout.Shots.length:Int))):=zG (wBQ)
 refine sR fL1 Z (oR Z (zf Z cy cw) (eN (zI (cF Z ct (ZS (zn (zn (ZL (zH (sR fL3 Z (oM Z cu (oA Z Z (oA Z Z (eN (zR ?_)))))))))))))))
 cases du
 exact ⟨rfl,_,(wHP rfl rfl),cg,_,(cS.pick [3] _ (by decide) rfl),b9,cq,cr,rfl,rfl,cD⟩
 intro bt dp
 refine cT Z bt (sR fL3 Z (oM Z Z (oA Z Z (oA Z Z (eN (zR (zg ?_)))))))
 have cU:=bz.nilrow 23 1
 cases dp
 exact ⟨rfl,_,(wHP rfl rfl),U9,_,(cU.pick [0] _ (by decide) rfl),none,0,[],rfl,rfl,RlL.nil⟩
theorem wCp (p0:wBi) (p1:Int) (w:World) (U:PHeap) (hS:St0 w U [])  {r:Bool} (hm:wAu p0 p1=some r):Gv Try.prog 10 [.agg #[jV p0.Lo,jV p0.Hi],jV p1] w (wCb w [] U (fun U_ L_ v=>v=.bool r/\L_=[])):=by
 unfold wAu at hm
 refine Gv.of Try.func10 rfl Try.ntmps10 Try.results10 rfl (sR gBc rfl (ZR (cs:=[jV p0.Lo,jV p0.Hi]) rfl rfl rfl rfl rfl rfl (by rfl) hS ?_))
 intro W1 b2 ae
 refine oA Z Z (eN (sR fL11 Z (oR Z (zF Z Z ZW Z zC) (oL Z (ae.ldB (j:=0) Z Z Z zJ (v:=jV p0.Lo) Z) (oM Z Z (oR Z (Runs.leq Z Z Z) (oM Z Z ?_)))))))
 by_cases c5:p0.Lo <= p1
 have ah:=hm;rw [if_pos c5] at ah;replace c5:=zG c5
 refine zZ Z Z Z (wT Z c5) Z Z (rU Z (wT Z c5) (zF Z Z ZW Z zC) (zl Z Z Z (wT Z c5) (ae.ldB (j:=0) Z Z Z zJ (v:=jV p0.Hi) Z) Z (rU Z (wT Z c5) (Runs.leq Z Z Z) (oR Z (zd Z (Zf c5.out) Z) (oA Z Z (eN (zR ?_)))))))
 first | (obtain rfl:=nD ah) | cases ah
 exact ⟨rfl,_,(zz rfl),U,_,(ae.pick [] _ (by decide) rfl),rfl,rfl⟩
 have aj:=hm;rw [if_neg c5] at aj;replace c5:=zG c5
 refine oF Z c5 (oF Z c5 (oF Z c5 (oF Z c5 (oR Z (zX Z (zq c5.out) Z) (oA Z Z (eN (zR ?_)))))))
 have hE:=nD aj;first | subst r | cases hE
 exact ⟨rfl,_,(zz rfl),U,_,(ae.pick [] _ (by decide) rfl),rfl,rfl⟩
theorem wDn (w:World) (U:PHeap) (hS:St0 w U []) {r:Bool} (hm:wBk=some r):Gv Try.prog 11 [] w (wCb w [] U (fun U_ L_ v=>v=.bool r/\L_=[])):=by
 cases hm
 refine (xr11 w).mono ?_
 rintro v w' ⟨rfl,k⟩
 exact ⟨U,[],hS.grow k,Z,Z⟩
theorem wCX (p0:List Int) (iq:Option Addr) (ir:Nat) (p1:Int) (p2:Int) (w:World) (U:PHeap) (hS:St0 w U []) (wO:Sl U 1 iq ir p0.length (hH KL.encB8 p0)) {r:Bool} (hm:wAq p0 p1 p2=some r):Gv Try.prog 3 [.slice iq p0.length ir,.int .u8 p1,.int .u8 p2] w (wCb w [] U (fun U_ L_ v=>v=.bool r/\L_=[])):=by
 unfold wAq at hm
 refine Gv.of Try.func3 Z Try.ntmps3 Try.results3 Z (sR fL1 Z (oA Z Z (eN (sR (.fl 0 (.fx 1 (.fx 2 (fC3_5 (.fx 6 (.fx 7 (.fl 8 .nil) .stop) .stop)) .stop) .stop)) Z (oM Z Z (bnK hm fun x1 h2 xP=>zQ 0 Z Z Z Z (zN Z Z Try.call5 (zE Z zS) Z) hS (fun hs=>wFw p0 iq ir w U hs wO h2) (.inr Z) ?_))))))
 rintro U4 L5 v6 W7 Aw wv ⟨gm,iu,ji,rfl,rfl,uv⟩
 have vF:sW w U U4 [.blk gm 51 [.slice iu x1.bytes.length ji,jV x1.next,.int .u32 x1.state]] W7:=wv
 have q:=bnd xP
 obtain ⟨⟨x16,yr,it⟩,uA,mu⟩:=q
 try dsimp only at mu
 refine zQ 1 Z Z Z Z (zN Z Z Try.call4 (zE Z (zE Z zS)) Z) vF (fun hs=>wED x1 gm iu ji 5 W7 U4 hs uv uA) (.inl Z) ?_
 rintro iU yB AN oB Av vO ⟨bb,bf,cx,cE,bB,bF,iw,jl,pt,mW,pu,rfl,rfl,uB,Aq,Ar⟩
 let B0:Res:=.blk gm 51 [.slice mW it.bytes.length pu,jV it.next,.int .u32 it.state]
 let B1:Res:=.row iw jl 23 1 pt
 let B2:Res:=.row cx cE 3 1 (hH KL.encI x16.Down)
 let B3:Res:=.row bb bf 3 1 (hH KL.encI x16.Shots)
 have vR:sW w U iU [B3,B2,B1,B0] oB:=vO
 refine oM Z Z (oR Z (ZP Z Z (v:=.agg #[.slice bb x16.Shots.length bf,.slice cx x16.Down.length cE,.slice bB x16.Across.length bF]) Z) (oR Z (ZP Z Z (v:=.slice iw yr.length jl) Z) ?_))
 let B4:List Value:=[.slice none 0 0,.slice none 0 0,.slice none 0 0]
 refine Za (cs:=B4) Z Z Z Z Z Zj Z vR ?_
 intro yP ae vU
 let B5:List Value:=[.slice bb x16.Shots.length bf,.slice cx x16.Down.length cE,.slice bB x16.Across.length bF]
 refine ZA (j:=0) (vs:=B5) Z Z Z Z vU Z Z Z Z zj (zD Z) Z Z Z ?_
 intro gh vW
 have l9:sW w U iU [.blk ae 26 B5,B3,B2,B1,B0] gh:=vW
 refine OKS.ra rfl rfl rfl rfl rfl rfl (eN (sR fL4 rfl (zK rfl rfl rfl rfl (fun _=>zF rfl rfl zB rfl zO) (zl rfl rfl rfl rfl (l9.ldB (j:=0) rfl rfl rfl zV (v:=.slice bb x16.Shots.length bf) rfl) rfl (zK rfl rfl rfl rfl (fun _=>ZH rfl rfl zA) (OKS.ra rfl rfl rfl rfl rfl rfl (eN (zI (ZJ ZK [3,3,3,3,3,3,3,3,3,3] fL10 (by kernel_rfl) ?_)))))))))
 have gU:=l9.drew
 generalize hw_W53:({ gh with drawn:=gh.drawn + 1 }:World)=gi at gU ⊢
 refine oM Z Z (oR Z (Runs.cvw Z Z Try.runUnderlying5 Zi Z Z) (oM Z Z (bnK mu fun x54 uE xR=>oR Z (Runs.rem Z Z Z uE) (oM Z Z (oR Z (Runs.cvw Z Z Try.runUnderlying5 Zi Z Z) (oM Z Z (bnK xR fun x57 uG xS=>oR Z (Runs.rem Z Z Z uG) (oA Z Z (oA Z Z (eN (sR (wGJ (.fx 3 (wPw (.fx 7 (.fx 8 (.fl 9 .nil) .stop) .stop)) .stop)) Z (oL Z (gU.ldBA (j:=0) Z Z Z Zc zj (vs:=B5) Z Z) (oM Z Z (oM Z Z ?_))))))))))))))
 have q:=gU.freezeR (k:=1) (n:=x16.Shots.length) rfl (wAF (f:=KL.encI) (sz:=1) (fun _=>rfl) x16.Shots) (by decide)
 obtain ⟨m5,yk,xW,v9⟩:=q
 have wa:sW w U m5 [.blk ae 26 B5,B2,B1,B0] gi:=v9
 have q:=wa.freezeR (k:=1) (n:=x16.Down.length) rfl (wAF (f:=KL.encI) (sz:=1) (fun _=>rfl) x16.Down) (by decide)
 obtain ⟨i3,mP,my,wd⟩:=q
 have we:sW w U i3 [.blk ae 26 B5,B1,B0] gi:=wd
 have lR:=xW.le mP
 have uJ:=uB.le yk
 have lS:=uJ.le mP
 have q:=bnd xS
 obtain ⟨⟨x73,x74⟩,uL,mw⟩:=q
 try dsimp only at mw
 refine zQ 0 Z Z Z Z (zN Z Z Try.call6 (zE Z (zE Z (zE Z zS))) Z) we (fun hs=>wHL x16 bb bf cx cE bB bF x54 x57 gi i3 hs lR my lS uL) (.inr Z) ?_
 rintro cf yD AQ oU io wn ⟨rfl,rfl⟩
 have wo:sW w U cf [.blk ae 26 B5,B1,B0] oU:=wn
 refine oM Z Z (oR Z (ZP Z Z (v:=.agg #[jV x73.Lo,jV x73.Hi]) Z) (oR Z (ZP Z Z (v:=jV x74) Z) ?_))
 let B6:List Value:=[jV 0,jV 0]
 refine Za (cs:=B6) Z Z Z Z Z Zk Z wo ?_
 intro yY ah wt
 let B7:List Value:=[jV x73.Lo,jV x73.Hi]
 refine ZA (j:=0) (vs:=B7) Z Z Z Z wt Z Z Z Z ZU (zD Z) Z Z Z ?_
 intro gj wu
 have cN:sW w U cf [.blk ah 33 B7,.blk ae 26 B5,B1,B0] gj:=wu
 refine oA Z Z (eN (zI (zI (CK.fresh fun cO cu=>?_))))
 have gP:cO 7=.pointer (some ⟨ae,0,none⟩):=(cu 7).trans rfl
 have tV:cO 9=jV (↑x16.Shots.length:Int):=(cu 9).trans rfl
 have lK:cO 10=jV x54:=(cu 10).trans rfl
 have lL:cO 11=jV x57:=(cu 11).trans rfl
 have gQ:cO 12=.pointer (some ⟨ah,0,none⟩):=(cu 12).trans rfl
 have tW:cO 13=jV x74:=(cu 13).trans rfl
 clear cu
 refine rR fL12 Z (oM Z tW (oR Z (Ze Z Z Z) (oM Z Z (ifc mw ?_ ?_))))
 intro bL w6
 refine zK Z Z Z (zP Z Z (zq (fun h=>h bL.out))) (fun _=>zF Z gQ ZW Z zC) (zl Z Z Z (zP Z Z (zq (fun h=>h bL.out))) (cN.ldB (j:=0) Z Z Z zJ (v:=jV x73.Lo) Z) Z (zK Z Z Z (zP Z Z (zq (fun h=>h bL.out))) (fun _=>zf Z Z Z) (oR Z (zX Z (zq (fun h=>h bL.out)) Z) (oM Z Z (ifc w6 ?_ ?_)))))
 intro bK w7
 refine oT Z bK (oT Z bK (oT Z bK (oR Z (zd Z (Zf bK.out) Z) (eN (zx Z (sR fL1 Z (oA Z Z (eN (zR (zg ?_))))))))))
 have hE:=nD w7;first | subst r | cases hE
 exact ⟨rfl,_,(zz rfl),cf,_,(cN.pick [] _ (by decide) rfl),rfl,rfl⟩
 intro bK w9
 refine rU Z (wF Z bK) (zF Z gQ ZW Z zC) (zl Z Z Z (wF Z bK) (cN.ldB (j:=0) Z Z Z zJ (v:=jV x73.Hi) Z) Z (rU Z (wF Z bK) (Runs.gtr Z Z Z) (oR Z (zX Z (zq bK.out) Z) (eN (ifc w9 ?_ ?_)))))
 intro gv xa
 refine cT Z gv (sR fL1 Z (oA Z Z (eN (zR (zg ?_)))))
 have hE:=nD xa;first | subst r | cases hE
 exact ⟨rfl,_,(zz rfl),cf,_,(cN.pick [] _ (by decide) rfl),rfl,rfl⟩
 intro gv xc
 refine cF Z gv (kN (zI (zI (ZJ ZK [3,1,3,3,1,3,1,3,3,1,3,3,3] fL13 (by kernel_rfl) ?_))))
 have cM:=cN.drew
 generalize hw_W108:({ gj with drawn:=gj.drawn + 1 }:World)=yH at cM ⊢
 refine oR Z (zF Z gP zB Z zO) (oL Z (cM.ldB (j:=1) Z Z Z zV (v:=.slice bb x16.Shots.length bf) Z) (oM Z lK (bnK xc fun ab cL xg=>?_)))
 have lN:=lR.le io
 have q:=lN.el (fun _=>rfl) (wBe cL)
 obtain ⟨y6,Ay,uQ,uU⟩:=q
 refine oR Z (ZI Z Z uQ Z zA zC (wEL cL) (wEp cL)) (oL Z (cM.ldC (f:=0) uU (v:=jV ab) Z Z zJ Z) (oR Z (zF Z gP zB Z zO) (oL Z (cM.ldB (j:=1) Z Z Z zV (v:=.slice cx x16.Down.length cE) Z) (oM Z lL (bnK xg fun aX gR ii=>?_)))))
 have lO:=my.le io
 have q:=lO.el (fun _=>rfl) (wBe gR)
 obtain ⟨y7,Az,uR,uV⟩:=q
 refine oR Z (ZI Z Z uR Z zA zC (wEL gR) (wEp gR)) (oL Z (cM.ldC (f:=0) uV (v:=jV aX) Z Z zJ Z) (oR Z (Runs.min Z Z Z) (oR Z (zW Z Z Z) (oM Z Z (eN (zh ?_))))))
 have q:=wDV ii
 obtain ⟨AA,g7⟩:=q
 have q:=wDU g7
 obtain ⟨ig,wW⟩:=q
 replace ig:=zG ig
 refine CK.forN (fun aa _ σ_ w_=>∃ (U_:PHeap),σ_ 70=jV (↑aa:Int)/\σ_ 7=.pointer (some ⟨ae,0,none⟩)/\σ_ 9=jV (↑x16.Shots.length:Int)/\σ_ 10=jV x54/\σ_ 11=jV x57/\σ_ 12=.pointer (some ⟨ah,0,none⟩)/\σ_ 69=jV (w64 ((min ab aX) + 1))/\PHeap.Le cf U_/\sW w U U_ [.blk ah 33 B7,.blk ae 26 B5,B0] w_) wW ?_ ?_ ?_
 exact ⟨cf,rfl,gP,tV,lK,lL,gQ,rfl,(zY _),(cM.pick [0,1,3] _ (by decide) rfl)⟩
 rintro aa ⟨⟩ A4 Bd oq ib ⟨mZ,bI,bG,bS,bH,bT,bU,bM,fz,l7⟩ mB wP
 try dsimp only at mB
 have jk:Hid ((↑aa:Int) < (w64 ((min ab aX) + 1))):=zG (wBx ib)
 replace ib:=zG ib
 have w5:Hid (w64 ((↑aa:Int) + 1)=(↑(aa + 1):Int)):=zG (by have h1:=ig.out;have h2:=jk.out;rw [wAf] <;> omega)
 refine sR fL1 Z (oR Z (zf Z bI bM) (eN (zI (cT Z jk (kN (zI (zh (sR fL2 Z (oM Z bI (oA Z Z (eN (sR (.fl 0 (.fx 1 gBd .stop)) Z (oL Z (l7.ldBA (j:=1) Z Z bG Zc zj (vs:=B5) Z Z) ?_)))))))))))))
 have lP:=lN.le fz
 have ux:=lO.le fz
 have uy:=lS.le io
 have fg:=uy.le fz
 refine bnK mB fun aq uz xL=>zQ 0 Z Z Z Z (zN Z Z Try.call7 (zE Z zS) Z) l7 (fun hs=>wDm x16 bb bf cx cE bB bF oq mZ hs lP ux fg uz) (.inr Z) ?_
 rintro az yA AM oy ed vG ⟨bz,bD,bk,bm,bA,bE,rfl,rfl⟩
 let B8:Res:=.row bA bE 39 2 (hH wAB aq.Across)
 let B9:Res:=.row bk bm 3 1 (hH KL.encI aq.Down)
 let iD:Res:=.row bz bD 3 1 (hH KL.encI aq.Shots)
 have vH:sW w U az [iD,B9,B8,.blk ah 33 B7,.blk ae 26 B5,B0] oy:=vG
 refine Za (cs:=B4) Z Z Z Z Z Zj Z vH ?_
 intro yL aj vJ
 let eC:List Value:=[.slice bz aq.Shots.length bD,.slice bk aq.Down.length bm,.slice bA aq.Across.length bE]
 refine ZA (j:=0) (vs:=eC) Z Z Z Z vJ Z Z Z Z zj (zD Z) Z Z Z ?_
 intro oz vK
 have gT:sW w U az [.blk aj 26 eC,iD,B9,B8,.blk ah 33 B7,.blk ae 26 B5,B0] oz:=vK
 refine eN (sR (wKA (.fx 4 .nil .stop)) Z (oR Z (zF Z Z zB Z zO) (oL Z (gT.ldB (j:=0) Z Z Z zV (v:=.slice bz aq.Shots.length bD) Z) (oM Z bH (bnK xL fun _ dY xM=>?_)))))
 obtain ⟨y8,lV⟩:=gT.rowSome (j:=1) rfl (by rw [wAF (f:=KL.encI) (sz:=1) (fun _=>rfl) aq.Shots];have hz:=wAI dY;omega)
 refine oR Z (ZI Z Z lV Z zA zC (wAr dY) (wAs dY)) ?_
 have wZ:=wBf (xs:=aq.Shots) (wAI dY)
 refine OKS.stR (j:=1) (vs:=[jV 0]) (cs':=hH KL.encI (nA aq.Shots x54.toNat 0)) rfl rfl rfl rfl gT rfl lV rfl rfl rfl zC (by rw [wAF (f:=KL.encI) (sz:=1) (fun _=>rfl)];have hz:=wAI dY;show _ + 1 <= _;first | omega | (simp only [nJ];omega) | (simp only [nI,nG,nH];omega)) rfl (wCV (sz:=1) (fo:=0) (fun _=>rfl) _ _ _ _ wZ (by first | omega | (simp only [nJ];omega) | (simp only [nI,nG,nH];omega)) (zD rfl) rfl) rfl ?_
 intro eI vL
 let bo:Res:=.row bz bD 3 1 (hH KL.encI (nA aq.Shots x54.toNat 0))
 have vM:sW w U az [.blk aj 26 eC,bo,B9,B8,.blk ah 33 B7,.blk ae 26 B5,B0] eI:=vL
 let aV:Res:=.blk aj 26 [.slice bz ((nA aq.Shots x54.toNat 0).length) bD,.slice bk aq.Down.length bm,.slice bA aq.Across.length bE]
 have vN:sW w U az [aV,bo,B9,B8,.blk ah 33 B7,.blk ae 26 B5,B0] eI:=by simpa only [B0,eC,bo,aV,B5,B7,B8,B9,List.length_set] using vM
 refine eN ?_
 have q:=bnd xM
 obtain ⟨⟨bj,au⟩,xY,ms⟩:=q
 try dsimp only at ms
 refine CK.cut (fun σ_ w_=>∃ (U_:PHeap) (bl:Option Addr) (bn:Nat) (bh:Option Addr) (bi:Nat),σ_ 7=.pointer (some ⟨ae,0,none⟩)/\σ_ 9=jV (↑x16.Shots.length:Int)/\σ_ 10=jV x54/\σ_ 11=jV x57/\σ_ 12=.pointer (some ⟨ah,0,none⟩)/\σ_ 14=jV (↑aa:Int)/\σ_ 15=.pointer (some ⟨aj,0,none⟩)/\σ_ 69=jV (w64 ((min ab aX) + 1))/\σ_ 70=jV (↑aa:Int)/\PHeap.Le az U_/\sW w U U_ [.row bl bn 3 1 (hH KL.encI bj),.row bh bi 3 1 (hH KL.encI au),B8,.blk aj 26 [.slice bl bj.length bn,.slice bh au.length bi,.slice bA aq.Across.length bE],.blk ah 33 B7,.blk ae 26 B5,B0] w_) ?_ ?_
 refine bnK xY fun aU fj xN=>bnK xN fun br lQ xO=>ZJ ZK [3,1,3,1,3,3,1,3,3,2,0,3,2,2,0,3,0,3,0] (wPr (.fl 11 (.fx 9 (.fx 10 (.fx 12 gBl (.fx 13 gBm .stop)) (.fx 12 gBp (.fx 13 gBq .stop))) (.fx 12 (.fx 9 gBp (.fx 13 gBo .stop)) (.fx 13 (.fx 9 gBq (.fx 12 gBo .stop)) .stop))))) (by kernel_rfl) ?_
 have bO:=vN.drew
 generalize hw_W237:({ eI with drawn:=eI.drawn + 1 }:World)=yM at bO ⊢
 refine OKS.cutD (s:=.nil) (M:=fun σ_ w_=>∃ (U_:PHeap) (cP:Option Addr) (dv:Nat) (cQ:Option Addr) (dw:Nat) (gp:Nat) (ip:Nat) (fP:Option Addr) (gA:Nat) (fQ:Option Addr) (gB:Nat),σ_ 7=.pointer (some ⟨ae,0,none⟩)/\σ_ 9=jV (↑x16.Shots.length:Int)/\σ_ 10=jV x54/\σ_ 11=jV x57/\σ_ 12=.pointer (some ⟨ah,0,none⟩)/\σ_ 14=jV (↑aa:Int)/\σ_ 15=.pointer (some ⟨aj,0,none⟩)/\σ_ 69=jV (w64 ((min ab aX) + 1))/\σ_ 70=jV (↑aa:Int)/\σ_ 79=.pointer (some ⟨aj,0,none⟩)/\σ_ 81=.pointer (some ⟨ae,0,none⟩)/\σ_ 82=.slice bb x16.Shots.length bf/\σ_ 83=jV x54/\σ_ 84=.pointer (some ⟨gp,ip,none⟩)/\σ_ 85=jV ab/\σ_ 86=jV (↑aa:Int)/\σ_ 87=jV (w64 (ab - (↑aa:Int)))/\σ_ 88=.slice fP ([w64 (ab - (↑aa:Int))].length) gA/\σ_ 89=.slice cP aU.length dv/\σ_ 90=.pointer (some ⟨aj,1,none⟩)/\σ_ 92=.slice fQ ([0].length) gB/\σ_ 93=.slice cQ br.length dw/\σ_ 94=.pointer (some ⟨aj,0,none⟩)/\σ_ 95=.pointer (some ⟨aj,1,none⟩)/\PHeap.Le az U_/\sW w U U_ [.row cP dv 3 1 (hH KL.encI aU),.row cQ dw 3 1 (hH KL.encI br),B8,.blk aj 26 [.slice cP aU.length dv,.slice cQ br.length dw,.slice bA aq.Across.length bE],.blk ah 33 B7,.blk ae 26 B5,B0,.row fP gA 3 1 (hH KL.encI [w64 (ab - (↑aa:Int))]),.row fQ gB 3 1 (hH KL.encI [0])] w_/\Cl U_ gp ip [jV ab]) ?_ fun xZ=>?_
 rintro Bg yN ⟨m4,cP,dv,cQ,dw,gp,ip,fP,gA,fQ,gB,pY,pZ,p6,p7,p8,p9,qa,qb,qc,z9,Aa,Ab,Ac,Ad,Ae,Af,Ag,Ah,Ai,Aj,Ak,Al,Am,An,yf,vP,Ap⟩
 refine zo ?_
 cases xO
 exact zH ⟨rfl,⟨m4,cP,dv,cQ,dw,pY,pZ,p6,p7,p8,p9,qa,qb,qc,yf,(vP.pick [0,1,2,3,4,5,6] _ (by decide) rfl)⟩⟩
 refine OKS.cutD (s:=gBe) (M:=fun σ_ w_=>∃ (U_:PHeap) (bZ:Option Addr) (cn:Nat) (eK:Nat) (fA:Nat) (cR:Option Addr) (dx:Nat) (cS:Option Addr) (dy:Nat) (b5:Option Addr) (cp:Nat),σ_ 7=.pointer (some ⟨ae,0,none⟩)/\σ_ 9=jV (↑x16.Shots.length:Int)/\σ_ 10=jV x54/\σ_ 11=jV x57/\σ_ 12=.pointer (some ⟨ah,0,none⟩)/\σ_ 14=jV (↑aa:Int)/\σ_ 15=.pointer (some ⟨aj,0,none⟩)/\σ_ 69=jV (w64 ((min ab aX) + 1))/\σ_ 70=jV (↑aa:Int)/\σ_ 79=.pointer (some ⟨aj,0,none⟩)/\σ_ 81=.pointer (some ⟨ae,0,none⟩)/\σ_ 82=.slice bb x16.Shots.length bf/\σ_ 83=jV x54/\σ_ 84=.pointer (some ⟨eK,fA,none⟩)/\σ_ 85=jV ab/\σ_ 86=jV (↑aa:Int)/\σ_ 87=jV (w64 (ab - (↑aa:Int)))/\σ_ 88=.slice cR ([w64 (ab - (↑aa:Int))].length) dx/\σ_ 89=.slice bZ aU.length cn/\σ_ 90=.pointer (some ⟨aj,1,none⟩)/\σ_ 92=.slice cS ([0].length) dy/\σ_ 93=.slice b5 br.length cp/\σ_ 94=.pointer (some ⟨aj,0,none⟩)/\PHeap.Le az U_/\sW w U U_ [.row bZ cn 3 1 (hH KL.encI aU),B8,.blk aj 26 [.slice bZ aU.length cn,.slice bk aq.Down.length bm,.slice bA aq.Across.length bE],.blk ah 33 B7,.blk ae 26 B5,B0,.row cR dx 3 1 (hH KL.encI [w64 (ab - (↑aa:Int))]),.row cS dy 3 1 (hH KL.encI [0]),.row b5 cp 3 1 (hH KL.encI br)] w_/\Cl U_ eK fA [jV ab]) ?_ fun x7=>?_
 rintro Bh yO ⟨iW,bZ,cn,eK,fA,cR,dx,cS,dy,b5,cp,qd,qe,qf,qg,qh,qi,jJ,qj,qk,ql,qm,qn,qo,qp,qq,qr,qt,qu,qv,qw,qx,jK,qy,yg,vQ,uC⟩
 refine oR Z (zF Z jJ zB Z zO) (ZA (j:=2) (vs:=[.slice b5 br.length cp]) Z Z Z Z vQ Z Z jK Z zO (zD Z) Z Z Z ?_)
 intro oG vS
 have vT:sW w U iW [.row bZ cn 3 1 (hH KL.encI aU),B8,.blk aj 26 [.slice bZ aU.length cn,.slice b5 br.length cp,.slice bA aq.Across.length bE],.blk ah 33 B7,.blk ae 26 B5,B0,.row cR dx 3 1 (hH KL.encI [w64 (ab - (↑aa:Int))]),.row cS dy 3 1 (hH KL.encI [0]),.row b5 cp 3 1 (hH KL.encI br)] oG:=vS
 exact xZ _ _ ⟨iW,bZ,cn,b5,cp,eK,fA,cR,dx,cS,dy,qd,qe,qf,qg,qh,qi,jJ,qj,qk,ql,qm,qn,qo,qp,qq,qr,qt,qu,qv,qw,qx,jK,qy,rfl,yg,(vT.pick [0,8,1,2,3,4,5,6,7] _ (by decide) rfl),uC⟩
 refine OKS.cutD (s:=gBh) (M:=fun σ_ w_=>∃ (U_:PHeap) (eL:Nat) (fB:Nat) (cU:Option Addr) (dz:Nat) (b9:Option Addr) (cq:Nat) (cV:Option Addr) (dA:Nat) (cW:Option Addr) (dB:Nat),σ_ 7=.pointer (some ⟨ae,0,none⟩)/\σ_ 9=jV (↑x16.Shots.length:Int)/\σ_ 10=jV x54/\σ_ 11=jV x57/\σ_ 12=.pointer (some ⟨ah,0,none⟩)/\σ_ 14=jV (↑aa:Int)/\σ_ 15=.pointer (some ⟨aj,0,none⟩)/\σ_ 69=jV (w64 ((min ab aX) + 1))/\σ_ 70=jV (↑aa:Int)/\σ_ 79=.pointer (some ⟨aj,0,none⟩)/\σ_ 81=.pointer (some ⟨ae,0,none⟩)/\σ_ 82=.slice bb x16.Shots.length bf/\σ_ 83=jV x54/\σ_ 84=.pointer (some ⟨eL,fB,none⟩)/\σ_ 85=jV ab/\σ_ 86=jV (↑aa:Int)/\σ_ 87=jV (w64 (ab - (↑aa:Int)))/\σ_ 88=.slice cU ([w64 (ab - (↑aa:Int))].length) dz/\σ_ 89=.slice b9 aU.length cq/\σ_ 90=.pointer (some ⟨aj,1,none⟩)/\σ_ 92=.slice cV ([0].length) dA/\σ_ 93=.slice cW br.length dB/\σ_ 94=.pointer (some ⟨aj,0,none⟩)/\PHeap.Le az U_/\sW w U U_ [B8,aV,.blk ah 33 B7,.blk ae 26 B5,B0,.row cU dz 3 1 (hH KL.encI [w64 (ab - (↑aa:Int))]),.row b9 cq 3 1 (hH KL.encI aU),.row cV dA 3 1 (hH KL.encI [0]),.row cW dB 3 1 (hH KL.encI br)] w_/\Cl U_ eL fB [jV ab]) ?_ fun mD=>?_
 rintro Bi yQ ⟨iX,eL,fB,cU,dz,b9,cq,cV,dA,cW,dB,qz,qA,qB,qC,qD,qE,qF,qG,qH,qI,qJ,qK,qL,qM,qN,qO,qP,qQ,jL,qR,qS,qT,jM,yh,vV,uD⟩
 refine ZA (j:=1) (vs:=[.slice b9 aU.length cq]) Z Z Z Z vV Z jM jL Z zO (zD Z) Z Z Z ?_
 intro oH vX
 have vY:sW w U iX [B8,.blk aj 26 [.slice b9 aU.length cq,.slice bk aq.Down.length bm,.slice bA aq.Across.length bE],.blk ah 33 B7,.blk ae 26 B5,B0,.row cU dz 3 1 (hH KL.encI [w64 (ab - (↑aa:Int))]),.row b9 cq 3 1 (hH KL.encI aU),.row cV dA 3 1 (hH KL.encI [0]),.row cW dB 3 1 (hH KL.encI br)] oH:=vX
 exact x7 _ _ ⟨iX,b9,cq,eL,fB,cU,dz,cV,dA,cW,dB,qz,qA,qB,qC,qD,qE,qF,qG,qH,qI,qJ,qK,qL,qM,qN,qO,qP,qQ,jL,qR,qS,qT,jM,yh,(vY.pick [6,0,1,2,3,4,5,7,8] _ (by decide) rfl),uD⟩
 refine OKS.cutD (s:=gBj) (M:=fun σ_ w_=>∃ (U_:PHeap) (eM:Nat) (fC:Nat) (cX:Option Addr) (dC:Nat) (cY:Option Addr) (dD:Nat) (cZ:Option Addr) (dE:Nat),σ_ 7=.pointer (some ⟨ae,0,none⟩)/\σ_ 9=jV (↑x16.Shots.length:Int)/\σ_ 10=jV x54/\σ_ 11=jV x57/\σ_ 12=.pointer (some ⟨ah,0,none⟩)/\σ_ 14=jV (↑aa:Int)/\σ_ 15=.pointer (some ⟨aj,0,none⟩)/\σ_ 69=jV (w64 ((min ab aX) + 1))/\σ_ 70=jV (↑aa:Int)/\σ_ 79=.pointer (some ⟨aj,0,none⟩)/\σ_ 81=.pointer (some ⟨ae,0,none⟩)/\σ_ 82=.slice bb x16.Shots.length bf/\σ_ 83=jV x54/\σ_ 84=.pointer (some ⟨eM,fC,none⟩)/\σ_ 85=jV ab/\σ_ 86=jV (↑aa:Int)/\σ_ 87=jV (w64 (ab - (↑aa:Int)))/\σ_ 88=.slice cX ([w64 (ab - (↑aa:Int))].length) dC/\σ_ 89=.slice cY aU.length dD/\σ_ 90=.pointer (some ⟨aj,1,none⟩)/\σ_ 91=.slice bk aq.Down.length bm/\σ_ 92=.slice cZ ([0].length) dE/\σ_ 94=.pointer (some ⟨aj,0,none⟩)/\PHeap.Le az U_/\sW w U U_ [B9,B8,aV,.blk ah 33 B7,.blk ae 26 B5,B0,.row cX dC 3 1 (hH KL.encI [w64 (ab - (↑aa:Int))]),.row cY dD 3 1 (hH KL.encI aU),.row cZ dE 3 1 (hH KL.encI [0])] w_/\Cl U_ eM fC [jV ab]) ?_ fun x8=>?_
 rintro Bj yR ⟨iY,eM,fC,cX,dC,cY,dD,cZ,dE,qU,qV,qW,qX,qY,qZ,rc,re,ri,rj,rk,rn,ro,rp,rq,rt,ru,rx,ry,rA,rB,jN,rC,yi,ma,uF⟩
 refine ZX (j:=0) (enc:=KL.encI) (xs:=aq.Down) (ys:=[0]) (zs:=br) rfl rfl rfl rfl rfl ZT wEz rfl rfl rfl rfl rfl rfl ma rfl rB jN (ma.srcR (j:=8) rfl (by decide) (wAF (f:=KL.encI) (sz:=1) (fun _=>rfl) [0])) (fun _=>rfl) (fun _=>rfl) lQ rfl ?_
 intro iy jm oI vZ
 have v4:sW w U iY [.row iy jm 3 1 (hH KL.encI br),B8,aV,.blk ah 33 B7,.blk ae 26 B5,B0,.row cX dC 3 1 (hH KL.encI [w64 (ab - (↑aa:Int))]),.row cY dD 3 1 (hH KL.encI aU),.row cZ dE 3 1 (hH KL.encI [0])] oI:=vZ
 exact mD _ _ ⟨iY,eM,fC,cX,dC,cY,dD,cZ,dE,iy,jm,qU,qV,qW,qX,qY,qZ,rc,re,ri,rj,rk,rn,ro,rp,rq,rt,ru,rx,ry,rA,jN,rfl,rC,yi,(v4.pick [1,2,3,4,5,6,7,8,0] _ (by decide) rfl),uF⟩
 refine OKS.cutD (s:=.fl 15 gBj) (M:=fun σ_ w_=>∃ (U_:PHeap) (eO:Nat) (fD:Nat) (da:Option Addr) (dF:Nat) (db:Option Addr) (dG:Nat) (de:Option Addr) (dH:Nat),σ_ 7=.pointer (some ⟨ae,0,none⟩)/\σ_ 9=jV (↑x16.Shots.length:Int)/\σ_ 10=jV x54/\σ_ 11=jV x57/\σ_ 12=.pointer (some ⟨ah,0,none⟩)/\σ_ 14=jV (↑aa:Int)/\σ_ 15=.pointer (some ⟨aj,0,none⟩)/\σ_ 69=jV (w64 ((min ab aX) + 1))/\σ_ 70=jV (↑aa:Int)/\σ_ 79=.pointer (some ⟨aj,0,none⟩)/\σ_ 81=.pointer (some ⟨ae,0,none⟩)/\σ_ 82=.slice bb x16.Shots.length bf/\σ_ 83=jV x54/\σ_ 84=.pointer (some ⟨eO,fD,none⟩)/\σ_ 85=jV ab/\σ_ 86=jV (↑aa:Int)/\σ_ 87=jV (w64 (ab - (↑aa:Int)))/\σ_ 88=.slice da ([w64 (ab - (↑aa:Int))].length) dF/\σ_ 89=.slice db aU.length dG/\σ_ 90=.pointer (some ⟨aj,1,none⟩)/\σ_ 91=.slice bk aq.Down.length bm/\σ_ 92=.slice de ([0].length) dH/\PHeap.Le az U_/\sW w U U_ [B9,B8,aV,.blk ah 33 B7,.blk ae 26 B5,B0,.row da dF 3 1 (hH KL.encI [w64 (ab - (↑aa:Int))]),.row db dG 3 1 (hH KL.encI aU),.row de dH 3 1 (hH KL.encI [0])] w_/\Cl U_ eO fD [jV ab]) ?_ fun mE=>?_
 rintro Bk yS ⟨iZ,eO,fD,da,dF,db,dG,de,dH,rD,rE,rF,rG,rH,rI,jO,rJ,rK,rL,rM,rN,rO,rP,rQ,rS,rT,rV,rW,rX,rY,jP,yj,mb,uH⟩
 refine zK rfl rfl rfl rfl (fun _=>zF rfl jO zB rfl zO) (ZX (j:=0) (enc:=KL.encI) (xs:=aq.Down) (ys:=[0]) (zs:=br) rfl rfl rfl rfl rfl ZT wEz rfl rfl rfl rfl rfl rfl mb rfl rY jP (mb.srcR (j:=8) rfl (by decide) (wAF (f:=KL.encI) (sz:=1) (fun _=>rfl) [0])) (fun _=>rfl) (fun _=>rfl) lQ rfl ?_)
 intro iz jo oK v5
 have v7:sW w U iZ [.row iz jo 3 1 (hH KL.encI br),B8,aV,.blk ah 33 B7,.blk ae 26 B5,B0,.row da dF 3 1 (hH KL.encI [w64 (ab - (↑aa:Int))]),.row db dG 3 1 (hH KL.encI aU),.row de dH 3 1 (hH KL.encI [0])] oK:=v5
 exact mD _ _ ⟨iZ,eO,fD,da,dF,db,dG,de,dH,iz,jo,rD,rE,rF,rG,rH,rI,jO,rJ,rK,rL,rM,rN,rO,rP,rQ,rS,rT,rV,rW,rX,jP,rfl,rfl,yj,(v7.pick [1,2,3,4,5,6,7,8,0] _ (by decide) rfl),uH⟩
 refine OKS.cutD (s:=gBn) (M:=fun σ_ w_=>∃ (U_:PHeap) (eP:Nat) (fE:Nat) (df:Option Addr) (dI:Nat) (dg:Option Addr) (dJ:Nat),σ_ 7=.pointer (some ⟨ae,0,none⟩)/\σ_ 9=jV (↑x16.Shots.length:Int)/\σ_ 10=jV x54/\σ_ 11=jV x57/\σ_ 12=.pointer (some ⟨ah,0,none⟩)/\σ_ 14=jV (↑aa:Int)/\σ_ 15=.pointer (some ⟨aj,0,none⟩)/\σ_ 69=jV (w64 ((min ab aX) + 1))/\σ_ 70=jV (↑aa:Int)/\σ_ 79=.pointer (some ⟨aj,0,none⟩)/\σ_ 80=.slice bz ((nA aq.Shots x54.toNat 0).length) bD/\σ_ 81=.pointer (some ⟨ae,0,none⟩)/\σ_ 82=.slice bb x16.Shots.length bf/\σ_ 83=jV x54/\σ_ 84=.pointer (some ⟨eP,fE,none⟩)/\σ_ 85=jV ab/\σ_ 86=jV (↑aa:Int)/\σ_ 87=jV (w64 (ab - (↑aa:Int)))/\σ_ 88=.slice df ([w64 (ab - (↑aa:Int))].length) dI/\σ_ 90=.pointer (some ⟨aj,1,none⟩)/\σ_ 91=.slice bk aq.Down.length bm/\σ_ 92=.slice dg ([0].length) dJ/\PHeap.Le az U_/\sW w U U_ [bo,B9,B8,aV,.blk ah 33 B7,.blk ae 26 B5,B0,.row df dI 3 1 (hH KL.encI [w64 (ab - (↑aa:Int))]),.row dg dJ 3 1 (hH KL.encI [0])] w_/\Cl U_ eP fE [jV ab]) ?_ fun ij=>?_
 rintro Bl yT ⟨i0,eP,fE,df,dI,dg,dJ,rZ,r6,r8,r9,sb,sc,sd,se,sf,sg,sj,sk,sn,sq,ss,su,sv,sw,jQ,sA,sB,sC,yl,mc,uI⟩
 refine ZX (j:=0) (enc:=KL.encI) (xs:=(nA aq.Shots x54.toNat 0)) (ys:=[w64 (ab - (↑aa:Int))]) (zs:=aU) rfl rfl rfl rfl rfl ZT wEz rfl rfl rfl rfl rfl rfl mc rfl sj jQ (mc.srcR (j:=7) rfl (by decide) (wAF (f:=KL.encI) (sz:=1) (fun _=>rfl) [w64 (ab - (↑aa:Int))])) (fun _=>rfl) (fun _=>rfl) fj rfl ?_
 intro iA jp oO wb
 have wc:sW w U i0 [.row iA jp 3 1 (hH KL.encI aU),B9,B8,aV,.blk ah 33 B7,.blk ae 26 B5,B0,.row df dI 3 1 (hH KL.encI [w64 (ab - (↑aa:Int))]),.row dg dJ 3 1 (hH KL.encI [0])] oO:=wb
 exact mE _ _ ⟨i0,eP,fE,df,dI,iA,jp,dg,dJ,rZ,r6,r8,r9,sb,sc,sd,se,sf,sg,sk,sn,sq,ss,su,sv,sw,jQ,rfl,sA,sB,sC,yl,(wc.pick [1,2,3,4,5,6,7,0,8] _ (by decide) rfl),uI⟩
 refine OKS.cutD (s:=gBm) (M:=fun σ_ w_=>∃ (U_:PHeap) (eQ:Nat) (fG:Nat) (ey:Option Addr) (eW:Nat) (ez:Option Addr) (eX:Nat) (eA:Option Addr) (eY:Nat),σ_ 7=.pointer (some ⟨ae,0,none⟩)/\σ_ 9=jV (↑x16.Shots.length:Int)/\σ_ 10=jV x54/\σ_ 11=jV x57/\σ_ 12=.pointer (some ⟨ah,0,none⟩)/\σ_ 14=jV (↑aa:Int)/\σ_ 15=.pointer (some ⟨aj,0,none⟩)/\σ_ 69=jV (w64 ((min ab aX) + 1))/\σ_ 70=jV (↑aa:Int)/\σ_ 79=.pointer (some ⟨aj,0,none⟩)/\σ_ 81=.pointer (some ⟨ae,0,none⟩)/\σ_ 82=.slice bb x16.Shots.length bf/\σ_ 83=jV x54/\σ_ 84=.pointer (some ⟨eQ,fG,none⟩)/\σ_ 85=jV ab/\σ_ 86=jV (↑aa:Int)/\σ_ 87=jV (w64 (ab - (↑aa:Int)))/\σ_ 88=.slice ey ([w64 (ab - (↑aa:Int))].length) eW/\σ_ 89=.slice ez aU.length eX/\σ_ 90=.pointer (some ⟨aj,1,none⟩)/\σ_ 92=.slice eA ([0].length) eY/\PHeap.Le az U_/\sW w U U_ [B9,B8,aV,.blk ah 33 B7,.blk ae 26 B5,B0,.row ey eW 3 1 (hH KL.encI [w64 (ab - (↑aa:Int))]),.row ez eX 3 1 (hH KL.encI aU),.row eA eY 3 1 (hH KL.encI [0])] w_/\Cl U_ eQ fG [jV ab]) ?_ fun mF=>?_
 rintro Bm yU ⟨m6,eQ,fG,ey,eW,ez,eX,eA,eY,sD,sE,sF,sG,sH,sI,sJ,sK,sL,sM,sN,sO,sP,sQ,sS,sT,sU,sV,sX,jR,sY,ym,md,uK⟩
 exact OKS.mx2 Z Z Z Z (md.ldB (j:=2) Z Z jR zV (v:=.slice bk aq.Down.length bm) Z) (mE _ _ ⟨m6,eQ,fG,ey,eW,ez,eX,eA,eY,sD,sE,sF,sG,sH,sI,sJ,sK,sL,sM,sN,sO,sP,sQ,sS,sT,sU,sV,sX,jR,Z,sY,ym,md,uK⟩)
 refine OKS.cutD (s:=gBl) (M:=fun σ_ w_=>∃ (U_:PHeap) (eR:Nat) (fH:Nat) (dh:Option Addr) (dK:Nat) (dk:Option Addr) (dL:Nat),σ_ 7=.pointer (some ⟨ae,0,none⟩)/\σ_ 9=jV (↑x16.Shots.length:Int)/\σ_ 10=jV x54/\σ_ 11=jV x57/\σ_ 12=.pointer (some ⟨ah,0,none⟩)/\σ_ 14=jV (↑aa:Int)/\σ_ 15=.pointer (some ⟨aj,0,none⟩)/\σ_ 69=jV (w64 ((min ab aX) + 1))/\σ_ 70=jV (↑aa:Int)/\σ_ 79=.pointer (some ⟨aj,0,none⟩)/\σ_ 81=.pointer (some ⟨ae,0,none⟩)/\σ_ 82=.slice bb x16.Shots.length bf/\σ_ 83=jV x54/\σ_ 84=.pointer (some ⟨eR,fH,none⟩)/\σ_ 85=jV ab/\σ_ 86=jV (↑aa:Int)/\σ_ 87=jV (w64 (ab - (↑aa:Int)))/\σ_ 88=.slice dh ([w64 (ab - (↑aa:Int))].length) dK/\σ_ 89=.slice dk aU.length dL/\σ_ 90=.pointer (some ⟨aj,1,none⟩)/\σ_ 91=.slice bk aq.Down.length bm/\PHeap.Le az U_/\sW w U U_ [B9,B8,aV,.blk ah 33 B7,.blk ae 26 B5,B0,.row dh dK 3 1 (hH KL.encI [w64 (ab - (↑aa:Int))]),.row dk dL 3 1 (hH KL.encI aU)] w_/\Cl U_ eR fH [jV ab]) ?_ fun mG=>?_
 rintro Bn yV ⟨i4,eR,fH,dh,dK,dk,dL,sZ,s5,s7,s8,s9,tc,jS,td,te,tf,tg,th,tj,tm,tn,tp,tq,tr,tu,tv,tz,yn,wg,uM⟩
 refine oR Z (zF Z jS zB Z zO) (zu (pv:=[(0,jV 0)]) (zs:=[jV 0]) (cs:=[jV 0]) Z Z Z Z Z (wAJ Z wAc) zA zC ZC Z Z Z Z Z wg ?_)
 intro oP i8 wh
 have wi:sW w U i4 [.row (some ⟨i8,0,none⟩) 1 3 1 (hH KL.encI [0]),B9,B8,aV,.blk ah 33 B7,.blk ae 26 B5,B0,.row dh dK 3 1 (hH KL.encI [w64 (ab - (↑aa:Int))]),.row dk dL 3 1 (hH KL.encI aU)] oP:=wh
 exact x8 _ _ ⟨i4,eR,fH,dh,dK,dk,dL,(some ⟨i8,0,none⟩),1,sZ,s5,s7,s8,s9,tc,jS,td,te,tf,tg,th,tj,tm,tn,tp,tq,tr,tu,tv,tz,rfl,rfl,yn,(wi.pick [1,2,3,4,5,6,7,8,0] _ (by decide) rfl),uM⟩
 refine OKS.cutD (s:=gBo) (M:=fun σ_ w_=>∃ (U_:PHeap) (eS:Nat) (fJ:Nat) (dm:Option Addr) (dM:Nat),σ_ 7=.pointer (some ⟨ae,0,none⟩)/\σ_ 9=jV (↑x16.Shots.length:Int)/\σ_ 10=jV x54/\σ_ 11=jV x57/\σ_ 12=.pointer (some ⟨ah,0,none⟩)/\σ_ 14=jV (↑aa:Int)/\σ_ 15=.pointer (some ⟨aj,0,none⟩)/\σ_ 69=jV (w64 ((min ab aX) + 1))/\σ_ 70=jV (↑aa:Int)/\σ_ 79=.pointer (some ⟨aj,0,none⟩)/\σ_ 80=.slice bz ((nA aq.Shots x54.toNat 0).length) bD/\σ_ 81=.pointer (some ⟨ae,0,none⟩)/\σ_ 82=.slice bb x16.Shots.length bf/\σ_ 83=jV x54/\σ_ 84=.pointer (some ⟨eS,fJ,none⟩)/\σ_ 85=jV ab/\σ_ 86=jV (↑aa:Int)/\σ_ 87=jV (w64 (ab - (↑aa:Int)))/\σ_ 90=.pointer (some ⟨aj,1,none⟩)/\σ_ 91=.slice bk aq.Down.length bm/\σ_ 92=.slice dm ([0].length) dM/\PHeap.Le az U_/\sW w U U_ [bo,B9,B8,aV,.blk ah 33 B7,.blk ae 26 B5,B0,.row dm dM 3 1 (hH KL.encI [0])] w_/\Cl U_ eS fJ [jV ab]) ?_ fun mH=>?_
 rintro Bo yW ⟨i5,eS,fJ,dm,dM,tA,tB,tC,tD,tE,tF,tG,tH,tI,tJ,tK,tL,tM,tO,tP,tQ,tR,jU,tS,tT,tU,yo,wj,uN⟩
 refine zu (pv:=[(0,jV (w64 (ab - (↑aa:Int))))]) (zs:=[jV 0]) (cs:=[jV (w64 (ab - (↑aa:Int)))]) Z Z Z Z Z (wAJ jU wAc) zA zC ZC Z Z Z Z Z wj ?_
 intro oW i9 wk
 have wl:sW w U i5 [.row (some ⟨i9,0,none⟩) 1 3 1 (hH KL.encI [w64 (ab - (↑aa:Int))]),bo,B9,B8,aV,.blk ah 33 B7,.blk ae 26 B5,B0,.row dm dM 3 1 (hH KL.encI [0])] oW:=wk
 exact ij _ _ ⟨i5,eS,fJ,(some ⟨i9,0,none⟩),1,dm,dM,tA,tB,tC,tD,tE,tF,tG,tH,tI,tJ,tK,tL,tM,tO,tP,tQ,tR,jU,rfl,tS,tT,tU,yo,(wl.pick [1,2,3,4,5,6,7,0,8] _ (by decide) rfl),uN⟩
 refine OKS.cutD (s:=gBq) (M:=fun σ_ w_=>∃ (U_:PHeap) (dr:Nat) (ef:Nat) (cy:Option Addr) (cG:Nat) (cz:Option Addr) (cH:Nat),σ_ 7=.pointer (some ⟨ae,0,none⟩)/\σ_ 9=jV (↑x16.Shots.length:Int)/\σ_ 10=jV x54/\σ_ 11=jV x57/\σ_ 12=.pointer (some ⟨ah,0,none⟩)/\σ_ 14=jV (↑aa:Int)/\σ_ 15=.pointer (some ⟨aj,0,none⟩)/\σ_ 69=jV (w64 ((min ab aX) + 1))/\σ_ 70=jV (↑aa:Int)/\σ_ 79=.pointer (some ⟨aj,0,none⟩)/\σ_ 80=.slice bz ((nA aq.Shots x54.toNat 0).length) bD/\σ_ 81=.pointer (some ⟨ae,0,none⟩)/\σ_ 82=.slice bb x16.Shots.length bf/\σ_ 83=jV x54/\σ_ 84=.pointer (some ⟨dr,ef,none⟩)/\σ_ 85=jV ab/\σ_ 86=jV (↑aa:Int)/\σ_ 87=jV (w64 (ab - (↑aa:Int)))/\σ_ 88=.slice cy ([w64 (ab - (↑aa:Int))].length) cG/\σ_ 90=.pointer (some ⟨aj,1,none⟩)/\σ_ 92=.slice cz ([0].length) cH/\PHeap.Le az U_/\sW w U U_ [bo,B9,B8,aV,.blk ah 33 B7,.blk ae 26 B5,B0,.row cy cG 3 1 (hH KL.encI [w64 (ab - (↑aa:Int))]),.row cz cH 3 1 (hH KL.encI [0])] w_/\Cl U_ dr ef [jV ab]) ?_ fun mI=>?_
 rintro Bp yX ⟨gf,dr,ef,cy,cG,cz,cH,jW,jX,jY,jZ,j0,j4,j5,j6,j7,j8,j9,k9,lc,lf,lg,lh,li,lj,gM,gN,lm,mQ,fu,lT⟩
 refine OKS.both ?_ ?_
 refine ZX (j:=0) (enc:=KL.encI) (xs:=(nA aq.Shots x54.toNat 0)) (ys:=[w64 (ab - (↑aa:Int))]) (zs:=aU) rfl rfl rfl rfl rfl ZT wEz rfl rfl rfl rfl rfl rfl fu rfl j9 gM (fu.srcR (j:=7) rfl (by decide) (wAF (f:=KL.encI) (sz:=1) (fun _=>rfl) [w64 (ab - (↑aa:Int))])) (fun _=>rfl) (fun _=>rfl) fj rfl ?_
 intro iB jq oX wp
 have wq:sW w U gf [.row iB jq 3 1 (hH KL.encI aU),B9,B8,aV,.blk ah 33 B7,.blk ae 26 B5,B0,.row cy cG 3 1 (hH KL.encI [w64 (ab - (↑aa:Int))]),.row cz cH 3 1 (hH KL.encI [0])] oX:=wp
 exact mF _ _ ⟨gf,dr,ef,cy,cG,iB,jq,cz,cH,jW,jX,jY,jZ,j0,j4,j5,j6,j7,j8,k9,lc,lf,lg,lh,li,lj,gM,rfl,gN,lm,mQ,(wq.pick [1,2,3,4,5,6,7,0,8] _ (by decide) rfl),lT⟩
 exact OKS.mx2 Z Z Z Z (fu.ldB (j:=3) Z Z gN zV (v:=.slice bk aq.Down.length bm) Z) (ij _ _ ⟨gf,dr,ef,cy,cG,cz,cH,jW,jX,jY,jZ,j0,j4,j5,j6,j7,j8,j9,k9,lc,lf,lg,lh,li,lj,gM,gN,Z,lm,mQ,fu,lT⟩)
 refine OKS.cutD (s:=gBp) (M:=fun σ_ w_=>∃ (U_:PHeap) (dt:Nat) (eg:Nat) (cd:Option Addr) (cr:Nat),σ_ 7=.pointer (some ⟨ae,0,none⟩)/\σ_ 9=jV (↑x16.Shots.length:Int)/\σ_ 10=jV x54/\σ_ 11=jV x57/\σ_ 12=.pointer (some ⟨ah,0,none⟩)/\σ_ 14=jV (↑aa:Int)/\σ_ 15=.pointer (some ⟨aj,0,none⟩)/\σ_ 69=jV (w64 ((min ab aX) + 1))/\σ_ 70=jV (↑aa:Int)/\σ_ 79=.pointer (some ⟨aj,0,none⟩)/\σ_ 80=.slice bz ((nA aq.Shots x54.toNat 0).length) bD/\σ_ 81=.pointer (some ⟨ae,0,none⟩)/\σ_ 82=.slice bb x16.Shots.length bf/\σ_ 83=jV x54/\σ_ 84=.pointer (some ⟨dt,eg,none⟩)/\σ_ 85=jV ab/\σ_ 86=jV (↑aa:Int)/\σ_ 87=jV (w64 (ab - (↑aa:Int)))/\σ_ 88=.slice cd ([w64 (ab - (↑aa:Int))].length) cr/\σ_ 90=.pointer (some ⟨aj,1,none⟩)/\σ_ 91=.slice bk aq.Down.length bm/\PHeap.Le az U_/\sW w U U_ [bo,B9,B8,aV,.blk ah 33 B7,.blk ae 26 B5,B0,.row cd cr 3 1 (hH KL.encI [w64 (ab - (↑aa:Int))])] w_/\Cl U_ dt eg [jV ab]) ?_ fun mJ=>?_
 rintro Bq yZ ⟨eG,dt,eg,cd,cr,ln,lp,lq,ls,lu,lv,lw,lx,ly,lz,lA,lB,lC,lD,lE,lF,lG,lH,gO,lI,lJ,mR,gW,lU⟩
 refine OKS.both ?_ ?_
 refine ZX (j:=0) (enc:=KL.encI) (xs:=(nA aq.Shots x54.toNat 0)) (ys:=[w64 (ab - (↑aa:Int))]) (zs:=aU) rfl rfl rfl rfl rfl ZT wEz rfl rfl rfl rfl rfl rfl gW rfl lA gO (gW.srcR (j:=7) rfl (by decide) (wAF (f:=KL.encI) (sz:=1) (fun _=>rfl) [w64 (ab - (↑aa:Int))])) (fun _=>rfl) (fun _=>rfl) fj rfl ?_
 intro iC jr oY ww
 have wx:sW w U eG [.row iC jr 3 1 (hH KL.encI aU),B9,B8,aV,.blk ah 33 B7,.blk ae 26 B5,B0,.row cd cr 3 1 (hH KL.encI [w64 (ab - (↑aa:Int))])] oY:=ww
 exact mG _ _ ⟨eG,dt,eg,cd,cr,iC,jr,ln,lp,lq,ls,lu,lv,lw,lx,ly,lz,lB,lC,lD,lE,lF,lG,lH,gO,rfl,lI,lJ,mR,(wx.pick [1,2,3,4,5,6,7,0] _ (by decide) rfl),lU⟩
 refine zu (pv:=[(0,jV 0)]) (zs:=[jV 0]) (cs:=[jV 0]) Z Z Z Z Z (wAJ Z wAc) zA zC ZC Z Z Z Z Z gW ?_
 intro o0 ja wy
 have wz:sW w U eG [.row (some ⟨ja,0,none⟩) 1 3 1 (hH KL.encI [0]),bo,B9,B8,aV,.blk ah 33 B7,.blk ae 26 B5,B0,.row cd cr 3 1 (hH KL.encI [w64 (ab - (↑aa:Int))])] o0:=wy
 exact ij _ _ ⟨eG,dt,eg,cd,cr,(some ⟨ja,0,none⟩),1,ln,lp,lq,ls,lu,lv,lw,lx,ly,lz,lA,lB,lC,lD,lE,lF,lG,lH,gO,lI,lJ,rfl,mR,(wz.pick [1,2,3,4,5,6,7,8,0] _ (by decide) rfl),lU⟩
 refine oR Z (zF Z Z zB Z zO) (oL Z (bO.ldB (j:=0) Z Z Z zV (v:=.slice bz ((nA aq.Shots x54.toNat 0).length) bD) Z) (oR Z (zF Z bG zB Z zO) (oL Z (bO.ldB (j:=5) Z Z Z zV (v:=.slice bb x16.Shots.length bf) Z) (oM Z bH ?_))))
 have uO:=lP.le ed
 have q:=uO.el (fun _=>rfl) (wBe cL)
 obtain ⟨bQ,bW,uS,bN⟩:=q
 refine oR Z (ZI Z Z uS Z zA zC (wEL cL) (wEp cL)) (oL Z (bO.ldC (f:=0) bN (v:=jV ab) Z Z zJ Z) (oM Z Z (oR Z (Zh Z Z Z) (oR Z (zF Z Z zB Z zO) (OKS.both ?_ ?_)))))
 refine zu (pv:=[(0,jV (w64 (ab - (↑aa:Int))))]) (zs:=[jV 0]) (cs:=[jV (w64 (ab - (↑aa:Int)))]) Z Z Z Z Z (wAJ Z wAc) zA zC ZC Z Z Z Z Z bO ?_
 intro o6 du wA
 let eD:Res:=.row (some ⟨du,0,none⟩) 1 3 1 (hH KL.encI [w64 (ab - (↑aa:Int))])
 have d9:sW w U az [eD,aV,bo,B9,B8,.blk ah 33 B7,.blk ae 26 B5,B0] o6:=wA
 refine OKS.both ?_ ?_
 refine ZX (j:=2) (enc:=KL.encI) (xs:=(nA aq.Shots x54.toNat 0)) (ys:=[w64 (ab - (↑aa:Int))]) (zs:=aU) rfl rfl rfl rfl rfl ZT wEz rfl rfl rfl rfl rfl rfl d9 rfl rfl rfl (d9.srcR (j:=0) rfl (by decide) (wAF (f:=KL.encI) (sz:=1) (fun _=>rfl) [w64 (ab - (↑aa:Int))])) (fun _=>rfl) (fun _=>rfl) fj rfl ?_
 intro fR gC o7 wB
 let iE:Res:=.row fR gC 3 1 (hH KL.encI aU)
 have gX:sW w U az [eD,aV,iE,B9,B8,.blk ah 33 B7,.blk ae 26 B5,B0] o7:=wB
 refine OKS.both ?_ ?_
 exact OKS.mx2 rfl rfl rfl rfl (gX.ldB (j:=1) rfl rfl rfl zV (v:=.slice bk aq.Down.length bm) rfl) (mG _ _ ⟨az,bQ,bW + x54.toNat * 1,(some ⟨du,0,none⟩),1,fR,gC,bG,bS,bH,bT,bU,rfl,rfl,bM,bI,rfl,rfl,rfl,rfl,rfl,rfl,rfl,rfl,rfl,rfl,rfl,rfl,(zY _),(gX.pick [3,4,1,5,6,7,0,2] _ (by decide) rfl),bN⟩)
 refine zu (pv:=[(0,jV 0)]) (zs:=[jV 0]) (cs:=[jV 0]) Z Z Z Z Z (wAJ Z wAc) zA zC ZC Z Z Z Z Z gX ?_
 intro o8 jb wC
 have wD:sW w U az [.row (some ⟨jb,0,none⟩) 1 3 1 (hH KL.encI [0]),eD,aV,iE,B9,B8,.blk ah 33 B7,.blk ae 26 B5,B0] o8:=wC
 exact mF _ _ ⟨az,bQ,bW + x54.toNat * 1,(some ⟨du,0,none⟩),1,fR,gC,(some ⟨jb,0,none⟩),1,bG,bS,bH,bT,bU,rfl,rfl,bM,bI,rfl,rfl,rfl,rfl,rfl,rfl,rfl,rfl,rfl,rfl,rfl,rfl,(zY _),(wD.pick [4,5,2,6,7,8,1,3,0] _ (by decide) rfl),bN⟩
 refine OKS.both ?_ ?_
 exact OKS.mx2 rfl rfl rfl rfl (d9.ldB (j:=1) rfl rfl rfl zV (v:=.slice bk aq.Down.length bm) rfl) (mJ _ _ ⟨az,bQ,bW + x54.toNat * 1,(some ⟨du,0,none⟩),1,bG,bS,bH,bT,bU,rfl,rfl,bM,bI,rfl,rfl,rfl,rfl,rfl,rfl,rfl,rfl,rfl,rfl,rfl,rfl,(zY _),(d9.pick [2,3,4,1,5,6,7,0] _ (by decide) rfl),bN⟩)
 refine zu (pv:=[(0,jV 0)]) (zs:=[jV 0]) (cs:=[jV 0]) Z Z Z Z Z (wAJ Z wAc) zA zC ZC Z Z Z Z Z d9 ?_
 intro o9 jc wE
 have wG:sW w U az [.row (some ⟨jc,0,none⟩) 1 3 1 (hH KL.encI [0]),eD,aV,bo,B9,B8,.blk ah 33 B7,.blk ae 26 B5,B0] o9:=wE
 exact mI _ _ ⟨az,bQ,bW + x54.toNat * 1,(some ⟨du,0,none⟩),1,(some ⟨jc,0,none⟩),1,bG,bS,bH,bT,bU,rfl,rfl,bM,bI,rfl,rfl,rfl,rfl,rfl,rfl,rfl,rfl,rfl,rfl,rfl,rfl,(zY _),(wG.pick [3,4,5,2,6,7,8,1,0] _ (by decide) rfl),bN⟩
 refine OKS.both ?_ ?_
 refine OKS.mx2 Z Z Z Z (bO.ldB (j:=0) Z Z Z zV (v:=.slice bk aq.Down.length bm) Z) (OKS.both ?_ ?_)
 refine zu (pv:=[(0,jV (w64 (ab - (↑aa:Int))))]) (zs:=[jV 0]) (cs:=[jV (w64 (ab - (↑aa:Int)))]) Z Z Z Z Z (wAJ Z wAc) zA zC ZC Z Z Z Z Z bO ?_
 intro pa jd wH
 have wI:sW w U az [.row (some ⟨jd,0,none⟩) 1 3 1 (hH KL.encI [w64 (ab - (↑aa:Int))]),aV,bo,B9,B8,.blk ah 33 B7,.blk ae 26 B5,B0] pa:=wH
 exact mJ _ _ ⟨az,bQ,bW + x54.toNat * 1,(some ⟨jd,0,none⟩),1,bG,bS,bH,bT,bU,rfl,rfl,bM,bI,rfl,rfl,rfl,rfl,rfl,rfl,rfl,rfl,rfl,rfl,rfl,rfl,(zY _),(wI.pick [2,3,4,1,5,6,7,0] _ (by decide) rfl),bN⟩
 refine zu (pv:=[(0,jV 0)]) (zs:=[jV 0]) (cs:=[jV 0]) Z Z Z Z Z (wAJ Z wAc) zA zC ZC Z Z Z Z Z bO ?_
 intro pb je wJ
 have wK:sW w U az [.row (some ⟨je,0,none⟩) 1 3 1 (hH KL.encI [0]),aV,bo,B9,B8,.blk ah 33 B7,.blk ae 26 B5,B0] pb:=wJ
 exact mH _ _ ⟨az,bQ,bW + x54.toNat * 1,(some ⟨je,0,none⟩),1,bG,bS,bH,bT,bU,rfl,rfl,bM,bI,rfl,rfl,rfl,rfl,rfl,rfl,rfl,rfl,rfl,rfl,rfl,rfl,(zY _),(wK.pick [2,3,4,1,5,6,7,0] _ (by decide) rfl),bN⟩
 refine zu (pv:=[(0,jV 0)]) (zs:=[jV 0]) (cs:=[jV 0]) Z Z Z Z Z (wAJ Z wAc) zA zC ZC Z Z Z Z Z bO ?_
 intro pe gu wL
 let iF:Res:=.row (some ⟨gu,0,none⟩) 1 3 1 (hH KL.encI [0])
 have gZ:sW w U az [iF,aV,bo,B9,B8,.blk ah 33 B7,.blk ae 26 B5,B0] pe:=wL
 refine OKS.both ?_ ?_
 refine zu (pv:=[(0,jV (w64 (ab - (↑aa:Int))))]) (zs:=[jV 0]) (cs:=[jV (w64 (ab - (↑aa:Int)))]) Z Z Z Z Z (wAJ Z wAc) zA zC ZC Z Z Z Z Z gZ ?_
 intro pf jf wM
 have wN:sW w U az [.row (some ⟨jf,0,none⟩) 1 3 1 (hH KL.encI [w64 (ab - (↑aa:Int))]),iF,aV,bo,B9,B8,.blk ah 33 B7,.blk ae 26 B5,B0] pf:=wM
 exact mI _ _ ⟨az,bQ,bW + x54.toNat * 1,(some ⟨jf,0,none⟩),1,(some ⟨gu,0,none⟩),1,bG,bS,bH,bT,bU,rfl,rfl,bM,bI,rfl,rfl,rfl,rfl,rfl,rfl,rfl,rfl,rfl,rfl,rfl,rfl,(zY _),(wN.pick [3,4,5,2,6,7,8,0,1] _ (by decide) rfl),bN⟩
 exact OKS.mx2 rfl rfl rfl rfl (gZ.ldB (j:=1) rfl rfl rfl zV (v:=.slice bk aq.Down.length bm) rfl) (mH _ _ ⟨az,bQ,bW + x54.toNat * 1,(some ⟨gu,0,none⟩),1,bG,bS,bH,bT,bU,rfl,rfl,bM,bI,rfl,rfl,rfl,rfl,rfl,rfl,rfl,rfl,rfl,rfl,rfl,rfl,(zY _),(gZ.pick [2,3,4,1,5,6,7,0] _ (by decide) rfl),bN⟩)
 rintro A6 yF ⟨dp,bl,bn,bh,bi,jt,pz,pB,ju,pC,jv,gD,pD,pE,fy,fq⟩
 refine sR (wMm (.fx 8 .nil .stop)) Z (oR Z (zF Z gD zB Z zO) (oL Z (fq.ldB (j:=3) Z Z Z zV (v:=.slice bh au.length bi) Z) (oM Z ju (bnK ms fun _ bV w8=>?_))))
 obtain ⟨y4,fm⟩:=fq.rowSome (j:=1) rfl (by rw [wAF (f:=KL.encI) (sz:=1) (fun _=>rfl) au];have hz:=wAI bV;omega)
 refine oR Z (ZI Z Z fm Z zA zC (wAr bV) (wAs bV)) ?_
 have wX:=wBf (xs:=au) (wAI bV)
 refine zl rfl rfl rfl rfl (fq.ldR (j:=1) rfl fm rfl rfl zJ (wAl (sz:=1) (fun _=>rfl) _ _ 0 _ wX (by first | omega | rfl | simp) rfl)) rfl (zZ rfl rfl rfl rfl rfl jv (zK rfl rfl rfl rfl (fun _=>Zh rfl rfl rfl) (zK rfl rfl rfl rfl (fun _=>ZI rfl rfl fm rfl zA zC (wAr bV) (wAs bV)) ?_)))
 have wY:=wBf (xs:=au) (wAI bV)
 refine OKS.stR (j:=1) (vs:=[jV (w64 ((gd au x57.toNat) - (↑aa:Int)))]) (cs':=hH KL.encI (nA au x57.toNat (w64 ((gd au x57.toNat) - (↑aa:Int))))) rfl rfl rfl rfl fq rfl fm rfl rfl rfl zC (by rw [wAF (f:=KL.encI) (sz:=1) (fun _=>rfl)];have hz:=wAI bV;show _ + 1 <= _;first | omega | (simp only [nJ];omega) | (simp only [nI,nG,nH];omega)) rfl (wCV (sz:=1) (fo:=0) (fun _=>rfl) _ _ _ _ wY (by first | omega | (simp only [nJ];omega) | (simp only [nI,nG,nH];omega)) (zD rfl) rfl) rfl ?_
 intro i6 uW
 let aY:Res:=.row bh bi 3 1 (hH KL.encI (nA au x57.toNat (w64 ((gd au x57.toNat) - (↑aa:Int)))))
 let be:Res:=.row bl bn 3 1 (hH KL.encI bj)
 have uX:sW w U dp [be,aY,B8,.blk aj 26 [.slice bl bj.length bn,.slice bh au.length bi,.slice bA aq.Across.length bE],.blk ah 33 B7,.blk ae 26 B5,B0] i6:=uW
 have uY:sW w U dp [be,aY,B8,.blk aj 26 [.slice bl bj.length bn,.slice bh ((nA au x57.toNat (w64 ((gd au x57.toNat) - (↑aa:Int)))).length) bi,.slice bA aq.Across.length bE],.blk ah 33 B7,.blk ae 26 B5,B0] i6:=by simpa only [B0,aY,be,B5,B7,B8,List.length_set] using uX
 refine eN (sR (.fl 0 (.fx 1 .nil .stop)) Z (oR Z (zF Z gD zB Z zm) (ZA (j:=3) (vs:=[.slice none 0 0]) Z Z Z Z uY Z Z Z Z zm (zD Z) Z Z Z ?_)))
 intro m7 uZ
 have lW:sW w U dp [be,aY,B8,.blk aj 26 [.slice bl bj.length bn,.slice bh ((nA au x57.toNat (w64 ((gd au x57.toNat) - (↑aa:Int)))).length) bi,.slice none 0 0],.blk ah 33 B7,.blk ae 26 B5,B0] m7:=uZ
 refine eN (zI (sR fL4 Z (oR Z (zF Z jt zB Z zm) (oL Z (lW.ldB (j:=5) Z Z Z ZO (v:=.slice bB x16.Across.length bF) Z) (oR Z (ZH Z Z zp) (oM Z Z (eN (zh (bnK w8 fun A5 wR xb=>?_)))))))))
 have q:=wBp wR
 obtain ⟨ic,wS⟩:=q
 replace ic:=zG ic
 refine CK.forN' (fun eb cw σ_ w_=>∃ (U_:PHeap) (bY:Option Addr) (cg:Nat),σ_ 108=jV (↑eb:Int)/\σ_ 7=.pointer (some ⟨ae,0,none⟩)/\σ_ 9=jV (↑x16.Shots.length:Int)/\σ_ 10=jV x54/\σ_ 11=jV x57/\σ_ 12=.pointer (some ⟨ah,0,none⟩)/\σ_ 14=jV (↑aa:Int)/\σ_ 15=.pointer (some ⟨aj,0,none⟩)/\σ_ 69=jV (w64 ((min ab aX) + 1))/\σ_ 70=jV (↑aa:Int)/\σ_ 106=.slice bB x16.Across.length bF/\σ_ 107=jV (↑x16.Across.length:Int)/\PHeap.Le dp U_/\sW w U U_ [be,aY,.row bY cg 39 2 (hH wAB cw),.blk aj 26 [.slice bl bj.length bn,.slice bh ((nA au x57.toNat (w64 ((gd au x57.toNat) - (↑aa:Int)))).length) bi,.slice bY cw.length cg],.blk ah 33 B7,.blk ae 26 B5,B0] w_) wS ?_ ?_ ?_
 have u0:=lW.nilrow 39 2
 exact ⟨dp,none,0,rfl,jt,pz,pB,ju,pC,jv,gD,pD,pE,rfl,rfl,(zY _),(u0.pick [1,2,0,4,5,6,7] _ (by decide) rfl)⟩
 rintro eb cw AY A8 yG g8 ⟨cB,bY,cg,ff,jw,jx,gE,jy,jz,jA,eZ,jB,jC,gF,gG,ik,lX⟩ xX
 have jg:Hid ((↑eb:Int) < (↑x16.Across.length:Int)):=zG (wBx g8)
 replace g8:=zG g8
 have mf:Hid (w64 ((↑eb:Int) + 1)=(↑(eb + 1):Int)):=zG (by have h1:=ic.out;have h2:=jg.out;rw [wAf] <;> omega)
 refine sR fL1 Z (oR Z (zf Z ff gG) (eN (zI (cT Z jg (kN (zI (zh (sR (.fl 0 (.fl 1 gBd)) Z (bnK xX fun bX lM xd=>?_)))))))))
 have t7:=fg.le ed
 have t8:=t7.le fy
 have t9:=t8.le ik
 have q:=t9.el (fun _=>rfl) (wBe lM)
 obtain ⟨y5,Ax,uP,uT⟩:=q
 refine oR Z (ZY Z gF uP ff zp zr (wEM lM)) (oL Z (lX.ldCA (f:=0) uT Z Z Zg zr (us:=[jV bX.Skier,jV bX.Lane]) Z Z) (Za (cs:=B6) Z Z Z Z Z zy Z lX ?_))
 intro yI eJ u4
 let bP:List Value:=[jV bX.Skier,jV bX.Lane]
 refine ZA (j:=0) (vs:=bP) Z Z Z Z u4 Z Z Z Z zr (zD Z) Z Z Z ?_
 intro m8 u5
 let fT:Res:=.blk aj 26 [.slice bl bj.length bn,.slice bh ((nA au x57.toNat (w64 ((gd au x57.toNat) - (↑aa:Int)))).length) bi,.slice bY cw.length cg]
 let iG:Res:=.row bY cg 39 2 (hH wAB cw)
 have dZ:sW w U cB [.blk eJ 39 bP,be,aY,iG,fT,.blk ah 33 B7,.blk ae 26 B5,B0] m8:=u5
 refine eN (sR fL4 Z (oR Z (zF Z Z ZD Z zC) (oL Z (dZ.ldB (j:=0) Z Z Z zJ (v:=jV bX.Skier) Z) (oM Z gE (oR Z (Ze Z Z Z) (eN (ifc xd ?_ ?_)))))))
 intro gw xe
 refine zk (zq (fun h=>h gw.out)) (ZM (zi (zH (rR fL2 Z (oR Z (zw (zW Z ff Z) (congrArg (jV) mf.out)) (oM Z Z (zo ?_)))))))
 cases xe
 exact zH ⟨rfl,⟨cB,bY,cg,rfl,jw,jx,gE,jy,jz,jA,eZ,jB,jC,gF,gG,ik,(dZ.pick [1,2,3,4,5,6,7] _ (by decide) rfl)⟩⟩
 intro gw xf
 refine cT Z gw (rR (wGJ (.fx 3 (.fx 4 (.fl 5 (.fx 6 .nil .stop)) .stop) .stop)) Z (oR Z (zF Z eZ zB Z zm) (oL Z (dZ.ldB (j:=4) Z Z Z ZO (v:=.slice bY cw.length cg) Z) (oL Z (dZ.ldBA (j:=0) Z Z Z Zg zr (vs:=bP) Z Z) (zu (pv:=[(0,.agg bP.toArray)]) (zs:=B6) (cs:=bP) Z Z Z Z Z (wAJ Z wAc) zp zr zy Z Z Z Z Z dZ ?_)))))
 intro m9 pg u6
 let fU:Res:=.row (some ⟨pg,0,none⟩) 1 39 2 (hH wAB [bX])
 have lY:sW w U cB [fU,.blk eJ 39 bP,be,aY,iG,fT,.blk ah 33 B7,.blk ae 26 B5,B0] m9:=u6
 refine bnK xf fun fL ua xh=>ZX (j:=4) (enc:=wAB) (xs:=cw) (ys:=[bX]) (zs:=fL) rfl rfl rfl rfl rfl Try.underlying24 wHp rfl rfl rfl rfl rfl rfl lY rfl rfl rfl (lY.srcR (j:=0) rfl (by decide) (wAF (f:=wAB) (sz:=2) (fun _=>rfl) [bX])) (fun _=>rfl) (fun _=>rfl) ua rfl ?_
 intro ej eT n6 u7
 let iH:Res:=.row ej eT 39 2 (hH wAB fL)
 have u9:sW w U cB [fU,.blk eJ 39 bP,be,aY,iH,fT,.blk ah 33 B7,.blk ae 26 B5,B0] n6:=u7
 refine oR Z (zF Z eZ zB Z zm) (ZA (j:=5) (vs:=[.slice ej fL.length eT]) Z Z Z Z u9 Z Z Z Z zm (zD Z) Z Z Z ?_)
 intro n9 va
 have vb:sW w U cB [fU,.blk eJ 39 bP,be,aY,iH,.blk aj 26 [.slice bl bj.length bn,.slice bh ((nA au x57.toNat (w64 ((gd au x57.toNat) - (↑aa:Int)))).length) bi,.slice ej fL.length eT],.blk ah 33 B7,.blk ae 26 B5,B0] n9:=va
 refine zo (zi (zH (rR fL2 Z (oR Z (zw (zW Z ff Z) (congrArg (jV) mf.out)) (oM Z Z (zo ?_))))))
 cases xh
 exact zH ⟨rfl,⟨cB,ej,eT,rfl,jw,jx,gE,jy,jz,jA,eZ,jB,jC,gF,gG,ik,(vb.pick [2,3,4,5,6,7,8] _ (by decide) rfl)⟩⟩
 rintro A9 yJ ⟨iO,mV,pm,tX,pF,jD,pG,pH,pI,pJ,pK,pL,pM,y9,pN,il,vc⟩
 have pn:Hid (¬ ((↑(((↑x16.Across.length:Int):Int) - 0).toNat:Int) < (↑x16.Across.length:Int))):=zG (wBQ)
 refine sR fL1 Z (oR Z (zf Z tX pN) (eN (zI (cF Z pn (ZS (zn (zn (ZL (zH (zI (sR fL2 Z (oM Z jD (oM Z Z (eN (zh (bnK xb fun ei wU xi=>?_))))))))))))))))
 have q:=wBp wU
 obtain ⟨ie,wV⟩:=q
 replace ie:=zG ie
 refine CK.forN' (fun bg bw σ_ w_=>∃ (U_:PHeap) (bu:Option Addr) (bv:Nat),σ_ 124=jV (↑bg:Int)/\σ_ 7=.pointer (some ⟨ae,0,none⟩)/\σ_ 9=jV (↑x16.Shots.length:Int)/\σ_ 10=jV x54/\σ_ 11=jV x57/\σ_ 12=.pointer (some ⟨ah,0,none⟩)/\σ_ 14=jV (↑aa:Int)/\σ_ 15=.pointer (some ⟨aj,0,none⟩)/\σ_ 69=jV (w64 ((min ab aX) + 1))/\σ_ 70=jV (↑aa:Int)/\σ_ 123=jV (↑x16.Shots.length:Int)/\PHeap.Le iO U_/\sW w U U_ [be,aY,.row bu bv 39 2 (hH wAB bw),.blk aj 26 [.slice bl bj.length bn,.slice bh ((nA au x57.toNat (w64 ((gd au x57.toNat) - (↑aa:Int)))).length) bi,.slice bu bw.length bv],.blk ah 33 B7,.blk ae 26 B5,B0] w_) wV ?_ ?_ ?_
 exact ⟨iO,mV,pm,Z,pF,jD,pG,pH,pI,pJ,pK,pL,pM,Z,(zY _),vc⟩
 rintro bg bw AZ Ba oa g9 ⟨cC,bu,bv,cK,dN,cI,cJ,dO,e8,e9,bR,fb,fc,dP,ec,d7⟩ mz
 have jh:Hid ((↑bg:Int) < (↑x16.Shots.length:Int)):=zG (wBx g9)
 replace g9:=zG g9
 have fw:Hid (w64 ((↑bg:Int) + 1)=(↑(bg + 1):Int)):=zG (by have h1:=ie.out;have h2:=jh.out;rw [wAf] <;> omega)
 refine sR fL1 Z (oR Z (zf Z cK dP) (eN (zI (cT Z jh (kN (zI (zh (sR fL2 Z (oM Z cK (oA Z Z (eN (sR (wGn gBi) Z (oM Z Z (oM Z dO (oR Z (Ze Z Z Z) (oM Z Z ?_))))))))))))))))
 by_cases aZ:(↑bg:Int)=x57
 have mg:=mz;rw [if_pos aZ] at mg;replace aZ:=zG aZ
 refine zU Z Z Z (zM Z Z (zq (fun h=>h aZ.out)) Z) (zU Z Z Z (zM Z Z (zq (fun h=>h aZ.out)) Z) (zU Z Z Z (zM Z Z (zq (fun h=>h aZ.out)) Z) (zU Z Z Z (zM Z Z (zq (fun h=>h aZ.out)) Z) (zU Z Z Z (wAb Z Z Z) (zU Z Z Z (wAb Z Z Z) (zU Z Z Z (wAb Z Z Z) (zU Z Z Z (wAb Z Z Z) (zU Z Z Z (wAb Z Z Z) (Zb Z Z Z (wAb Z Z Z) (zU Z Z Z (zM Z Z (zq (fun h=>h aZ.out)) Z) (oR Z (zX Z (zq (fun h=>h aZ.out)) Z) (eN (zk Z (ZM (zi (zH (rR fL2 Z (oR Z (zw (zW Z cK Z) (congrArg (jV) fw.out)) (oM Z Z (zo ?_))))))))))))))))))))
 cases mg
 exact zH ⟨Z,⟨cC,bu,bv,Z,dN,cI,cJ,dO,e8,e9,bR,fb,fc,dP,ec,d7⟩⟩
 have mh:=mz;rw [if_neg aZ] at mh;replace aZ:=zG aZ
 refine zZ Z Z Z (wT Z aZ) Z Z (zZ Z Z Z (wT Z aZ) Z cJ (rU Z (wT Z aZ) (Zl Z Z Z) (zZ Z Z Z (wT Z aZ) Z Z (ifc mh ?_ ?_))))
 intro bp xj
 refine oT Z bp (oT Z bp (oT Z bp (oT Z bp (oT Z bp (Zb Z Z Z (zM Z Z (Zf bp.out) Z) (rU Z (wT Z aZ) (zd Z (Zf bp.out) Z) (oR Z (zd Z (Zf aZ.out) Z) (eN (zx Z (rR (wGS gBk) Z (oR Z (zF Z bR zB Z zm) (oL Z (d7.ldB (j:=3) Z Z Z ZO (v:=.slice bu bw.length bv) Z) (oM Z cI (oM Z Z ?_))))))))))))))
 let fV:List Value:=[jV (↑x16.Shots.length:Int),jV (↑bg:Int)]
 refine oR Z (ZQ (pv:=[(0,jV (↑x16.Shots.length:Int)),(1,jV (↑bg:Int))]) (z:=B6) (cs:=fV) Z (wAJ Z (wAJ Z wAc)) zy wCR Z Z) (zu (pv:=[(0,.agg fV.toArray)]) (zs:=B6) (cs:=fV) Z Z Z Z Z (wAJ Z wAc) zp zr zy Z Z Z Z Z d7 ?_)
 intro oc ph vd
 let fW:Res:=.row (some ⟨ph,0,none⟩) 1 39 2 (hH wAB [(⟨(↑x16.Shots.length:Int),(↑bg:Int)⟩:wAA)])
 let iI:Res:=.blk aj 26 [.slice bl bj.length bn,.slice bh ((nA au x57.toNat (w64 ((gd au x57.toNat) - (↑aa:Int)))).length) bi,.slice bu bw.length bv]
 have lZ:sW w U cC [fW,be,aY,.row bu bv 39 2 (hH wAB bw),iI,.blk ah 33 B7,.blk ae 26 B5,B0] oc:=vd
 refine bnK xj fun fM ub xk=>ZX (j:=3) (enc:=wAB) (xs:=bw) (ys:=[(⟨(↑x16.Shots.length:Int),(↑bg:Int)⟩:wAA)]) (zs:=fM) rfl rfl rfl rfl rfl Try.underlying24 wHp rfl rfl rfl rfl rfl rfl lZ rfl rfl rfl (lZ.srcR (j:=0) rfl (by decide) (wAF (f:=wAB) (sz:=2) (fun _=>rfl) [(⟨(↑x16.Shots.length:Int),(↑bg:Int)⟩:wAA)])) (fun _=>rfl) (fun _=>rfl) ub rfl ?_
 intro en eU od ve
 let iJ:Res:=.row en eU 39 2 (hH wAB fM)
 have vg:sW w U cC [fW,be,aY,iJ,iI,.blk ah 33 B7,.blk ae 26 B5,B0] od:=ve
 refine oR Z (zF Z bR zB Z zm) (ZA (j:=4) (vs:=[.slice en fM.length eU]) Z Z Z Z vg Z Z Z Z zm (zD Z) Z Z Z ?_)
 intro oe vh
 have vi:sW w U cC [fW,be,aY,iJ,.blk aj 26 [.slice bl bj.length bn,.slice bh ((nA au x57.toNat (w64 ((gd au x57.toNat) - (↑aa:Int)))).length) bi,.slice en fM.length eU],.blk ah 33 B7,.blk ae 26 B5,B0] oe:=vh
 refine zo (zi (zH (rR fL2 Z (oR Z (zw (zW Z cK Z) (congrArg (jV) fw.out)) (oM Z Z (zo ?_))))))
 cases xk
 exact zH ⟨rfl,⟨cC,en,eU,rfl,dN,cI,cJ,dO,e8,e9,bR,fb,fc,dP,ec,(vi.pick [1,2,3,4,5,6,7] _ (by decide) rfl)⟩⟩
 intro bp xl
 refine rU Z (wF Z bp) (zF Z dN zB Z zm) (zl Z Z Z (wF Z bp) (d7.ldB (j:=5) Z Z Z ZO (v:=.slice bB x16.Across.length bF) Z) Z (zZ Z Z Z (wF Z bp) Z cJ (zZ Z Z Z (wF Z bp) Z Z (rU Z (wF Z bp) (ZQ (pv:=[(0,jV x54),(1,jV (↑bg:Int))]) (z:=B6) (cs:=[jV x54,jV (↑bg:Int)]) Z (wAJ Z (wAJ Z wAc)) zy wCR Z Z) ?_))))
 have uc:=fg.le ed
 have ud:=uc.le fy
 have ue:=ud.le il
 have uf:=ue.le ec
 refine bnK xl fun AS ug xm=>zQ 0 Z Z Z (wF Z bp) (zN Z Z Try.call8 (zE Z (zE Z zS)) Z) d7 (fun hs=>wAQ x16.Across bB bF (⟨x54,(↑bg:Int)⟩:wAA) oa cC hs uf ug) (.inr Z) ?_
 rintro cD yt AD og mK vj ⟨rfl,rfl⟩
 let fY:Res:=.blk aj 26 [.slice bl bj.length bn,.slice bh ((nA au x57.toNat (w64 ((gd au x57.toNat) - (↑aa:Int)))).length) bi,.slice bu bw.length bv]
 let iK:Res:=.row bu bv 39 2 (hH wAB bw)
 have gS:sW w U cD [be,aY,iK,fY,.blk ah 33 B7,.blk ae 26 B5,B0] og:=vj
 refine rU Z (wT Z aZ) (zX Z (zq bp.out) Z) (oR Z (zd Z (Zf aZ.out) Z) (eN (ifc xm ?_ ?_)))
 intro gx xn
 refine zx (congrArg nB gx.out) (rR (wGS gBk) Z (oR Z (zF Z bR zB Z zm) (oL Z (gS.ldB (j:=3) Z Z Z ZO (v:=.slice bu bw.length bv) Z) (oM Z cI (oM Z Z ?_)))))
 let fZ:List Value:=[jV (↑x16.Shots.length:Int),jV (↑bg:Int)]
 refine oR Z (ZQ (pv:=[(0,jV (↑x16.Shots.length:Int)),(1,jV (↑bg:Int))]) (z:=B6) (cs:=fZ) Z (wAJ Z (wAJ Z wAc)) zy wCR Z Z) (zu (pv:=[(0,.agg fZ.toArray)]) (zs:=B6) (cs:=fZ) Z Z Z Z Z (wAJ Z wAc) zp zr zy Z Z Z Z Z gS ?_)
 intro oh pi vk
 let ga:Res:=.row (some ⟨pi,0,none⟩) 1 39 2 (hH wAB [(⟨(↑x16.Shots.length:Int),(↑bg:Int)⟩:wAA)])
 have l3:sW w U cD [ga,be,aY,iK,fY,.blk ah 33 B7,.blk ae 26 B5,B0] oh:=vk
 refine bnK xn fun fN uh xo=>ZX (j:=3) (enc:=wAB) (xs:=bw) (ys:=[(⟨(↑x16.Shots.length:Int),(↑bg:Int)⟩:wAA)]) (zs:=fN) rfl rfl rfl rfl rfl Try.underlying24 wHp rfl rfl rfl rfl rfl rfl l3 rfl rfl rfl (l3.srcR (j:=0) rfl (by decide) (wAF (f:=wAB) (sz:=2) (fun _=>rfl) [(⟨(↑x16.Shots.length:Int),(↑bg:Int)⟩:wAA)])) (fun _=>rfl) (fun _=>rfl) uh rfl ?_
 intro eu eV oi vl
 let iM:Res:=.row eu eV 39 2 (hH wAB fN)
 have vm:sW w U cD [ga,be,aY,iM,fY,.blk ah 33 B7,.blk ae 26 B5,B0] oi:=vl
 refine oR Z (zF Z bR zB Z zm) (ZA (j:=4) (vs:=[.slice eu fN.length eV]) Z Z Z Z vm Z Z Z Z zm (zD Z) Z Z Z ?_)
 intro oj vo
 have vp:sW w U cD [ga,be,aY,iM,.blk aj 26 [.slice bl bj.length bn,.slice bh ((nA au x57.toNat (w64 ((gd au x57.toNat) - (↑aa:Int)))).length) bi,.slice eu fN.length eV],.blk ah 33 B7,.blk ae 26 B5,B0] oj:=vo
 refine zo (zi (zH (rR fL2 Z (oR Z (zw (zW Z cK Z) (congrArg (jV) fw.out)) (oM Z Z (zo ?_))))))
 cases xo
 exact zH ⟨rfl,⟨cD,eu,eV,rfl,dN,cI,cJ,dO,e8,e9,bR,fb,fc,dP,(ec.trans mK),(vp.pick [1,2,3,4,5,6,7] _ (by decide) rfl)⟩⟩
 intro gx xp
 refine zk (congrArg nB (nE.2 gx.out)) (ZM (zi (zH (rR fL2 Z (oR Z (zw (zW Z cK Z) (congrArg (jV) fw.out)) (oM Z Z (zo ?_)))))))
 cases xp
 exact zH ⟨Z,⟨cD,bu,bv,Z,dN,cI,cJ,dO,e8,e9,bR,fb,fc,dP,(ec.trans mK),gS⟩⟩
 rintro Bb ol ⟨eF,fO,gy,tY,fd,gH,dQ,dR,gI,fe,gJ,gK,gL,pO,mL,ft⟩
 have po:Hid (¬ ((↑(((↑x16.Shots.length:Int):Int) - 0).toNat:Int) < (↑x16.Shots.length:Int))):=zG (wBQ)
 refine sR fL1 Z (oR Z (zf Z tY pO) (eN (zI (cF Z po (ZS (zn (zn (ZL (zH (bnK xi fun pj mA xq=>?_))))))))))
 let bC:List Value:=[.slice bl bj.length bn,.slice bh ((nA au x57.toNat (w64 ((gd au x57.toNat) - (↑aa:Int)))).length) bi,.slice fO ei.length gy]
 let eE:Res:=.row fO gy 39 2 (hH wAB ei)
 refine CK.cut (fun σ_ w_=>∃ (U_:PHeap),σ_ 7=.pointer (some ⟨ae,0,none⟩)/\σ_ 9=jV (↑x16.Shots.length:Int)/\σ_ 10=jV x54/\σ_ 11=jV x57/\σ_ 12=.pointer (some ⟨ah,0,none⟩)/\σ_ 14=jV (↑aa:Int)/\σ_ 15=.pointer (some ⟨aj,0,none⟩)/\σ_ 19=.bool pj/\σ_ 69=jV (w64 ((min ab aX) + 1))/\σ_ 70=jV (↑aa:Int)/\PHeap.Le eF U_/\sW w U U_ [be,aY,eE,.blk aj 26 bC,.blk ah 33 B7,.blk ae 26 B5,B0] w_) ?_ ?_
 refine rR (wGn gBi) Z (oM Z fe (oR Z (Zl Z Z Z) (oM Z Z ?_)))
 by_cases bs:(↑aa:Int)=0
 have mi:=mA;rw [if_pos bs] at mi;replace bs:=zG bs
 refine oT Z bs (oT Z bs (oT Z bs (oR Z (zd Z (Zf bs.out) Z) (oM Z Z (oN Z (oN Z (oN Z (oN Z (oN Z (Zb Z Z Z (zM Z Z Z Z) (oR Z (zd Z Z Z) (oA Z Z (zo ?_)))))))))))))
 cases mi
 exact zH ⟨Z,⟨eF,fd,gH,dQ,dR,gI,fe,gJ,Z,gK,gL,(zY _),ft⟩⟩
 have mn:=mA;rw [if_neg bs] at mn;replace bs:=zG bs
 refine zZ Z Z Z (wF Z bs) Z dQ (zZ Z Z Z (wF Z bs) Z dR (rU Z (wF Z bs) (Zl Z Z Z) (oR Z (zX Z (zq bs.out) Z) (oM Z Z (ifc mn ?_ ?_)))))
 intro bq xr
 refine oT Z bq (oT Z bq (oT Z bq (oT Z bq (oT Z bq (Zb Z Z Z (zM Z Z (Zf bq.out) Z) (oR Z (zd Z (Zf bq.out) Z) (oA Z Z (zo ?_))))))))
 cases xr
 exact zH ⟨Z,⟨eF,fd,gH,dQ,dR,gI,fe,gJ,Z,gK,gL,(zY _),ft⟩⟩
 intro bq xt
 refine rU Z (wF Z bq) (zF Z fd zB Z zm) (zl Z Z Z (wF Z bq) (ft.ldB (j:=5) Z Z Z ZO (v:=.slice bB x16.Across.length bF) Z) Z (zZ Z Z Z (wF Z bq) Z dQ (zZ Z Z Z (wF Z bq) Z dR (rU Z (wF Z bq) (ZQ (pv:=[(0,jV x54),(1,jV x57)]) (z:=B6) (cs:=[jV x54,jV x57]) Z (wAJ Z (wAJ Z wAc)) zy wCR Z Z) ?_))))
 have ui:=fg.le ed
 have uj:=ui.le fy
 have uk:=uj.le il
 have ul:=uk.le mL
 refine bnK xt fun AT um xu=>zQ 0 Z Z Z (wF Z bq) (zN Z Z Try.call8 (zE Z (zE Z zS)) Z) ft (fun hs=>wAQ x16.Across bB bF (⟨x54,x57⟩:wAA) ol eF hs ul um) (.inr Z) ?_
 rintro iP yu AE om ya vq ⟨rfl,rfl⟩
 have vr:sW w U iP [be,aY,eE,.blk aj 26 bC,.blk ah 33 B7,.blk ae 26 B5,B0] om:=vq
 refine oR Z (zX Z (zq bq.out) Z) (oA Z Z (zo ?_))
 cases xu
 exact zH ⟨Z,⟨iP,fd,gH,dQ,dR,gI,fe,gJ,Z,gK,gL,ya,vr⟩⟩
 rintro Bc eH ⟨yE,dS,dT,dU,dV,ct,jE,pP,jG,dW,dX,yb,l4⟩
 refine sR (.fl 0 (.fx 1 (wMn (.nil)) .stop)) Z (oL Z (l4.ldBA (j:=3) Z Z pP Zc zj (vs:=bC) Z Z) ?_)
 have q:=l4.freezeR (k:=0) (n:=bj.length) rfl (wAF (f:=KL.encI) (sz:=1) (fun _=>rfl) bj) (by decide)
 obtain ⟨mX,yc,xT,vt⟩:=q
 have vu:sW w U mX [aY,eE,.blk aj 26 bC,.blk ah 33 B7,.blk ae 26 B5,B0] eH:=vt
 have q:=vu.freezeR (k:=0) (n:=(nA au x57.toNat (w64 ((gd au x57.toNat) - (↑aa:Int)))).length) rfl (wAF (f:=KL.encI) (sz:=1) (fun _=>rfl) (nA au x57.toNat (w64 ((gd au x57.toNat) - (↑aa:Int))))) (by decide)
 obtain ⟨mY,mM,xU,vv⟩:=q
 have vw:sW w U mY [eE,.blk aj 26 bC,.blk ah 33 B7,.blk ae 26 B5,B0] eH:=vv
 have q:=vw.freezeR (k:=0) (n:=ei.length) rfl (wAF (f:=wAB) (sz:=2) (fun _=>rfl) ei) (by decide)
 obtain ⟨iQ,im,xV,vx⟩:=q
 have vy:sW w U iQ [.blk aj 26 bC,.blk ah 33 B7,.blk ae 26 B5,B0] eH:=vx
 have uo:=xT.le mM
 have up:=uo.le im
 have uq:=xU.le im
 have q:=bnd xq
 obtain ⟨⟨yq,mU⟩,ur,mo⟩:=q
 try dsimp only at mo
 refine zQ 0 Z Z Z Z (zN Z Z Try.call9 (zE Z zS) Z) vy (fun hs=>wFy (⟨bj,(nA au x57.toNat (w64 ((gd au x57.toNat) - (↑aa:Int)))),ei⟩:wAC) bl bn bh bi fO gy eH iQ hs up uq xV ur) (.inr Z) ?_
 rintro dq yv AG gg yd vz ⟨iv,jj,pp,rfl,rfl,Ao⟩
 let gb:Res:=.row iv jj 23 1 pp
 have d8:sW w U dq [gb,.blk aj 26 bC,.blk ah 33 B7,.blk ae 26 B5,B0] gg:=vz
 refine oM Z Z (oR Z (ZP Z Z (v:=.slice iv yq.length jj) Z) (oR Z (ZP Z Z (v:=jV mU) Z) (oA Z Z (oA Z Z (eN (bnK mo fun pk mC xw=>CK.cut (fun σ_ w_=>∃ (U_:PHeap),σ_ 7=.pointer (some ⟨ae,0,none⟩)/\σ_ 9=jV (↑x16.Shots.length:Int)/\σ_ 10=jV x54/\σ_ 11=jV x57/\σ_ 12=.pointer (some ⟨ah,0,none⟩)/\σ_ 69=jV (w64 ((min ab aX) + 1))/\σ_ 70=jV (↑aa:Int)/\σ_ 188=.bool pk/\PHeap.Le dq U_/\sW w U U_ [.blk aj 26 bC,.blk ah 33 B7,.blk ae 26 B5,B0] w_) ?_ ?_))))))
 refine rR (wPr (.fx 9 (wOm (.nil)) .stop)) Z (oM Z Z (oR Z (Ze Z Z Z) (oM Z Z ?_)))
 by_cases bt:mU=0
 have mp:=mC;rw [if_pos bt] at mp;replace bt:=zG bt
 refine zU Z Z Z (zM Z Z (zq (fun h=>h bt.out)) Z) (zU Z Z Z (zM Z Z (zq (fun h=>h bt.out)) Z) (oR Z (zX Z (zq (fun h=>h bt.out)) Z) (oM Z Z (zl Z Z Z (zP Z Z Z) (d8.ldBA (j:=2) Z Z ct Try.isAgg33 ZU (vs:=B7) Z Z) Z (zZ Z Z Z (zP Z Z Z) Z jE (bnK mp fun AU ut xx=>zQ 0 Z Z Z (zP Z Z Z) (zN Z Z Try.call10 (zE Z (zE Z zS)) Z) d8 (fun hs=>wCp x73 (↑aa:Int) gg dq hs ut) (.inr Z) ?_))))))
 rintro gc yw AI ot mN vA ⟨rfl,rfl⟩
 have l5:sW w U gc [gb,.blk aj 26 bC,.blk ah 33 B7,.blk ae 26 B5,B0] ot:=vA
 refine zZ Z Z Z (zP Z Z Z) Z jG (zZ Z Z Z (zP Z Z Z) Z Z (ifc xx ?_ ?_))
 intro ci xz
 refine zZ Z Z Z (zP Z Z (congrArg nB ci.out)) Z Z (zK Z Z Z (zP Z Z (congrArg nB ci.out)) (fun _=>Zl Z Z Z) (zK Z Z Z (zP Z Z Z) (fun _=>zd Z (congrArg nB ci.out) Z) (zK Z Z Z (zP Z Z Z) (fun _=>Runs.neB Z Z Z Try.runUnderlying4) (oR Z (zX Z Z Z) (zo ?_)))))
 have q:=nD xz
 obtain rfl:=q
 exact zH ⟨rfl,⟨gc,dS,dT,dU,dV,ct,dW,dX,rfl,mN,(l5.pick [1,2,3,4] _ (by decide) rfl)⟩⟩
 intro ci xA
 refine zU Z Z Z (zM Z Z (congrArg nB (nE.2 ci.out)) Z) (zU Z Z Z (zM Z Z (congrArg nB (nE.2 ci.out)) Z) (zK Z Z Z (zP Z Z Z) (fun _=>zX Z (congrArg nB (nE.2 ci.out)) Z) (zK Z Z Z (zP Z Z Z) (fun _=>Runs.neB Z Z Z Try.runUnderlying4) (oR Z (zX Z Z Z) (zo ?_)))))
 cases xA
 exact zH ⟨rfl,⟨gc,dS,dT,dU,dV,ct,dW,dX,rfl,mN,(l5.pick [1,2,3,4] _ (by decide) rfl)⟩⟩
 have mq:=mC;rw [if_neg bt] at mq;replace bt:=zG bt
 refine zZ Z Z Z (wT Z bt) Z Z (rU Z (wT Z bt) (Ze Z Z Z) (oR Z (zd Z (Zf bt.out) Z) (oM Z Z (ifc mq ?_ ?_))))
 intro ba xB
 refine zl Z Z Z (zP Z Z (zq (fun h=>h ba.out))) (d8.ldBA (j:=2) Z Z ct Try.isAgg33 ZU (vs:=B7) Z Z) Z (zZ Z Z Z (zP Z Z (zq (fun h=>h ba.out))) Z jE (bnK xB fun AW uu xC=>zQ 0 Z Z Z (zP Z Z (zq (fun h=>h ba.out))) (zN Z Z Try.call10 (zE Z (zE Z zS)) Z) d8 (fun hs=>wCp x73 (↑aa:Int) gg dq hs uu) (.inr Z) ?_))
 rintro ge yy AJ ou mO vB ⟨rfl,rfl⟩
 have l6:sW w U ge [gb,.blk aj 26 bC,.blk ah 33 B7,.blk ae 26 B5,B0] ou:=vB
 refine zZ Z Z Z (zP Z Z (zq (fun h=>h ba.out))) Z jG (zZ Z Z Z (zP Z Z (zq (fun h=>h ba.out))) Z Z (ifc xC ?_ ?_))
 intro cj xD
 refine zZ Z Z Z (zP Z Z (congrArg nB cj.out)) Z Z (zK Z Z Z (zP Z Z (congrArg nB cj.out)) (fun _=>Zl Z Z Z) (zK Z Z Z (zP Z Z (zq (fun h=>h ba.out))) (fun _=>zd Z (congrArg nB cj.out) Z) (zK Z Z Z (zP Z Z (zq (fun h=>h ba.out))) (fun _=>Runs.neB Z Z Z Try.runUnderlying4) (oR Z (zX Z (zq (fun h=>h ba.out)) Z) (zo ?_)))))
 have q:=nD xD
 obtain rfl:=q
 exact zH ⟨rfl,⟨ge,dS,dT,dU,dV,ct,dW,dX,rfl,mO,(l6.pick [1,2,3,4] _ (by decide) rfl)⟩⟩
 intro cj xE
 refine zU Z Z Z (zM Z Z (congrArg nB (nE.2 cj.out)) Z) (zU Z Z Z (zM Z Z (congrArg nB (nE.2 cj.out)) Z) (zK Z Z Z (zP Z Z (zq (fun h=>h ba.out))) (fun _=>zX Z (congrArg nB (nE.2 cj.out)) Z) (zK Z Z Z (zP Z Z (zq (fun h=>h ba.out))) (fun _=>Runs.neB Z Z Z Try.runUnderlying4) (oR Z (zX Z (zq (fun h=>h ba.out)) Z) (zo ?_)))))
 cases xE
 exact zH ⟨rfl,⟨ge,dS,dT,dU,dV,ct,dW,dX,rfl,mO,(l6.pick [1,2,3,4] _ (by decide) rfl)⟩⟩
 intro ba xF
 refine oT Z ba (oT Z ba (Zb Z Z Z (zM Z Z (Zf ba.out) Z) (oT Z ba (oT Z ba (zU Z Z Z (wAb Z Z Z) (zU Z Z Z (wAb Z Z Z) (oT Z ba (oT Z ba (oR Z (zd Z (Zf ba.out) Z) (zo ?_))))))))))
 cases xF
 exact zH ⟨rfl,⟨dq,dS,dT,dU,dV,ct,dW,dX,rfl,(zY _),(d8.pick [1,2,3,4] _ (by decide) rfl)⟩⟩
 rintro Be yK ⟨iR,pQ,pR,pS,pT,pU,pV,pW,jH,ye,l8⟩
 refine ifc xw ?_ ?_
 intro gz xG
 refine zx (jH.trans (congrArg nB gz.out)) (sR fL1 Z (oA Z Z (eN (zR (zt (zg ?_))))))
 have q:=wCB xG
 obtain ⟨yp,xH,py⟩:=q
 have q:=wEN ii g7 (wP yp py)
 obtain rfl:=q
 refine zg (zt (zg ?_))
 have hE:=nD xH;first | subst r | cases hE
 exact ⟨rfl,_,(zz rfl),iR,_,(l8.pick [] _ (by decide) rfl),rfl,rfl⟩
 intro gz xI
 refine zk (jH.trans (congrArg nB (nE.2 gz.out))) (ZM (zi (zH (rR fL2 Z (oR Z (zw (zW Z pW Z) (congrArg (jV) w5.out)) (oM Z Z (zo ?_)))))))
 have q:=nD xI
 obtain rfl:=q
 exact zH ⟨rfl,_,rfl,⟨iR,rfl,pQ,pR,pS,pT,pU,pV,((((((((((fz.trans ed).trans fy).trans il).trans mL).trans yb).trans yc).trans mM).trans im).trans yd).trans ye),(l8.pick [1,2,3] _ (by decide) rfl)⟩⟩
 rintro ⟨⟩ Bf ow ⟨m0,tZ,z4,z5,z6,z7,z8,pX,As,vC⟩ wQ
 have mr:=wEq ii g7 wQ
 try dsimp only at mr
 have pq:Hid (¬ ((↑((w64 ((min ab aX) + 1):Int) - 0).toNat:Int) < (w64 ((min ab aX) + 1)))):=zG (wBQ)
 refine sR fL1 Z (oR Z (zf Z tZ pX) (eN (zI (cF Z pq (ZS (zn (zn (ZL (zH (sR gBc Z (bnK mr fun AX uw xJ=>zQ 0 Z Z Z Z (zN Z Z Try.call11 zS Z) vC (fun hs=>wDn ow m0 hs uw) (.inr Z) ?_)))))))))))
 rintro iT yz AL ox Au vD ⟨rfl,rfl⟩
 have vE:sW w U iT [.blk ah 33 B7,.blk ae 26 B5,B0] ox:=vD
 refine oA Z Z (eN (zR ?_))
 have hE:=nD xJ;first | subst r | cases hE
 exact ⟨rfl,_,(zz rfl),iT,_,(vE.pick [] _ (by decide) rfl),rfl,rfl⟩
 intro bL xK
 refine oT Z bL (oT Z bL (oT Z bL (oR Z (zd Z (Zf bL.out) Z) (oM Z Z (oN Z (oN Z (oN Z (oR Z (zd Z Z Z) (eN (zx Z (sR fL1 Z (oA Z Z (eN (zR (zg ?_)))))))))))))))
 have hE:=nD xK;first | subst r | cases hE
 exact ⟨rfl,_,(zz rfl),cf,_,(cN.pick [] _ (by decide) rfl),rfl,rfl⟩
end Go.Proofs.Ytkeeechdijfkhaa
