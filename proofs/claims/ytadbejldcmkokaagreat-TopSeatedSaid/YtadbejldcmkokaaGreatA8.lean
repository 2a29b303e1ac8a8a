import Derived.Test.YtadbejldcmkokaaGreatA7
import Derived.Test.YtadbejldcmkokaaGreatA6
set_option linter.all false
open List renaming flatMap->nA,getElem_cons_succ->nG,getElem_cons_zero->nH,getElem_toArray->nI,set->nK,length_set->nL,replicate->nN
open Go.Value renaming bool->nB
open Bool renaming eq_false_iff->nD
open Option.some renaming inj->nE
open Int renaming toNat_natCast->nJ,eq_ofNat_of_zero_le->nM
namespace Go.Proofs.YtadbejldcmkokaaGreat
open Go.KL
def gBr:Sch:=.fx 0 (.fl 1 .nil) .stop
def gBs:Sch:=.fl 0 (.fx 1 .nil .stop)
def gBt:Sch:=.fx 0 (.fx 1 .nil .stop) .stop
def gBu:Sch:=.fx 1 (.fx 2 .nil .stop) .stop
def gBv:Sch:=.fx 1 (.fl 2 .nil) .stop
def gBw:Sch:=.fl 17 (.fx 18 .nil .stop)
def gBx:Sch:=.fx 3 (.fl 4 .nil) .stop
def gBy:Sch:=.fx 4 (.fl 5 .nil) .stop
def gBz:Sch:=.fx 6 (.fl 7 .nil) .stop
def gCa:Sch:=.fx 0 (.fl 1 (.fl 2 .nil)) .stop
def gCb:Sch:=.fl 0 gBv
def gCc:Sch:=.fx 7 (.fl 8 (.fl 9 .nil)) .stop
def gCd:Sch:=.fx 3 (.fl 4 (.fl 5 .nil)) .stop
def gCe:Sch:=.fx 6 (.fl 7 (.fl 8 .nil)) .stop
def gCf:Sch:=.fx 17 (.fl 18 (.fl 19 .nil)) .stop
def gCg:Sch:=.fx 3 gBy .stop
def gCh:Sch:=.fl 0 (.fl 1 (.fx 2 .nil .stop))
def gCi:Sch:=.fx 0 gBv .stop
def gCj:Sch:=.fx 0 gBu .stop
def gCk:Sch:=.fl 0 (.fx 1 (.fl 2 (.fl 3 .nil)) .stop)
def gCl:Sch:=.fl 0 (.fl 1 (.fx 2 (.fx 3 .nil .stop) .stop))
def gCm:Sch:=.fl 0 (.fl 1 (.fx 2 (.fl 3 .nil) .stop))
def gCn:Sch:=.fx 4 (.fx 16 gBw .stop) (.fx 16 (.fx 4 gBw .stop) .stop)
def gCo:Sch:=.fl 0 (.fl 1 (.fx 2 (.fl 3 (.fl 4 .nil)) .stop))
def gCp:Sch:=.fl 0 (.fl 1 (.fx 2 (.fx 3 (.fx 4 .nil .stop) .stop) .stop))
set_option maxHeartbeats 4000000
theorem wKH (p0:wAF) (au:Option Addr) (aW:Nat) (av:Option Addr) (aX:Nat) (az:Option Addr) (aY:Nat) (aV:Option Addr) (aZ:Nat) (w:World) (U:PHeap) (hS:St0 w U []) (jf:Sl U 1 au aW p0.Starts.length (nA KL.encI p0.Starts)) (jg:Sl U 2 av aX p0.Splits.length (nA wAP p0.Splits)) (ji:Sl U 3 az aY p0.Clocks.length (nA wAB p0.Clocks)) (jj:Sl U 4 aV aZ p0.Readings.length (nA wAM p0.Readings)) {r:wAx} (hm:wEF p0=some r):Gv Tryz.prog 83 [.agg #[.slice au p0.Starts.length aW,.slice av p0.Splits.length aX,.slice az p0.Clocks.length aY,.slice aV p0.Readings.length aZ]] w (wBc w [] U (fun U_ L_ v=>∃ (b0:Nat) (A0p00:Option Addr) (c0p00:Nat) (A0p01:Option Addr) (c0p01:Nat) (A0p02:Option Addr) (c0p02:Nat) (A0p03:Option Addr) (c0p03:Nat) (m0p1:Nat) (es0p1:Array MapEntry) (ck0p1:Nat) (A0p2:Option Addr) (c0p2:Nat),v=.pointer (some ⟨b0,0,none⟩)/\L_=[.blk b0 105 [.slice A0p00 r.Race.Starts.length c0p00,.slice A0p01 r.Race.Splits.length c0p01,.slice A0p02 r.Race.Clocks.length c0p02,.slice A0p03 r.Race.Readings.length c0p03,.map (some m0p1),.slice A0p2 r.edges.length c0p2],.obj m0p1 (.map es0p1 ck0p1),.row A0p2 c0p2 151 7 (nA wAe r.edges)]/\Sl U_ 1 A0p00 c0p00 r.Race.Starts.length (nA KL.encI r.Race.Starts)/\Sl U_ 2 A0p01 c0p01 r.Race.Splits.length (nA wAP r.Race.Splits)/\Sl U_ 3 A0p02 c0p02 r.Race.Clocks.length (nA wAB r.Race.Clocks)/\Sl U_ 4 A0p03 c0p03 r.Race.Readings.length (nA wAM r.Race.Readings)/\MpR es0p1 wEK wEV r.number)):=by
 unfold wEF at hm
 refine Go.KX.Gv.ofM Tryz.func83 Z Tryz.ntmps83 Tryz.results83 (zA Z) (sR gBr Z ?_)
 let B0:List Value:=[.slice au p0.Starts.length aW,.slice av p0.Splits.length aX,.slice az p0.Clocks.length aY,.slice aV p0.Readings.length aZ]
 refine zq (cs:=B0) rfl rfl rfl rfl rfl rfl (by rfl) hS ?_
 intro W1 b2 jd
 refine oA Z Z (eN (bnK hm fun dR jA ju=>yP (fun σ_ w_=>∃ (U_:PHeap) (b6:Nat) (b8:Nat) (ab:Nat) (bO:Array MapEntry) (bW:Nat),σ_ 1=.pointer (some ⟨b2,0,none⟩)/\σ_ 3=.pointer (some ⟨b6,0,none⟩)/\PHeap.Le U U_/\sW w U U_ [.blk b2 28 B0,.blk b6 68 [.pointer (some ⟨b8,0,none⟩)],.blk b8 105 [.slice au p0.Starts.length aW,.slice av p0.Splits.length aX,.slice az p0.Clocks.length aY,.slice aV p0.Readings.length aZ,.map (some ab),.slice none 0 0],.obj ab (.map bO bW)] w_/\MpR bO wEK wEV dR) ?_ ?_))
 refine bnK jA fun x22 gH jv=>CK.webp (U0:=U) (L0:=[.blk b2 28 B0]) zz [pX 12 [] (.agg B0.toArray),⟨some 13,[13],[],false,[],true,[],fun σ R=>∃ ai,σ 13=.map (some ai)/\R=[.obj ai (.map #[] 0)]/\MpR #[] wEK wEV ([]:List (wAJ × Int))⟩,⟨some 14,[14],[],false,[],false,[],fun σ R=>σ 14=.agg #[jV x22.skier,jV x22.mat]/\R=[]⟩,⟨none,[13],[2],false,[1],true,[],fun σ R=>∃ ai am ba,σ 13=.map (some ai)/\R=[.obj ai (.map am ba)]/\MpR am wEK wEV (mput ([]:List (wAJ × Int)) x22 0)⟩,⟨some 15,[15],[],true,[3],true,[],fun σ R=>∃ ai am ba,σ 15=.map (some ai)/\R=[.obj ai (.map am ba)]/\MpR am wEK wEV (mput ([]:List (wAJ × Int)) x22 0)⟩,⟨some 16,[16],[0],true,[4],true,[],fun σ R=>∃ ai am ba,σ 16=.agg #[.slice au p0.Starts.length aW,.slice av p0.Splits.length aX,.slice az p0.Clocks.length aY,.slice aV p0.Readings.length aZ,.map (some ai),.slice none 0 0]/\R=[.obj ai (.map am ba)]/\MpR am wEK wEV (mput ([]:List (wAJ × Int)) x22 0)⟩,⟨some 17,[17],[],false,[5],false,[],fun σ R=>∃ bG ai am ba,σ 17=.pointer (some ⟨bG,0,none⟩)/\R=[.blk bG 105 [.slice au p0.Starts.length aW,.slice av p0.Splits.length aX,.slice az p0.Clocks.length aY,.slice aV p0.Readings.length aZ,.map (some ai),.slice none 0 0],.obj ai (.map am ba)]/\MpR am wEK wEV (mput ([]:List (wAJ × Int)) x22 0)⟩,⟨some 3,[3],[],false,[],false,[],fun σ R=>∃ bH,σ 3=.pointer (some ⟨bH,0,none⟩)/\R=[.blk bH 68 [.pointer none]]⟩] [false] [(1,.pointer (some ⟨b2,0,none⟩))] (by kernel_rfl) ⟨rfl,trivial⟩ jd ⟨?_,?_,?_,?_,?_,?_,?_,?_,trivial⟩ ?_
 refine wpX ?_
 rintro _ _ _ _ _ ⟨eY,_⟩ _ _ gP jB
 exact Zl Z Z Z Z (gP.ldBA (j:=0) Z Z eY Zb ZQ (vs:=B0) Z Z) jB
 rintro _ _ _ _ _ _ _ _ _ rfl gQ jC
 refine OKS.makeMap Z Z Z Z Z gQ ?_
 intro lu eQ gR
 have jw:=MpR.nil wEK wEV
 exact jC _ _ _ _ (zN _) gR ⟨eQ,Z,Z,jw⟩
 rintro _ _ ew d7 dX _ _ _ _ rfl ig jD
 refine zL 0 Z Z Z Z (zK Z Z Tryz.call128 zM Z) ig (fun hs=>wGn ew d7 hs gH) (.inr Z) ?_
 rintro d9 lm mo eE k8 ir ⟨rfl,rfl⟩
 have it:sW w U d9 (.blk b2 28 B0 :: dX) eE:=ir
 exact jD _ _ _ _ k8 it ⟨Z,Z⟩
 rintro _ _ _ eh dY _ _ _ ⟨⟨_,⟨fN,_⟩⟩,_⟩ ⟨_,_,⟨ai,dD,rfl,gy⟩,rfl,rfl⟩ iz jM
 refine OKS.mapPut (x:=.tmp 13) (y:=.tmp 14) (j:=0) (mk:=wEK) (mv:=wEV) (a:=x22) (v:=0) rfl rfl rfl (by first | exact .inl rfl | exact .inr rfl) iz rfl dD fN rfl (wDa Zm) wGl gy rfl ?_
 intro du dr eF jy iF
 have iH:sW w U eh (.obj ai (.map du dr) :: .blk b2 28 B0 :: dY) eF:=iF
 exact jM undef _ _ _ (zN _) iH ⟨ai,du,dr,dD,Z,jy⟩
 rintro _ _ _ _ _ _ _ _ _ ⟨_,_,⟨ai,am,ba,ga,rfl,gz⟩,rfl,rfl⟩ iN j7
 exact oM Z ga (j7 _ _ _ _ (zN _) iN ⟨ai,am,ba,Z,Z,gz⟩)
 rintro _ _ _ _ _ _ _ _ ⟨⟨_,⟨gg,_⟩⟩,_⟩ ⟨_,_,⟨ai,am,ba,gf,rfl,gF⟩,rfl,rfl⟩ iY j8
 exact oR Z (ZN (pv:=[(0,.agg B0.toArray),(1,.map (some ai))]) (z:=[.slice none 0 0,.slice none 0 0,.slice none 0 0,.slice none 0 0,.map none,.slice none 0 0]) (cs:=[.slice au p0.Starts.length aW,.slice av p0.Splits.length aX,.slice az p0.Clocks.length aY,.slice aV p0.Readings.length aZ,.map (some ai),.slice none 0 0]) Z (wAG gg (wAG gf wAZ)) Tryz.zeroValue105 wPa Z Z) (j8 _ _ _ _ (zN _) iY ⟨ai,am,ba,Z,Z,gF⟩)
 rintro _ _ _ _ _ _ _ _ _ ⟨_,_,⟨ai,am,ba,gh,rfl,gG⟩,rfl,rfl⟩ iZ j9
 refine zq (cs:=[.slice au p0.Starts.length aW,.slice av p0.Splits.length aX,.slice az p0.Clocks.length aY,.slice aV p0.Readings.length aZ,.map (some ai),.slice none 0 0]) rfl rfl rfl rfl rfl gh (by rfl) iZ ?_
 intro lD eU i4
 exact j9 _ _ _ _ (zN _) i4 ⟨eU,ai,am,ba,Z,Z,gG⟩
 rintro _ _ _ _ _ _ _ _ _ rfl i5 k6
 refine zg (cs:=[.pointer none]) Z Z Z Z Z Tryz.zeroValue68 Z i5 ?_
 intro lE eV i6
 exact k6 _ _ _ _ (zN _) i6 ⟨eV,Z,Z⟩
 rintro lh db cy ⟨fA,_⟩ k9 _ ⟨md,rfl⟩ _ _ _ ⟨me,rfl⟩ _ _ _ _ _ _ _ ⟨bG,ai,am,ba,gi,rfl,gI⟩ _ ⟨bH,dE,rfl⟩ i7
 let B1:Res:=.blk bG 105 [.slice au p0.Starts.length aW,.slice av p0.Splits.length aX,.slice az p0.Clocks.length aY,.slice aV p0.Readings.length aZ,.map (some ai),.slice none 0 0]
 have i8:sW w U cy [.blk bH 68 [.pointer none],B1,.obj ai (.map am ba),.blk b2 28 B0] db:=i7
 show OKS _ _ _ _ _ _ (.fx 8 .nil .stop) lh db
 let B2:List Value:=[.pointer (some ⟨bG,0,none⟩)]
 refine zh (j:=0) (vs:=B2) Z Z Z Z i8 Z dE gi Z Tryz.sizeOf68 (zA Z) Z Z Z ?_
 intro eL i9
 have ja:sW w U cy [.blk bH 68 B2,B1,.obj ai (.map am ba),.blk b2 28 B0] eL:=i9
 refine zd ?_
 cases jv
 exact zI ⟨rfl,⟨cy,bH,bG,ai,am,ba,fA,dE,k9,(ja.pick [3,0,1,2] _ (by decide) rfl),gI⟩⟩
 rintro mz eM ⟨eu,b6,b8,ab,bO,bW,dB,fB,cm,dL,gJ⟩
 refine zJ (sR gBs Z (oL Z (dL.ldBA (j:=0) Z Z dB Zb ZQ (vs:=B0) Z Z) ?_))
 have dF:=jf.le cm
 have dG:=jg.le cm
 have dH:=ji.le cm
 have dI:=jj.le cm
 have q:=bnd ju
 obtain ⟨⟨⟩,gK,dQ⟩:=q
 try dsimp only at dQ
 refine zL 0 Z Z Z Z (zK Z Z Tryz.call129 (zB Z zM) Z) dL (fun hs=>wHf p0 au aW av aX az aY aV aZ eM eu hs dF dG dH dI gK) (.inr Z) ?_
 rintro cY lq mq eO cn jb ⟨dh,rfl,rfl,gL⟩
 let B3:Res:=.blk b6 68 [.pointer (some ⟨b8,0,none⟩)]
 have jc:sW w U cY [.blk b2 28 B0,B3,.blk b8 105 [.slice au p0.Starts.length aW,.slice av p0.Splits.length aX,.slice az p0.Clocks.length aY,.slice aV p0.Readings.length aZ,.map (some ab),.slice none 0 0],.obj ab (.map bO bW)] eO:=jb
 refine eN (zS (yu fun cr cg=>?_))
 have fC:cr 1=.pointer (some ⟨b2,0,none⟩):=(cg 1).trans dB
 have dC:cr 3=.pointer (some ⟨b6,0,none⟩):=(cg 3).trans fB
 have fD:cr 19=.func (.func 159) #[] #[.pointer (some ⟨dh,0,none⟩)]:=(cg 19).trans rfl
 clear cg
 have gS:=jc.nilrow 151 7
 refine bnK dQ fun dU jm dO=>?_
 have cD:=dF.le cn
 have cE:=dG.le cn
 have cG:=dH.le cn
 have cH:=dI.le cn
 refine CK.rangeY (S:=(List wAm) × (List (wAJ × Int))) (E:=Empty) (ar:=wVm) (PY:=(fun (s_:(List wAm) × (List (wAJ × Int))) (U_:PHeap) (L_:List Res)=>match s_ with | (l1269,l1273)=>∃ (bA:Option Addr) (bC:Nat) (br:Array MapEntry) (bs:Nat),L_=[.blk b2 28 B0,B3,.row bA bC 151 7 (nA wAe l1269),.blk b8 105 [.slice au p0.Starts.length aW,.slice av p0.Splits.length aX,.slice az p0.Clocks.length aY,.slice aV p0.Readings.length aZ,.map (some ab),.slice bA l1269.length bC],.obj ab (.map br bs)]/\MpR br wEK wEV l1273)) (PE:=(fun (_:Empty) _ _=>False)) (exO:=Empty.elim) (s0:=([],dR)) (rr:=dU) fD Tryz.call159 (gS.pick [1,2,0,3,4] _ (by decide) rfl) (by decide) (fun _ _ _ h=>by obtain rfl:=h;rfl) (fun e=>nomatch e) ⟨none,0,bO,bW,rfl,gJ⟩ (fun l w1 L1 PY' PE' gO gM je=>wGo PY' PE' _ l _ p0 dh au aW av aX az aY aV aZ w1 L1 cY gO gM je gL cD cE cG cH jm) ?_ ?_
 rintro bg mj lM ⟨l1269,l1273⟩ ah mr mi cp li lf cO bk ci gT gN jh dM cq bK
 obtain ⟨bA,bC,br,bs,rfl,gj⟩:=gN
 obtain rfl:=jh
 replace bK:∀ t,cq t=upd cr 20 (.agg #[jV ah.Kind,jV ah.Skier,jV ah.Index,.bool ah.Up]) t:=bK
 have eZ:cq 20=.agg #[jV ah.Kind,jV ah.Skier,jV ah.Index,.bool ah.Up]:=(bK 20).trans (wEY _ _ _)
 have dv:cq 1=.pointer (some ⟨b2,0,none⟩):=(bK 1).trans ((wFE _ _ (by decide)).trans fC)
 have fb:cq 3=.pointer (some ⟨b6,0,none⟩):=(bK 3).trans ((wFE _ _ (by decide)).trans dC)
 clear bK
 let B4:Res:=.blk b8 105 [.slice au p0.Starts.length aW,.slice av p0.Splits.length aX,.slice az p0.Clocks.length aY,.slice aV p0.Readings.length aZ,.map (some ab),.slice bA l1269.length bC]
 let B5:Res:=.row bA bC 151 7 (nA wAe l1269)
 have gU:St bk cp [.obj bg cO,.blk b2 28 B0,B3,B5,B4,.obj ab (.map br bs)] lf:=gT
 try dsimp only at dM
 refine rR gBt Z (zg (cs:=[jV 0,jV 0,jV 0,.bool false]) Z Z Z Z Z Tryz.zeroValue149 Z gU ?_)
 intro lv bb gW
 let B6:List Value:=[jV ah.Kind,jV ah.Skier,jV ah.Index,.bool ah.Up]
 refine zh (j:=0) (vs:=B6) Z Z Z Z gW Z Z eZ Z yN (zA Z) Z Z Z ?_
 intro ey gX
 have gY:St bk cp [.blk bb 149 B6,.obj bg cO,.blk b2 28 B0,B3,B5,B4,.obj ab (.map br bs)] ey:=gX
 refine zd ⟨rfl,rfl,_,_,(gY.pick [1,0,2,3,4,5,6] [.obj bg cO,.blk bb 149 B6,.blk b2 28 B0,B3,B5,B4,.obj ab (.map br bs)] (by decide) rfl),fun cZ bp gZ=>?_⟩
 have cK:St bk cp [.obj bg bp,.blk bb 149 B6,.blk b2 28 B0,B3,B5,B4,.obj ab (.map br bs)] cZ:=gZ
 refine zS (sR (.fl 0 (.fl 1 (.fx 2 (wNw (.fx 7 (.fx 8 (.fx 9 (.fx 10 (.fl 11 .nil) .stop) .stop) .stop) .stop)) .stop))) Z (oL Z (cK.ldBA (j:=2) Z Z dv Zb ZQ (vs:=B0) Z Z) (oL Z (cK.ldBA (j:=1) Z Z Z ya yN (vs:=B6) Z Z) ?_)))
 have gm:=cD.le ci
 have gq:=cE.le ci
 have gt:=cG.le ci
 have gu:=cH.le ci
 have q:=bnd dM
 obtain ⟨⟨ao,ap,bh⟩,gv,dP⟩:=q
 try dsimp only at dP
 refine zL 0 Z Z Z Z (zK Z Z Tryz.call130 (zB Z (zB Z zM)) Z) cK (fun hs=>wHg p0 au aW av aX az aY aV aZ ah cZ cp hs gm gq gt gu gv) (.inr Z) ?_
 rintro bN lj mn ez mf g6 ⟨rfl,rfl⟩
 have g7:St bk bN [.obj bg bp,.blk bb 149 B6,.blk b2 28 B0,B3,B5,B4,.obj ab (.map br bs)] ez:=g6
 refine oM Z Z (oR Z (zw Z Z (v:=.agg #[jV ao.skier,jV ao.mat]) Z) (oR Z (zw Z Z (v:=.agg #[jV ap.skier,jV ap.mat]) Z) (oR Z (zw Z Z (v:=jV bh) Z) ?_)))
 let B7:List Value:=[jV 0,jV 0]
 refine zg (cs:=B7) Z Z Z Z Z zy Z g7 ?_
 intro lw bm g8
 refine zg (cs:=B7) Z Z Z Z Z zy Z g8 ?_
 intro lx bn g9
 let B8:List Value:=[jV ao.skier,jV ao.mat]
 refine zh (j:=1) (vs:=B8) Z Z Z Z g9 Z Z Z Z zO (zA Z) Z Z Z ?_
 intro eA ib
 have ic:St bk bN [.blk bn 111 B7,.blk bm 111 B8,.obj bg bp,.blk bb 149 B6,.blk b2 28 B0,B3,B5,B4,.obj ab (.map br bs)] eA:=ib
 let B9:List Value:=[jV ap.skier,jV ap.mat]
 refine zh (j:=0) (vs:=B9) Z Z Z Z ic Z Z Z Z zO (zA Z) Z Z Z ?_
 intro eB ie
 have cL:St bk bN [.blk bn 111 B9,.blk bm 111 B8,.obj bg bp,.blk bb 149 B6,.blk b2 28 B0,B3,B5,B4,.obj ab (.map br bs)] eB:=ie
 refine oA Z Z (eN (zJ (sR fL4 Z (oL Z (cL.ldBA (j:=1) Z Z Z zj zO (vs:=B8) Z Z) (oL Z (cL.ldBA (j:=0) Z Z Z zj zO (vs:=B9) Z Z) ?_)))))
 let cR:List Value:=[jV ao.skier,jV ao.mat,jV ap.skier,jV ap.mat]
 refine oR Z (Runs.buildA (pv:=[(0,.agg B8.toArray),(1,.agg B9.toArray)]) (z:=[jV 0,jV 0,jV 0,jV 0]) (cs:=cR) Z (wAG Z (wAG Z wAZ)) Tryz.zeroValue204 Tryz.runUnderlying204 zO Z Z) (oM Z Z (eN (zS (bnK dP fun ak jk jo=>?_))))
 have q:=wBM jk
 obtain ⟨cN,jl⟩:=q
 replace cN:=zH cN
 refine CK.forN' (fun bR bS σ_ w_=>∃ (U_:PHeap) (bP:Array MapEntry) (bX:Nat),σ_ 31=jV (↑bR:Int)/\σ_ 1=.pointer (some ⟨b2,0,none⟩)/\σ_ 3=.pointer (some ⟨b6,0,none⟩)/\σ_ 4=.pointer (some ⟨bb,0,none⟩)/\σ_ 5=.pointer (some ⟨bm,0,none⟩)/\σ_ 6=.pointer (some ⟨bn,0,none⟩)/\σ_ 7=jV bh/\σ_ 30=.agg cR.toArray/\PHeap.Le bN U_/\St bk U_ [.blk bn 111 B9,.blk bm 111 B8,.obj bg bp,.blk bb 149 B6,.blk b2 28 B0,B3,B5,B4,.obj ab (.map bP bX)] w_/\MpR bP wEK wEV bS) jl ?_ ?_ ?_
 exact ⟨bN,br,bs,Z,dv,fb,Z,Z,Z,Z,Z,(zN _),cL,gj⟩
 rintro bR bS ms mw ly cM ⟨bU,bP,bX,bZ,dw,bQ,dx,dy,dz,dA,cC,dS,ii,cd⟩ jz
 have dm:Hid ((↑bR:Int) < 2):=zH (wBG cM)
 replace cM:=zH cM
 have dN:Hid (w64 ((↑bR:Int) + 1)=(↑(bR + 1):Int)):=zH (by have h1:=cN.out;have h2:=dm.out;rw [wAX] <;> omega)
 refine sR fL1 Z (oR Z (zV Z bZ Z) (eN (zJ (cT Z dm (kN (zJ (zS (sR (.fl 0 gBu) Z (bnK jz fun bL cI jp=>oR Z (Runs.ixA (cs:=nA wIc ([ao,ap]:List wAJ)) Z cC bZ Tryz.runUnderlying204 zO (wCO cI) (wCX cI) (wDh zj zO (wKi (sz:=2) (fun _=>Z) _ _ (wAj cI)))) (zg (cs:=B7) Z Z Z Z Z zy Z ii ?_))))))))))
 intro lz df ij
 let bM:List Value:=[jV bL.skier,jV bL.mat]
 refine zh (j:=0) (vs:=bM) Z Z Z Z ij Z Z Z Z zO (zA Z) Z Z Z ?_
 intro cz il
 have im:St bk bU [.blk df 111 bM,.blk bn 111 B9,.blk bm 111 B8,.obj bg bp,.blk bb 149 B6,.blk b2 28 B0,B3,B5,B4,.obj ab (.map bP bX)] cz:=il
 refine eN (zJ (ZO zz [1,3,3,1,1,1,3,3,3,3,3] wWK (by kernel_rfl) ?_))
 have bE:=im.drew
 generalize hw_W1407:({ cz with drawn:=cz.drawn + 1 }:World)=c8 at bE ⊢
 refine oL Z (bE.ldB (j:=6) Z Z bQ yy (v:=.pointer (some ⟨b8,0,none⟩)) Z) (oR Z (Zd Z Z) (oR Z (zF Z Z ZX Z yX) (oL Z (bE.ldB (j:=8) Z Z Z yb (v:=.map (some ab)) Z) (oL Z (bE.ldBA (j:=0) Z Z Z zj zO (vs:=bM) Z Z) (oL Z (bE.lookup2 (j:=9) (mk:=wEK) (mv:=wEV) (a:=bL) (z:=0) Z Z Z Z (wDa Zm) wGl ZW cd) (oM Z Z (oR Z (zw Z Z (v:=jV (wBU bS bL 0)) Z) (oR Z (zw Z Z (v:=.bool (wJi bS bL)) Z) (oA Z Z (oA Z Z (eN (sR fL2 Z (oM Z Z (oR Z (ZB Z Z) (eN (ifc jp ?_ ?_))))))))))))))))
 intro cA jq
 refine zu (nC cA.out) (Ze (zf (zI (rR fL2 Z (oR Z (zt (zU Z bZ Z) (congrArg (jV) dN.out)) (oM Z Z (zd ?_)))))))
 cases jq
 exact zI ⟨rfl,⟨bU,bP,bX,rfl,dw,bQ,dx,dy,dz,dA,cC,dS,(bE.pick [1,2,3,4,5,6,7,8,9] _ (by decide) rfl),cd⟩⟩
 intro cA jr
 refine zo (nF (cA.out)) (ZO zz [1,3,3,1,1,1,3,3,1,1,0] (wRU (.fx 10 .nil .stop)) (by kernel_rfl) ?_)
 have bz:=bE.drew
 generalize hw_W1415:({ c8 with drawn:=c8.drawn + 1 }:World)=lB at bz ⊢
 refine ZC rfl rfl rfl rfl (bz.ldB (j:=6) rfl rfl bQ yy (v:=.pointer (some ⟨b8,0,none⟩)) rfl) rfl (zY rfl rfl rfl rfl (fun _=>Zd rfl rfl) (zY rfl rfl rfl rfl (fun _=>zF rfl rfl ZX rfl yX) (ZC rfl rfl rfl rfl (bz.ldB (j:=8) rfl rfl rfl yb (v:=.map (some ab)) rfl) rfl (ZC rfl rfl rfl rfl (bz.ldBA (j:=0) rfl rfl rfl zj zO (vs:=bM) rfl rfl) rfl (ZC rfl rfl rfl rfl (bz.ldB (j:=6) rfl rfl bQ yy (v:=.pointer (some ⟨b8,0,none⟩)) rfl) rfl (zY rfl rfl rfl rfl (fun _=>Zd rfl rfl) (zY rfl rfl rfl rfl (fun _=>zF rfl rfl ZX rfl yX) (ZC rfl rfl rfl rfl (bz.ldB (j:=8) rfl rfl rfl yb (v:=.map (some ab)) rfl) rfl (ZC rfl rfl rfl rfl (bz.lenM (j:=9) (mk:=wEK) (mv:=wEV) rfl rfl rfl (wDa Zm) cd) rfl (OKS.mapPut (x:=.tmp 48) (y:=.tmp 49) (z:=.tmp 54) (j:=9) (mk:=wEK) (mv:=wEV) (a:=bL) (v:=(↑(bS.length):Int)) rfl rfl rfl (by first | exact .inl rfl | exact .inr rfl) bz rfl rfl rfl rfl (wDa Zm) wGl cd rfl ?_))))))))))
 intro dt dq eD jx io
 have ip:St bk bU [.blk df 111 bM,.blk bn 111 B9,.blk bm 111 B8,.obj bg bp,.blk bb 149 B6,.blk b2 28 B0,B3,B5,B4,.obj ab (.map dt dq)] eD:=io
 refine zd (zf (zI (rR fL2 Z (oR Z (zt (zU Z bZ Z) (congrArg (jV) dN.out)) (oM Z Z (zd ?_))))))
 cases jr
 exact zI ⟨rfl,⟨bU,dt,dq,rfl,dw,bQ,dx,dy,dz,dA,cC,dS,(ip.pick [1,2,3,4,5,6,7,8,9] _ (by decide) rfl),jx⟩⟩
 rintro my lC ⟨ef,bJ,bI,fE,fc,fd,ff,fg,fh,fj,lF,mg,iq,cJ⟩
 have eW:Hid (¬ ((↑((2:Int) - 0).toNat:Int) < 2)):=zH (wAq)
 refine sR fL1 rfl (zY rfl rfl rfl rfl (fun _=>zV rfl fE rfl) (eN (zJ (cF Z eW (ZH (zZ (zZ (zx (zI (bnK jo fun bF gw jt=>CK.webp (U0:=ef) (L0:=[.blk bn 111 B9,.blk bm 111 B8,.obj bg bp,.blk bb 149 B6,.blk b2 28 B0,B3,B4,.obj ab (.map bJ bI)]) zz [pX 56 [] (.pointer (some ⟨b8,0,none⟩)),pW 57 [] (.pointer (some ⟨b8,0,none⟩)),pW 58 [1] (.pointer (some ⟨b8,0,none⟩)),pW 59 [2] (.pointer (some ⟨b8,5,none⟩)),pW 60 [3] (.slice bA l1269.length bC),pW 61 [] (.agg B6.toArray),pW 62 [] (.pointer (some ⟨b8,0,none⟩)),pW 63 [6] (.pointer (some ⟨b8,0,none⟩)),pW 64 [7] (.pointer (some ⟨b8,4,none⟩)),pW 65 [8] (.map (some ab)),pW 66 [] (.agg B8.toArray),pW 67 [9,10] (jV (wBU ak ao 0)),pW 68 [] (.pointer (some ⟨b8,0,none⟩)),pW 69 [12] (.pointer (some ⟨b8,0,none⟩)),pW 70 [13] (.pointer (some ⟨b8,4,none⟩)),pW 71 [14] (.map (some ab)),pW 72 [] (.agg B9.toArray),pW 73 [15,16] (jV (wBU ak ap 0)),pW 74 [] (jV bh),pW 75 [5,11,17,18] (.agg #[jV ah.Kind,jV ah.Skier,jV ah.Index,.bool ah.Up,jV (wBU ak ao 0),jV (wBU ak ap 0),jV bh]),⟨some 76,[76],[19],false,[],true,[],fun σ R=>∃ bu,σ 76=.slice (some ⟨bu,0,none⟩) 1 1/\R=[.row (some ⟨bu,0,none⟩) 1 151 7 (nA wAe [(⟨ah,(wBU ak ao 0),(wBU ak ap 0),bh⟩:wAm)])]⟩,⟨some 77,[77],[4],false,[20],false,[B5],fun σ R=>∃ bB bD bu,σ 77=.slice bB bF.length bD/\R=[.row bB bD 151 7 (nA wAe bF),.row (some ⟨bu,0,none⟩) 1 151 7 (nA wAe [(⟨ah,(wBU ak ao 0),(wBU ak ap 0),bh⟩:wAm)])]⟩] [true,true,false] [(1,.pointer (some ⟨b2,0,none⟩)),(3,.pointer (some ⟨b6,0,none⟩)),(4,.pointer (some ⟨bb,0,none⟩)),(5,.pointer (some ⟨bm,0,none⟩)),(6,.pointer (some ⟨bn,0,none⟩)),(7,jV bh)] (by kernel_rfl) ⟨fc,fd,ff,fg,fh,fj,trivial⟩ (iq.pick [6,0,1,2,3,4,5,7,8] _ (by decide) rfl) ⟨?_,?_,?_,?_,?_,?_,?_,?_,?_,?_,?_,?_,?_,?_,?_,?_,?_,?_,?_,?_,?_,?_,trivial⟩ ?_))))))))))
 refine wpX ?_
 rintro _ _ _ _ _ ⟨_,fk,_⟩ _ _ iu jE
 exact Zl Z Z Z Z (iu.ldB (j:=5) Z Z fk yy (v:=.pointer (some ⟨b8,0,none⟩)) Z) jE
 refine wpW ?_
 rintro _ _ _ _ _ ⟨_,fm,_⟩ _ _ iv jG
 exact oL Z (iv.ldB (j:=5) Z Z fm yy (v:=.pointer (some ⟨b8,0,none⟩)) Z) jG
 refine wpW ?_
 rintro _ _ _ _ _ _ _ ⟨⟨_,⟨fG,_⟩⟩,_⟩ _ jH
 exact oR Z (Zd Z fG) jH
 refine wpW ?_
 rintro _ _ _ _ _ _ _ ⟨⟨_,⟨fH,_⟩⟩,_⟩ _ jJ
 exact oR Z (zF Z fH ZX Z Tryz.sizeOf103) jJ
 refine wpW ?_
 rintro _ _ _ _ _ _ _ ⟨⟨_,⟨fJ,_⟩⟩,_⟩ iw jK
 exact oL Z (iw.ldB (j:=6) Z Z fJ Tryz.isAgg103 (v:=.slice bA l1269.length bC) Z) jK
 refine wpW ?_
 rintro _ _ _ _ _ ⟨_,_,fq,_⟩ _ _ iy jL
 exact oL Z (iy.ldBA (j:=3) Z Z fq ya yN (vs:=B6) Z Z) jL
 refine wpW ?_
 rintro _ _ _ _ _ ⟨_,ft,_⟩ _ _ iA jN
 exact oL Z (iA.ldB (j:=5) Z Z ft yy (v:=.pointer (some ⟨b8,0,none⟩)) Z) jN
 refine wpW ?_
 rintro _ _ _ _ _ _ _ ⟨⟨_,⟨fK,_⟩⟩,_⟩ _ jO
 exact oR Z (Zd Z fK) jO
 refine wpW ?_
 rintro _ _ _ _ _ _ _ ⟨⟨_,⟨fL,_⟩⟩,_⟩ _ jP
 exact oR Z (zF Z fL ZX Z yX) jP
 refine wpW ?_
 rintro _ _ _ _ _ _ _ ⟨⟨_,⟨fM,_⟩⟩,_⟩ iB jQ
 exact oL Z (iB.ldB (j:=6) Z Z fM yb (v:=.map (some ab)) Z) jQ
 refine wpW ?_
 rintro _ _ _ _ _ ⟨_,_,_,fu,_⟩ _ _ iC jR
 exact oL Z (iC.ldBA (j:=1) Z Z fu zj zO (vs:=B8) Z Z) jR
 refine wpW ?_
 rintro _ _ _ _ _ _ _ ⟨⟨_,⟨fO,_⟩⟩,⟨_,⟨fP,_⟩⟩,_⟩ iD jS
 exact oL Z (iD.lookup1 (j:=7) (mk:=wEK) (mv:=wEV) (a:=ao) (z:=0) Z Z fO fP (wDa Zm) wGl ZW cJ) jS
 refine wpW ?_
 rintro _ _ _ _ _ ⟨_,fw,_⟩ _ _ iE jU
 exact oL Z (iE.ldB (j:=5) Z Z fw yy (v:=.pointer (some ⟨b8,0,none⟩)) Z) jU
 refine wpW ?_
 rintro _ _ _ _ _ _ _ ⟨⟨_,⟨fQ,_⟩⟩,_⟩ _ jW
 exact oR Z (Zd Z fQ) jW
 refine wpW ?_
 rintro _ _ _ _ _ _ _ ⟨⟨_,⟨fR,_⟩⟩,_⟩ _ jX
 exact oR Z (zF Z fR ZX Z yX) jX
 refine wpW ?_
 rintro _ _ _ _ _ _ _ ⟨⟨_,⟨fS,_⟩⟩,_⟩ iG jY
 exact oL Z (iG.ldB (j:=6) Z Z fS yb (v:=.map (some ab)) Z) jY
 refine wpW ?_
 rintro _ _ _ _ _ ⟨_,_,_,_,fy,_⟩ _ _ iI jZ
 exact oL Z (iI.ldBA (j:=0) Z Z fy zj zO (vs:=B9) Z Z) jZ
 refine wpW ?_
 rintro _ _ _ _ _ _ _ ⟨⟨_,⟨fT,_⟩⟩,⟨_,⟨fU,_⟩⟩,_⟩ iJ j0
 exact oL Z (iJ.lookup1 (j:=7) (mk:=wEK) (mv:=wEV) (a:=ap) (z:=0) Z Z fT fU (wDa Zm) wGl ZW cJ) j0
 refine wpW ?_
 rintro _ _ _ _ _ ⟨_,_,_,_,_,fz,_⟩ _ _ _ j3
 exact oM Z fz j3
 refine wpW ?_
 rintro _ _ _ _ _ _ _ ⟨⟨_,⟨fV,_⟩⟩,⟨_,⟨fW,_⟩⟩,⟨_,⟨fY,_⟩⟩,⟨_,⟨fZ,_⟩⟩,_⟩ _ j4
 exact oR Z (ZN (pv:=[(0,.agg B6.toArray),(1,jV (wBU ak ao 0)),(2,jV (wBU ak ap 0)),(3,jV bh)]) (z:=[jV 0,jV 0,jV 0,.bool false,jV 0,jV 0,jV 0]) (cs:=[jV ah.Kind,jV ah.Skier,jV ah.Index,.bool ah.Up,jV (wBU ak ao 0),jV (wBU ak ap 0),jV bh]) Z (wAG fV (wAG fW (wAG fY (wAG fZ wAZ)))) Tryz.zeroValue151 wPd Z Z) j4
 rintro _ _ _ en dZ _ _ _ ⟨⟨_,⟨f4,_⟩⟩,_⟩ rfl iK j5
 let cS:List Value:=[jV ah.Kind,jV ah.Skier,jV ah.Index,.bool ah.Up,jV (wBU ak ao 0),jV (wBU ak ap 0),jV bh]
 refine ZL (pv:=[(0,.agg cS.toArray)]) (zs:=[jV 0,jV 0,jV 0,.bool false,jV 0,jV 0,jV 0]) (cs:=cS) Z Z Z Z Z (wAG f4 wAZ) Tryz.runUnderlying103 Tryz.sizeOf151 Tryz.zeroValue151 Z Z Z Z Z iK ?_
 intro eG dg iL
 have iM:St bk en (.row (some ⟨dg,0,none⟩) 1 151 7 (nA wAe [(⟨ah,(wBU ak ao 0),(wBU ak ap 0),bh⟩:wAm)]) :: .blk bn 111 B9 :: .blk bm 111 B8 :: .obj bg bp :: .blk bb 149 B6 :: .blk b2 28 B0 :: B3 :: B4 :: .obj ab (.map bJ bI) :: dZ) eG:=iL
 exact j5 _ _ _ _ (zN _) iM ⟨dg,Z,Z⟩
 rintro _ _ _ er d5 _ _ _ ⟨⟨_,⟨f7,_⟩⟩,_⟩ ⟨_,_,⟨bu,f5,rfl⟩,rfl,rfl⟩ dJ j6
 refine Zq (j:=0) (enc:=wAe) (xs:=l1269) (ys:=[(⟨ah,(wBU ak ao 0),(wBU ak ap 0),bh⟩:wAm)]) (zs:=bF) rfl rfl rfl rfl rfl Tryz.underlying103 wTn rfl rfl rfl rfl rfl rfl dJ rfl f7 f5 (dJ.srcR (j:=1) rfl (by decide) (wAC (f:=wAe) (sz:=7) (fun _=>rfl) [(⟨ah,(wBU ak ao 0),(wBU ak ap 0),bh⟩:wAm)])) (fun _=>rfl) (fun _=>rfl) gw rfl ?_
 intro cP dp eH iO
 have iP:St bk er (.row cP dp 151 7 (nA wAe bF) :: .row (some ⟨bu,0,none⟩) 1 151 7 (nA wAe [(⟨ah,(wBU ak ao 0),(wBU ak ap 0),bh⟩:wAm)]) :: .blk bn 111 B9 :: .blk bm 111 B8 :: .obj bg bp :: .blk bb 149 B6 :: .blk b2 28 B0 :: B3 :: B4 :: .obj ab (.map bJ bI) :: d5) eH:=iO
 exact j6 _ _ _ _ (zN _) iP ⟨cP,dp,bu,Z,Z⟩
 rintro lg da cX ⟨lG,lH,lI,lJ,lK,lL,_⟩ mh _ ⟨f9,rfl⟩ _ ⟨lN,rfl⟩ _ ⟨lO,rfl⟩ _ ⟨lP,rfl⟩ _ ⟨lQ,rfl⟩ _ ⟨lR,rfl⟩ _ ⟨lS,rfl⟩ _ ⟨lT,rfl⟩ _ ⟨lU,rfl⟩ _ ⟨lV,rfl⟩ _ ⟨lW,rfl⟩ _ ⟨lY,rfl⟩ _ ⟨lZ,rfl⟩ _ ⟨l3,rfl⟩ _ ⟨l4,rfl⟩ _ ⟨l5,rfl⟩ _ ⟨l6,rfl⟩ _ ⟨l7,rfl⟩ _ ⟨ma,rfl⟩ _ ⟨mb,rfl⟩ _ _ _ ⟨bB,bD,bu,ge,rfl⟩ iQ
 let cU:Res:=.row (some ⟨bu,0,none⟩) 1 151 7 (nA wAe [(⟨ah,(wBU ak ao 0),(wBU ak ap 0),bh⟩:wAm)])
 let cV:Res:=.row bB bD 151 7 (nA wAe bF)
 have iR:St bk cX [cV,cU,.blk bn 111 B9,.blk bm 111 B8,.obj bg bp,.blk bb 149 B6,.blk b2 28 B0,B3,B4,.obj ab (.map bJ bI)] da:=iQ
 show OKS _ _ _ _ _ _ (.fl 22 (.fl 23 (.fx 24 .nil .stop))) lg da
 refine oR Z (Zd Z f9) (oR Z (zF Z Z ZX Z Tryz.sizeOf103) (zh (j:=8) (vs:=[.slice bB bF.length bD]) Z Z Z Z iR Z Z ge Z Tryz.sizeOf103 (zA Z) Z Z Z ?_))
 intro eI iT
 have iU:St bk cX [cV,cU,.blk bn 111 B9,.blk bm 111 B8,.obj bg bp,.blk bb 149 B6,.blk b2 28 B0,B3,.blk b8 105 [.slice au p0.Starts.length aW,.slice av p0.Splits.length aX,.slice az p0.Clocks.length aY,.slice aV p0.Readings.length aZ,.map (some ab),.slice bB bF.length bD],.obj ab (.map bJ bI)] eI:=iT
 refine zd (zf ?_)
 have q:=nE jt
 obtain rfl:=q
 exact ⟨_,_,(iU.pick [4,6,7,0,8,9] _ (by decide) rfl),rfl,⟨bB,bD,bJ,bI,rfl,cJ⟩⟩
 rintro dT cx ln eJ cj iV
 rcases dU with ⟨dV,mu⟩ | eX
 try dsimp only at dO
 rintro ⟨ct,cB,bY,bV,rfl,gA⟩
 let cu:Res:=.blk b8 105 [.slice au p0.Starts.length aW,.slice av p0.Splits.length aX,.slice az p0.Clocks.length aY,.slice aV p0.Readings.length aZ,.map (some ab),.slice ct dV.length cB]
 let cw:Res:=.row ct cB 151 7 (nA wAe dV)
 have dK:sW w U cx [.blk b2 28 B0,B3,cw,cu,.obj ab (.map bY bV),.obj dT (.deferred (some []))] eJ:=iV
 refine zf (zI (sR fL2 Z (oL Z (dK.ldB (j:=1) Z Z dC yy (v:=.pointer (some ⟨b8,0,none⟩)) Z) (oA Z Z (eN (zP ?_))))))
 have gB:=cD.le cj
 have gC:=cE.le cj
 have gD:=cG.le cj
 have gE:=cH.le cj
 refine wLf (by first | exact .inl rfl | exact .inr rfl) (rbs:=[dT]) (L:=[.blk b2 28 B0,B3,cw,cu,.obj ab (.map bY bV)]) dK fun eK iW=>?_
 have iX:sW w U cx [.blk b2 28 B0,B3,cw,cu,.obj ab (.map bY bV)] eK:=iW
 cases dO
 exact ⟨_,(zm rfl),cx,_,(iX.pick [3,4,2] _ (by decide) rfl),b8,au,aW,av,aX,az,aY,aV,aZ,ab,bY,bV,ct,cB,rfl,rfl,gB,gC,gD,gE,gA⟩
 exact eX.elim
theorem wLG (p0:wAF) (ag:Option Addr) (ak:Nat) (ah:Option Addr) (am:Nat) (ai:Option Addr) (an:Nat) (aj:Option Addr) (ao:Nat) (w:World) (U:PHeap) (hS:St0 w U []) (bs:Sl U 1 ag ak p0.Starts.length (nA KL.encI p0.Starts)) (bu:Sl U 2 ah am p0.Splits.length (nA wAP p0.Splits)) (bw:Sl U 3 ai an p0.Clocks.length (nA wAB p0.Clocks)) (bz:Sl U 4 aj ao p0.Readings.length (nA wAM p0.Readings)) {r:(Option wAx) × Int} (hm:wDs p0=some r):Gv Tryz.prog 51 [.agg #[.slice ag p0.Starts.length ak,.slice ah p0.Splits.length am,.slice ai p0.Clocks.length an,.slice aj p0.Readings.length ao]] w (wBc w [] U (fun U_ L_ v=>match r.1 with | none=>v=.tuple #[.pointer none,jV r.2]/\L_=[] | some d=>∃ (b0:Nat) (A0p00:Option Addr) (c0p00:Nat) (A0p01:Option Addr) (c0p01:Nat) (A0p02:Option Addr) (c0p02:Nat) (A0p03:Option Addr) (c0p03:Nat) (m0p1:Nat) (es0p1:Array MapEntry) (ck0p1:Nat) (A0p2:Option Addr) (c0p2:Nat),v=.tuple #[.pointer (some ⟨b0,0,none⟩),jV r.2]/\L_=[.blk b0 105 [.slice A0p00 d.Race.Starts.length c0p00,.slice A0p01 d.Race.Splits.length c0p01,.slice A0p02 d.Race.Clocks.length c0p02,.slice A0p03 d.Race.Readings.length c0p03,.map (some m0p1),.slice A0p2 d.edges.length c0p2],.obj m0p1 (.map es0p1 ck0p1),.row A0p2 c0p2 151 7 (nA wAe d.edges)]/\Sl U_ 1 A0p00 c0p00 d.Race.Starts.length (nA KL.encI d.Race.Starts)/\Sl U_ 2 A0p01 c0p01 d.Race.Splits.length (nA wAP d.Race.Splits)/\Sl U_ 3 A0p02 c0p02 d.Race.Clocks.length (nA wAB d.Race.Clocks)/\Sl U_ 4 A0p03 c0p03 d.Race.Readings.length (nA wAM d.Race.Readings)/\MpR es0p1 wEK wEV d.number)):=by
 unfold wDs at hm
 refine Gv.of Tryz.func51 Z Tryz.ntmps51 Tryz.results51 Z (sR gCa Z ?_)
 let B0:List Value:=[.slice ag p0.Starts.length ak,.slice ah p0.Splits.length am,.slice ai p0.Clocks.length an,.slice aj p0.Readings.length ao]
 refine zq (cs:=B0) rfl rfl rfl rfl rfl rfl (by rfl) hS ?_
 intro W1 b2 br
 refine oA Z Z (oA Z Z (eN (zJ (sR gCb Z (oL Z (br.ldBA (j:=0) Z Z Z Zb ZQ (vs:=B0) Z Z) (bnK hm fun x5 h6 bT=>zL 0 Z Z Z Z (zK Z Z Tryz.call82 (zB Z zM) Z) br (fun hs=>wLF p0 ag ak ah am ai an aj ao W1 U hs bs bu bw bz h6) (.inr Z) ?_))))))
 rintro U8 L9 bX be ap bN ⟨rfl,rfl⟩
 have aV:sW w U U8 [.blk b2 28 B0] be:=bN
 refine oA Z Z (eN (sR fL2 Z (oM Z Z (oR Z (Zz Z Z Z) (eN (ifc bT ?_ ?_))))))
 intro av bQ
 refine zu (ZT (fun h=>h av.out)) (kN (sR gCk Z (oL Z (aV.ldBA (j:=0) Z Z Z Zb ZQ (vs:=B0) Z Z) ?_)))
 have bC:=bs.le ap
 have bD:=bu.le ap
 have bE:=bw.le ap
 have bF:=bz.le ap
 refine bnK bQ fun ab bG bR=>zL 0 Z Z Z Z (zK Z Z Tryz.call83 (zB Z zM) Z) aV (fun hs=>wKH p0 ag ak ah am ai an aj ao be U8 hs bC bD bE bF bG) (.inr Z) ?_
 rintro bb bU bY bB bW bO ⟨bi,aX,bj,aY,bk,aZ,bm,ba,bn,aW,bq,bp,aq,az,rfl,rfl,bH,bI,bJ,bK,bL⟩
 have bP:sW w U bb [.blk bi 105 [.slice aX ab.Race.Starts.length bj,.slice aY ab.Race.Splits.length bk,.slice aZ ab.Race.Clocks.length bm,.slice ba ab.Race.Readings.length bn,.map (some aW),.slice aq ab.edges.length az],.obj aW (.map bq bp),.row aq az 151 7 (nA wAe ab.edges),.blk b2 28 B0] bB:=bO
 refine oA Z Z (oA Z Z (eN (zP ?_)))
 cases bR
 exact ⟨rfl,_,(wGV rfl rfl),bb,_,(bP.pick [0,1,2] _ (by decide) rfl),bi,aX,bj,aY,bk,aZ,bm,ba,bn,aW,bq,bp,aq,az,rfl,rfl,bH,bI,bJ,bK,bL⟩
 intro av bS
 refine cT Z av (sR fL3 Z (oM Z Z (oA Z Z (oA Z Z (eN (zP (zR ?_)))))))
 cases bS
 exact ⟨rfl,_,(wGV rfl rfl),U8,_,(aV.pick [] _ (by decide) rfl),rfl,rfl⟩
theorem wEL (p0:List wAk) (ao:Option Addr) (ap:Nat) (p1:(wAk->Option Bool)) (aq:Value) (w:World) (U:PHeap) (hS:St0 w U []) (bE:Sl U 2 ao ap p0.length (nA wEh p0)) (bF:FnOK Tryz.prog U aq wTk wTl p1) {r:Bool} (hm:wBV p0 p1=some r):Gv Tryz.prog 52 [.slice ao p0.length ap,aq] w (wBc w [] U (fun U_ L_ v=>v=.bool r/\L_=[])):=by
 unfold wBV at hm
 refine Gv.of Tryz.func52 Z Tryz.ntmps52 Tryz.results52 Z (sR fL1 Z (oA Z Z (eN (zJ (sR fL3 Z (oM Z Z (oR Z (zn Z Z Tryz.runUnderlying142) (oM Z Z (eN (zS ?_))))))))))
 have q:=wCT hm
 obtain ⟨r3,aj⟩:=q
 have q:=wCS aj
 obtain ⟨am,bI⟩:=q
 replace am:=zH am
 refine yQ (fun k2 _ σ_ w_=>∃ (U_:PHeap),σ_ 9=jV (↑k2:Int)/\σ_ 1=aq/\σ_ 7=.slice ao p0.length ap/\σ_ 8=jV (↑p0.length:Int)/\PHeap.Le U U_/\sW w U U_ [] w_) bI ?_ ?_ ?_
 exact ⟨U,Z,Z,Z,Z,(zN _),hS⟩
 rintro k2 ⟨⟩ ci cm W8 ak ⟨bh,ai,az,aV,aW,an,aY⟩ be bG
 try dsimp only at be
 have av:Hid ((↑k2:Int) < (↑p0.length:Int)):=zH (wBG ak)
 replace ak:=zH ak
 have bJ:Hid (w64 ((↑k2:Int) + 1)=(↑(k2 + 1):Int)):=zH (by have h1:=am.out;have h2:=av.out;rw [wAX] <;> omega)
 refine sR fL1 Z (oR Z (zV Z ai aW) (eN (zJ (cT Z av (kN (zJ (zS (sR gCl Z (bnK be fun x22 aX bK=>?_)))))))))
 have br:=bE.le an
 have q:=br.el (fun _=>rfl) (wAj aX)
 obtain ⟨bV,bZ,bw,bz⟩:=q
 refine oR Z (ZV Z aV bw ai Tryz.runUnderlying142 Tryz.sizeOf101 (wCZ aX)) (oL Z (aY.ldCA (f:=0) bz Z Z Tryz.isAgg101 Tryz.sizeOf101 (us:=[jV x22.Skier,jV x22.Mat]) Z Z) (zg (cs:=[jV 0,jV 0]) Z Z Z Z Z Tryz.zeroValue101 Z aY ?_))
 intro bS au bA
 let B0:List Value:=[jV x22.Skier,jV x22.Mat]
 refine zh (j:=0) (vs:=B0) Z Z Z Z bA Z Z Z Z Tryz.sizeOf101 (zA Z) Z Z Z ?_
 intro bj bB
 have aZ:sW w U bh [.blk au 101 B0] bj:=bB
 refine eN (sR gCm Z (oM Z az (oL Z (aZ.ldBA (j:=0) Z Z Z Tryz.isAgg101 Tryz.sizeOf101 (vs:=B0) Z Z) (bnK bK fun x37 bs bL=>?_))))
 have bu:=bF.le an
 refine yI (a:=x22) Z Z Z Z Z Z (zB Z zM) aZ bu Z bs ?_
 rintro ag bR cg bk bP bC ⟨rfl,rfl⟩
 have ba:sW w U ag [.blk au 101 B0] bk:=bC
 refine oR Z (ZB Z Z) (eN (ifc bL ?_ ?_))
 intro ah bM
 refine zu (nC ah.out) (Ze (zf (zI (rR fL2 Z (oR Z (zt (zU Z ai Z) (congrArg (jV) bJ.out)) (oM Z Z (zd ?_)))))))
 have q:=nE bM
 obtain rfl:=q
 exact zI ⟨rfl,_,rfl,⟨ag,rfl,az,aV,aW,(an.trans bP),(ba.pick [] _ (by decide) rfl)⟩⟩
 intro ah bN
 refine zo (nF (ah.out)) (sR fL1 Z (oA Z Z (eN (zP (za (zR ?_))))))
 have q:=wAc bN
 obtain ⟨bQ,bO,bn⟩:=q
 have q:=wBn hm aj (bG bQ bn)
 obtain rfl:=q
 refine zR (za (zR ?_))
 have hE:=nE bO;first | subst r | cases hE
 exact ⟨rfl,_,(zm rfl),ag,_,(ba.pick [] _ (by decide) rfl),rfl,rfl⟩
 rintro ⟨⟩ cj bT ⟨bi,bq,bW,bX,bp,bY,bD⟩ bH
 have bb:=wDe hm aj bH
 try dsimp only at bb
 have bm:Hid (¬ ((↑(((↑p0.length:Int):Int) - 0).toNat:Int) < (↑p0.length:Int))):=zH (wAq)
 refine sR fL1 Z (oR Z (zV Z bq bp) (eN (zJ (cF Z bm (ZH (zZ (zZ (zx (zI (sR fL1 Z (oA Z Z (eN (zP ?_)))))))))))))
 have hE:=nE bb;first | subst r | cases hE
 exact ⟨Z,_,(zm Z),bi,_,bD,Z,Z⟩
set_option maxHeartbeats 4000000
theorem wIh (p0 p1:Int) (w:World) (U:PHeap) (hS:St0 w U []) {r:Int × Int} (hm:wEG p0 p1=some r):Gv Tryz.prog 85 [.int .u64 p0,.int .u64 p1] w (wBc w [] U (fun U_ L_ v=>v=.tuple #[.int .u64 r.1,.int .u64 r.2]/\L_=[])):=by
 unfold wEG at hm
 split at hm
 rename_i h
 cases hm
 obtain ⟨x,rfl⟩:=nM h.1
 obtain ⟨y,rfl⟩:=nM h.2.2.1
 refine (Go.Proofs.Tryz.bits_Mul x y (by omega) (by omega) w).mono ?_
 rintro e w' ⟨rfl,rfl⟩
 refine ⟨_,Z,U,[],hS,?_,Z⟩
 simp
 cases hm
theorem wEM (p0:List Int) (aX:Option Addr) (aY:Nat) (p1:Int) (w:World) (U:PHeap) (hS:St0 w U []) (cg:Sl U 1 aX aY p0.length (nA KL.encI p0)) {r:(List Int)} (hm:wBW p0 p1=some r):Gv Tryz.prog 55 [.slice aX p0.length aY,jV p1] w (wBc w [] U (fun U_ L_ v=>∃ (A0:Option Addr) (c0:Nat),v=.slice A0 r.length c0/\L_=[.row A0 c0 3 1 (nA KL.encI r)])):=by
 unfold wBW at hm
 refine Gv.of Tryz.func55 Z Tryz.ntmps55 Tryz.results55 Z (sR fL1 Z (oA Z Z (eN (zJ (sR fL2 Z (oM Z Z (oR Z (zV Z Z Z) (eN ?_))))))))
 by_cases c1:p1 < 0
 have bp:=hm;rw [if_pos c1] at bp;replace c1:=zH c1
 refine cT Z c1 (rR gBt Z ?_)
 cases bp
 have bs:=hm;rw [if_neg c1] at bs;replace c1:=zH c1
 refine cF Z c1 (kN (sR (wGw (.fx 5 (wWT (.nil)) .stop)) Z (oM Z Z (oR Z (zn Z Z zD) (oR Z (Runs.cv64 Z Z yY Tryz.runUnderlying174 Z Z) (oM Z Z (oR Z (Runs.cv64 Z Z yY Tryz.runUnderlying174 Z Z) ?_)))))))
 have q:=bnd bs
 obtain ⟨⟨x4,x5⟩,h6,bu⟩:=q
 try dsimp only at bu
 refine zL 0 Z Z Z Z (zK Z Z Tryz.call85 (zB Z (zB Z zM)) Z) hS (fun hs=>wIh (wQW (↑p0.length:Int)) (wQW p1) w U hs h6) (.inr Z) ?_
 rintro U8 L9 cN bE cD bV ⟨rfl,rfl⟩
 have bh:sW w U U8 [] bE:=bV
 refine oM Z Z (oR Z (zw Z Z (v:=.int .u64 x4) Z) (oR Z (zw Z Z (v:=.int .u64 x5) Z) (oA Z Z (oA Z Z (eN (zJ (bnK bu fun bI bB ct=>yP (fun σ_ w_=>∃ (U_:PHeap),σ_ 0=.slice aX p0.length aY/\σ_ 6=.int .u64 x5/\σ_ 26=.bool bI/\PHeap.Le U8 U_/\sW w U U_ [] w_) ?_ ?_)))))))
 refine rR fL6 Z (oM Z Z (oR Z (yG Z Z Z) (oM Z Z ?_)))
 by_cases ae:0 < x4
 have bq:=bB;rw [if_pos ae] at bq;replace ae:=zH ae
 refine oT Z ae (oT Z ae (oR Z (zb Z (ZU ae.out) Z) (zd ?_)))
 cases bq
 exact zI ⟨Z,⟨U8,Z,Z,Z,(zN _),bh⟩⟩
 have br:=bB;rw [if_neg ae] at br;replace ae:=zH ae
 refine zX Z Z Z (wF Z ae) Z Z (rU Z (wF Z ae) (yG Z Z Z) (oR Z (zi Z (ZT ae.out) Z) (zd ?_)))
 have q:=nE br
 obtain rfl:=q
 exact zI ⟨Z,⟨U8,Z,Z,Z,(zN _),bh⟩⟩
 rintro cP cJ ⟨an,bK,bL,be,cE,bW⟩
 refine ifc ct ?_ ?_
 intro av cu
 refine zo (be.trans (congrArg nB av.out)) (rR gBt Z ?_)
 cases cu
 intro av cw
 refine zu (be.trans (congrArg nB (nD.2 av.out))) (kN (sR gCm Z (oM Z bL (oR Z (Runs.cvw Z Z Tryz.runUnderlying174 yY Z Z) (bnK cw fun aa bM cx=>OKS.makeSlice (enc:=KL.encI) (z:=(0:Int)) (v:=jV 0) Z Z Z Z Z (wDa zD) wId Z Z Z Z Z Z bM bW ?_)))))
 intro bF ab bX
 have bi:sW w U an [.row (some ⟨ab,0,none⟩) aa.length 3 1 (nA KL.encI aa)] bF:=bX
 refine oA Z Z (eN (sR gCm Z (oM Z Z (oM Z bK ?_))))
 have bN:=cg.le cD
 have bO:=bN.le cE
 refine bnK cx fun x45 bP cy=>OKS.copyM (j:=0) (f:=KL.encI) (m:=aa) (ys:=p0) (z:=x45) (a:=0) (n:=aa.length) rfl rfl rfl rfl rfl rfl zD zC bi rfl (fun _=>rfl) (fun _=>rfl) rfl bP rfl (by simp) (.inr (by simp)) rfl (bi.srcS bO) rfl ?_
 intro bG bY bm
 have bZ:sW w U an [.row (some ⟨ab,0,none⟩) aa.length 3 1 (nA KL.encI x45)] bG:=bY
 refine oA Z Z (eN (zJ (zS (yr (fun (ag,x59) σ_ w_=>∃ (U_:PHeap),σ_ 7=.slice (some ⟨ab,0,none⟩) ag.length aa.length/\σ_ 8=jV x59/\PHeap.Le an U_/\sW w U U_ [.row (some ⟨ab,0,none⟩) aa.length 3 1 (nA KL.encI ag)] w_/\ag.length=aa.length) cy ?_ ?_))))
 exact ⟨an,(Eq.trans (b:=(.slice (some ⟨ab,0,none⟩) aa.length aa.length:Value)) (c:=(.slice (some ⟨ab,0,none⟩) x45.length aa.length:Value)) rfl (by rw [bm])),rfl,(zN _),bZ,bm⟩
 rintro ⟨ag,x59⟩ cO cQ ba ⟨au,ak,ap,cG,bj,bR⟩ aW cp
 try dsimp only at aW
 refine zJ (sR fL4 Z (oM Z ap (oM Z ak (oR Z (zn Z Z zD) (oR Z (zV Z Z Z) (eN ?_))))))
 by_cases ai:x59 < (↑ag.length:Int)
 have bw:=aW;rw [if_pos ai] at bw;replace ai:=zH ai
 refine cT Z ai (kN (zS (ZO zz [3,3,3,3,3,3,3,0,3,3] (wMT gCc) (by kernel_rfl) ?_)))
 have am:=bj.drew
 generalize hw_W76:({ ba with drawn:=ba.drawn + 1 }:World)=cK at am ⊢
 refine oM Z ap (oM Z ak (oM Z ap (bnK bw fun x77 bS cz=>?_)))
 have q:=wII bS
 obtain ⟨ci,cm,az,cL,aV⟩:=q
 have bz:=am.rowCap (j:=0) rfl (by decide) (wAC (f:=KL.encI) (sz:=1) (fun _=>rfl) ag)
 refine zY (v:=.slice (if aa.length=(x59:Int).toNat then (some ⟨ab,0,none⟩) else Option.map (fun q:Addr=>q.add ((x59:Int).toNat * 1)) ((some ⟨ab,0,none⟩):Option Addr)) x77.length (aa.length - (x59:Int).toNat)) rfl rfl rfl rfl (fun _=>zt (Runs.slc (sz:=1) (a:=x59) (b:=(↑(ag.length):Int)) rfl rfl (.inl ⟨_,rfl,rfl⟩) (.inr ⟨rfl,rfl⟩) zD zC ci cm az bz) (by rw [aV])) (zX rfl rfl rfl rfl rfl ak (zX rfl rfl rfl rfl rfl ap (bnK cz fun x86 bg cA=>?_)))
 have q:=wII bg
 obtain ⟨cj,cn,cq,cM,cC⟩:=q
 have bA:=am.rowCap (j:=0) rfl (by decide) (wAC (f:=KL.encI) (sz:=1) (fun _=>rfl) ag)
 refine zY (v:=.slice (if aa.length=(0:Int).toNat then (some ⟨ab,0,none⟩) else Option.map (fun q:Addr=>q.add ((0:Int).toNat * 1)) ((some ⟨ab,0,none⟩):Option Addr)) x86.length (aa.length - (0:Int).toNat)) rfl rfl rfl rfl (fun _=>zt (Runs.slc (sz:=1) (a:=0) (b:=x59) rfl rfl (.inr ⟨rfl,rfl⟩) (.inl ⟨_,rfl,rfl⟩) zD zC cj cn cq bA) (by rw [cC])) (bnK cA fun x95 bT cB=>OKS.copyM (j:=0) (f:=KL.encI) (m:=ag) (ys:=x86) (z:=x95) (a:=x59) (n:=x77.length) rfl rfl rfl rfl rfl rfl zD zC am rfl (fun _=>rfl) (fun _=>rfl) rfl bT rfl (by have:=aV;have:=az;omega) (cutA rfl (by have:=aV;have:=az;have:=bz;omega)) rfl (am.srcCut (f:=KL.encI) (j:=0) rfl (fun _=>rfl) rfl bg bA) rfl ?_)
 intro bH cd bk
 have bU:sW w U au [.row (some ⟨ab,0,none⟩) aa.length 3 1 (nA KL.encI x95)] bH:=cd
 refine oR Z (zU Z Z Z) (oA Z Z (zd (zf ?_)))
 have q:=nE cB
 obtain rfl:=q
 exact zI ⟨rfl,_,rfl,⟨au,(Eq.trans (b:=(.slice (some ⟨ab,0,none⟩) ag.length aa.length:Value)) (c:=(.slice (some ⟨ab,0,none⟩) x95.length aa.length:Value)) ak (by rw [bk])),rfl,cG,bU,(bk.trans bR)⟩⟩
 have bn:=aW;rw [if_neg ai] at bn;replace ai:=zH ai
 refine cF Z ai (ZH (zZ ?_))
 have q:=wAc bn
 obtain ⟨cH,cr,bJ⟩:=q
 have q:=cp cH bJ
 obtain rfl:=q
 refine zZ (zx (zI (sR fL2 Z (oM Z ak (oA Z Z (eN (zP ?_)))))))
 have hE:=nE cr;first | subst r | cases hE
 exact ⟨Z,_,(zm Z),au,_,bj,(some ⟨ab,0,none⟩),aa.length,Z,Z⟩
theorem wFR (p0:wAx) (ba:Nat) (cG:Option Addr) (cK:Nat) (cH:Option Addr) (cL:Nat) (cI:Option Addr) (cM:Nat) (cJ:Option Addr) (cN:Nat) (aa:Nat) (ae:Array MapEntry) (ag:Nat) (bB:Option Addr) (bC:Nat) (p1:Int) (p2:Bool) (w:World) (U:PHeap) (hS:St0 w U [.blk ba 105 [.slice cG p0.Race.Starts.length cK,.slice cH p0.Race.Splits.length cL,.slice cI p0.Race.Clocks.length cM,.slice cJ p0.Race.Readings.length cN,.map (some aa),.slice bB p0.edges.length bC],.obj aa (.map ae ag)]) (qe:Sl U 1 cG cK p0.Race.Starts.length (nA KL.encI p0.Race.Starts)) (qf:Sl U 2 cH cL p0.Race.Splits.length (nA wAP p0.Race.Splits)) (qh:Sl U 3 cI cM p0.Race.Clocks.length (nA wAB p0.Race.Clocks)) (qi:Sl U 4 cJ cN p0.Race.Readings.length (nA wAM p0.Race.Readings)) (dG:MpR ae wEK wEV p0.number) (mb:Sl U 7 bB bC p0.edges.length (nA wAe p0.edges)) {r:wDr × Int × Bool} (hm:wBN p0 p1 p2=some r):Gv Tryz.prog 30 [.pointer (some ⟨ba,0,none⟩),jV p1,.bool p2] w (wBc w [.blk ba 105 [.slice cG p0.Race.Starts.length cK,.slice cH p0.Race.Splits.length cL,.slice cI p0.Race.Clocks.length cM,.slice cJ p0.Race.Readings.length cN,.map (some aa),.slice bB p0.edges.length bC],.obj aa (.map ae ag)] U (fun U_ L_ v=>∃ (dS:Option Addr) (eQ:Nat) (dT:Option Addr) (eU:Nat),v=.tuple #[.agg #[.slice dS r.1.far.length eQ,.slice dT r.1.by_.length eU],jV r.2.1,.bool r.2.2]/\L_=[.row dS eQ 3 1 (nA KL.encI r.1.far),.row dT eU 3 1 (nA KL.encI r.1.by_),.blk ba 105 [.slice cG p0.Race.Starts.length cK,.slice cH p0.Race.Splits.length cL,.slice cI p0.Race.Clocks.length cM,.slice cJ p0.Race.Readings.length cN,.map (some aa),.slice bB p0.edges.length bC],.obj aa (.map ae ag)])):=by
 unfold wBN at hm
 refine Gv.of Tryz.func30 Z Tryz.ntmps30 Tryz.results30 Z (sR gCa Z ?_)
 let B0:List Value:=[.slice none 0 0,.slice none 0 0]
 refine zg (cs:=B0) Z Z Z Z Z Tryz.zeroValue107 Z hS ?_
 intro W3 b4 lC
 refine oA Z Z (oA Z Z (eN ?_))
 have q:=bnd hm
 obtain ⟨⟨l9,bH⟩,oc,f7⟩:=q
 try dsimp only at f7
 let B1:Res:=.blk ba 105 [.slice cG p0.Race.Starts.length cK,.slice cH p0.Race.Splits.length cL,.slice cI p0.Race.Clocks.length cM,.slice cJ p0.Race.Readings.length cN,.map (some aa),.slice bB p0.edges.length bC]
 refine yP (fun σ_ w_=>∃ (U_:PHeap) (b8:Nat) (an:Option Addr) (ao:Nat) (ap:Option Addr) (aq:Nat),σ_ 0=.pointer (some ⟨ba,0,none⟩)/\σ_ 1=jV p1/\σ_ 2=.bool p2/\σ_ 6=.pointer (some ⟨b4,0,none⟩)/\σ_ 9=.pointer (some ⟨b8,0,none⟩)/\PHeap.Le U U_/\SW w [B1,.obj aa (.map ae ag)] U U_ [.blk b4 107 B0,B1,.obj aa (.map ae ag),.blk b8 107 [.slice an l9.length ao,.slice ap bH.length aq],.row an ao 3 1 (nA KL.encI l9),.row ap aq 3 1 (nA KL.encI bH)] w_) ?_ ?_
 refine bnK oc fun x28 jC mV=>bnK mV fun bR jE mW=>CK.webp (U0:=U) (L0:=[.blk b4 107 B0,B1,.obj aa (.map ae ag)]) zz [⟨some 16,[16],[],false,[],true,[],fun σ R=>∃ cV,σ 16=.slice (some ⟨cV,0,none⟩) 1 1/\R=[.row (some ⟨cV,0,none⟩) 1 3 1 (nA KL.encI [1125899906842624])]⟩,pW 17 [] (.pointer (some ⟨ba,0,none⟩)),pW 18 [1] (.pointer (some ⟨ba,0,none⟩)),pW 19 [2] (.pointer (some ⟨ba,4,none⟩)),pW 20 [3] (.map (some aa)),pW 21 [4] (jV (↑(p0.number.length):Int)),⟨some 22,[22],[5],false,[0],true,[],fun σ R=>∃ bi bp,σ 22=.slice bi x28.length bp/\R=[.row bi bp 3 1 (nA KL.encI x28)]⟩,⟨some 23,[23],[],false,[],true,[],fun σ R=>∃ cU,σ 23=.slice (some ⟨cU,0,none⟩) 1 1/\R=[.row (some ⟨cU,0,none⟩) 1 3 1 (nA KL.encI [-1])]⟩,pW 24 [] (.pointer (some ⟨ba,0,none⟩)),pW 25 [8] (.pointer (some ⟨ba,0,none⟩)),pW 26 [9] (.pointer (some ⟨ba,4,none⟩)),pW 27 [10] (.map (some aa)),pW 28 [11] (jV (↑(p0.number.length):Int)),⟨some 29,[29],[12],false,[7],true,[],fun σ R=>∃ bj bq,σ 29=.slice bj bR.length bq/\R=[.row bj bq 3 1 (nA KL.encI bR)]⟩,⟨some 30,[30],[],true,[6,13],false,[],fun σ R=>∃ bi bp bj bq,σ 30=.agg #[.slice bi x28.length bp,.slice bj bR.length bq]/\R=[.row bi bp 3 1 (nA KL.encI x28),.row bj bq 3 1 (nA KL.encI bR)]⟩,⟨some 9,[9],[],false,[],false,[],fun σ R=>∃ cm,σ 9=.pointer (some ⟨cm,0,none⟩)/\R=[.blk cm 107 B0]⟩] [false] [(0,.pointer (some ⟨ba,0,none⟩)),(1,jV p1),(2,.bool p2),(6,.pointer (some ⟨b4,0,none⟩))] (by kernel_rfl) ⟨rfl,rfl,rfl,rfl,trivial⟩ lC ⟨?_,?_,?_,?_,?_,?_,?_,?_,?_,?_,?_,?_,?_,?_,?_,?_,trivial⟩ ?_
 rintro _ _ _ gG gE _ _ _ _ rfl jU oh
 refine ZL (pv:=[(0,jV 1125899906842624)]) (zs:=[jV 0]) (cs:=[jV 1125899906842624]) Z Z Z Z Z (wAG Z wAZ) zD zC ZW Z Z Z Z Z jU ?_
 intro gN eM jW
 have jX:SW w [B1,.obj aa (.map ae ag)] U gG (.row (some ⟨eM,0,none⟩) 1 3 1 (nA KL.encI [1125899906842624]) :: .blk b4 107 B0 :: B1 :: .obj aa (.map ae ag) :: gE) gN:=jW
 exact oh _ _ _ _ (zN _) jX ⟨eM,Z,Z⟩
 refine wpW ?_
 rintro _ _ _ _ _ ⟨g6,_⟩ _ _ _ oi
 exact oM Z g6 oi
 refine wpW ?_
 rintro _ _ _ _ _ _ _ ⟨⟨_,⟨jl,_⟩⟩,_⟩ _ oj
 exact oR Z (Zd Z jl) oj
 refine wpW ?_
 rintro _ _ _ _ _ _ _ ⟨⟨_,⟨jm,_⟩⟩,_⟩ _ ol
 exact oR Z (zF Z jm ZX Z yX) ol
 refine wpW ?_
 rintro _ _ _ _ _ _ _ ⟨⟨_,⟨jo,_⟩⟩,_⟩ jY om
 exact oL Z (jY.ldB (j:=1) Z Z jo yb (v:=.map (some aa)) Z) om
 refine wpW ?_
 rintro _ _ _ _ _ _ _ ⟨⟨_,⟨jp,_⟩⟩,_⟩ jZ oq
 exact oL Z (jZ.lenM (j:=2) (mk:=wEK) (mv:=wEV) Z Z jp (wDa Zm) dG) oq
 rintro _ _ eu _ dZ _ _ _ ⟨⟨_,⟨jr,_⟩⟩,_⟩ ⟨_,_,⟨cV,jq,rfl⟩,rfl,rfl⟩ j0 ot
 have q:=j0.freezeR (k:=0) (n:=[1125899906842624].length) rfl (wAC (f:=KL.encI) (sz:=1) (fun _=>rfl) [1125899906842624]) (by decide)
 obtain ⟨d7,oO,n9,j3⟩:=q
 have j4:SW w [B1,.obj aa (.map ae ag)] U d7 (.blk b4 107 B0 :: B1 :: .obj aa (.map ae ag) :: dZ) eu:=j3
 refine zL 0 Z Z Z Z (zK Z Z Tryz.call55 (zB jq (zB jr zM)) Z) j4 (fun hs=>wEM [1125899906842624] (some ⟨cV,0,none⟩) 1 (↑(p0.number.length):Int) eu d7 hs n9 jC) (.inr Z) ?_
 rintro gH pf qn gO oP j5 ⟨dU,eV,rfl,rfl⟩
 have j6:SW w [B1,.obj aa (.map ae ag)] U gH (.row dU eV 3 1 (nA KL.encI x28) :: .blk b4 107 B0 :: B1 :: .obj aa (.map ae ag) :: dZ) gO:=j5
 exact ot _ _ _ _ (oO.trans oP) j6 ⟨dU,eV,Z,Z⟩
 rintro _ _ _ gI gF _ _ _ _ rfl j7 ou
 refine ZL (pv:=[(0,jV (-1))]) (zs:=[jV 0]) (cs:=[jV (-1)]) Z Z Z Z Z (wAG Z wAZ) zD zC ZW Z Z Z Z Z j7 ?_
 intro gP eO j8
 have j9:SW w [B1,.obj aa (.map ae ag)] U gI (.row (some ⟨eO,0,none⟩) 1 3 1 (nA KL.encI [-1]) :: .blk b4 107 B0 :: B1 :: .obj aa (.map ae ag) :: gF) gP:=j8
 exact ou _ _ _ _ (zN _) j9 ⟨eO,Z,Z⟩
 refine wpW ?_
 rintro _ _ _ _ _ ⟨g7,_⟩ _ _ _ ow
 exact oM Z g7 ow
 refine wpW ?_
 rintro _ _ _ _ _ _ _ ⟨⟨_,⟨jt,_⟩⟩,_⟩ _ oy
 exact oR Z (Zd Z jt) oy
 refine wpW ?_
 rintro _ _ _ _ _ _ _ ⟨⟨_,⟨ju,_⟩⟩,_⟩ _ oz
 exact oR Z (zF Z ju ZX Z yX) oz
 refine wpW ?_
 rintro _ _ _ _ _ _ _ ⟨⟨_,⟨jv,_⟩⟩,_⟩ k6 oB
 exact oL Z (k6.ldB (j:=1) Z Z jv yb (v:=.map (some aa)) Z) oB
 refine wpW ?_
 rintro _ _ _ _ _ _ _ ⟨⟨_,⟨jw,_⟩⟩,_⟩ k8 oG
 exact oL Z (k8.lenM (j:=2) (mk:=wEK) (mv:=wEV) Z Z jw (wDa Zm) dG) oG
 rintro _ _ ew _ d5 _ _ _ ⟨⟨_,⟨jy,_⟩⟩,_⟩ ⟨_,_,⟨cU,jx,rfl⟩,rfl,rfl⟩ k9 oH
 have q:=k9.freezeR (k:=0) (n:=[-1].length) rfl (wAC (f:=KL.encI) (sz:=1) (fun _=>rfl) [-1]) (by decide)
 obtain ⟨d9,oU,oa,lc⟩:=q
 have lf:SW w [B1,.obj aa (.map ae ag)] U d9 (.blk b4 107 B0 :: B1 :: .obj aa (.map ae ag) :: d5) ew:=lc
 refine zL 0 Z Z Z Z (zK Z Z Tryz.call55 (zB jx (zB jy zM)) Z) lf (fun hs=>wEM [-1] (some ⟨cU,0,none⟩) 1 (↑(p0.number.length):Int) ew d9 hs oa jE) (.inr Z) ?_
 rintro gJ pg qo gQ oW lg ⟨dV,eW,rfl,rfl⟩
 have lh:SW w [B1,.obj aa (.map ae ag)] U gJ (.row dV eW 3 1 (nA KL.encI bR) :: .blk b4 107 B0 :: B1 :: .obj aa (.map ae ag) :: d5) gQ:=lg
 exact oH _ _ _ _ (oU.trans oW) lh ⟨dV,eW,Z,Z⟩
 rintro _ _ _ _ _ _ _ _ _ ⟨_,_,⟨bi,bp,jA,rfl⟩,⟨_,_,⟨bj,bq,jz,rfl⟩,rfl,rfl⟩,rfl⟩ li oI
 exact oR Z (ZN (pv:=[(0,.slice bi x28.length bp),(1,.slice bj bR.length bq)]) (z:=B0) (cs:=[.slice bi x28.length bp,.slice bj bR.length bq]) Z (wAG jA (wAG jz wAZ)) Tryz.zeroValue107 wPb Z Z) (oI _ _ _ _ (zN _) li ⟨bi,bp,bj,bq,Z,Z⟩)
 rintro _ _ _ _ _ _ _ _ _ rfl lj oK
 refine zg (cs:=B0) Z Z Z Z Z Tryz.zeroValue107 Z lj ?_
 intro pj gU lm
 exact oK _ _ _ _ (zN _) lm ⟨gU,Z,Z⟩
 rintro pe ey dh ⟨g8,g9,ib,ic,_⟩ oX _ _ _ ⟨pU,rfl⟩ _ ⟨pV,rfl⟩ _ ⟨pY,rfl⟩ _ ⟨pZ,rfl⟩ _ ⟨p6,rfl⟩ _ _ _ _ _ ⟨p7,rfl⟩ _ ⟨p8,rfl⟩ _ ⟨p9,rfl⟩ _ ⟨qa,rfl⟩ _ ⟨qb,rfl⟩ _ _ _ ⟨bi,bp,bj,bq,jB,rfl⟩ _ ⟨cm,fL,rfl⟩ ln
 let B2:Res:=.row bi bp 3 1 (nA KL.encI x28)
 let B3:Res:=.row bj bq 3 1 (nA KL.encI bR)
 have lq:SW w [B1,.obj aa (.map ae ag)] U dh [.blk cm 107 B0,B2,B3,.blk b4 107 B0,B1,.obj aa (.map ae ag)] ey:=ln
 show OKS _ _ _ _ _ _ (.fx 16 .nil .stop) pe ey
 let B4:List Value:=[.slice bi x28.length bp,.slice bj bR.length bq]
 refine zh (j:=0) (vs:=B4) Z Z Z Z lq Z fL jB Z yc (zA Z) Z Z Z ?_
 intro gR ls
 have lu:SW w [B1,.obj aa (.map ae ag)] U dh [.blk cm 107 B4,B2,B3,.blk b4 107 B0,B1,.obj aa (.map ae ag)] gR:=ls
 refine zd ?_
 cases mW
 exact zI ⟨rfl,⟨dh,cm,bi,bp,bj,bq,g8,g9,ib,ic,fL,oX,(lu.pick [3,4,5,0,1,2] _ (by decide) rfl)⟩⟩
 rintro qv pk ⟨ef,b8,an,ao,ap,aq,ie,ig,ii,ij,fb,oY,fT⟩
 refine zJ (sR fL4 Z (oR Z (zF Z fb ZS Z zk) (oL Z (fT.ldB (j:=3) Z Z Z zr (v:=.slice an l9.length ao) Z) (oR Z (zn Z Z zD) (oM Z Z (eN (zS (bnK f7 fun qt mf dO=>?_))))))))
 have q:=wBM mf
 obtain ⟨dL,mg⟩:=q
 replace dL:=zH dL
 let B5:Res:=.row ap aq 3 1 (nA KL.encI bH)
 refine CK.forN' (fun bF bb σ_ w_=>∃ (U_:PHeap),σ_ 34=jV (↑bF:Int)/\σ_ 0=.pointer (some ⟨ba,0,none⟩)/\σ_ 1=jV p1/\σ_ 2=.bool p2/\σ_ 6=.pointer (some ⟨b4,0,none⟩)/\σ_ 9=.pointer (some ⟨b8,0,none⟩)/\σ_ 33=jV (↑l9.length:Int)/\PHeap.Le ef U_/\SW w [B1,.obj aa (.map ae ag)] U U_ [.blk b4 107 B0,B1,.obj aa (.map ae ag),.row an ao 3 1 (nA KL.encI bb),B5,.blk b8 107 [.slice an bb.length ao,.slice ap bH.length aq]] w_/\bb.length=l9.length) mg ?_ ?_ ?_
 exact ⟨ef,rfl,ie,ig,ii,ij,fb,rfl,(zN _),(fT.pick [0,1,2,4,5,3] _ (by decide) rfl),rfl⟩
 rintro bF bb qp qw pn dI ⟨bX,cD,dw,cz,dx,dy,cA,cW,dR,cg,dA⟩ gq
 have eX:Hid ((↑bF:Int) < (↑l9.length:Int)):=zH (wBG dI)
 replace dI:=zH dI
 have dH:Hid (w64 ((↑bF:Int) + 1)=(↑(bF + 1):Int)):=zH (by have h1:=dL.out;have h2:=eX.out;rw [wAX] <;> omega)
 refine sR fL1 Z (oR Z (zV Z cD cW) (eN (zJ (cT Z eX (kN (zJ (zS (sR fL2 Z (oM Z cD (oA Z Z (eN (sR fL7 Z (oM Z cz (oR Z (zV Z Z Z) (oM Z Z ?_)))))))))))))))
 by_cases be:p1 < 0
 have f9:=gq;rw [if_pos be] at f9;replace be:=zH be
 refine oT Z be (oT Z be (oT Z be (oR Z (zb Z (ZU be.out) Z) (eN (zo Z (rR (wDo (.fx 4 .nil .stop)) Z (oR Z (zF Z cA ZS Z zk) (oL Z (cg.ldB (j:=5) Z Z Z zr (v:=.slice an bb.length ao) Z) (oM Z Z (bnK f9 fun _ c8 mL=>?_))))))))))
 have q:=cg.rowSome (j:=3) rfl (by rw [wAC (f:=KL.encI) (sz:=1) (fun _=>rfl) bb];have hz:=wAT c8;omega)
 obtain ⟨pG,fN⟩:=q
 refine oR Z (ZV Z Z fN Z zD zC (wAT c8)) ?_
 have mn:=wBb (xs:=bb) (wAT c8)
 refine yd (j:=3) (vs:=[jV 0]) (cs':=nA KL.encI (nK bb bF 0)) rfl rfl rfl rfl cg rfl fN rfl rfl rfl zC (by rw [wAC (f:=KL.encI) (sz:=1) (fun _=>rfl)];have hz:=wAT c8;show _ + 1 <= _;first | omega | (simp only [nJ];omega) | (simp only [nI,nG,nH];omega)) rfl (wCo (sz:=1) (fo:=0) (fun _=>rfl) _ _ _ _ mn (by first | omega | (simp only [nJ];omega) | (simp only [nI,nG,nH];omega)) (zA rfl) rfl) rfl ?_
 intro ez lv
 let B6:Res:=.row an ao 3 1 (nA KL.encI (nK bb bF 0))
 have lw:SW w [B1,.obj aa (.map ae ag)] U bX [.blk b4 107 B0,B1,.obj aa (.map ae ag),B6,B5,.blk b8 107 [.slice an bb.length ao,.slice ap bH.length aq]] ez:=lv
 have lx:SW w [B1,.obj aa (.map ae ag)] U bX [.blk b4 107 B0,B1,.obj aa (.map ae ag),B6,B5,.blk b8 107 [.slice an ((nK bb bF 0).length) ao,.slice ap bH.length aq]] ez:=by simpa only [B0,B1,B5,B6,nL] using lw
 refine zd (zf (zI (rR fL2 Z (oR Z (zt (zU Z cD Z) (congrArg (jV) dH.out)) (oM Z Z (zd ?_))))))
 cases mL
 exact zI ⟨Z,⟨bX,Z,dw,cz,dx,dy,cA,cW,dR,lx,(nL.trans dA)⟩⟩
 have ga:=gq;rw [if_neg be] at ga;replace be:=zH be
 refine zX Z Z Z (wF Z be) Z Z (zX Z Z Z (wF Z be) Z cz (rU Z (wF Z be) (yO Z Z Z) (oR Z (zi Z (ZT be.out) Z) (eN (ifc ga ?_ ?_)))))
 intro dq mM
 refine cT Z dq (rR (wDo (.fx 4 .nil .stop)) Z (oR Z (zF Z cA ZS Z zk) (oL Z (cg.ldB (j:=5) Z Z Z zr (v:=.slice an bb.length ao) Z) (oM Z Z (bnK mM fun _ da mN=>?_)))))
 have q:=cg.rowSome (j:=3) rfl (by rw [wAC (f:=KL.encI) (sz:=1) (fun _=>rfl) bb];have hz:=wAT da;omega)
 obtain ⟨pH,fO⟩:=q
 refine oR Z (ZV Z Z fO Z zD zC (wAT da)) ?_
 have mo:=wBb (xs:=bb) (wAT da)
 refine yd (j:=3) (vs:=[jV 0]) (cs':=nA KL.encI (nK bb bF 0)) rfl rfl rfl rfl cg rfl fO rfl rfl rfl zC (by rw [wAC (f:=KL.encI) (sz:=1) (fun _=>rfl)];have hz:=wAT da;show _ + 1 <= _;first | omega | (simp only [nJ];omega) | (simp only [nI,nG,nH];omega)) rfl (wCo (sz:=1) (fo:=0) (fun _=>rfl) _ _ _ _ mo (by first | omega | (simp only [nJ];omega) | (simp only [nI,nG,nH];omega)) (zA rfl) rfl) rfl ?_
 intro eA ly
 let B7:Res:=.row an ao 3 1 (nA KL.encI (nK bb bF 0))
 have lz:SW w [B1,.obj aa (.map ae ag)] U bX [.blk b4 107 B0,B1,.obj aa (.map ae ag),B7,B5,.blk b8 107 [.slice an bb.length ao,.slice ap bH.length aq]] eA:=ly
 have lB:SW w [B1,.obj aa (.map ae ag)] U bX [.blk b4 107 B0,B1,.obj aa (.map ae ag),B7,B5,.blk b8 107 [.slice an ((nK bb bF 0).length) ao,.slice ap bH.length aq]] eA:=by simpa only [B0,B1,B5,B7,nL] using lz
 refine zd (zf (zI (rR fL2 Z (oR Z (zt (zU Z cD Z) (congrArg (jV) dH.out)) (oM Z Z (zd ?_))))))
 cases mN
 exact zI ⟨Z,⟨bX,Z,dw,cz,dx,dy,cA,cW,dR,lB,(nL.trans dA)⟩⟩
 intro dq mO
 refine cF Z dq (Ze (zf (zI (rR fL2 Z (oR Z (zt (zU Z cD Z) (congrArg (jV) dH.out)) (oM Z Z (zd ?_)))))))
 cases mO
 exact zI ⟨Z,⟨bX,Z,dw,cz,dx,dy,cA,cW,dR,cg,dA⟩⟩
 rintro qx po ⟨eh,ji,fc,pP,il,im,io,ip,o0,dB,jD⟩
 have gW:Hid (¬ ((↑(((↑l9.length:Int):Int) - 0).toNat:Int) < (↑l9.length:Int))):=zH (wAq)
 refine sR fL1 Z (oR Z (zV Z ji ip) (eN (zJ (cF Z gW (ZH (zZ (zZ (zx (zI (sR fL1 Z (oA Z Z (eN (zJ (sR fL7 Z (oM Z fc (oR Z (Zd Z Z) (oR Z (zF Z Z ZX Z yX) (oL Z (dB.ldB (j:=1) Z Z Z yb (v:=.map (some aa)) Z) (oL Z (dB.lenM (j:=2) (mk:=wEK) (mv:=wEV) Z Z Z (wDa Zm) dG) (oR Z (zU Z Z Z) (oM Z Z (eN (zS ?_)))))))))))))))))))))))
 have q:=wCT dO
 obtain ⟨qm,dF⟩:=q
 have q:=wCS dF
 obtain ⟨dM,mh⟩:=q
 replace dM:=zH dM
 refine yQ (fun bG (db,de,gy) σ_ w_=>∃ (U_:PHeap),σ_ 55=jV (↑bG:Int)/\σ_ 0=.pointer (some ⟨ba,0,none⟩)/\σ_ 2=.bool p2/\σ_ 6=.pointer (some ⟨b4,0,none⟩)/\σ_ 9=.pointer (some ⟨b8,0,none⟩)/\σ_ 11=jV gy/\σ_ 54=jV (w64 ((↑(p0.number.length):Int) + 1))/\PHeap.Le eh U_/\SW w [B1,.obj aa (.map ae ag)] U U_ [.blk b4 107 B0,B1,.obj aa (.map ae ag),.row an ao 3 1 (nA KL.encI db),.row ap aq 3 1 (nA KL.encI de),.blk b8 107 [.slice an db.length ao,.slice ap de.length aq]] w_/\db.length=l9.length/\de.length=bH.length) mh ?_ ?_ ?_
 exact ⟨eh,Z,fc,il,im,io,Z,Z,(zN _),dB,jD,Z⟩
 rintro bG ⟨db,de,gy⟩ qq qy pp dJ ⟨en,fK,fd,iq,ir,it,pQ,ff,gv,fU,jG,jH⟩ gt md
 try dsimp only at gt
 have eY:Hid ((↑bG:Int) < (w64 ((↑(p0.number.length):Int) + 1))):=zH (wBG dJ)
 replace dJ:=zH dJ
 have mJ:Hid (w64 ((↑bG:Int) + 1)=(↑(bG + 1):Int)):=zH (by have h1:=dM.out;have h2:=eY.out;rw [wAX] <;> omega)
 refine sR fL1 Z (oR Z (zV Z fK ff) (eN (zJ (cT Z eY (kN (zJ (zS (sR fL1 Z (oA Z Z (eN (zJ (sR fL6 Z (oM Z fd (oR Z (Zd Z Z) (oR Z (zF Z Z ZX Z Tryz.sizeOf103) (oL Z (fU.ldB (j:=1) Z Z Z Tryz.isAgg103 (v:=.slice bB p0.edges.length bC) Z) (oR Z (zn Z Z Tryz.runUnderlying103) (oM Z Z (eN (zS ?_))))))))))))))))))))
 have q:=bnd gt
 obtain ⟨⟨gA,gB,qu⟩,mi,ge⟩:=q
 try dsimp only at ge
 have q:=wBM mi
 obtain ⟨dN,mj⟩:=q
 replace dN:=zH dN
 refine CK.forN' (fun aY (aj,az,gz) σ_ w_=>∃ (U_:PHeap),σ_ 62=jV (↑aY:Int)/\σ_ 0=.pointer (some ⟨ba,0,none⟩)/\σ_ 2=.bool p2/\σ_ 6=.pointer (some ⟨b4,0,none⟩)/\σ_ 9=.pointer (some ⟨b8,0,none⟩)/\σ_ 11=jV gz/\σ_ 54=jV (w64 ((↑(p0.number.length):Int) + 1))/\σ_ 55=jV (↑bG:Int)/\σ_ 60=.slice bB p0.edges.length bC/\σ_ 61=jV (↑p0.edges.length:Int)/\PHeap.Le en U_/\SW w [B1,.obj aa (.map ae ag)] U U_ [.blk b4 107 B0,B1,.obj aa (.map ae ag),.row an ao 3 1 (nA KL.encI aj),.row ap aq 3 1 (nA KL.encI az),.blk b8 107 [.slice an aj.length ao,.slice ap az.length aq]] w_/\aj.length=l9.length/\az.length=bH.length) mj ?_ ?_ ?_
 exact ⟨en,Z,fd,iq,ir,it,Z,ff,fK,Z,Z,(zN _),fU,jG,jH⟩
 rintro aY ⟨aj,az,gz⟩ qr qz pq dK ⟨aW,bO,cn,bY,cp,bu,cX,cq,cr,bZ,cd,gw,fV,ct,cu⟩ gu
 try dsimp only at gu
 have eZ:Hid ((↑aY:Int) < (↑p0.edges.length:Int)):=zH (wBG dK)
 replace dK:=zH dK
 have mK:Hid (w64 ((↑aY:Int) + 1)=(↑(aY + 1):Int)):=zH (by have h1:=dN.out;have h2:=eZ.out;rw [wAX] <;> omega)
 refine sR fL1 Z (oR Z (zV Z bO cd) (eN (zJ (cT Z eZ (kN ?_)))))
 have q:=bnd gu
 obtain ⟨⟨dP,dQ,o9⟩,od,gf⟩:=q
 try dsimp only at gf
 refine yP (fun σ_ w_=>∃ (U_:PHeap),σ_ 0=.pointer (some ⟨ba,0,none⟩)/\σ_ 2=.bool p2/\σ_ 6=.pointer (some ⟨b4,0,none⟩)/\σ_ 9=.pointer (some ⟨b8,0,none⟩)/\σ_ 11=jV o9/\σ_ 54=jV (w64 ((↑(p0.number.length):Int) + 1))/\σ_ 55=jV (↑bG:Int)/\σ_ 60=.slice bB p0.edges.length bC/\σ_ 61=jV (↑p0.edges.length:Int)/\σ_ 62=jV (↑aY:Int)/\PHeap.Le aW U_/\SW w [B1,.obj aa (.map ae ag)] U U_ [.blk b4 107 B0,B1,.obj aa (.map ae ag),.row an ao 3 1 (nA KL.encI dP),.row ap aq 3 1 (nA KL.encI dQ),.blk b8 107 [.slice an dP.length ao,.slice ap dQ.length aq]] w_/\dP.length=l9.length/\dQ.length=bH.length) ?_ ?_
 refine zS (sR (wEQ (.fx 3 (.fl 4 (.fx 5 .nil .stop)) .stop)) Z (oM Z bO (bnK od fun ah fM mP=>?_)))
 have jJ:=mb.le oY
 have jK:=jJ.le o0
 have jL:=jK.le gv
 have jM:=jL.le gw
 have q:=jM.el (fun _=>rfl) (wAj fM)
 obtain ⟨pI,qk,jR,jS⟩:=q
 refine oR Z (ZV Z bZ jR bO Tryz.runUnderlying103 Tryz.sizeOf151 (wCZ fM)) (oL Z (fV.ldCA (f:=0) jS Z Z Tryz.isAgg151 Tryz.sizeOf151 (us:=[jV ah.step.Kind,jV ah.step.Skier,jV ah.step.Index,.bool ah.step.Up,jV ah.from_,jV ah.to_,jV ah.count]) Z Z) (zg (cs:=[jV 0,jV 0,jV 0,.bool false,jV 0,jV 0,jV 0]) Z Z Z Z Z Tryz.zeroValue151 Z fV ?_))
 intro pu aZ lD
 refine oA Z Z ?_
 let B8:List Value:=[jV ah.step.Kind,jV ah.step.Skier,jV ah.step.Index,.bool ah.step.Up,jV ah.from_,jV ah.to_,jV ah.count]
 refine zh (j:=0) (vs:=B8) Z Z Z Z lD Z Z Z Z Tryz.sizeOf151 (zA Z) Z Z Z ?_
 intro dp lE
 let B9:Res:=.row ap aq 3 1 (nA KL.encI az)
 let bN:Res:=.blk b8 107 [.slice an aj.length ao,.slice ap az.length aq]
 have lF:SW w [B1,.obj aa (.map ae ag)] U aW [.blk aZ 151 B8,.blk b4 107 B0,B1,.obj aa (.map ae ag),.row an ao 3 1 (nA KL.encI aj),B9,bN] dp:=lE
 refine eN (zJ (ZO zz [3,1,3,1,3,3] fL6 (by kernel_rfl) ?_))
 have cE:=lF.drew
 generalize hw_W626:({ dp with drawn:=dp.drawn + 1 }:World)=cS at cE ⊢
 refine oR Z (zF Z Z ye Z zC) (oL Z (cE.ldB (j:=0) Z Z Z zG (v:=jV ah.from_) Z) (oR Z (zF Z Z ye Z zC) (oL Z (cE.ldB (j:=0) Z Z Z zG (v:=jV ah.to_) Z) (oA Z Z (oA Z Z (eN (zJ (sR fL1 Z (oM Z bY (eN (ifc mP ?_ ?_)))))))))))
 intro dr mQ
 refine zo (congrArg nB dr.out) (rR fL4 rfl (zX rfl rfl rfl rfl rfl rfl (zX rfl rfl rfl rfl rfl rfl (Zw rfl rfl rfl rfl rfl rfl (Zw rfl rfl rfl rfl rfl rfl (eN (zJ (ZO zz [3,1,3,3,1,3,3,3,1,3,3,1,3,1,3,3,1,3,3,1,3,3] fL22 (by kernel_rfl) ?_))))))))
 have bw:=cE.drew
 generalize hw_W630:({ cS with drawn:=cS.drawn + 1 }:World)=eB at bw ⊢
 refine oR Z (zF Z bu ZS Z zk) (oL Z (bw.ldB (j:=6) Z Z Z zr (v:=.slice an aj.length ao) Z) (oM Z Z (bnK mQ fun _ bJ mR=>?_)))
 have q:=bw.rowSome (j:=4) rfl (by rw [wAC (f:=KL.encI) (sz:=1) (fun _=>rfl) aj];have hz:=wAT bJ;omega)
 obtain ⟨pJ,bD⟩:=q
 refine oR Z (ZA Z Z bD Z zD zC (wBP bJ) (wBQ bJ)) ?_
 have mq:=wBb (xs:=aj) (wAT bJ)
 refine ZC rfl rfl rfl rfl (bw.ldR (j:=4) rfl bD rfl rfl zG (wAa (sz:=1) (fun _=>rfl) _ _ 0 _ mq (by first | omega | rfl | simp) rfl)) rfl (zY rfl rfl rfl rfl (fun _=>zV rfl rfl rfl) (zX rfl rfl rfl rfl rfl rfl (ifc mR ?_ ?_)))
 intro au mS
 refine rU Z (wT Z au) (zF Z bu ZS Z zk) (ZC Z Z Z (wT Z au) (bw.ldB (j:=6) Z Z Z zr (v:=.slice an aj.length ao) Z) Z (zX Z Z Z (wT Z au) Z Z (rU Z (wT Z au) (ZA Z Z bD Z zD zC (wBP bJ) (wBQ bJ)) ?_)))
 have mr:=wBb (xs:=aj) (wAT bJ)
 refine ZC rfl rfl rfl (zQ rfl rfl (ZU au.out)) (bw.ldR (j:=4) rfl bD rfl rfl zG (wAa (sz:=1) (fun _=>rfl) _ _ 0 _ mr (by first | omega | rfl | simp) rfl)) rfl (zY rfl rfl rfl (zQ rfl rfl (ZU au.out)) (fun _=>zF rfl rfl ye rfl zC) (ZC rfl rfl rfl (zQ rfl rfl (ZU au.out)) (bw.ldB (j:=0) rfl rfl rfl zG (v:=jV ah.count) rfl) rfl (zY rfl rfl rfl (zQ rfl rfl (ZU au.out)) (fun _=>zU rfl rfl rfl) (zY rfl rfl rfl (zQ rfl rfl (ZU au.out)) (fun _=>zF rfl bu ZS rfl zk) (ZC rfl rfl rfl (zQ rfl rfl (ZU au.out)) (bw.ldB (j:=6) rfl rfl rfl zr (v:=.slice an aj.length ao) rfl) rfl (zX rfl rfl rfl (zQ rfl rfl (ZU au.out)) rfl rfl (bnK mS fun _ bP mT=>zY rfl rfl rfl (zQ rfl rfl (ZU au.out)) (fun _=>ZA rfl rfl bD rfl zD zC (wBP bP) (wBQ bP)) ?_)))))))
 have ms:=wBb (xs:=aj) (wAT bP)
 refine ZC rfl rfl rfl (zQ rfl rfl (ZU au.out)) (bw.ldR (j:=4) rfl bD rfl rfl zG (wAa (sz:=1) (fun _=>rfl) _ _ 0 _ ms (by first | omega | rfl | simp) rfl)) rfl (zY rfl rfl rfl (zQ rfl rfl (ZU au.out)) (fun _=>zV rfl rfl rfl) (zY rfl rfl rfl rfl (fun _=>zb rfl (ZU au.out) rfl) (eN (ifc mT ?_ ?_))))
 intro dt mU
 refine cT Z dt ?_
 have q:=bnd mU
 obtain ⟨⟨⟩,oe,gg⟩:=q
 try dsimp only at gg
 let bk:Res:=.row an ao 3 1 (nA KL.encI (nK aj ah.from_.toNat (w64 ((gd aj ah.to_.toNat) + ah.count))))
 let cx:Res:=.blk b8 107 [.slice an ((nK aj ah.from_.toNat (w64 ((gd aj ah.to_.toNat) + ah.count))).length) ao,.slice ap ((nK az ah.from_.toNat (↑aY:Int)).length) aq]
 let bU:Res:=.row ap aq 3 1 (nA KL.encI (nK az ah.from_.toNat (↑aY:Int)))
 refine yP (fun σ_ w_=>∃ (U_:PHeap),σ_ 0=.pointer (some ⟨ba,0,none⟩)/\σ_ 2=.bool p2/\σ_ 6=.pointer (some ⟨b4,0,none⟩)/\σ_ 9=.pointer (some ⟨b8,0,none⟩)/\σ_ 15=jV ah.from_/\σ_ 54=jV (w64 ((↑(p0.number.length):Int) + 1))/\σ_ 55=jV (↑bG:Int)/\σ_ 60=.slice bB p0.edges.length bC/\σ_ 61=jV (↑p0.edges.length:Int)/\σ_ 62=jV (↑aY:Int)/\PHeap.Le aW U_/\SW w [B1,.obj aa (.map ae ag)] U U_ [.blk aZ 151 B8,.blk b4 107 B0,B1,.obj aa (.map ae ag),bk,bU,cx] w_) ?_ ?_
 refine yu fun br bg=>?_
 have fg:br 0=.pointer (some ⟨ba,0,none⟩):=(bg 0).trans cn
 have fh:br 2=.bool p2:=(bg 2).trans bY
 have fj:br 6=.pointer (some ⟨b4,0,none⟩):=(bg 6).trans cp
 have cB:br 9=.pointer (some ⟨b8,0,none⟩):=(bg 9).trans bu
 have iu:br 12=jV (↑aY:Int):=(bg 12).trans rfl
 have iv:br 13=.pointer (some ⟨aZ,0,none⟩):=(bg 13).trans rfl
 have iw:br 14=jV ah.to_:=(bg 14).trans rfl
 have cY:br 15=jV ah.from_:=(bg 15).trans rfl
 have fk:br 54=jV (w64 ((↑(p0.number.length):Int) + 1)):=(bg 54).trans cq
 have fm:br 55=jV (↑bG:Int):=(bg 55).trans cr
 have fq:br 60=.slice bB p0.edges.length bC:=(bg 60).trans bZ
 have ft:br 61=jV (↑p0.edges.length:Int):=(bg 61).trans cd
 have fu:br 62=jV (↑aY:Int):=(bg 62).trans bO
 clear bg
 refine bnK oe fun _ bK gh=>ZO zz [3,1,3,3,2,3,3,1,3,3,1,3,1,3,3,3,0,3,0] (wDo (wSM gCn)) (by kernel_rfl) ?_
 have bS:=bw.drew
 generalize hw_W691:({ eB with drawn:=eB.drawn + 1 }:World)=py at bS ⊢
 refine oR Z (zF Z cB ZS Z zk) (oL Z (bS.ldB (j:=6) Z Z Z zr (v:=.slice an aj.length ao) Z) (oM Z cY (oR Z (zF Z cB ZS Z zk) (oM Z cY (oR Z (zF Z cB ZS Z zk) (oL Z (bS.ldB (j:=6) Z Z Z zr (v:=.slice an aj.length ao) Z) (oM Z iw (oR Z (ZA Z Z bD Z zD zC (wBP bJ) (wBQ bJ)) ?_))))))))
 have mu:=wBb (xs:=aj) (wAT bJ)
 refine ZC rfl rfl rfl rfl (bS.ldR (j:=4) rfl bD rfl rfl zG (wAa (sz:=1) (fun _=>rfl) _ _ 0 _ mu (by first | omega | rfl | simp) rfl)) rfl (zY rfl rfl rfl rfl (fun _=>zF rfl iv ye rfl zC) (ZC rfl rfl rfl rfl (bS.ldB (j:=0) rfl rfl rfl zG (v:=jV ah.count) rfl) rfl (zY rfl rfl rfl rfl (fun _=>zU rfl rfl rfl) (zX rfl rfl rfl rfl rfl iu (zY rfl rfl rfl rfl (fun _=>ZA rfl rfl bD rfl zD zC (wBP bP) (wBQ bP)) (yC ?_ ?_))))))
 refine Zl Z Z Z Z (bS.ldB (j:=6) Z Z Z zr (v:=.slice ap az.length aq) Z) ?_
 have mw:=wBb (xs:=aj) (wAT bP)
 refine yd (j:=4) (vs:=[jV (w64 ((gd aj ah.to_.toNat) + ah.count))]) (cs':=nA KL.encI (nK aj ah.from_.toNat (w64 ((gd aj ah.to_.toNat) + ah.count)))) rfl rfl rfl rfl bS rfl bD rfl rfl rfl zC (by rw [wAC (f:=KL.encI) (sz:=1) (fun _=>rfl)];have hz:=wAT bP;show _ + 1 <= _;first | omega | (simp only [nJ];omega) | (simp only [nI,nG,nH];omega)) rfl (wCo (sz:=1) (fo:=0) (fun _=>rfl) _ _ _ _ mw (by first | omega | (simp only [nJ];omega) | (simp only [nI,nG,nH];omega)) (zA rfl) rfl) rfl ?_
 intro eD lG
 have lH:SW w [B1,.obj aa (.map ae ag)] U aW [.blk aZ 151 B8,.blk b4 107 B0,B1,.obj aa (.map ae ag),bk,B9,bN] eD:=lG
 let cO:Res:=.blk b8 107 [.slice an ((nK aj ah.from_.toNat (w64 ((gd aj ah.to_.toNat) + ah.count))).length) ao,.slice ap az.length aq]
 have fW:SW w [B1,.obj aa (.map ae ag)] U aW [.blk aZ 151 B8,.blk b4 107 B0,B1,.obj aa (.map ae ag),bk,B9,cO] eD:=by simpa only [B0,B1,bN,bk,cO,B8,B9,nL] using lH
 have q:=fW.rowSome (j:=5) rfl (by rw [wAC (f:=KL.encI) (sz:=1) (fun _=>rfl) az];have hz:=wAT bK;omega)
 obtain ⟨pK,fP⟩:=q
 refine oR Z (ZA Z Z fP Z zD zC (wBP bK) (wBQ bK)) ?_
 have my:=wBb (xs:=az) (wAT bK)
 refine yd (j:=5) (vs:=[jV (↑aY:Int)]) (cs':=nA KL.encI (nK az ah.from_.toNat (↑aY:Int))) rfl rfl rfl rfl fW rfl fP rfl rfl rfl zC (by rw [wAC (f:=KL.encI) (sz:=1) (fun _=>rfl)];have hz:=wAT bK;show _ + 1 <= _;first | omega | (simp only [nJ];omega) | (simp only [nI,nG,nH];omega)) rfl (wCo (sz:=1) (fo:=0) (fun _=>rfl) _ _ _ _ my (by first | omega | (simp only [nJ];omega) | (simp only [nI,nG,nH];omega)) (zA rfl) rfl) rfl ?_
 intro eE lI
 have lJ:SW w [B1,.obj aa (.map ae ag)] U aW [.blk aZ 151 B8,.blk b4 107 B0,B1,.obj aa (.map ae ag),bk,bU,cO] eE:=lI
 have lK:SW w [B1,.obj aa (.map ae ag)] U aW [.blk aZ 151 B8,.blk b4 107 B0,B1,.obj aa (.map ae ag),bk,bU,cx] eE:=by simpa only [B0,B1,bk,cx,bU,cO,B8,nL] using lJ
 refine zd ?_
 cases gh
 exact zI ⟨Z,⟨aW,fg,fh,fj,cB,cY,fk,fm,fq,ft,fu,(zN _),lK⟩⟩
 have mz:=wBb (xs:=aj) (wAT bP)
 refine yd (j:=4) (vs:=[jV (w64 ((gd aj ah.to_.toNat) + ah.count))]) (cs':=nA KL.encI (nK aj ah.from_.toNat (w64 ((gd aj ah.to_.toNat) + ah.count)))) rfl rfl rfl rfl bS rfl bD rfl rfl rfl zC (by rw [wAC (f:=KL.encI) (sz:=1) (fun _=>rfl)];have hz:=wAT bP;show _ + 1 <= _;first | omega | (simp only [nJ];omega) | (simp only [nI,nG,nH];omega)) rfl (wCo (sz:=1) (fo:=0) (fun _=>rfl) _ _ _ _ mz (by first | omega | (simp only [nJ];omega) | (simp only [nI,nG,nH];omega)) (zA rfl) rfl) rfl ?_
 intro eF lL
 have lM:SW w [B1,.obj aa (.map ae ag)] U aW [.blk aZ 151 B8,.blk b4 107 B0,B1,.obj aa (.map ae ag),bk,B9,bN] eF:=lL
 let cP:Res:=.blk b8 107 [.slice an ((nK aj ah.from_.toNat (w64 ((gd aj ah.to_.toNat) + ah.count))).length) ao,.slice ap az.length aq]
 have dC:SW w [B1,.obj aa (.map ae ag)] U aW [.blk aZ 151 B8,.blk b4 107 B0,B1,.obj aa (.map ae ag),bk,B9,cP] eF:=by simpa only [B0,B1,bN,bk,cP,B8,B9,nL] using lM
 refine Zl Z Z Z Z (dC.ldB (j:=6) Z Z Z zr (v:=.slice ap az.length aq) Z) ?_
 have q:=dC.rowSome (j:=5) rfl (by rw [wAC (f:=KL.encI) (sz:=1) (fun _=>rfl) az];have hz:=wAT bK;omega)
 obtain ⟨pL,fQ⟩:=q
 refine oR Z (ZA Z Z fQ Z zD zC (wBP bK) (wBQ bK)) ?_
 have mA:=wBb (xs:=az) (wAT bK)
 refine yd (j:=5) (vs:=[jV (↑aY:Int)]) (cs':=nA KL.encI (nK az ah.from_.toNat (↑aY:Int))) rfl rfl rfl rfl dC rfl fQ rfl rfl rfl zC (by rw [wAC (f:=KL.encI) (sz:=1) (fun _=>rfl)];have hz:=wAT bK;show _ + 1 <= _;first | omega | (simp only [nJ];omega) | (simp only [nI,nG,nH];omega)) rfl (wCo (sz:=1) (fo:=0) (fun _=>rfl) _ _ _ _ mA (by first | omega | (simp only [nJ];omega) | (simp only [nI,nG,nH];omega)) (zA rfl) rfl) rfl ?_
 intro eG lN
 have lO:SW w [B1,.obj aa (.map ae ag)] U aW [.blk aZ 151 B8,.blk b4 107 B0,B1,.obj aa (.map ae ag),bk,bU,cP] eG:=lN
 have lP:SW w [B1,.obj aa (.map ae ag)] U aW [.blk aZ 151 B8,.blk b4 107 B0,B1,.obj aa (.map ae ag),bk,bU,cx] eG:=by simpa only [B0,B1,bk,cx,bU,cP,B8,nL] using lO
 refine zd ?_
 cases gh
 exact zI ⟨Z,⟨aW,fg,fh,fj,cB,cY,fk,fm,fq,ft,fu,(zN _),lP⟩⟩
 rintro qA pz ⟨gK,iy,iz,iA,iB,iC,iD,iE,iF,iG,iH,o3,lQ⟩
 refine rR fL2 Z (oM Z iC (oA Z Z (zd (zf ?_))))
 cases gg
 exact zI ⟨rfl,⟨gK,iy,iz,iA,iB,rfl,iD,iE,iF,iG,iH,o3,(lQ.pick [1,2,3,4,5,6] _ (by decide) rfl),(nL.trans ct),(nL.trans cu)⟩⟩
 intro dt mX
 refine cF Z dt (Ze (zf ?_))
 cases mX
 exact zI ⟨rfl,⟨aW,cn,bY,cp,bu,cX,cq,cr,bZ,cd,bO,(zN _),(bw.pick [1,2,3,4,5,6] _ (by decide) rfl),ct,cu⟩⟩
 intro au mY
 refine oF Z au (oF Z au (oF Z au (oF Z au (oF Z au (oF Z au (oF Z au (oF Z au (oF Z au (oF Z au (oF Z au (oF Z au (oF Z au (oF Z au (oR Z (zi Z (ZT au.out) Z) (eN (zu Z (Ze (zf ?_))))))))))))))))))
 cases mY
 exact zI ⟨rfl,⟨aW,cn,bY,cp,bu,cX,cq,cr,bZ,cd,bO,(zN _),(bw.pick [1,2,3,4,5,6] _ (by decide) rfl),ct,cu⟩⟩
 intro dr mZ
 refine zu (congrArg nB (nD.2 dr.out)) (kN (zJ (ZO zz [3,1,3,3,1,3,3,3,1,3,3,1,3,1,3,3,1,3,3,1,3,3] fL22 (by kernel_rfl) ?_)))
 have bz:=cE.drew
 generalize hw_W745:({ cS with drawn:=cS.drawn + 1 }:World)=eH at bz ⊢
 refine oR Z (zF Z bu ZS Z zk) (oL Z (bz.ldB (j:=6) Z Z Z zr (v:=.slice an aj.length ao) Z) (oM Z Z (bnK mZ fun _ bL m4=>?_)))
 have q:=bz.rowSome (j:=4) rfl (by rw [wAC (f:=KL.encI) (sz:=1) (fun _=>rfl) aj];have hz:=wAT bL;omega)
 obtain ⟨pM,bE⟩:=q
 refine oR Z (ZA Z Z bE Z zD zC (wBP bL) (wBQ bL)) ?_
 have mB:=wBb (xs:=aj) (wAT bL)
 refine ZC rfl rfl rfl rfl (bz.ldR (j:=4) rfl bE rfl rfl zG (wAa (sz:=1) (fun _=>rfl) _ _ 0 _ mB (by first | omega | rfl | simp) rfl)) rfl (zY rfl rfl rfl rfl (fun _=>zV rfl rfl rfl) (zX rfl rfl rfl rfl rfl rfl (ifc m4 ?_ ?_)))
 intro av m5
 refine rU Z (wT Z av) (zF Z bu ZS Z zk) (ZC Z Z Z (wT Z av) (bz.ldB (j:=6) Z Z Z zr (v:=.slice an aj.length ao) Z) Z (zX Z Z Z (wT Z av) Z Z (rU Z (wT Z av) (ZA Z Z bE Z zD zC (wBP bL) (wBQ bL)) ?_)))
 have mC:=wBb (xs:=aj) (wAT bL)
 refine ZC rfl rfl rfl (zQ rfl rfl (ZU av.out)) (bz.ldR (j:=4) rfl bE rfl rfl zG (wAa (sz:=1) (fun _=>rfl) _ _ 0 _ mC (by first | omega | rfl | simp) rfl)) rfl (zY rfl rfl rfl (zQ rfl rfl (ZU av.out)) (fun _=>zF rfl rfl ye rfl zC) (ZC rfl rfl rfl (zQ rfl rfl (ZU av.out)) (bz.ldB (j:=0) rfl rfl rfl zG (v:=jV ah.count) rfl) rfl (zY rfl rfl rfl (zQ rfl rfl (ZU av.out)) (fun _=>zU rfl rfl rfl) (zY rfl rfl rfl (zQ rfl rfl (ZU av.out)) (fun _=>zF rfl bu ZS rfl zk) (ZC rfl rfl rfl (zQ rfl rfl (ZU av.out)) (bz.ldB (j:=6) rfl rfl rfl zr (v:=.slice an aj.length ao) rfl) rfl (zX rfl rfl rfl (zQ rfl rfl (ZU av.out)) rfl rfl (bnK m5 fun _ bQ m6=>zY rfl rfl rfl (zQ rfl rfl (ZU av.out)) (fun _=>ZA rfl rfl bE rfl zD zC (wBP bQ) (wBQ bQ)) ?_)))))))
 have mD:=wBb (xs:=aj) (wAT bQ)
 refine ZC rfl rfl rfl (zQ rfl rfl (ZU av.out)) (bz.ldR (j:=4) rfl bE rfl rfl zG (wAa (sz:=1) (fun _=>rfl) _ _ 0 _ mD (by first | omega | rfl | simp) rfl)) rfl (zY rfl rfl rfl (zQ rfl rfl (ZU av.out)) (fun _=>zV rfl rfl rfl) (zY rfl rfl rfl rfl (fun _=>zb rfl (ZU av.out) rfl) (eN (ifc m6 ?_ ?_))))
 intro du m7
 refine cT Z du ?_
 have q:=bnd m7
 obtain ⟨⟨⟩,og,gi⟩:=q
 try dsimp only at gi
 let bm:Res:=.row an ao 3 1 (nA KL.encI (nK aj ah.to_.toNat (w64 ((gd aj ah.from_.toNat) + ah.count))))
 let cy:Res:=.blk b8 107 [.slice an ((nK aj ah.to_.toNat (w64 ((gd aj ah.from_.toNat) + ah.count))).length) ao,.slice ap ((nK az ah.to_.toNat (↑aY:Int)).length) aq]
 let bV:Res:=.row ap aq 3 1 (nA KL.encI (nK az ah.to_.toNat (↑aY:Int)))
 refine yP (fun σ_ w_=>∃ (U_:PHeap),σ_ 0=.pointer (some ⟨ba,0,none⟩)/\σ_ 2=.bool p2/\σ_ 6=.pointer (some ⟨b4,0,none⟩)/\σ_ 9=.pointer (some ⟨b8,0,none⟩)/\σ_ 15=jV ah.to_/\σ_ 54=jV (w64 ((↑(p0.number.length):Int) + 1))/\σ_ 55=jV (↑bG:Int)/\σ_ 60=.slice bB p0.edges.length bC/\σ_ 61=jV (↑p0.edges.length:Int)/\σ_ 62=jV (↑aY:Int)/\PHeap.Le aW U_/\SW w [B1,.obj aa (.map ae ag)] U U_ [.blk aZ 151 B8,.blk b4 107 B0,B1,.obj aa (.map ae ag),bm,bV,cy] w_) ?_ ?_
 refine yu fun bs bh=>?_
 have fw:bs 0=.pointer (some ⟨ba,0,none⟩):=(bh 0).trans cn
 have fy:bs 2=.bool p2:=(bh 2).trans bY
 have fz:bs 6=.pointer (some ⟨b4,0,none⟩):=(bh 6).trans cp
 have cC:bs 9=.pointer (some ⟨b8,0,none⟩):=(bh 9).trans bu
 have iI:bs 12=jV (↑aY:Int):=(bh 12).trans rfl
 have iJ:bs 13=.pointer (some ⟨aZ,0,none⟩):=(bh 13).trans rfl
 have iK:bs 14=jV ah.from_:=(bh 14).trans rfl
 have cZ:bs 15=jV ah.to_:=(bh 15).trans rfl
 have fA:bs 54=jV (w64 ((↑(p0.number.length):Int) + 1)):=(bh 54).trans cq
 have fB:bs 55=jV (↑bG:Int):=(bh 55).trans cr
 have fC:bs 60=.slice bB p0.edges.length bC:=(bh 60).trans bZ
 have fD:bs 61=jV (↑p0.edges.length:Int):=(bh 61).trans cd
 have fE:bs 62=jV (↑aY:Int):=(bh 62).trans bO
 clear bh
 refine bnK og fun _ bM gj=>ZO zz [3,1,3,3,2,3,3,1,3,3,1,3,1,3,3,3,0,3,0] (wDo (wSM gCn)) (by kernel_rfl) ?_
 have bT:=bz.drew
 generalize hw_W806:({ eH with drawn:=eH.drawn + 1 }:World)=pB at bT ⊢
 refine oR Z (zF Z cC ZS Z zk) (oL Z (bT.ldB (j:=6) Z Z Z zr (v:=.slice an aj.length ao) Z) (oM Z cZ (oR Z (zF Z cC ZS Z zk) (oM Z cZ (oR Z (zF Z cC ZS Z zk) (oL Z (bT.ldB (j:=6) Z Z Z zr (v:=.slice an aj.length ao) Z) (oM Z iK (oR Z (ZA Z Z bE Z zD zC (wBP bL) (wBQ bL)) ?_))))))))
 have mE:=wBb (xs:=aj) (wAT bL)
 refine ZC rfl rfl rfl rfl (bT.ldR (j:=4) rfl bE rfl rfl zG (wAa (sz:=1) (fun _=>rfl) _ _ 0 _ mE (by first | omega | rfl | simp) rfl)) rfl (zY rfl rfl rfl rfl (fun _=>zF rfl iJ ye rfl zC) (ZC rfl rfl rfl rfl (bT.ldB (j:=0) rfl rfl rfl zG (v:=jV ah.count) rfl) rfl (zY rfl rfl rfl rfl (fun _=>zU rfl rfl rfl) (zX rfl rfl rfl rfl rfl iI (zY rfl rfl rfl rfl (fun _=>ZA rfl rfl bE rfl zD zC (wBP bQ) (wBQ bQ)) (yC ?_ ?_))))))
 refine Zl Z Z Z Z (bT.ldB (j:=6) Z Z Z zr (v:=.slice ap az.length aq) Z) ?_
 have mF:=wBb (xs:=aj) (wAT bQ)
 refine yd (j:=4) (vs:=[jV (w64 ((gd aj ah.from_.toNat) + ah.count))]) (cs':=nA KL.encI (nK aj ah.to_.toNat (w64 ((gd aj ah.from_.toNat) + ah.count)))) rfl rfl rfl rfl bT rfl bE rfl rfl rfl zC (by rw [wAC (f:=KL.encI) (sz:=1) (fun _=>rfl)];have hz:=wAT bQ;show _ + 1 <= _;first | omega | (simp only [nJ];omega) | (simp only [nI,nG,nH];omega)) rfl (wCo (sz:=1) (fo:=0) (fun _=>rfl) _ _ _ _ mF (by first | omega | (simp only [nJ];omega) | (simp only [nI,nG,nH];omega)) (zA rfl) rfl) rfl ?_
 intro eI lR
 have lS:SW w [B1,.obj aa (.map ae ag)] U aW [.blk aZ 151 B8,.blk b4 107 B0,B1,.obj aa (.map ae ag),bm,B9,bN] eI:=lR
 let cQ:Res:=.blk b8 107 [.slice an ((nK aj ah.to_.toNat (w64 ((gd aj ah.from_.toNat) + ah.count))).length) ao,.slice ap az.length aq]
 have fY:SW w [B1,.obj aa (.map ae ag)] U aW [.blk aZ 151 B8,.blk b4 107 B0,B1,.obj aa (.map ae ag),bm,B9,cQ] eI:=by simpa only [B0,B1,bN,bm,cQ,B8,B9,nL] using lS
 have q:=fY.rowSome (j:=5) rfl (by rw [wAC (f:=KL.encI) (sz:=1) (fun _=>rfl) az];have hz:=wAT bM;omega)
 obtain ⟨pN,fR⟩:=q
 refine oR Z (ZA Z Z fR Z zD zC (wBP bM) (wBQ bM)) ?_
 have mG:=wBb (xs:=az) (wAT bM)
 refine yd (j:=5) (vs:=[jV (↑aY:Int)]) (cs':=nA KL.encI (nK az ah.to_.toNat (↑aY:Int))) rfl rfl rfl rfl fY rfl fR rfl rfl rfl zC (by rw [wAC (f:=KL.encI) (sz:=1) (fun _=>rfl)];have hz:=wAT bM;show _ + 1 <= _;first | omega | (simp only [nJ];omega) | (simp only [nI,nG,nH];omega)) rfl (wCo (sz:=1) (fo:=0) (fun _=>rfl) _ _ _ _ mG (by first | omega | (simp only [nJ];omega) | (simp only [nI,nG,nH];omega)) (zA rfl) rfl) rfl ?_
 intro eJ lT
 have lU:SW w [B1,.obj aa (.map ae ag)] U aW [.blk aZ 151 B8,.blk b4 107 B0,B1,.obj aa (.map ae ag),bm,bV,cQ] eJ:=lT
 have lV:SW w [B1,.obj aa (.map ae ag)] U aW [.blk aZ 151 B8,.blk b4 107 B0,B1,.obj aa (.map ae ag),bm,bV,cy] eJ:=by simpa only [B0,B1,bm,cy,bV,cQ,B8,nL] using lU
 refine zd ?_
 cases gj
 exact zI ⟨Z,⟨aW,fw,fy,fz,cC,cZ,fA,fB,fC,fD,fE,(zN _),lV⟩⟩
 have mH:=wBb (xs:=aj) (wAT bQ)
 refine yd (j:=4) (vs:=[jV (w64 ((gd aj ah.from_.toNat) + ah.count))]) (cs':=nA KL.encI (nK aj ah.to_.toNat (w64 ((gd aj ah.from_.toNat) + ah.count)))) rfl rfl rfl rfl bT rfl bE rfl rfl rfl zC (by rw [wAC (f:=KL.encI) (sz:=1) (fun _=>rfl)];have hz:=wAT bQ;show _ + 1 <= _;first | omega | (simp only [nJ];omega) | (simp only [nI,nG,nH];omega)) rfl (wCo (sz:=1) (fo:=0) (fun _=>rfl) _ _ _ _ mH (by first | omega | (simp only [nJ];omega) | (simp only [nI,nG,nH];omega)) (zA rfl) rfl) rfl ?_
 intro eK lW
 have lY:SW w [B1,.obj aa (.map ae ag)] U aW [.blk aZ 151 B8,.blk b4 107 B0,B1,.obj aa (.map ae ag),bm,B9,bN] eK:=lW
 let cR:Res:=.blk b8 107 [.slice an ((nK aj ah.to_.toNat (w64 ((gd aj ah.from_.toNat) + ah.count))).length) ao,.slice ap az.length aq]
 have dD:SW w [B1,.obj aa (.map ae ag)] U aW [.blk aZ 151 B8,.blk b4 107 B0,B1,.obj aa (.map ae ag),bm,B9,cR] eK:=by simpa only [B0,B1,bN,bm,cR,B8,B9,nL] using lY
 refine Zl Z Z Z Z (dD.ldB (j:=6) Z Z Z zr (v:=.slice ap az.length aq) Z) ?_
 have q:=dD.rowSome (j:=5) rfl (by rw [wAC (f:=KL.encI) (sz:=1) (fun _=>rfl) az];have hz:=wAT bM;omega)
 obtain ⟨pO,fS⟩:=q
 refine oR Z (ZA Z Z fS Z zD zC (wBP bM) (wBQ bM)) ?_
 have mI:=wBb (xs:=az) (wAT bM)
 refine yd (j:=5) (vs:=[jV (↑aY:Int)]) (cs':=nA KL.encI (nK az ah.to_.toNat (↑aY:Int))) rfl rfl rfl rfl dD rfl fS rfl rfl rfl zC (by rw [wAC (f:=KL.encI) (sz:=1) (fun _=>rfl)];have hz:=wAT bM;show _ + 1 <= _;first | omega | (simp only [nJ];omega) | (simp only [nI,nG,nH];omega)) rfl (wCo (sz:=1) (fo:=0) (fun _=>rfl) _ _ _ _ mI (by first | omega | (simp only [nJ];omega) | (simp only [nI,nG,nH];omega)) (zA rfl) rfl) rfl ?_
 intro eL lZ
 have l3:SW w [B1,.obj aa (.map ae ag)] U aW [.blk aZ 151 B8,.blk b4 107 B0,B1,.obj aa (.map ae ag),bm,bV,cR] eL:=lZ
 have l4:SW w [B1,.obj aa (.map ae ag)] U aW [.blk aZ 151 B8,.blk b4 107 B0,B1,.obj aa (.map ae ag),bm,bV,cy] eL:=by simpa only [B0,B1,bm,cy,bV,cR,B8,nL] using l3
 refine zd ?_
 cases gj
 exact zI ⟨Z,⟨aW,fw,fy,fz,cC,cZ,fA,fB,fC,fD,fE,(zN _),l4⟩⟩
 rintro qB pC ⟨gL,iL,iM,iN,iO,iP,iQ,iR,iT,iU,iV,o5,l5⟩
 refine rR fL2 Z (oM Z iP (oA Z Z (zd (zf ?_))))
 cases gi
 exact zI ⟨rfl,⟨gL,iL,iM,iN,iO,rfl,iQ,iR,iT,iU,iV,o5,(l5.pick [1,2,3,4,5,6] _ (by decide) rfl),(nL.trans ct),(nL.trans cu)⟩⟩
 intro du m8
 refine cF Z du (Ze (zf ?_))
 cases m8
 exact zI ⟨rfl,⟨aW,cn,bY,cp,bu,cX,cq,cr,bZ,cd,bO,(zN _),(bz.pick [1,2,3,4,5,6] _ (by decide) rfl),ct,cu⟩⟩
 intro av m9
 refine oF Z av (oF Z av (oF Z av (oF Z av (oF Z av (oF Z av (oF Z av (oF Z av (oF Z av (oF Z av (oF Z av (oF Z av (oF Z av (oF Z av (oR Z (zi Z (ZT av.out) Z) (eN (zu Z (Ze (zf ?_))))))))))))))))))
 cases m9
 exact zI ⟨rfl,⟨aW,cn,bY,cp,bu,cX,cq,cr,bZ,cd,bO,(zN _),(bz.pick [1,2,3,4,5,6] _ (by decide) rfl),ct,cu⟩⟩
 rintro qC pD ⟨gM,iW,iX,iY,iZ,i4,i5,i6,i7,i8,i9,o6,l6,jN,jO⟩
 refine rR fL2 Z (oR Z (zt (zU Z i9 Z) (congrArg (jV) mK.out)) (oM Z Z (zd ?_)))
 cases gf
 exact zI ⟨Z,⟨gM,Z,iW,iX,iY,iZ,i4,i5,i6,i7,i8,(gw.trans o6),l6,jN,jO⟩⟩
 rintro qD pE ⟨dm,jj,ja,jb,dz,fG,fH,jc,jd,pR,je,o7,dE,jP,jQ⟩
 have gX:Hid (¬ ((↑(((↑p0.edges.length:Int):Int) - 0).toNat:Int) < (↑p0.edges.length:Int))):=zH (wAq)
 refine sR fL1 Z (oR Z (zV Z jj je) (eN (zJ (cF Z gX (ZH (zZ (zZ (zx (zI (sR fL2 Z (oM Z fH (oR Z (zV Z Z Z) (eN (ifc ge ?_ ?_))))))))))))))
 intro dv n5
 refine cT Z dv (sR gCk Z ?_)
 let ci:List Value:=[.slice an gA.length ao,.slice ap gB.length aq]
 refine oL Z (dE.ldBA (j:=5) Z Z fG Tryz.isAgg107 yc (vs:=ci) Z Z) (zh (j:=0) (vs:=ci) Z Z Z Z dE Z dz Z Z yc (zA Z) Z Z Z ?_)
 intro gS l7
 have fZ:SW w [B1,.obj aa (.map ae ag)] U dm [.blk b4 107 ci,B1,.obj aa (.map ae ag),.row an ao 3 1 (nA KL.encI gA),.row ap aq 3 1 (nA KL.encI gB),.blk b8 107 ci] gS:=l7
 refine oA Z Z (oA Z Z (eN (zP (za (zR ?_)))))
 have q:=wAc n5
 obtain ⟨o8,n7,gZ⟩:=q
 have q:=wBn dO dF (md o8 gZ)
 obtain rfl:=q
 refine zR (za (zR ?_))
 cases n7
 exact ⟨rfl,_,(wFc (rs:=[.cell 6 107,.tmp 7,.tmp 8]) (vs:=[.agg ci.toArray,jV 0,.bool true]) ⟨⟨_,dz,(wBo Tryz.isAgg107 yc (fZ.blkAt (k:=0) rfl) (vs:=ci) rfl rfl)⟩,⟨rfl,⟨rfl,trivial⟩⟩⟩ rfl),dm,_,(fZ.pick [3,4,1,2] _ (by decide) rfl),an,ao,ap,aq,rfl,rfl⟩
 intro dv n8
 refine cF Z dv (Ze (zf (zI (rR fL2 Z (oR Z (zt (zU Z jd Z) (congrArg (jV) mJ.out)) (oM Z Z (zd ?_)))))))
 have q:=nE n8
 obtain rfl:=q
 exact zI ⟨Z,_,Z,⟨dm,Z,ja,jb,dz,fG,fH,jc,(gv.trans o7),dE,jP,jQ⟩⟩
 rintro ⟨gC,gD,pd⟩ qE pF ⟨er,jk,pS,pT,fJ,jf,jg,jh,qj,f4,qc,qd⟩ me
 have gm:=wDe dO dF me
 try dsimp only at gm
 have gY:Hid (¬ ((↑((w64 ((↑(p0.number.length):Int) + 1):Int) - 0).toNat:Int) < (w64 ((↑(p0.number.length):Int) + 1)))):=zH (wAq)
 refine sR fL1 Z (oR Z (zV Z jk jh) (eN (zJ (cF Z gY (ZH (zZ (zZ (zx (zI (sR gCo Z ?_))))))))))
 let cj:List Value:=[.slice an gC.length ao,.slice ap gD.length aq]
 refine oL Z (f4.ldBA (j:=5) Z Z jf Tryz.isAgg107 yc (vs:=cj) Z Z) (oM Z jg (zh (j:=0) (vs:=cj) Z Z Z Z f4 Z fJ Z Z yc (zA Z) Z Z Z ?_))
 intro gT ma
 have f5:SW w [B1,.obj aa (.map ae ag)] U er [.blk b4 107 cj,B1,.obj aa (.map ae ag),.row an ao 3 1 (nA KL.encI gC),.row ap aq 3 1 (nA KL.encI gD),.blk b8 107 cj] gT:=ma
 refine oA Z Z (oA Z Z (eN (zP ?_)))
 cases gm
 exact ⟨rfl,_,(wFc (rs:=[.cell 6 107,.tmp 7,.tmp 8]) (vs:=[.agg cj.toArray,jV pd,.bool false]) ⟨⟨_,fJ,(wBo Tryz.isAgg107 yc (f5.blkAt (k:=0) rfl) (vs:=cj) rfl rfl)⟩,⟨rfl,⟨rfl,trivial⟩⟩⟩ rfl),er,_,(f5.pick [3,4,1,2] _ (by decide) rfl),an,ao,ap,aq,rfl,rfl⟩
set_option maxHeartbeats 4000000
theorem wHh (p0:wAx) (an:Nat) (ah:Option Addr) (ao:Nat) (ai:Option Addr) (ap:Nat) (aj:Option Addr) (aq:Nat) (ak:Option Addr) (au:Nat) (ab:Nat) (ae:Array MapEntry) (ag:Nat) (am:Option Addr) (av:Nat) (w:World) (U:PHeap) (hS:St0 w U [.blk an 105 [.slice ah p0.Race.Starts.length ao,.slice ai p0.Race.Splits.length ap,.slice aj p0.Race.Clocks.length aq,.slice ak p0.Race.Readings.length au,.map (some ab),.slice am p0.edges.length av],.obj ab (.map ae ag)]) (bu:Sl U 1 ah ao p0.Race.Starts.length (nA KL.encI p0.Race.Starts)) (bw:Sl U 2 ai ap p0.Race.Splits.length (nA wAP p0.Race.Splits)) (bz:Sl U 3 aj aq p0.Race.Clocks.length (nA wAB p0.Race.Clocks)) (bA:Sl U 4 ak au p0.Race.Readings.length (nA wAM p0.Race.Readings)) (bB:MpR ae wEK wEV p0.number) (bC:Sl U 7 am av p0.edges.length (nA wAe p0.edges)) {r:Bool} (hm:wCb p0=some r):Gv Tryz.prog 54 [.pointer (some ⟨an,0,none⟩)] w (wBc w [.blk an 105 [.slice ah p0.Race.Starts.length ao,.slice ai p0.Race.Splits.length ap,.slice aj p0.Race.Clocks.length aq,.slice ak p0.Race.Readings.length au,.map (some ab),.slice am p0.edges.length av],.obj ab (.map ae ag)] U (fun U_ L_ v=>v=.bool r/\L_=[.blk an 105 [.slice ah p0.Race.Starts.length ao,.slice ai p0.Race.Splits.length ap,.slice aj p0.Race.Clocks.length aq,.slice ak p0.Race.Readings.length au,.map (some ab),.slice am p0.edges.length av],.obj ab (.map ae ag)])):=by
 unfold wCb at hm
 refine Gv.of Tryz.func54 Z Tryz.ntmps54 Tryz.results54 Z (sR fL1 Z (oA Z Z (eN (sR (.fl 0 (.fx 1 (fC2_5 (.fx 6 gCc .stop)) .stop)) Z (oM Z Z ?_)))))
 have q:=bnd hm
 obtain ⟨⟨x3,x4,x5⟩,h6,bh⟩:=q
 try dsimp only at bh
 refine zL 2 Z Z Z Z (zK Z Z Tryz.call30 (zB Z (zB Z (zB Z zM))) Z) hS (fun hs=>wFR p0 an ah ao ai ap aj aq ak au ab ae ag am av (-1) false w U hs bu bw bz bA bB bC h6) (.inl Z) ?_
 rintro U8 L9 bI bi bH bn ⟨aW,aZ,aX,ba,rfl,rfl⟩
 let B0:Res:=.blk an 105 [.slice ah p0.Race.Starts.length ao,.slice ai p0.Race.Splits.length ap,.slice aj p0.Race.Clocks.length aq,.slice ak p0.Race.Readings.length au,.map (some ab),.slice am p0.edges.length av]
 let B1:Res:=.row aW aZ 3 1 (nA KL.encI x3.far)
 let B2:Res:=.row aX ba 3 1 (nA KL.encI x3.by_)
 have bp:SW w [B0,.obj ab (.map ae ag)] U U8 [B1,B2,B0,.obj ab (.map ae ag)] bi:=bn
 refine oM Z Z (oR Z (zw Z Z (v:=.agg #[.slice aW x3.far.length aZ,.slice aX x3.by_.length ba]) Z) (oR Z (zw Z Z (v:=jV x4) Z) (oR Z (zw Z Z (v:=.bool x5) Z) (zg (cs:=[.slice none 0 0,.slice none 0 0]) Z Z Z Z Z Tryz.zeroValue107 Z bp ?_))))
 intro bG bk bq
 let B3:List Value:=[.slice aW x3.far.length aZ,.slice aX x3.by_.length ba]
 refine zh (j:=0) (vs:=B3) Z Z Z Z bq Z Z Z Z yc (zA Z) Z Z Z ?_
 intro bj br
 have bs:SW w [B0,.obj ab (.map ae ag)] U U8 [.blk bk 107 B3,B1,B2,B0,.obj ab (.map ae ag)] bj:=br
 refine oA Z Z (oA Z Z (eN (sR fL2 Z (oM Z Z (oA Z Z (eN (zP ?_)))))))
 have hE:=nE bh;first | subst r | cases hE
 exact ⟨rfl,_,(zm rfl),U8,_,(bs.pick [3,4] _ (by decide) rfl),rfl,rfl⟩
theorem wLH (p0:wAF) (ao:Option Addr) (av:Nat) (ap:Option Addr) (az:Nat) (aq:Option Addr) (aV:Nat) (au:Option Addr) (aW:Nat) (p1:List wAk) (bj:Option Addr) (bk:Nat) (w:World) (U:PHeap) (hS:St0 w U []) (bJ:Sl U 1 ao av p0.Starts.length (nA KL.encI p0.Starts)) (bK:Sl U 2 ap az p0.Splits.length (nA wAP p0.Splits)) (bL:Sl U 3 aq aV p0.Clocks.length (nA wAB p0.Clocks)) (bM:Sl U 4 au aW p0.Readings.length (nA wAM p0.Readings)) (cj:Sl U 2 bj bk p1.length (nA wEh p1)) {r:(Option wAx) × Int} (hm:wEn p0 p1=some r):Gv Tryz.prog 29 [.agg #[.slice ao p0.Starts.length av,.slice ap p0.Splits.length az,.slice aq p0.Clocks.length aV,.slice au p0.Readings.length aW],.slice bj p1.length bk] w (wBc w [] U (fun U_ L_ v=>match r.1 with | none=>v=.tuple #[.pointer none,jV r.2]/\L_=[] | some d=>∃ (b0:Nat) (A0p00:Option Addr) (c0p00:Nat) (A0p01:Option Addr) (c0p01:Nat) (A0p02:Option Addr) (c0p02:Nat) (A0p03:Option Addr) (c0p03:Nat) (m0p1:Nat) (es0p1:Array MapEntry) (ck0p1:Nat) (A0p2:Option Addr) (c0p2:Nat),v=.tuple #[.pointer (some ⟨b0,0,none⟩),jV r.2]/\L_=[.blk b0 105 [.slice A0p00 d.Race.Starts.length c0p00,.slice A0p01 d.Race.Splits.length c0p01,.slice A0p02 d.Race.Clocks.length c0p02,.slice A0p03 d.Race.Readings.length c0p03,.map (some m0p1),.slice A0p2 d.edges.length c0p2],.obj m0p1 (.map es0p1 ck0p1)]/\Sl U_ 1 A0p00 c0p00 d.Race.Starts.length (nA KL.encI d.Race.Starts)/\Sl U_ 2 A0p01 c0p01 d.Race.Splits.length (nA wAP d.Race.Splits)/\Sl U_ 3 A0p02 c0p02 d.Race.Clocks.length (nA wAB d.Race.Clocks)/\Sl U_ 4 A0p03 c0p03 d.Race.Readings.length (nA wAM d.Race.Readings)/\MpR es0p1 wEK wEV d.number/\Sl U_ 7 A0p2 c0p2 d.edges.length (nA wAe d.edges))):=by
 unfold wEn at hm
 refine Gv.of Tryz.func29 Z Tryz.ntmps29 Tryz.results29 Z (sR gCa Z ?_)
 let B0:List Value:=[.slice ao p0.Starts.length av,.slice ap p0.Splits.length az,.slice aq p0.Clocks.length aV,.slice au p0.Readings.length aW]
 refine zq (cs:=B0) rfl rfl rfl rfl rfl rfl (by rfl) hS ?_
 intro W1 b2 cg
 refine oA Z Z (oA Z Z (eN (sR (.fl 0 (.fx 1 (wRV (.nil)) .stop)) Z (oL Z (cg.ldBA (j:=0) Z Z Z Zb ZQ (vs:=B0) Z Z) ?_))))
 have q:=bnd hm
 obtain ⟨⟨x5,x6⟩,h7,aX⟩:=q
 try dsimp only at aX
 refine zL 0 Z Z Z Z (zK Z Z Tryz.call51 (zB Z zM) Z) cg (fun hs=>wLG p0 ao av ap az aq aV au aW W1 U hs bJ bK bL bM h7) (.inr Z) ?_
 rintro U9 dB dH bb ae cd bY
 rcases x5 with _ | ag
 try dsimp only at aX
 obtain ⟨rfl,rfl⟩:=bY
 have bH:sW w U U9 [.blk b2 28 B0] bb:=cd
 refine oM Z Z (oR Z (zw Z Z (v:=.pointer none) Z) (oR Z (zw Z Z (v:=jV x6) Z) (oA Z Z (oA Z Z (eN (zJ (zS (sR fL3 Z (oM Z Z (oR Z (Zz Z Z Z) (oA Z Z (eN (ifc aX ?_ ?_)))))))))))))
 intro bD dq
 refine zu (ZT (fun h=>h bD.out)) (sR (wEQ gCd) Z (oM Z Z (oL Z (bH.ldBA (j:=0) Z Z Z Zb ZQ (vs:=B0) Z Z) (oR Z (yJ Z (zB Z zM) zM) ?_))))
 have cz:=cj.le ae
 have cA:=bJ.le ae
 have cB:=bK.le ae
 have cC:=bL.le ae
 have cD:=bM.le ae
 have cX:FnOK Tryz.prog U9 (.func (.func 53) #[.agg B0.toArray] #[]) wTk wTl (fun x=>wBE p0 x):=⟨53,[.agg B0.toArray],[],rfl,Tryz.call53,fun U1 w1 x y vs le hs ha hm=>by obtain rfl:=ha;exact wEv p0 ao av ap az aq aV au aW x w1 U1 hs (cA.le le) (cB.le le) (cC.le le) (cD.le le) hm⟩
 refine bnK dq fun x40 cE dr=>zL 0 Z Z Z Z (zK Z Z Tryz.call52 (zB Z (zB Z zM)) Z) bH (fun hs=>wEL p1 bj bk (fun x=>wBE p0 x) (.func (.func 53) #[.agg B0.toArray] #[]) bb U9 hs cz cX cE) (.inr Z) ?_
 rintro bP dD dI cr dF c8 ⟨rfl,rfl⟩
 have da:sW w U bP [.blk b2 28 B0] cr:=c8
 refine oR Z (ZB Z Z) (oA Z Z (eN (ifc dr ?_ ?_)))
 intro bE dt
 refine zu (nC bE.out) (sR gCk Z (oM Z Z ?_))
 cases dt
 intro bE du
 refine zo (nF (bE.out)) (sR fL2 Z (oA Z Z (oA Z Z (eN (zP (za (zR ?_)))))))
 cases du
 exact ⟨rfl,_,(wGV rfl rfl),bP,_,(da.pick [] _ (by decide) rfl),rfl,rfl⟩
 intro bD dv
 refine cT Z bD (sR fL3 Z (oM Z Z (oA Z Z (oA Z Z (eN (zP (za (zR ?_))))))))
 cases dv
 exact ⟨rfl,_,(wGV rfl rfl),U9,_,(bH.pick [] _ (by decide) rfl),rfl,rfl⟩
 try dsimp only at aX
 obtain ⟨be,bm,bz,bn,bA,bp,bB,bq,bC,ai,am,ak,aZ,bg,rfl,rfl,cG,cH,cI,cJ,bT⟩:=bY
 let B1:Res:=.blk be 105 [.slice bm ag.Race.Starts.length bz,.slice bn ag.Race.Splits.length bA,.slice bp ag.Race.Clocks.length bB,.slice bq ag.Race.Readings.length bC,.map (some ai),.slice aZ ag.edges.length bg]
 let B2:Res:=.row aZ bg 151 7 (nA wAe ag.edges)
 have bI:sW w U U9 [B1,.obj ai (.map am ak),B2,.blk b2 28 B0] bb:=cd
 refine oM Z Z (oR Z (zw Z Z (v:=.pointer (some ⟨be,0,none⟩)) Z) (oR Z (zw Z Z (v:=jV x6) Z) (oA Z Z (oA Z Z (eN (zJ (zS (sR fL3 Z (oM Z Z (oR Z (Zz Z Z Z) (oA Z Z (eN (ifc aX ?_ ?_)))))))))))))
 intro bF dw
 refine zu (ZT (fun h=>h bF.out)) (sR (wEQ gCd) Z (oM Z Z (oL Z (bI.ldBA (j:=3) Z Z Z Zb ZQ (vs:=B0) Z Z) (oR Z (yJ Z (zB Z zM) zM) ?_))))
 have cK:=cj.le ae
 have cL:=bJ.le ae
 have cM:=bK.le ae
 have cN:=bL.le ae
 have cO:=bM.le ae
 have cY:FnOK Tryz.prog U9 (.func (.func 53) #[.agg B0.toArray] #[]) wTk wTl (fun x=>wBE p0 x):=⟨53,[.agg B0.toArray],[],rfl,Tryz.call53,fun U1 w1 x y vs le hs ha hm=>by obtain rfl:=ha;exact wEv p0 ao av ap az aq aV au aW x w1 U1 hs (cL.le le) (cM.le le) (cN.le le) (cO.le le) hm⟩
 refine bnK dw fun x71 cQ dx=>zL 0 Z Z Z Z (zK Z Z Tryz.call52 (zB Z (zB Z zM)) Z) bI (fun hs=>wEL p1 bj bk (fun x=>wBE p0 x) (.func (.func 53) #[.agg B0.toArray] #[]) bb U9 hs cK cY cQ) (.inr Z) ?_
 rintro bQ dE dJ bu bh db ⟨rfl,rfl⟩
 have ci:sW w U bQ [B1,.obj ai (.map am ak),B2,.blk b2 28 B0] bu:=db
 refine oR Z (ZB Z Z) (oA Z Z (eN (ifc dx ?_ ?_)))
 intro bG dy
 refine zu (nC bG.out) (sR gCk Z (oM Z Z ?_))
 have q:=ci.freezeR (k:=2) (n:=ag.edges.length) rfl (wAC (f:=wAe) (sz:=7) (fun _=>rfl) ag.edges) (by decide)
 obtain ⟨bR,bi,cm,de⟩:=q
 have df:sW w U bR [B1,.obj ai (.map am ak),.blk b2 28 B0] bu:=de
 have cR:=cG.le bh
 have bU:=cR.le bi
 have cS:=cH.le bh
 have bV:=cS.le bi
 have cU:=cI.le bh
 have bW:=cU.le bi
 have cV:=cJ.le bh
 have bX:=cV.le bi
 refine bnK dy fun x96 cW dz=>zL 2 Z Z Z Z (zK Z Z Tryz.call54 (zB Z zM) Z) df (fun hs=>wHh ag be bm bz bn bA bp bB bq bC ai am ak aZ bg bu bR hs bU bV bW bX bT cm cW) (.inl Z) ?_
 rintro bs dC dG cq aY cZ ⟨rfl,rfl⟩
 have bZ:sW w U bs [B1,.obj ai (.map am ak),.blk b2 28 B0] cq:=cZ
 refine oR Z (ZB Z Z) (oA Z Z (eN (ifc dz ?_ ?_)))
 intro bw dg
 refine zu (nC bw.out) (Ze (zf (zI (sR fL3 Z (oM Z Z (oA Z Z (oA Z Z (eN (zP ?_)))))))))
 have ct:=bU.le aY
 have cu:=bV.le aY
 have cw:=bW.le aY
 have cx:=bX.le aY
 have cy:=cm.le aY
 cases dg
 exact ⟨rfl,_,(wGV rfl rfl),bs,_,(bZ.pick [0,1] _ (by decide) rfl),be,bm,bz,bn,bA,bp,bB,bq,bC,ai,am,ak,aZ,bg,rfl,rfl,ct,cu,cw,cx,bT,cy⟩
 intro bw dh
 refine zo (nF (bw.out)) (sR fL2 Z (oA Z Z (oA Z Z (eN (zP (za (zR ?_)))))))
 cases dh
 exact ⟨rfl,_,(wGV rfl rfl),bs,_,(bZ.pick [] _ (by decide) rfl),rfl,rfl⟩
 intro bG dm
 refine zo (nF (bG.out)) (sR fL2 Z (oA Z Z (oA Z Z (eN (zP (za (zR ?_)))))))
 cases dm
 exact ⟨rfl,_,(wGV rfl rfl),bQ,_,(ci.pick [] _ (by decide) rfl),rfl,rfl⟩
 intro bF dp
 refine cT Z bF (sR fL3 Z (oM Z Z (oA Z Z (oA Z Z (eN (zP (za (zR ?_))))))))
 cases dp
 exact ⟨rfl,_,(wGV rfl rfl),U9,_,(bI.pick [] _ (by decide) rfl),rfl,rfl⟩
theorem wHO (p0:wAF) (ak:Option Addr) (ap:Nat) (am:Option Addr) (aq:Nat) (an:Option Addr) (au:Nat) (ao:Option Addr) (av:Nat) (p1:Int) (w:World) (U:PHeap) (hS:St0 w U []) (bS:Sl U 1 ak ap p0.Starts.length (nA KL.encI p0.Starts)) (bT:Sl U 2 am aq p0.Splits.length (nA wAP p0.Splits)) (bU:Sl U 3 an au p0.Clocks.length (nA wAB p0.Clocks)) (bV:Sl U 4 ao av p0.Readings.length (nA wAM p0.Readings)) {r:(Option wAx) × Int} (hm:wDS p0 p1=some r):Gv Tryz.prog 15 [.agg #[.slice ak p0.Starts.length ap,.slice am p0.Splits.length aq,.slice an p0.Clocks.length au,.slice ao p0.Readings.length av],jV p1] w (wBc w [] U (fun U_ L_ v=>match r.1 with | none=>v=.tuple #[.pointer none,jV r.2]/\L_=[] | some d=>∃ (b0:Nat) (A0p00:Option Addr) (c0p00:Nat) (A0p01:Option Addr) (c0p01:Nat) (A0p02:Option Addr) (c0p02:Nat) (A0p03:Option Addr) (c0p03:Nat) (m0p1:Nat) (es0p1:Array MapEntry) (ck0p1:Nat) (A0p2:Option Addr) (c0p2:Nat),v=.tuple #[.pointer (some ⟨b0,0,none⟩),jV r.2]/\L_=[.blk b0 105 [.slice A0p00 d.Race.Starts.length c0p00,.slice A0p01 d.Race.Splits.length c0p01,.slice A0p02 d.Race.Clocks.length c0p02,.slice A0p03 d.Race.Readings.length c0p03,.map (some m0p1),.slice A0p2 d.edges.length c0p2],.obj m0p1 (.map es0p1 ck0p1)]/\Sl U_ 1 A0p00 c0p00 d.Race.Starts.length (nA KL.encI d.Race.Starts)/\Sl U_ 2 A0p01 c0p01 d.Race.Splits.length (nA wAP d.Race.Splits)/\Sl U_ 3 A0p02 c0p02 d.Race.Clocks.length (nA wAB d.Race.Clocks)/\Sl U_ 4 A0p03 c0p03 d.Race.Readings.length (nA wAM d.Race.Readings)/\MpR es0p1 wEK wEV d.number/\Sl U_ 7 A0p2 c0p2 d.edges.length (nA wAe d.edges))):=by
 unfold wDS at hm
 refine Gv.of Tryz.func15 Z Tryz.ntmps15 Tryz.results15 Z (sR gCa Z ?_)
 let B0:List Value:=[.slice ak p0.Starts.length ap,.slice am p0.Splits.length aq,.slice an p0.Clocks.length au,.slice ao p0.Readings.length av]
 refine zq (cs:=B0) rfl rfl rfl rfl rfl rfl (by rfl) hS ?_
 intro W1 b2 bz
 refine oA Z Z (oA Z Z (eN (sR (wEQ (.fx 3 (.fx 4 (wWS (.nil)) .stop) .stop)) Z (oL Z (bz.ldBA (j:=0) Z Z Z Zb ZQ (vs:=B0) Z Z) (oM Z Z ?_)))))
 let B1:List Value:=[jV 0,jV p1]
 refine oR Z (ZN (pv:=[(0,jV 0),(1,jV p1)]) (z:=[jV 0,jV 0]) (cs:=B1) Z (wAG Z (wAG Z wAZ)) Tryz.zeroValue101 wLE Z Z) (ZL (pv:=[(0,.agg B1.toArray)]) (zs:=[jV 0,jV 0]) (cs:=B1) Z Z Z Z Z (wAG Z wAZ) Tryz.runUnderlying142 Tryz.sizeOf101 Tryz.zeroValue101 Z Z Z Z Z bz ?_)
 intro W5 b6 bQ
 have bR:sW w U U [.row (some ⟨b6,0,none⟩) 1 101 2 (nA wEh [(⟨0,p1⟩:wAk)]),.blk b2 28 B0] W5:=bQ
 have q:=bR.freezeR (k:=0) (n:=[(⟨0,p1⟩:wAk)].length) rfl (wAC (f:=wEh) (sz:=2) (fun _=>rfl) [(⟨0,p1⟩:wAk)]) (by decide)
 obtain ⟨bg,aj,bW,bM⟩:=q
 have bN:sW w U bg [.blk b2 28 B0] W5:=bM
 have bB:=bS.le aj
 have bC:=bT.le aj
 have bD:=bU.le aj
 have bE:=bV.le aj
 have q:=bnd hm
 obtain ⟨⟨x19,bA⟩,bF,ag⟩:=q
 try dsimp only at ag
 refine zL 0 Z Z Z Z (zK Z Z Tryz.call29 (zB Z (zB Z zM)) Z) bN (fun hs=>wLH p0 ak ap am aq an au ao av [(⟨0,p1⟩:wAk)] (some ⟨b6,0,none⟩) 1 W5 bg hs bB bC bD bE bW bF) (.inr Z) ?_
 rintro ah bX cd bh bZ bw bu
 rcases x19 with _ | x44
 try dsimp only at ag
 obtain ⟨rfl,rfl⟩:=bu
 have bO:sW w U ah [.blk b2 28 B0] bh:=bw
 refine oR Z (zw Z Z (v:=.pointer none) Z) (oR Z (zw Z Z (v:=jV bA) Z) (oA Z Z (oA Z Z (eN (zP ?_)))))
 cases ag
 exact ⟨rfl,_,(wGV rfl rfl),ah,_,(bO.pick [] _ (by decide) rfl),rfl,rfl⟩
 try dsimp only at ag
 obtain ⟨aW,aY,bk,aZ,bm,ba,bn,bb,bp,aX,bs,bq,be,br,rfl,rfl,bG,bH,bI,bJ,bK,bL⟩:=bu
 have bP:sW w U ah [.blk aW 105 [.slice aY x44.Race.Starts.length bk,.slice aZ x44.Race.Splits.length bm,.slice ba x44.Race.Clocks.length bn,.slice bb x44.Race.Readings.length bp,.map (some aX),.slice be x44.edges.length br],.obj aX (.map bs bq),.blk b2 28 B0] bh:=bw
 refine oR Z (zw Z Z (v:=.pointer (some ⟨aW,0,none⟩)) Z) (oR Z (zw Z Z (v:=jV bA) Z) (oA Z Z (oA Z Z (eN (zP ?_)))))
 cases ag
 exact ⟨rfl,_,(wGV rfl rfl),ah,_,(bP.pick [0,1] _ (by decide) rfl),aW,aY,bk,aZ,bm,ba,bn,bb,bp,aX,bs,bq,be,br,rfl,rfl,bG,bH,bI,bJ,bK,bL⟩
theorem wEz (p0:wAx) (aq:Nat) (ap:Option Addr) (au:Nat) (aW:Option Addr) (ba:Nat) (aX:Option Addr) (bb:Nat) (aY:Option Addr) (be:Nat) (ab:Nat) (ae:Array MapEntry) (ag:Nat) (aZ:Option Addr) (bg:Nat) (p1:Int) (w:World) (U:PHeap) (hS:St0 w U [.blk aq 105 [.slice ap p0.Race.Starts.length au,.slice aW p0.Race.Splits.length ba,.slice aX p0.Race.Clocks.length bb,.slice aY p0.Race.Readings.length be,.map (some ab),.slice aZ p0.edges.length bg],.obj ab (.map ae ag)]) (dr:Sl U 1 ap au p0.Race.Starts.length (nA KL.encI p0.Race.Starts)) (dt:Sl U 2 aW ba p0.Race.Splits.length (nA wAP p0.Race.Splits)) (du:Sl U 3 aX bb p0.Race.Clocks.length (nA wAB p0.Race.Clocks)) (dv:Sl U 4 aY be p0.Race.Readings.length (nA wAM p0.Race.Readings)) (bE:MpR ae wEK wEV p0.number) (dw:Sl U 7 aZ bg p0.edges.length (nA wAe p0.edges)) {r:(Arr Int 64)} (hm:wBh p0 p1=some r):Gv Tryz.prog 16 [.pointer (some ⟨aq,0,none⟩),jV p1] w (wBc w [.blk aq 105 [.slice ap p0.Race.Starts.length au,.slice aW p0.Race.Splits.length ba,.slice aX p0.Race.Clocks.length bb,.slice aY p0.Race.Readings.length be,.map (some ab),.slice aZ p0.edges.length bg],.obj ab (.map ae ag)] U (fun U_ L_ v=>v=.agg (nA KL.encI r.l).toArray/\L_=[.blk aq 105 [.slice ap p0.Race.Starts.length au,.slice aW p0.Race.Splits.length ba,.slice aX p0.Race.Clocks.length bb,.slice aY p0.Race.Readings.length be,.map (some ab),.slice aZ p0.edges.length bg],.obj ab (.map ae ag)])):=by
 unfold wBh at hm
 refine Gv.of Tryz.func16 Z Tryz.ntmps16 Tryz.results16 Z (sR (.fx 0 .nil .stop) Z (zg (cs:=nA KL.encI (Arr.fill 64 0).l) Z Z Z Z Z Tryz.zeroValue72 Z hS ?_))
 intro W3 b4 db
 let B0:Res:=.blk aq 105 [.slice ap p0.Race.Starts.length au,.slice aW p0.Race.Splits.length ba,.slice aX p0.Race.Clocks.length bb,.slice aY p0.Race.Readings.length be,.map (some ab),.slice aZ p0.edges.length bg]
 have dm:SW w [B0,.obj ab (.map ae ag)] U U [.blk b4 72 (nA KL.encI (Arr.fill 64 0).l),B0,.obj ab (.map ae ag)] W3:=db
 refine eN (sR (.fx 0 .nil .stop) Z (zg (cs:=nA KL.encI (Arr.fill 64 0).l) Z Z Z Z Z Tryz.zeroValue72 Z dm ?_))
 intro W8 b9 cX
 have cd:SW w [B0,.obj ab (.map ae ag)] U U [.blk b9 72 (nA KL.encI (Arr.fill 64 0).l),.blk b4 72 (nA KL.encI (Arr.fill 64 0).l),B0,.obj ab (.map ae ag)] W8:=cX
 refine eN (zJ (sR fL7 Z (oM Z Z (oR Z (Zd Z Z) (oR Z (zF Z Z ZX Z ZQ) (oR Z (zF Z Z zW Z zk) (oL Z (cd.ldB (j:=2) Z Z Z zr (v:=.slice ap p0.Race.Starts.length au) Z) (oR Z (zn Z Z zD) (oM Z Z (eN (zS (bnK hm fun am dx dI=>?_))))))))))))
 have q:=wBM dx
 obtain ⟨bH,dy⟩:=q
 replace bH:=zH bH
 refine CK.forN' (fun ai bh σ_ w_=>∃ (U_:PHeap),σ_ 17=jV (↑ai:Int)/\σ_ 0=.pointer (some ⟨aq,0,none⟩)/\σ_ 1=jV p1/\σ_ 4=.pointer (some ⟨b4,0,none⟩)/\σ_ 5=.pointer (some ⟨b9,0,none⟩)/\σ_ 16=jV (↑p0.Race.Starts.length:Int)/\PHeap.Le U U_/\SW w [B0,.obj ab (.map ae ag)] U U_ [.blk b9 72 (nA KL.encI bh.l),.blk b4 72 (nA KL.encI (Arr.fill 64 0).l),B0,.obj ab (.map ae ag)] w_) dy ?_ ?_ ?_
 exact ⟨U,Z,Z,Z,Z,Z,Z,(zN _),cd⟩
 rintro ai bh d7 er bM bF ⟨bK,bB,br,bT,cL,cM,bU,aV,bD⟩ dK
 have bP:Hid ((↑ai:Int) < (↑p0.Race.Starts.length:Int)):=zH (wBG bF)
 replace bF:=zH bF
 have dE:Hid (w64 ((↑ai:Int) + 1)=(↑(ai + 1):Int)):=zH (by have h1:=bH.out;have h2:=bP.out;rw [wAX] <;> omega)
 refine sR fL1 Z (oR Z (zV Z bB bU) (eN (zJ (cT Z bP (kN (zJ (zS (sR fL2 Z (oM Z bB (oA Z Z (eN (sR (wUR (.fx 9 (wUS (.fx 14 (.fx 15 (.fl 16 (.fl 17 .nil)) .stop) .stop)) .stop)) Z (oM Z br (oM Z br (oR Z (Zd Z Z) (oR Z (zF Z Z ZX Z yX) (oL Z (bD.ldB (j:=2) Z Z Z yb (v:=.map (some ab)) Z) (oM Z Z (oM Z bT (oR Z (ZN (pv:=[(0,jV (↑ai:Int)),(1,jV p1)]) (z:=[jV 0,jV 0]) (cs:=[jV (↑ai:Int),jV p1]) Z (wAG Z (wAG Z wAZ)) zy wEq Z Z) (oL Z (bD.lookup1 (j:=3) (mk:=wEK) (mv:=wEV) (a:=(⟨(↑ai:Int),p1⟩:wAJ)) (z:=0) Z Z Z Z (wDa Zm) wGl ZW bE) ?_)))))))))))))))))))))
 have cQ:=dr.le aV
 have cR:=dt.le aV
 have cS:=du.le aV
 have cU:=dv.le aV
 have cV:=dw.le aV
 have q:=bnd dK
 obtain ⟨⟨x47,x48,x49⟩,cW,cm⟩:=q
 try dsimp only at cm
 have de:SW w [B0,.obj ab (.map ae ag)] U bK [B0,.obj ab (.map ae ag),.blk b9 72 (nA KL.encI bh.l),.blk b4 72 (nA KL.encI (Arr.fill 64 0).l)] bM:=bD.pick [2,3,0,1] _ (by decide) rfl
 refine zL 2 Z Z Z Z (zK Z Z Tryz.call30 (zB Z (zB Z (zB Z zM))) Z) de (fun hs=>wFR p0 aq ap au aW ba aX bb aY be ab ae ag aZ bg (wBU p0.number (⟨(↑ai:Int),p1⟩:wAJ) 0) false bM bK hs cQ cR cS cU bE cV cW) (.inl Z) ?_
 rintro bn dP d5 ct dN df ⟨bi,bq,bz,bA,rfl,rfl⟩
 let B1:Res:=.row bi bq 3 1 (nA KL.encI x47.far)
 let B2:Res:=.row bz bA 3 1 (nA KL.encI x47.by_)
 have dg:SW w [B0,.obj ab (.map ae ag)] U bn [B1,B2,B0,.obj ab (.map ae ag),.blk b9 72 (nA KL.encI bh.l),.blk b4 72 (nA KL.encI (Arr.fill 64 0).l)] ct:=df
 refine oM Z Z (oR Z (zw Z Z (v:=.agg #[.slice bi x47.far.length bq,.slice bz x47.by_.length bA]) Z) (oR Z (zw Z Z (v:=jV x48) Z) (oR Z (zw Z Z (v:=.bool x49) Z) (zg (cs:=[.slice none 0 0,.slice none 0 0]) Z Z Z Z Z Tryz.zeroValue107 Z dg ?_))))
 intro dT bp dh
 let B3:List Value:=[.slice bi x47.far.length bq,.slice bz x47.by_.length bA]
 refine zh (j:=0) (vs:=B3) Z Z Z Z dh Z Z Z Z yc (zA Z) Z Z Z ?_
 intro cu dp
 have cj:SW w [B0,.obj ab (.map ae ag)] U bn [.blk bp 107 B3,B1,B2,B0,.obj ab (.map ae ag),.blk b9 72 (nA KL.encI bh.l),.blk b4 72 (nA KL.encI (Arr.fill 64 0).l)] cu:=dp
 refine oA Z Z (oA Z Z (eN (sR fL7 Z (oM Z br (oR Z (Zd Z Z) (oR Z (zF Z Z ZX Z ZQ) (oR Z (zF Z Z zW Z zk) (oL Z (cj.ldB (j:=3) Z Z Z zr (v:=.slice ap p0.Race.Starts.length au) Z) (oR Z (zn Z Z zD) (oM Z Z (eN (zS (bnK cm fun ef dz dJ=>?_)))))))))))))
 have q:=wBM dz
 obtain ⟨bI,dA⟩:=q
 replace bI:=zH bI
 refine CK.forN' (fun aj az σ_ w_=>∃ (U_:PHeap),σ_ 40=jV (↑aj:Int)/\σ_ 0=.pointer (some ⟨aq,0,none⟩)/\σ_ 1=jV p1/\σ_ 4=.pointer (some ⟨b4,0,none⟩)/\σ_ 5=.pointer (some ⟨b9,0,none⟩)/\σ_ 6=jV (↑ai:Int)/\σ_ 7=.pointer (some ⟨bp,0,none⟩)/\σ_ 16=jV (↑p0.Race.Starts.length:Int)/\σ_ 17=jV (↑ai:Int)/\σ_ 39=jV (↑p0.Race.Starts.length:Int)/\PHeap.Le bn U_/\SW w [B0,.obj ab (.map ae ag)] U U_ [B1,B2,.blk bp 107 B3,B0,.obj ab (.map ae ag),.blk b9 72 (nA KL.encI az.l),.blk b4 72 (nA KL.encI (Arr.fill 64 0).l)] w_) dA ?_ ?_ ?_
 exact ⟨bn,rfl,br,bT,cL,cM,rfl,rfl,bU,bB,rfl,(zN _),(cj.pick [1,2,0,3,4,5,6] _ (by decide) rfl)⟩
 rintro aj az d9 eu bN bG ⟨bL,bC,bV,bW,cN,bX,bY,bQ,cz,cA,bR,dO,dq⟩ dL
 have bO:Hid ((↑aj:Int) < (↑p0.Race.Starts.length:Int)):=zH (wBG bG)
 replace bG:=zH bG
 have dD:Hid (w64 ((↑aj:Int) + 1)=(↑(aj + 1):Int)):=zH (by have h1:=bI.out;have h2:=bO.out;rw [wAX] <;> omega)
 refine sR fL1 rfl (zY rfl rfl rfl rfl (fun _=>zV rfl bC bR) (eN (zJ (cT Z bO (kN (zJ (zS (sR fL2 rfl (zX rfl rfl rfl rfl rfl bC (Zw rfl rfl rfl rfl rfl rfl (eN (ZO zz [3,3,3,1,3,3,3,1,3,3,3,1,3,1,3,3,0] (wWL (.fx 16 .nil .stop)) (by kernel_rfl) ?_))))))))))))
 have av:=dq.drew
 generalize hw_W107:({ bN with drawn:=bN.drawn + 1 }:World)=dQ at av ⊢
 refine oM Z bY (oM Z Z (oR Z (zF Z bQ ZS Z zk) (oL Z (av.ldB (j:=2) Z Z Z zr (v:=.slice bi x47.far.length bq) Z) (oM Z bV (oR Z (Zd Z Z) (oR Z (zF Z Z ZX Z yX) (oL Z (av.ldB (j:=3) Z Z Z yb (v:=.map (some ab)) Z) (oM Z Z (oM Z bW (oR Z (ZN (pv:=[(0,jV (↑aj:Int)),(1,jV p1)]) (z:=[jV 0,jV 0]) (cs:=[jV (↑aj:Int),jV p1]) Z (wAG Z (wAG Z wAZ)) zy wEq Z Z) (oL Z (av.lookup1 (j:=4) (mk:=wEK) (mv:=wEV) (a:=(⟨(↑aj:Int),p1⟩:wAJ)) (z:=0) Z Z Z Z (wDa Zm) wGl ZW bE) (bnK dL fun _ bs dF=>?_))))))))))))
 have q:=av.rowSome (j:=0) rfl (by rw [wAC (f:=KL.encI) (sz:=1) (fun _=>rfl) x47.far];have hz:=wAT bs;omega)
 obtain ⟨dU,bZ⟩:=q
 refine oR Z (ZA Z Z bZ Z zD zC (wBP bs) (wBQ bs)) ?_
 have dB:=wBb (xs:=x47.far) (wAT bs)
 refine ZC rfl rfl rfl rfl (av.ldR (j:=0) rfl bZ rfl rfl zG (wAa (sz:=1) (fun _=>rfl) _ _ 0 _ dB (by first | omega | rfl | simp) rfl)) rfl (bnK dF fun _ bu dG=>zY rfl rfl rfl rfl (fun _=>yz rfl bX rfl Tryz.runUnderlying72 Tryz.sizeOf71 (wBP bu) (wBQ bu)) (bnK dG fun _ bw dH=>zY rfl rfl rfl rfl (fun _=>yz rfl rfl rfl Tryz.runUnderlying71 zC (wBP bw) (wBQ bw)) ?_))
 have dC:=Arr.at_ az (k:=(ai * 8 + aj)) (by have hz0:=wAT bu;have hz1:=wAT bw;omega)
 refine zh (j:=5) (vs:=[jV (gd x47.far (wBU p0.number (⟨(↑aj:Int),p1⟩:wAJ) 0).toNat)]) (cs':=nA KL.encI (az.set (ai * 8 + aj) (gd x47.far (wBU p0.number (⟨(↑aj:Int),p1⟩:wAJ) 0).toNat)).l) rfl rfl rfl rfl av rfl rfl rfl rfl zC (by have hz0:=wAT bu;have hz1:=wAT bw;simp only [List.length_append,List.length_cons,List.length_nil,nJ,wBS (f:=KL.encI) (sz:=1) (N:=64) az (fun _=>rfl) rfl];omega) rfl (wCo (sz:=1) (fo:=0) (fun _=>rfl) _ _ _ _ dC (by first | omega | rfl | simp) (zA rfl) rfl) rfl ?_
 intro cp cY
 have cZ:SW w [B0,.obj ab (.map ae ag)] U bL [B1,B2,.blk bp 107 B3,B0,.obj ab (.map ae ag),.blk b9 72 (nA KL.encI (az.set (ai * 8 + aj) (gd x47.far (wBU p0.number (⟨(↑aj:Int),p1⟩:wAJ) 0).toNat)).l),.blk b4 72 (nA KL.encI (Arr.fill 64 0).l)] cp:=cY
 refine zd (zf (zI (rR fL2 Z (oR Z (zt (zU Z bC Z) (congrArg (jV) dD.out)) (oM Z Z (zd ?_))))))
 cases dH
 exact zI ⟨Z,⟨bL,Z,bV,bW,cN,bX,bY,bQ,cz,cA,bR,dO,cZ⟩⟩
 rintro eh dR ⟨cn,cO,cB,cC,cD,cE,dV,dW,cG,cH,cI,dM,c8⟩
 have cx:Hid (¬ ((↑(((↑p0.Race.Starts.length:Int):Int) - 0).toNat:Int) < (↑p0.Race.Starts.length:Int))):=zH (wAq)
 refine sR fL1 Z (oR Z (zV Z cO cI) (eN (zJ (cF Z cx (ZH (zZ (zZ (zx (zf (zI (rR fL2 Z (oR Z (zt (zU Z cH Z) (congrArg (jV) dE.out)) (oM Z Z (zd ?_))))))))))))))
 cases dJ
 exact zI ⟨rfl,⟨cn,rfl,cB,cC,cD,cE,cG,((aV.trans dN).trans dM),(c8.pick [5,6,3,4] _ (by decide) rfl)⟩⟩
 rintro en dS ⟨bJ,cP,dX,dY,bS,cJ,cK,dZ,cg⟩
 have cy:Hid (¬ ((↑(((↑p0.Race.Starts.length:Int):Int) - 0).toNat:Int) < (↑p0.Race.Starts.length:Int))):=zH (wAq)
 refine sR fL1 rfl (zY rfl rfl rfl rfl (fun _=>zV rfl cP cK) (eN (zJ (cF Z cy (ZH (zZ (zZ (zx (zI (sR gBs rfl (ZC rfl rfl rfl rfl (cg.ldBA (j:=0) rfl rfl cJ Tryz.isAgg72 Tryz.sizeOf72 (vs:=nA KL.encI am.l) (wUs am (fun _=>rfl) rfl) (wBS am (fun _=>rfl) rfl)) rfl (zh (j:=1) (vs:=nA KL.encI am.l) rfl rfl rfl rfl cg rfl bS rfl rfl (fun w=>by rw [wBS (f:=KL.encI) (sz:=1) (N:=64) am (fun _=>rfl) rfl];exact Tryz.sizeOf72 w) (by rw [wBS (f:=KL.encI) (sz:=1) (N:=64) am (fun _=>rfl) rfl,wBS (f:=KL.encI) (sz:=1) (N:=64) (Arr.fill 64 0) (fun _=>rfl) rfl];exact zA rfl) (wFP (fun _=>rfl) _) (wHv _ _ (by rw [wBS (f:=KL.encI) (sz:=1) (N:=64) am (fun _=>rfl) rfl,wBS (f:=KL.encI) (sz:=1) (N:=64) (Arr.fill 64 0) (fun _=>rfl) rfl])) rfl ?_))))))))))))
 intro cq da
 have ci:SW w [B0,.obj ab (.map ae ag)] U bJ [.blk b9 72 (nA KL.encI am.l),.blk b4 72 (nA KL.encI am.l),B0,.obj ab (.map ae ag)] cq:=da
 refine eN (zP ?_)
 have hE:=nE dI;first | subst r | cases hE
 exact ⟨rfl,_,(wLc (v:=.agg (nA KL.encI am.l).toArray) ⟨⟨_,bS,(wBo Tryz.isAgg72 Tryz.sizeOf72 (ci.blkAt (k:=1) rfl) (wUs am (fun _=>rfl) rfl) (wBS am (fun _=>rfl) rfl))⟩,trivial⟩),bJ,_,(ci.pick [2,3] _ (by decide) rfl),rfl,rfl⟩
theorem wKI (p0:wAF) (be:Option Addr) (bg:Nat) (bD:Option Addr) (bG:Nat) (bE:Option Addr) (bH:Nat) (bF:Option Addr) (bI:Nat) (p1:Int) (w:World) (U:PHeap) (hS:St0 w U []) (ew:Sl U 1 be bg p0.Starts.length (nA KL.encI p0.Starts)) (ey:Sl U 2 bD bG p0.Splits.length (nA wAP p0.Splits)) (ez:Sl U 3 bE bH p0.Clocks.length (nA wAB p0.Clocks)) (eA:Sl U 4 bF bI p0.Readings.length (nA wAM p0.Readings)) {r:(List wAI) × Int} (hm:wCp p0 p1=some r):Gv Tryz.prog 6 [.agg #[.slice be p0.Starts.length bg,.slice bD p0.Splits.length bG,.slice bE p0.Clocks.length bH,.slice bF p0.Readings.length bI],jV p1] w (wBc w [] U (fun U_ L_ v=>∃ (A0:Option Addr) (c0:Nat),v=.tuple #[.slice A0 r.1.length c0,jV r.2]/\L_=[.row A0 c0 55 2 (nA wAP r.1)])):=by
 unfold wCp at hm
 refine Gv.of Tryz.func6 Z Tryz.ntmps6 Tryz.results6 Z (sR gCa Z ?_)
 let B0:List Value:=[.slice be p0.Starts.length bg,.slice bD p0.Splits.length bG,.slice bE p0.Clocks.length bH,.slice bF p0.Readings.length bI]
 refine zq (cs:=B0) rfl rfl rfl rfl rfl rfl (by rfl) hS ?_
 intro W1 b2 cL
 refine oA Z Z (oA Z Z (eN (sR (.fl 0 (.fl 1 (.fx 2 (wQO (.nil)) .stop))) Z (oL Z (cL.ldBA (j:=0) Z Z Z Zb ZQ (vs:=B0) Z Z) (oM Z Z ?_)))))
 have q:=bnd hm
 obtain ⟨⟨x5,x6⟩,h7,bq⟩:=q
 try dsimp only at bq
 refine zL 0 Z Z Z Z (zK Z Z Tryz.call15 (zB Z (zB Z zM)) Z) cL (fun hs=>wHO p0 be bg bD bG bE bH bF bI p1 W1 U hs ew ey ez eA h7) (.inr Z) ?_
 rintro U9 fm fH bP fD cI cG
 rcases x5 with _ | bh
 try dsimp only at bq
 obtain ⟨rfl,rfl⟩:=cG
 have d5:sW w U U9 [.blk b2 28 B0] bP:=cI
 refine oM Z Z (oR Z (zw Z Z (v:=.pointer none) Z) (oR Z (zw Z Z (v:=jV x6) Z) (oA Z Z (oA Z Z (eN (zJ (sR fL2 Z (oM Z Z (oR Z (Zz Z Z Z) (eN (ifc bq ?_ ?_)))))))))))
 intro bU eZ
 refine zu (ZT (fun h=>h bU.out)) (kN (sR gCp Z (oM Z Z (oM Z Z ?_))))
 cases eZ
 intro bU fb
 refine cT Z bU (sR fL3 Z (oM Z Z (oA Z Z (oA Z Z (eN (zP (zR ?_)))))))
 have d7:=d5.nilrow 55 2
 cases fb
 exact ⟨rfl,_,(wGV rfl rfl),U9,_,(d7.pick [0] _ (by decide) rfl),none,0,rfl,rfl⟩
 try dsimp only at bq
 obtain ⟨bQ,ci,cx,cj,cy,cm,cz,cp,cB,ag,ai,ah,cq,cC,rfl,rfl,dF,dG,dH,dI,dJ,dK⟩:=cG
 let B1:Res:=.blk bQ 105 [.slice ci bh.Race.Starts.length cx,.slice cj bh.Race.Splits.length cy,.slice cm bh.Race.Clocks.length cz,.slice cp bh.Race.Readings.length cB,.map (some ag),.slice cq bh.edges.length cC]
 have cM:sW w U U9 [B1,.obj ag (.map ai ah),.blk b2 28 B0] bP:=cI
 refine oM Z Z (oR Z (zw Z Z (v:=.pointer (some ⟨bQ,0,none⟩)) Z) (oR Z (zw Z Z (v:=jV x6) Z) (oA Z Z (oA Z Z (eN (zJ (sR fL2 Z (oM Z Z (oR Z (Zz Z Z Z) (eN (ifc bq ?_ ?_)))))))))))
 intro bV fc
 refine zu (ZT (fun h=>h bV.out)) (kN (sR gCp Z (oM Z Z (oM Z Z (bnK fc fun x48 dL fd=>zL 2 Z Z Z Z (zK Z Z Tryz.call16 (zB Z (zB Z zM)) Z) cM (fun hs=>wEz bh bQ ci cx cj cy cm cz cp cB ag ai ah cq cC p1 bP U9 hs dF dG dH dI dJ dK dL) (.inl Z) ?_)))))
 rintro bk fq fJ db fG d9 ⟨rfl,rfl⟩
 have ef:sW w U bk [B1,.obj ag (.map ai ah),.blk b2 28 B0] db:=d9
 refine zg (cs:=nA KL.encI (Arr.fill 64 0).l) Z Z Z Z Z Tryz.zeroValue72 Z ef ?_
 intro de ak eh
 have en:sW w U bk [.blk ak 72 (nA KL.encI (Arr.fill 64 0).l),B1,.obj ag (.map ai ah),.blk b2 28 B0] de:=eh
 refine zh (j:=0) (vs:=nA KL.encI x48.l) rfl rfl rfl rfl en rfl rfl rfl rfl (fun w=>by rw [wBS (f:=KL.encI) (sz:=1) (N:=64) x48 (fun _=>rfl) rfl];exact Tryz.sizeOf72 w) (by rw [wBS (f:=KL.encI) (sz:=1) (N:=64) x48 (fun _=>rfl) rfl,wBS (f:=KL.encI) (sz:=1) (N:=64) (Arr.fill 64 0) (fun _=>rfl) rfl];exact zA rfl) (wFP (fun _=>rfl) _) (wHv _ _ (by rw [wBS (f:=KL.encI) (sz:=1) (N:=64) x48 (fun _=>rfl) rfl,wBS (f:=KL.encI) (sz:=1) (N:=64) (Arr.fill 64 0) (fun _=>rfl) rfl])) rfl ?_
 intro df er
 have cN:sW w U bk [.blk ak 72 (nA KL.encI x48.l),B1,.obj ag (.map ai ah),.blk b2 28 B0] df:=er
 refine eN (sR fL1 Z (oA Z Z (eN (zJ (sR fL4 Z (oR Z (zF Z Z zW Z zk) (oL Z (cN.ldB (j:=3) Z Z Z zr (v:=.slice be p0.Starts.length bg) Z) (oR Z (zn Z Z zD) (oM Z Z (eN (zS (bnK fd fun fM eE ff=>?_))))))))))))
 have q:=wBM eE
 obtain ⟨cd,eF⟩:=q
 replace cd:=zH cd
 refine CK.forN' (fun an bb σ_ w_=>∃ (U_:PHeap) (bi:Option Addr) (bn:Nat),σ_ 28=jV (↑an:Int)/\σ_ 2=.pointer (some ⟨b2,0,none⟩)/\σ_ 8=.pointer (some ⟨ak,0,none⟩)/\σ_ 9=.slice bi bb.length bn/\σ_ 27=jV (↑p0.Starts.length:Int)/\PHeap.Le bk U_/\sW w U U_ [.blk ak 72 (nA KL.encI x48.l),B1,.obj ag (.map ai ah),.blk b2 28 B0,.row bi bn 55 2 (nA wAP bb)] w_) eF ?_ ?_ ?_
 have eu:=cN.nilrow 55 2
 exact ⟨bk,none,0,rfl,rfl,rfl,rfl,rfl,(zN _),(eu.pick [1,2,3,4,0] _ (by decide) rfl)⟩
 rintro an bb fL fQ fz bY ⟨bO,bi,bn,bW,cD,dq,dr,cE,fj,dN⟩ fg
 have cu:Hid ((↑an:Int) < (↑p0.Starts.length:Int)):=zH (wBG bY)
 replace bY:=zH bY
 have eJ:Hid (w64 ((↑an:Int) + 1)=(↑(an + 1):Int)):=zH (by have h1:=cd.out;have h2:=cu.out;rw [wAX] <;> omega)
 refine sR fL1 Z (oR Z (zV Z bW cE) (eN (zJ (cT Z cu (kN (zJ (zS (sR fL2 Z (oM Z bW (oA Z Z (eN (sR (.fl 0 gBu) Z ?_))))))))))))
 let B2:List Value:=[jV 0,jV 0]
 let B3:List Value:=[jV 1,jV 1]
 refine oR Z (ZN (pv:=[(0,jV 1),(1,jV 1)]) (z:=B2) (cs:=B3) Z (wAG Z (wAG Z wAZ)) yR wKG Z Z) (zg (cs:=B2) Z Z Z Z Z yR Z dN ?_)
 intro ft au dO
 refine zh (j:=0) (vs:=B3) Z Z Z Z dO Z Z Z Z Za (zA Z) Z Z Z ?_
 intro cW dP
 let B4:Res:=.row bi bn 55 2 (nA wAP bb)
 have cH:sW w U bO [.blk au 55 B3,.blk ak 72 (nA KL.encI x48.l),B1,.obj ag (.map ai ah),.blk b2 28 B0,B4] cW:=dP
 refine eN (zJ (sR fL4 Z (oR Z (zF Z cD zW Z zk) (oL Z (cH.ldB (j:=4) Z Z Z zr (v:=.slice be p0.Starts.length bg) Z) (oR Z (zn Z Z zD) (oM Z Z (eN (zS ?_))))))))
 have q:=bnd fg
 obtain ⟨⟨bJ,bK⟩,eB,cO⟩:=q
 try dsimp only at cO
 have q:=wBM eB
 obtain ⟨bZ,eD⟩:=q
 replace bZ:=zH bZ
 refine CK.forN' (fun av (aY,aq) σ_ w_=>∃ (U_:PHeap),σ_ 35=jV (↑av:Int)/\σ_ 2=.pointer (some ⟨b2,0,none⟩)/\σ_ 8=.pointer (some ⟨ak,0,none⟩)/\σ_ 9=.slice bi bb.length bn/\σ_ 10=jV (↑an:Int)/\σ_ 11=.pointer (some ⟨au,0,none⟩)/\σ_ 27=jV (↑p0.Starts.length:Int)/\σ_ 28=jV (↑an:Int)/\σ_ 34=jV (↑p0.Starts.length:Int)/\PHeap.Le bO U_/\sW w U U_ [.blk au 55 [jV aY,jV aq],.blk ak 72 (nA KL.encI x48.l),B1,.obj ag (.map ai ah),.blk b2 28 B0,B4] w_) eD ?_ ?_ ?_
 exact ⟨bO,Z,cD,dq,dr,Z,Z,cE,bW,Z,(zN _),cH⟩
 rintro av ⟨aY,aq⟩ fK fN fu bX ⟨az,ba,br,aV,bs,aW,am,bu,bw,bp,bB,aX⟩ cP
 try dsimp only at cP
 have cw:Hid ((↑av:Int) < (↑p0.Starts.length:Int)):=zH (wBG bX)
 replace bX:=zH bX
 have bA:Hid (w64 ((↑av:Int) + 1)=(↑(av + 1):Int)):=zH (by have h1:=bZ.out;have h2:=cw.out;rw [wAX] <;> omega)
 refine sR fL1 Z (oR Z (zV Z ba bp) (eN (zJ (cT Z cw (kN (zJ (zS (sR fL2 Z (oM Z ba (oA Z Z (eN (zJ (sR fL6 Z (oM Z aW (oM Z Z (bnK cP fun _ ao eK=>oR Z (yz Z aV Z Tryz.runUnderlying72 Tryz.sizeOf71 (wBP ao) (wBQ ao)) (bnK eK fun _ ap eL=>oR Z (yz Z Z Z Tryz.runUnderlying71 zC (wBP ap) (wBQ ap)) ?_)))))))))))))))))
 have eG:=Arr.at_ x48 (k:=(an * 8 + av)) (by have hz0:=wAT ao;have hz1:=wAT ap;omega)
 refine ZC rfl rfl rfl rfl (aX.ldB (j:=1) rfl rfl rfl zG (wAa (sz:=1) (fun _=>rfl) _ _ 0 _ eG (by first | omega | rfl | simp) rfl)) rfl (zY rfl rfl rfl rfl (fun _=>zV rfl rfl rfl) (eN (ifc eL ?_ ?_)))
 intro bR eM
 refine cT Z bR (rR (wDo (.fx 4 .nil .stop)) Z (oR Z (zF Z am ZI Z zC) (oL Z (aX.ldB (j:=0) Z Z Z zG (v:=jV aY) Z) (oR Z (zU Z Z Z) (oR Z (zF Z am ZI Z zC) (zh (j:=0) (vs:=[jV (w64 (aY + 1))]) Z Z Z Z aX Z Z Z Z zC (zA Z) Z Z Z ?_))))))
 intro cX dQ
 have bz:sW w U az [.blk au 55 [jV (w64 (aY + 1)),jV aq],.blk ak 72 (nA KL.encI x48.l),B1,.obj ag (.map ai ah),.blk b2 28 B0,B4] cX:=dQ
 refine eN (sR fL6 Z (oM Z Z (oM Z aW (oR Z (yz Z aV Z Tryz.runUnderlying72 Tryz.sizeOf71 (wBP ap) (wBQ ap)) (oR Z (yz Z Z Z Tryz.runUnderlying71 zC (wBP ao) (wBQ ao)) ?_)))))
 have eH:=Arr.at_ x48 (k:=(av * 8 + an)) (by have hz0:=wAT ap;have hz1:=wAT ao;omega)
 refine ZC rfl rfl rfl rfl (bz.ldB (j:=1) rfl rfl rfl zG (wAa (sz:=1) (fun _=>rfl) _ _ 0 _ eH (by first | omega | rfl | simp) rfl)) rfl (zY rfl rfl rfl rfl (fun _=>yG rfl rfl rfl) (eN (ifc eM ?_ ?_)))
 intro bS eO
 refine cT Z bS (rR (wDo (.fx 4 .nil .stop)) Z (oR Z (zF Z am ZI Z zC) (oL Z (bz.ldB (j:=0) Z Z Z zG (v:=jV aq) Z) (oR Z (zU Z Z Z) (oR Z (zF Z am ZI Z zC) (zh (j:=0) (vs:=[jV (w64 (aq + 1))]) Z Z Z Z bz Z Z Z Z zC (zA Z) Z Z Z ?_))))))
 intro cY dR
 have dS:sW w U az [.blk au 55 [jV (w64 (aY + 1)),jV (w64 (aq + 1))],.blk ak 72 (nA KL.encI x48.l),B1,.obj ag (.map ai ah),.blk b2 28 B0,B4] cY:=dR
 refine zd (zf (zI (rR fL2 Z (oR Z (zt (zU Z ba Z) (congrArg (jV) bA.out)) (oM Z Z (zd ?_))))))
 cases eO
 exact zI ⟨Z,⟨az,Z,br,aV,bs,aW,am,bu,bw,bp,bB,dS⟩⟩
 intro bS eQ
 refine cF Z bS (Ze (zf (zI (rR fL2 Z (oR Z (zt (zU Z ba Z) (congrArg (jV) bA.out)) (oM Z Z (zd ?_)))))))
 cases eQ
 exact zI ⟨Z,⟨az,Z,br,aV,bs,aW,am,bu,bw,bp,bB,bz⟩⟩
 intro bR eU
 refine cF Z bR (kN (sR fL6 Z (oM Z Z (oM Z aW (oR Z (yz Z aV Z Tryz.runUnderlying72 Tryz.sizeOf71 (wBP ap) (wBQ ap)) (oR Z (yz Z Z Z Tryz.runUnderlying71 zC (wBP ao) (wBQ ao)) ?_))))))
 have eI:=Arr.at_ x48 (k:=(av * 8 + an)) (by have hz0:=wAT ap;have hz1:=wAT ao;omega)
 refine ZC rfl rfl rfl rfl (aX.ldB (j:=1) rfl rfl rfl zG (wAa (sz:=1) (fun _=>rfl) _ _ 0 _ eI (by first | omega | rfl | simp) rfl)) rfl (zY rfl rfl rfl rfl (fun _=>yG rfl rfl rfl) (eN (ifc eU ?_ ?_)))
 intro bT eV
 refine cT Z bT (rR (wDo (.fx 4 .nil .stop)) Z (oR Z (zF Z am ZI Z zC) (oL Z (aX.ldB (j:=0) Z Z Z zG (v:=jV aq) Z) (oR Z (zU Z Z Z) (oR Z (zF Z am ZI Z zC) (zh (j:=0) (vs:=[jV (w64 (aq + 1))]) Z Z Z Z aX Z Z Z Z zC (zA Z) Z Z Z ?_))))))
 intro cZ dT
 have dU:sW w U az [.blk au 55 [jV aY,jV (w64 (aq + 1))],.blk ak 72 (nA KL.encI x48.l),B1,.obj ag (.map ai ah),.blk b2 28 B0,B4] cZ:=dT
 refine zd (zf (zI (rR fL2 Z (oR Z (zt (zU Z ba Z) (congrArg (jV) bA.out)) (oM Z Z (zd ?_))))))
 cases eV
 exact zI ⟨Z,⟨az,Z,br,aV,bs,aW,am,bu,bw,bp,bB,dU⟩⟩
 intro bT eW
 refine cF Z bT (Ze (zf (zI (rR fL2 Z (oR Z (zt (zU Z ba Z) (congrArg (jV) bA.out)) (oM Z Z (zd ?_)))))))
 cases eW
 exact zI ⟨Z,⟨az,Z,br,aV,bs,aW,am,bu,bw,bp,bB,aX⟩⟩
 rintro fO fw ⟨bN,dC,dt,du,dv,fA,dw,dx,dy,dz,fh,cJ⟩
 have dh:Hid (¬ ((↑(((↑p0.Starts.length:Int):Int) - 0).toNat:Int) < (↑p0.Starts.length:Int))):=zH (wAq)
 refine sR fL1 Z (oR Z (zV Z dC dz) (eN (zJ (cF Z dh (ZH (zZ (zZ (zx (zI (rR (.fl 0 (.fl 1 (.fx 2 gBx .stop))) Z (oM Z dv ?_)))))))))))
 let B5:List Value:=[jV bJ,jV bK]
 refine oL Z (cJ.ldBA (j:=0) Z Z dw Tryz.isAgg55 Za (vs:=B5) Z Z) (ZL (pv:=[(0,.agg B5.toArray)]) (zs:=B2) (cs:=B5) Z Z Z Z Z (wAG Z wAZ) ZY Za yR Z Z Z Z Z cJ ?_)
 intro c8 dg dV
 let B6:Res:=.row (some ⟨dg,0,none⟩) 1 55 2 (nA wAP [(⟨bJ,bK⟩:wAI)])
 have cK:sW w U bN [B6,.blk au 55 B5,.blk ak 72 (nA KL.encI x48.l),B1,.obj ag (.map ai ah),.blk b2 28 B0,B4] c8:=dV
 refine bnK cO fun cQ dE eX=>Zq (j:=6) (enc:=wAP) (xs:=bb) (ys:=[(⟨bJ,bK⟩:wAI)]) (zs:=cQ) rfl rfl rfl rfl rfl Tryz.underlying24 wSC rfl rfl rfl rfl rfl rfl cK rfl rfl rfl (cK.srcR (j:=0) rfl (by decide) (wAC (f:=wAP) (sz:=2) (fun _=>rfl) [(⟨bJ,bK⟩:wAI)])) (fun _=>rfl) (fun _=>rfl) dE rfl ?_
 intro cn cA da dW
 have dX:sW w U bN [B6,.blk au 55 B5,.blk ak 72 (nA KL.encI x48.l),B1,.obj ag (.map ai ah),.blk b2 28 B0,.row cn cA 55 2 (nA wAP cQ)] da:=dW
 refine oA Z Z (zd (zf (zI (rR fL2 Z (oR Z (zt (zU Z dy Z) (congrArg (jV) eJ.out)) (oM Z Z (zd ?_)))))))
 cases eX
 exact zI ⟨rfl,⟨bN,cn,cA,rfl,dt,du,rfl,dx,(fj.trans fh),(dX.pick [2,3,4,5,6] _ (by decide) rfl)⟩⟩
 rintro fP fy ⟨cU,cS,dm,dD,fB,fC,dA,dB,fE,dY⟩
 have dp:Hid (¬ ((↑(((↑p0.Starts.length:Int):Int) - 0).toNat:Int) < (↑p0.Starts.length:Int))):=zH (wAq)
 refine sR fL1 Z (oR Z (zV Z dD dB) (eN (zJ (cF Z dp (ZH (zZ (zZ (zx (zI (sR fL3 Z (oM Z dA (oA Z Z (oA Z Z (eN (zP ?_)))))))))))))))
 cases ff
 exact ⟨rfl,_,(wGV rfl rfl),cU,_,(dY.pick [4] _ (by decide) rfl),cS,dm,rfl,rfl⟩
 intro bV eY
 refine cT Z bV (sR fL3 Z (oM Z Z (oA Z Z (oA Z Z (eN (zP (zR ?_)))))))
 have dZ:=cM.nilrow 55 2
 cases eY
 exact ⟨rfl,_,(wGV rfl rfl),U9,_,(dZ.pick [0] _ (by decide) rfl),none,0,rfl,rfl⟩
set_option maxHeartbeats 4000000
theorem wLI (p0:wAF) (bk:Option Addr) (bm:Nat) (bu:Option Addr) (bA:Nat) (bw:Option Addr) (bB:Nat) (bz:Option Addr) (bC:Nat) (p1:Int) (w:World) (U:PHeap) (hS:St0 w U []) (ew:Sl U 1 bk bm p0.Starts.length (nA KL.encI p0.Starts)) (ey:Sl U 2 bu bA p0.Splits.length (nA wAP p0.Splits)) (ez:Sl U 3 bw bB p0.Clocks.length (nA wAB p0.Clocks)) (eA:Sl U 4 bz bC p0.Readings.length (nA wAM p0.Readings)) {r:(List (List Int)) × Int} (hm:wDJ p0 p1=some r):Gv Tryz.prog 7 [.agg #[.slice bk p0.Starts.length bm,.slice bu p0.Splits.length bA,.slice bw p0.Clocks.length bB,.slice bz p0.Readings.length bC],jV p1] w (wBc w [] U (fun U_ L_ v=>∃ (A0:Option Addr) (c0:Nat) (cN:List Hd),v=.tuple #[.slice A0 r.1.length c0,jV r.2]/\L_=[.row A0 c0 23 1 (nA wHF cN),inn 3 1 KL.encI cN r.1])):=by
 unfold wDJ at hm
 refine Gv.of Tryz.func7 Z Tryz.ntmps7 Tryz.results7 Z (sR gCa Z ?_)
 let B0:List Value:=[.slice bk p0.Starts.length bm,.slice bu p0.Splits.length bA,.slice bw p0.Clocks.length bB,.slice bz p0.Readings.length bC]
 refine zq (cs:=B0) rfl rfl rfl rfl rfl rfl (by rfl) hS ?_
 intro W1 b2 cH
 refine oA Z Z (oA Z Z (eN (sR (.fl 0 (.fl 1 (.fx 2 (wQO (.nil)) .stop))) Z (oL Z (cH.ldBA (j:=0) Z Z Z Zb ZQ (vs:=B0) Z Z) (oM Z Z ?_)))))
 have q:=bnd hm
 obtain ⟨⟨x5,x6⟩,h7,bj⟩:=q
 try dsimp only at bj
 refine zL 0 Z Z Z Z (zK Z Z Tryz.call15 (zB Z (zB Z zM)) Z) cH (fun hs=>wHO p0 bk bm bu bA bw bB bz bC p1 W1 U hs ew ey ez eA h7) (.inr Z) ?_
 rintro U9 fq fE bg fB cD cC
 rcases x5 with _ | bb
 try dsimp only at bj
 obtain ⟨rfl,rfl⟩:=cC
 have dV:sW w U U9 [.blk b2 28 B0] bg:=cD
 refine oM Z Z (oR Z (zw Z Z (v:=.pointer none) Z) (oR Z (zw Z Z (v:=jV x6) Z) (oA Z Z (oA Z Z (eN (zJ (sR fL2 Z (oM Z Z (oR Z (Zz Z Z Z) (eN (ifc bj ?_ ?_)))))))))))
 intro bI eX
 refine zu (ZT (fun h=>h bI.out)) (kN (sR gCp Z (oM Z Z (oM Z Z ?_))))
 cases eX
 intro bI eY
 refine cT Z bI (sR fL3 Z (oM Z Z (oA Z Z (oA Z Z (eN (zP (zR ?_)))))))
 have dW:=dV.nilrow 23 1
 have dX:=dW.innNil 3 1 KL.encI
 have dY:sW w U U9 [inn 3 1 KL.encI ([]:List Hd) ([]:List (List Int)),.row none 0 23 1 [],.blk b2 28 B0] bg:=dX
 cases eY
 exact ⟨rfl,_,(wGV rfl rfl),U9,_,(dY.pick [1,0] _ (by decide) rfl),none,0,([]:List Hd),rfl,rfl⟩
 try dsimp only at bj
 obtain ⟨bG,bU,cq,bV,cr,bW,ct,bX,cu,ai,ak,aj,bY,cw,rfl,rfl,dx,dy,dz,dA,dB,dC⟩:=cC
 let B1:Res:=.blk bG 105 [.slice bU bb.Race.Starts.length cq,.slice bV bb.Race.Splits.length cr,.slice bW bb.Race.Clocks.length ct,.slice bX bb.Race.Readings.length cu,.map (some ai),.slice bY bb.edges.length cw]
 have cI:sW w U U9 [B1,.obj ai (.map ak aj),.blk b2 28 B0] bg:=cD
 refine oM Z Z (oR Z (zw Z Z (v:=.pointer (some ⟨bG,0,none⟩)) Z) (oR Z (zw Z Z (v:=jV x6) Z) (oA Z Z (oA Z Z (eN (zJ (sR fL2 Z (oM Z Z (oR Z (Zz Z Z Z) (eN (ifc bj ?_ ?_)))))))))))
 intro bJ eZ
 refine zu (ZT (fun h=>h bJ.out)) (kN (sR gCp Z (oM Z Z (oM Z Z (bnK eZ fun am dD fb=>zL 2 Z Z Z Z (zK Z Z Tryz.call16 (zB Z (zB Z zM)) Z) cI (fun hs=>wEz bb bG bU cq bV cr bW ct bX cu ai ak aj bY cw p1 bg U9 hs dx dy dz dA dB dC dD) (.inl Z) ?_)))))
 rintro aV ft fG cW fD dZ ⟨rfl,rfl⟩
 have d5:sW w U aV [B1,.obj ai (.map ak aj),.blk b2 28 B0] cW:=dZ
 refine zg (cs:=nA KL.encI (Arr.fill 64 0).l) Z Z Z Z Z Tryz.zeroValue72 Z d5 ?_
 intro cX ao d7
 have d9:sW w U aV [.blk ao 72 (nA KL.encI (Arr.fill 64 0).l),B1,.obj ai (.map ak aj),.blk b2 28 B0] cX:=d7
 refine zh (j:=0) (vs:=nA KL.encI am.l) rfl rfl rfl rfl d9 rfl rfl rfl rfl (fun w=>by rw [wBS (f:=KL.encI) (sz:=1) (N:=64) am (fun _=>rfl) rfl];exact Tryz.sizeOf72 w) (by rw [wBS (f:=KL.encI) (sz:=1) (N:=64) am (fun _=>rfl) rfl,wBS (f:=KL.encI) (sz:=1) (N:=64) (Arr.fill 64 0) (fun _=>rfl) rfl];exact zA rfl) (wFP (fun _=>rfl) _) (wHv _ _ (by rw [wBS (f:=KL.encI) (sz:=1) (N:=64) am (fun _=>rfl) rfl,wBS (f:=KL.encI) (sz:=1) (N:=64) (Arr.fill 64 0) (fun _=>rfl) rfl])) rfl ?_
 intro cY ef
 have cJ:sW w U aV [.blk ao 72 (nA KL.encI am.l),B1,.obj ai (.map ak aj),.blk b2 28 B0] cY:=ef
 refine eN (sR (wEQ gBx) Z (oR Z (zF Z Z zW Z zk) (oL Z (cJ.ldB (j:=3) Z Z Z zr (v:=.slice bk p0.Starts.length bm) Z) (oR Z (zn Z Z zD) (bnK fb fun x69 cB fc=>OKS.makeSliceN Z Z Z Z Z (wDa ZK) wSA Z Z Z Z Z cB cJ ?_)))))
 intro cj au eh
 let B2:Res:=.row (some ⟨au,0,none⟩) x69.length 23 1 (nA wHF (nN x69.length (⟨none,0,0⟩:Hd)))
 have er:sW w U aV [B2,.blk ao 72 (nA KL.encI am.l),B1,.obj ai (.map ak aj),.blk b2 28 B0] cj:=eh
 have en:=er.innMade 3 1 KL.encI cB
 have eu:sW w U aV [inn 3 1 KL.encI (nN x69.length (⟨none,0,0⟩:Hd)) x69,B2,.blk ao 72 (nA KL.encI am.l),B1,.obj ai (.map ak aj),.blk b2 28 B0] cj:=en
 refine oA Z Z (eN (zJ (sR fL3 Z (oM Z Z (oR Z (zn Z Z ZK) (oM Z Z (eN (zS (bnK fc fun fL eE fd=>?_)))))))))
 have q:=wBM eE
 obtain ⟨bS,eF⟩:=q
 replace bS:=zH bS
 refine CK.forN' (fun aa aY σ_ w_=>∃ (U_:PHeap) (br:List Hd),σ_ 30=jV (↑aa:Int)/\σ_ 8=.pointer (some ⟨ao,0,none⟩)/\σ_ 9=.slice (some ⟨au,0,none⟩) aY.length x69.length/\σ_ 29=jV (↑x69.length:Int)/\PHeap.Le aV U_/\sW w U U_ [.blk ao 72 (nA KL.encI am.l),B1,.obj ai (.map ak aj),.blk b2 28 B0,.row (some ⟨au,0,none⟩) x69.length 23 1 (nA wHF br),inn 3 1 KL.encI br aY] w_) eF ?_ ?_ ?_
 exact ⟨aV,(nN x69.length (⟨none,0,0⟩:Hd)),rfl,rfl,rfl,rfl,(zN _),(eu.pick [2,3,4,5,1,0] _ (by decide) rfl)⟩
 rintro aa aY fJ fP fy bP ⟨cg,br,bM,db,cx,cy,fj,dF⟩ fg
 have cn:Hid ((↑aa:Int) < (↑x69.length:Int)):=zH (wBG bP)
 replace bP:=zH bP
 have eJ:Hid (w64 ((↑aa:Int) + 1)=(↑(aa + 1):Int)):=zH (by have h1:=bS.out;have h2:=cn.out;rw [wAX] <;> omega)
 refine sR fL1 Z (oR Z (zV Z bM cy) (eN (zJ (cT Z cn (kN (zJ (zS (sR fL2 Z (oM Z bM (oA Z Z (eN (sR fL3 Z (oM Z cx (oR Z (zn Z Z ZK) (oM Z Z (eN (zS (bnK fg fun fK eB eK=>?_))))))))))))))))))
 have q:=wBM eB
 obtain ⟨bR,eD⟩:=q
 replace bR:=zH bR
 refine CK.forN' (fun aq ap σ_ w_=>∃ (U_:PHeap) (ab:List Hd),σ_ 35=jV (↑aq:Int)/\σ_ 8=.pointer (some ⟨ao,0,none⟩)/\σ_ 9=.slice (some ⟨au,0,none⟩) ap.length x69.length/\σ_ 10=jV (↑aa:Int)/\σ_ 29=jV (↑x69.length:Int)/\σ_ 30=jV (↑aa:Int)/\σ_ 34=jV (↑aY.length:Int)/\PHeap.Le cg U_/\sW w U U_ [.blk ao 72 (nA KL.encI am.l),B1,.obj ai (.map ak aj),.blk b2 28 B0,.row (some ⟨au,0,none⟩) x69.length 23 1 (nA wHF ab),inn 3 1 KL.encI ab ap] w_) eD ?_ ?_ ?_
 exact ⟨cg,br,Z,db,cx,Z,cy,bM,Z,(zN _),dF⟩
 rintro aq ap fH fM ci bQ ⟨av,ab,bq,bK,bp,bh,cz,cA,bL,cO,bi⟩ fh
 have cp:Hid ((↑aq:Int) < (↑aY.length:Int)):=zH (wBG bQ)
 replace bQ:=zH bQ
 have cM:Hid (w64 ((↑aq:Int) + 1)=(↑(aq + 1):Int)):=zH (by have h1:=bR.out;have h2:=cp.out;rw [wAX] <;> omega)
 refine sR fL1 Z (oR Z (zV Z bq bL) (eN (zJ (cT Z cp (kN (zJ (zS (sR fL2 Z (oM Z bq (oA Z Z (eN (sR fL6 Z (oM Z bh (oM Z Z (bnK fh fun _ bN eL=>oR Z (yz Z bK Z Tryz.runUnderlying72 Tryz.sizeOf71 (wBP bN) (wBQ bN)) (bnK eL fun _ bO eM=>oR Z (yz Z Z Z Tryz.runUnderlying71 zC (wBP bO) (wBQ bO)) ?_))))))))))))))))
 have eG:=Arr.at_ am (k:=(aa * 8 + aq)) (by have hz0:=wAT bN;have hz1:=wAT bO;omega)
 refine ZC rfl rfl rfl rfl (bi.ldB (j:=0) rfl rfl rfl zG (wAa (sz:=1) (fun _=>rfl) _ _ 0 _ eG (by first | omega | rfl | simp) rfl)) rfl (zY rfl rfl rfl rfl (fun _=>zV rfl rfl rfl) (eN (ifc eM ?_ ?_)))
 intro bH eO
 refine cT Z bH (rR (wMT (.fx 7 (.fx 8 (.fl 9 (.fx 10 .nil .stop)) .stop) .stop)) Z (oM Z bp (oM Z bh (oM Z bp (oM Z bh (bnK eO fun _ aX eQ=>oR Z (ZV Z Z Z Z ZK zk (wAT aX)) ?_))))))
 have cK:=bi.innFit (j:=5) rfl
 have eH:=wBb (xs:=ab) (k:=aa) (by rw [cK.len];exact (wAT aX))
 have ff:Value.slice (gd ab aa).A (gd ab aa).n (gd ab aa).c=.slice ((gd ab aa).A) ((gd ap aa).length) ((gd ab aa).c):=by rw [cK.at_ (k:=aa) (wAT aX)]
 refine ZC rfl rfl rfl rfl (RunsK.to (bi.ldR (j:=4) rfl rfl rfl rfl zr (wAa (sz:=1) (fun _=>rfl) _ _ 0 _ eH (by first | omega | rfl | simp) rfl)) ff) rfl ?_
 let B3:Res:=.row (some ⟨au,0,none⟩) x69.length 23 1 (nA wHF ab)
 have dG:sW w U av [inn 3 1 KL.encI ab ap,.blk ao 72 (nA KL.encI am.l),B1,.obj ai (.map ak aj),.blk b2 28 B0,B3] ci:=bi.pick [5,0,1,2,3,4] _ (by decide) rfl
 have dH:=dG.innTake (k:=aa) (wAT aX)
 let B4:Res:=.row ((gd ab aa).A) ((gd ab aa).c) 3 1 (nA KL.encI (gd ap aa))
 have dI:sW w U av [B4,wRh 3 1 KL.encI ab ap aa,.blk ao 72 (nA KL.encI am.l),B1,.obj ai (.map ak aj),.blk b2 28 B0,B3] ci:=dH
 refine oM Z Z (ZL (pv:=[(0,jV (↑aq:Int))]) (zs:=[jV 0]) (cs:=[jV (↑aq:Int)]) Z Z Z Z Z (wAG Z wAZ) zD zC ZW Z Z Z Z Z dI ?_)
 intro cU cZ dJ
 let B5:Res:=.row (some ⟨cZ,0,none⟩) 1 3 1 (nA KL.encI [(↑aq:Int)])
 have cE:sW w U av [B5,B4,wRh 3 1 KL.encI ab ap aa,.blk ao 72 (nA KL.encI am.l),B1,.obj ai (.map ak aj),.blk b2 28 B0,B3] cU:=dJ
 refine bnK eQ fun az du eU=>Zq (j:=1) (enc:=KL.encI) (xs:=(gd ap aa)) (ys:=[(↑aq:Int)]) (zs:=az) rfl rfl rfl rfl rfl yF wId rfl rfl rfl rfl rfl rfl cE rfl rfl rfl (cE.srcR (j:=0) rfl (by decide) (wAC (f:=KL.encI) (sz:=1) (fun _=>rfl) [(↑aq:Int)])) (fun _=>rfl) (fun _=>rfl) du rfl ?_
 intro aZ ba cV dK
 let B6:Res:=.row aZ ba 3 1 (nA KL.encI az)
 have cG:sW w U av [B5,B6,wRh 3 1 KL.encI ab ap aa,.blk ao 72 (nA KL.encI am.l),B1,.obj ai (.map ak aj),.blk b2 28 B0,B3] cV:=dK
 refine oR Z (ZV Z Z Z Z ZK zk (wAT aX)) ?_
 have cL:=(cG.innHFit (j:=2) rfl).1
 have eI:=wBb (xs:=ab) (k:=aa) (by rw [cL.len];exact wAT aX)
 refine yd (j:=7) (vs:=wHF (⟨aZ,az.length,ba⟩:Hd)) (cs':=nA wHF (nK ab aa (⟨aZ,az.length,ba⟩:Hd))) rfl rfl rfl rfl cG rfl rfl rfl rfl rfl zk (by rw [wAC (f:=wHF) (sz:=1) (fun _=>rfl),cL.len];have hz:=wAT aX;show _ + 1 <= _;first | omega | (simp only [nJ];omega)) rfl (wCo (sz:=1) (fo:=0) (fun _=>rfl) _ _ _ _ eI (by first | omega | (simp only [nJ];omega)) (zA rfl) rfl) rfl ?_
 intro bF dL
 let B7:Res:=.row (some ⟨au,0,none⟩) x69.length 23 1 (nA wHF (nK ab aa (⟨aZ,az.length,ba⟩:Hd)))
 have dM:sW w U av [B5,B6,wRh 3 1 KL.encI ab ap aa,.blk ao 72 (nA KL.encI am.l),B1,.obj ai (.map ak aj),.blk b2 28 B0,B7] bF:=dL
 have dN:sW w U av [B6,wRh 3 1 KL.encI ab ap aa,B5,.blk ao 72 (nA KL.encI am.l),B1,.obj ai (.map ak aj),.blk b2 28 B0,B7] bF:=dM.pick [1,2,0,3,4,5,6,7] _ (by decide) rfl
 have dO:=dN.innPut
 have dP:sW w U av [inn 3 1 KL.encI (nK ab aa (⟨aZ,az.length,ba⟩:Hd)) (nK ap aa az),B5,.blk ao 72 (nA KL.encI am.l),B1,.obj ai (.map ak aj),.blk b2 28 B0,B7] bF:=dO
 refine zd (zf (zI (rR fL2 Z (oR Z (zt (zU Z bq Z) (congrArg (jV) cM.out)) (oM Z Z (zd ?_))))))
 cases eU
 exact zI ⟨rfl,⟨av,(nK ab aa (⟨aZ,az.length,ba⟩:Hd)),rfl,bK,(Eq.trans (b:=(.slice (some ⟨au,0,none⟩) ap.length x69.length:Value)) (c:=(.slice (some ⟨au,0,none⟩) ((nK ap aa az).length) x69.length:Value)) bp (by simp only [nL])),bh,cz,cA,bL,cO,(dP.pick [2,3,4,5,6,0] _ (by decide) rfl)⟩⟩
 intro bH eV
 refine cF Z bH (Ze (zf (zI (rR fL2 Z (oR Z (zt (zU Z bq Z) (congrArg (jV) cM.out)) (oM Z Z (zd ?_)))))))
 cases eV
 exact zI ⟨Z,⟨av,ab,Z,bK,bp,bh,cz,cA,bL,cO,bi⟩⟩
 rintro fN fu ⟨cQ,dv,dr,de,df,fz,dg,dh,dm,fk,dQ⟩
 have c8:Hid (¬ ((↑(((↑aY.length:Int):Int) - 0).toNat:Int) < (↑aY.length:Int))):=zH (wAq)
 refine sR fL1 Z (oR Z (zV Z dr dm) (eN (zJ (cF Z c8 (ZH (zZ (zZ (zx (zf (zI (rR fL2 Z (oR Z (zt (zU Z dh Z) (congrArg (jV) eJ.out)) (oM Z Z (zd ?_))))))))))))))
 cases eK
 exact zI ⟨Z,⟨cQ,dv,Z,de,df,dg,(fj.trans fk),dQ⟩⟩
 rintro fO fw ⟨cR,dw,dt,fA,dp,dq,fC,dR⟩
 have da:Hid (¬ ((↑(((↑x69.length:Int):Int) - 0).toNat:Int) < (↑x69.length:Int))):=zH (wAq)
 refine sR fL1 Z (oR Z (zV Z dt dq) (eN (zJ (cF Z da (ZH (zZ (zZ (zx (zI (sR fL3 Z (oM Z dp (oA Z Z (oA Z Z (eN (zP ?_)))))))))))))))
 cases fd
 exact ⟨rfl,_,(wGV rfl rfl),cR,_,(dR.pick [4,5] _ (by decide) rfl),(some ⟨au,0,none⟩),x69.length,dw,rfl,rfl⟩
 intro bJ eW
 refine cT Z bJ (sR fL3 Z (oM Z Z (oA Z Z (oA Z Z (eN (zP (zR ?_)))))))
 have dS:=cI.nilrow 23 1
 have dT:=dS.innNil 3 1 KL.encI
 have dU:sW w U U9 [inn 3 1 KL.encI ([]:List Hd) ([]:List (List Int)),.row none 0 23 1 [],B1,.obj ai (.map ak aj),.blk b2 28 B0] bg:=dT
 cases eW
 exact ⟨rfl,_,(wGV rfl rfl),U9,_,(dU.pick [1,0] _ (by decide) rfl),none,0,([]:List Hd),rfl,rfl⟩
theorem wBZ (p0:Int) (p1:Int) (p2:Int) (w:World) (U:PHeap) (hS:St0 w U [])  {r:Bool} (hm:wAw p0 p1 p2=some r):Gv Tryz.prog 86 [jV p0,jV p1,jV p2] w (wBc w [] U (fun U_ L_ v=>v=.bool r/\L_=[])):=by
 unfold wAw at hm
 refine Gv.of Tryz.func86 Z Tryz.ntmps86 Tryz.results86 Z (sR fL1 Z (oA Z Z (eN (sR fL9 Z (oM Z Z (oM Z Z (oR Z (yw Z Z Z) (oM Z Z ?_))))))))
 by_cases c1:p1 <= p0
 have ab:=hm;rw [if_pos c1] at ab;replace c1:=zH c1
 refine zX Z Z Z (wT Z c1) Z Z (zX Z Z Z (wT Z c1) Z Z (rU Z (wT Z c1) (yo Z Z Z) (oR Z (zb Z (ZU c1.out) Z) (oA Z Z (eN (zP ?_))))))
 first | (obtain rfl:=nE ab) | cases ab
 exact ⟨Z,_,(zm Z),U,_,hS,Z,Z⟩
 have ah:=hm;rw [if_neg c1] at ah;replace c1:=zH c1
 refine oF Z c1 (oF Z c1 (oF Z c1 (oR Z (zi Z (ZT c1.out) Z) (oA Z Z (eN (zP ?_))))))
 have hE:=nE ah;first | subst r | cases hE
 exact ⟨Z,_,(zm Z),U,_,hS,Z,Z⟩
theorem wFk (p0:wAQ) (p1:(wAQ->Option Bool)) (aj:Nat) (ag:Value) (w:World) (U:PHeap) (hS:St0 w U []) (aq:Cl U aj 0 [ag]) (au:FnOK Tryz.prog U ag wNd wNe p1) {r:Bool} (hm:wBD p0 p1=some r):Gv Tryz.prog 134 [.agg #[jV p0.Bib,jV p0.Time],.pointer (some ⟨aj,0,none⟩)] w (wBc w [] U (fun U_ L_ v=>v=.bool r/\L_=[])):=by
 unfold wBD at hm
 refine Gv.of Tryz.func134 Z Tryz.ntmps134 Tryz.results134 Z (sR gBr Z ?_)
 let B0:List Value:=[jV p0.Bib,jV p0.Time]
 refine zq (cs:=B0) rfl rfl rfl rfl rfl rfl (by rfl) hS ?_
 intro W1 b2 ae
 refine oA Z Z (eN (sR gCo Z (oL Z (ae.ldC (f:=0) aq (v:=ag) Z Z Tryz.isAgg178 Z) (oL Z (ae.ldBA (j:=0) Z Z Z Tryz.isAgg39 Zu (vs:=B0) Z Z) (bnK hm fun x5 h6 av=>yI (a:=p0) Z Z Z Z Z Z (zB Z zM) ae au Z h6 ?_)))))
 rintro U8 L9 aX ak aW ao ⟨rfl,rfl⟩
 have ap:sW w U U8 [.blk b2 39 B0] ak:=ao
 refine oR Z (ZB Z Z) (oA Z Z (eN (zP ?_)))
 cases av
 exact ⟨rfl,_,(zm rfl),U8,_,(ap.pick [] _ (by decide) rfl),rfl,rfl⟩
theorem wDH (p0:List wAQ) (an:Option Addr) (ao:Nat) (p1:(wAQ->Option Bool)) (ap:Value) (w:World) (U:PHeap) (hS:St0 w U []) (bu:Sl U 2 an ao p0.length (nA wAO p0)) (bw:FnOK Tryz.prog U ap wNd wNe p1) {r:Int} (hm:wAl p0 p1=some r):Gv Tryz.prog 161 [.slice an p0.length ao,ap] w (wBc w [] U (fun U_ L_ v=>v=jV r/\L_=[])):=by
 unfold wAl at hm
 refine Gv.of Tryz.func161 Z Tryz.ntmps161 Tryz.results161 Z (sR fL1 Z (oA Z Z (eN (zJ (sR fL3 Z (oM Z Z (oR Z (zn Z Z Zf) (oM Z Z (eN (zS ?_))))))))))
 have q:=wCT hm
 obtain ⟨r3,ai⟩:=q
 have q:=wCS ai
 obtain ⟨ak,bB⟩:=q
 replace ak:=zH ak
 refine yQ (fun k2 _ σ_ w_=>∃ (U_:PHeap),σ_ 8=jV (↑k2:Int)/\σ_ 0=.slice an p0.length ao/\σ_ 1=ap/\σ_ 7=jV (↑p0.length:Int)/\PHeap.Le U U_/\sW w U U_ [] w_) bB ?_ ?_ ?_
 exact ⟨U,Z,Z,Z,Z,(zN _),hS⟩
 rintro k2 ⟨⟩ bW bY W8 aj ⟨bL,ah,au,av,az,am,aW⟩ aZ bz
 try dsimp only at aZ
 have aq:Hid ((↑k2:Int) < (↑p0.length:Int)):=zH (wBG aj)
 replace aj:=zH aj
 have bC:Hid (w64 ((↑k2:Int) + 1)=(↑(k2 + 1):Int)):=zH (by have h1:=ak.out;have h2:=aq.out;rw [wAX] <;> omega)
 refine sR fL1 Z (oR Z (zV Z ah az) (eN (zJ (cT Z aq (kN (zJ (zS (sR fL2 Z (oM Z ah (oA Z Z (eN (sR (wGw (.fx 5 .nil .stop)) Z (oM Z av (oM Z au (oM Z Z (bnK aZ fun x22 aV bD=>?_))))))))))))))))
 have bk:=bu.le am
 have q:=bk.el (fun _=>rfl) (wAj aV)
 obtain ⟨bO,bS,bp,bq⟩:=q
 refine oR Z (ZV Z Z bp Z Zf Zu (wCZ aV)) (oL Z (aW.ldCA (f:=0) bq Z Z Tryz.isAgg39 Zu (us:=[jV x22.Bib,jV x22.Time]) Z Z) (bnK bD fun bV bm bE=>?_))
 have bn:=bw.le am
 refine yI (a:=x22) Z Z Z Z Z Z (zB Z zM) aW bn Z bm ?_
 rintro ae bK bU be bI br ⟨rfl,rfl⟩
 have aX:sW w U ae [] be:=br
 refine eN (ifc bE ?_ ?_)
 intro ag bF
 refine zo (congrArg nB ag.out) (sR fL2 Z (oM Z Z (oA Z Z (eN (zP (za (zR ?_)))))))
 have q:=wAc bF
 obtain ⟨bJ,bG,bh⟩:=q
 have q:=wBn hm ai (bz bJ bh)
 obtain rfl:=q
 refine zR (za (zR ?_))
 cases bG
 exact ⟨Z,_,(zm Z),ae,_,aX,Z,Z⟩
 intro ag bH
 refine zu (congrArg nB (nD.2 ag.out)) (Ze (zf (zI (rR fL2 Z (oR Z (zt (zU Z ah Z) (congrArg (jV) bC.out)) (oM Z Z (zd ?_)))))))
 have q:=nE bH
 obtain rfl:=q
 exact zI ⟨Z,_,Z,⟨ae,Z,au,av,az,(am.trans bI),aX⟩⟩
 rintro ⟨⟩ bX bM ⟨bb,bj,bP,bQ,bi,bR,bs⟩ bA
 have aY:=wDe hm ai bA
 try dsimp only at aY
 have bg:Hid (¬ ((↑(((↑p0.length:Int):Int) - 0).toNat:Int) < (↑p0.length:Int))):=zH (wAq)
 refine sR fL1 Z (oR Z (zV Z bj bi) (eN (zJ (cF Z bg (ZH (zZ (zZ (zx (zI (sR fL1 Z (oA Z Z (eN (zP ?_)))))))))))))
 cases aY
 exact ⟨Z,_,(zm Z),bb,_,bs,Z,Z⟩
theorem wCs (p0:List wAQ) (ae:Option Addr) (ag:Nat) (p1:(wAQ->Option Bool)) (ah:Value) (w:World) (U:PHeap) (hS:St0 w U []) (ap:Sl U 2 ae ag p0.length (nA wAO p0)) (aq:FnOK Tryz.prog U ah wNd wNe p1) {r:Bool} (hm:wAs p0 p1=some r):Gv Tryz.prog 133 [.slice ae p0.length ag,ah] w (wBc w [] U (fun U_ L_ v=>v=.bool r/\L_=[])):=by
 unfold wAs at hm
 refine Gv.of Tryz.func133 Z Tryz.ntmps133 Tryz.results133 Z (sR fL1 Z (oA Z Z (eN (sR gCo Z (oM Z Z (oM Z Z (bnK hm fun x1 h2 aj=>zL 0 Z Z Z Z (zK Z Z Tryz.call161 (zB Z (zB Z zM)) Z) hS (fun hs=>wDH p0 ae ag p1 ah w U hs ap aq h2) (.inr Z) ?_)))))))
 rintro U4 L5 v6 W7 av ao ⟨rfl,rfl⟩
 have an:sW w U U4 [] W7:=ao
 refine oR Z (yw Z Z Z) (oA Z Z (eN (zP ?_)))
 first | (obtain rfl:=nE aj) | cases aj
 exact ⟨Z,_,(zm Z),U4,_,an,Z,Z⟩
theorem wGE (p0:List wAQ) (aj:Option Addr) (ak:Nat) (p1:(wAQ->Option Bool)) (ah:Value) (w:World) (U:PHeap) (hS:St0 w U []) (be:Sl U 2 aj ak p0.length (nA wAO p0)) (ao:FnOK Tryz.prog U ah wNd wNe p1) {r:Bool} (hm:wBr p0 p1=some r):Gv Tryz.prog 87 [.slice aj p0.length ak,ah] w (wBc w [] U (fun U_ L_ v=>v=.bool r/\L_=[])):=by
 unfold wBr at hm
 refine Gv.of Tryz.func87 Z Tryz.ntmps87 Tryz.results87 Z (sR gBr Z (zq (cs:=[ah]) Z Z Z Z Z Z (FnOK.cells ao) hS ?_))
 intro W1 b2 aZ
 have q:=aZ.freeze (k:=0) rfl
 obtain ⟨U5,ap,ab,ba⟩:=q
 replace ab:=Cl.of ab
 have bb:sW w U U5 [] W1:=ba
 replace ab:Cl U5 b2 0 [ah]:=ab
 refine oA Z Z (eN (sR gCo Z (oM Z Z (oR Z (yJ Z zM (zB Z zM)) ?_))))
 have av:=be.le ap
 have az:=ao.le ap
 have aW:FnOK Tryz.prog U5 (.func (.func 134) #[] #[.pointer (some ⟨b2,0,none⟩)]) wNd wNe (fun x=>wBD x p1):=⟨134,[],[.pointer (some ⟨b2,0,none⟩)],rfl,Tryz.call134,fun U1 w1 x y vs le hs ha hm=>by obtain rfl:=ha;exact wFk x p1 b2 ah w1 U1 hs (ab.le le) (az.le le) hm⟩
 refine bnK hm fun bm aV bg=>zL 0 Z Z Z Z (zK Z Z Tryz.call133 (zB Z (zB Z zM)) Z) bb (fun hs=>wCs p0 aj ak (fun x=>wBD x p1) (.func (.func 134) #[] #[.pointer (some ⟨b2,0,none⟩)]) W1 U5 hs av aW aV) (.inr Z) ?_
 rintro am bi bk au bj aX ⟨rfl,rfl⟩
 have aY:sW w U am [] au:=aX
 refine oR Z (ZB Z Z) (oA Z Z (eN (zP ?_)))
 cases bg
 exact ⟨Z,_,(zm Z),am,_,aY,Z,Z⟩
theorem wJI (p0:wAQ) (w:World) (U:PHeap) (hS:St0 w U [])  {r:Bool} (hm:wDC p0=some r):Gv Tryz.prog 88 [.agg #[jV p0.Bib,jV p0.Time]] w (wBc w [] U (fun U_ L_ v=>v=.bool r/\L_=[])):=by
 unfold wDC at hm
 refine Gv.of Tryz.func88 Z Tryz.ntmps88 Tryz.results88 Z (sR gBr Z ?_)
 let B0:List Value:=[jV p0.Bib,jV p0.Time]
 refine zq (cs:=B0) rfl rfl rfl rfl rfl rfl (by rfl) hS ?_
 intro W1 b2 am
 refine oA Z Z (eN (sR (.fl 0 (.fl 1 (.fx 2 (wRW gCe) .stop))) Z (oR Z (zF Z Z Zp Z zC) (oL Z (am.ldB (j:=0) Z Z Z zG (v:=jV p0.Bib) Z) (bnK hm fun x5 h6 aY=>zL 0 Z Z Z Z (zK Z Z yU (zB Z (zB Z (zB Z zM))) Z) am (fun hs=>wBZ p0.Bib 1 999 W1 U hs h6) (.inr Z) ?_)))))
 rintro U8 L9 bg aj bb au ⟨rfl,rfl⟩
 have ah:sW w U U8 [.blk b2 39 B0] aj:=au
 refine oM Z Z (ifc aY ?_ ?_)
 intro aa aV
 refine zY Z Z Z (zQ Z Z (congrArg nB aa.out)) (fun _=>zF Z Z Zp Z zC) (ZC Z Z Z (zQ Z Z (congrArg nB aa.out)) (ah.ldB (j:=0) Z Z Z zG (v:=jV p0.Time) Z) Z (bnK aV fun x17 ap aW=>zL 0 Z Z Z (zQ Z Z (congrArg nB aa.out)) (zK Z Z yU (zB Z (zB Z (zB Z zM))) Z) ah (fun hs=>wBZ p0.Time (-1) 360000 aj U8 hs ap) (.inr Z) ?_))
 rintro ai aZ bh ao be av ⟨rfl,rfl⟩
 have az:sW w U ai [.blk b2 39 B0] ao:=av
 refine oR Z (zb Z (congrArg nB aa.out) Z) (oA Z Z (eN (zP ?_)))
 have hE:=nE aW;first | subst r | cases hE
 exact ⟨rfl,_,(zm rfl),ai,_,(az.pick [] _ (by decide) rfl),rfl,rfl⟩
 intro aa aX
 refine ZG Z Z Z (ze Z Z (congrArg nB (nD.2 aa.out)) Z) (ZG Z Z Z (ze Z Z (congrArg nB (nD.2 aa.out)) Z) (Zr Z Z Z (ze Z Z (congrArg nB (nD.2 aa.out)) Z) (oR Z (zi Z (congrArg nB (nD.2 aa.out)) Z) (oA Z Z (eN (zP ?_))))))
 have hE:=nE aX;first | subst r | cases hE
 exact ⟨rfl,_,(zm rfl),U8,_,(ah.pick [] _ (by decide) rfl),rfl,rfl⟩
theorem wFM (p0:wAD) (p1:(wAD->Option Bool)) (aj:Nat) (ag:Value) (w:World) (U:PHeap) (hS:St0 w U []) (aq:Cl U aj 0 [ag]) (au:FnOK Tryz.prog U ag wRy wRz p1) {r:Bool} (hm:wAu p0 p1=some r):Gv Tryz.prog 136 [.agg #[jV p0.Number,jV p0.Kind,jV p0.Minute,jV p0.Bib,jV p0.Much,jV p0.About],.pointer (some ⟨aj,0,none⟩)] w (wBc w [] U (fun U_ L_ v=>v=.bool r/\L_=[])):=by
 unfold wAu at hm
 refine Gv.of Tryz.func136 Z Tryz.ntmps136 Tryz.results136 Z (sR gBr Z ?_)
 let B0:List Value:=[jV p0.Number,jV p0.Kind,jV p0.Minute,jV p0.Bib,jV p0.Much,jV p0.About]
 refine zq (cs:=B0) rfl rfl rfl rfl rfl rfl (by rfl) hS ?_
 intro W1 b2 ae
 refine oA Z Z (eN (sR gCo Z (oL Z (ae.ldC (f:=0) aq (v:=ag) Z Z Tryz.isAgg78 Z) (oL Z (ae.ldBA (j:=0) Z Z Z yq Zn (vs:=B0) Z Z) (bnK hm fun x5 h6 av=>yI (a:=p0) Z Z Z Z Z Z (zB Z zM) ae au Z h6 ?_)))))
 rintro U8 L9 aX ak aW ao ⟨rfl,rfl⟩
 have ap:sW w U U8 [.blk b2 123 B0] ak:=ao
 refine oR Z (ZB Z Z) (oA Z Z (eN (zP ?_)))
 cases av
 exact ⟨rfl,_,(zm rfl),U8,_,(ap.pick [] _ (by decide) rfl),rfl,rfl⟩
theorem wCY (p0:List wAD) (an:Option Addr) (ao:Nat) (p1:(wAD->Option Bool)) (ap:Value) (w:World) (U:PHeap) (hS:St0 w U []) (bu:Sl U 6 an ao p0.length (nA wAL p0)) (bw:FnOK Tryz.prog U ap wRy wRz p1) {r:Int} (hm:wAf p0 p1=some r):Gv Tryz.prog 162 [.slice an p0.length ao,ap] w (wBc w [] U (fun U_ L_ v=>v=jV r/\L_=[])):=by
 unfold wAf at hm
 refine Gv.of Tryz.func162 Z Tryz.ntmps162 Tryz.results162 Z (sR fL1 Z (oA Z Z (eN (zJ (sR fL3 Z (oM Z Z (oR Z (zn Z Z Zj) (oM Z Z (eN (zS ?_))))))))))
 have q:=wCT hm
 obtain ⟨r3,ai⟩:=q
 have q:=wCS ai
 obtain ⟨ak,bB⟩:=q
 replace ak:=zH ak
 refine yQ (fun k2 _ σ_ w_=>∃ (U_:PHeap),σ_ 8=jV (↑k2:Int)/\σ_ 0=.slice an p0.length ao/\σ_ 1=ap/\σ_ 7=jV (↑p0.length:Int)/\PHeap.Le U U_/\sW w U U_ [] w_) bB ?_ ?_ ?_
 exact ⟨U,Z,Z,Z,Z,(zN _),hS⟩
 rintro k2 ⟨⟩ bW bY W8 aj ⟨bL,ah,au,av,az,am,aW⟩ aZ bz
 try dsimp only at aZ
 have aq:Hid ((↑k2:Int) < (↑p0.length:Int)):=zH (wBG aj)
 replace aj:=zH aj
 have bC:Hid (w64 ((↑k2:Int) + 1)=(↑(k2 + 1):Int)):=zH (by have h1:=ak.out;have h2:=aq.out;rw [wAX] <;> omega)
 refine sR fL1 Z (oR Z (zV Z ah az) (eN (zJ (cT Z aq (kN (zJ (zS (sR fL2 Z (oM Z ah (oA Z Z (eN (sR (wGw (.fx 5 .nil .stop)) Z (oM Z av (oM Z au (oM Z Z (bnK aZ fun x22 aV bD=>?_))))))))))))))))
 have bk:=bu.le am
 have q:=bk.el (fun _=>rfl) (wAj aV)
 obtain ⟨bO,bS,bp,bq⟩:=q
 refine oR Z (ZV Z Z bp Z Zj Zn (wCZ aV)) (oL Z (aW.ldCA (f:=0) bq Z Z yq Zn (us:=[jV x22.Number,jV x22.Kind,jV x22.Minute,jV x22.Bib,jV x22.Much,jV x22.About]) Z Z) (bnK bD fun bV bm bE=>?_))
 have bn:=bw.le am
 refine yI (a:=x22) Z Z Z Z Z Z (zB Z zM) aW bn Z bm ?_
 rintro ae bK bU be bI br ⟨rfl,rfl⟩
 have aX:sW w U ae [] be:=br
 refine eN (ifc bE ?_ ?_)
 intro ag bF
 refine zo (congrArg nB ag.out) (sR fL2 Z (oM Z Z (oA Z Z (eN (zP (za (zR ?_)))))))
 have q:=wAc bF
 obtain ⟨bJ,bG,bh⟩:=q
 have q:=wBn hm ai (bz bJ bh)
 obtain rfl:=q
 refine zR (za (zR ?_))
 cases bG
 exact ⟨Z,_,(zm Z),ae,_,aX,Z,Z⟩
 intro ag bH
 refine zu (congrArg nB (nD.2 ag.out)) (Ze (zf (zI (rR fL2 Z (oR Z (zt (zU Z ah Z) (congrArg (jV) bC.out)) (oM Z Z (zd ?_)))))))
 have q:=nE bH
 obtain rfl:=q
 exact zI ⟨Z,_,Z,⟨ae,Z,au,av,az,(am.trans bI),aX⟩⟩
 rintro ⟨⟩ bX bM ⟨bb,bj,bP,bQ,bi,bR,bs⟩ bA
 have aY:=wDe hm ai bA
 try dsimp only at aY
 have bg:Hid (¬ ((↑(((↑p0.length:Int):Int) - 0).toNat:Int) < (↑p0.length:Int))):=zH (wAq)
 refine sR fL1 Z (oR Z (zV Z bj bi) (eN (zJ (cF Z bg (ZH (zZ (zZ (zx (zI (sR fL1 Z (oA Z Z (eN (zP ?_)))))))))))))
 cases aY
 exact ⟨Z,_,(zm Z),bb,_,bs,Z,Z⟩
theorem wCL (p0:List wAD) (ae:Option Addr) (ag:Nat) (p1:(wAD->Option Bool)) (ah:Value) (w:World) (U:PHeap) (hS:St0 w U []) (ap:Sl U 6 ae ag p0.length (nA wAL p0)) (aq:FnOK Tryz.prog U ah wRy wRz p1) {r:Bool} (hm:wAi p0 p1=some r):Gv Tryz.prog 135 [.slice ae p0.length ag,ah] w (wBc w [] U (fun U_ L_ v=>v=.bool r/\L_=[])):=by
 unfold wAi at hm
 refine Gv.of Tryz.func135 Z Tryz.ntmps135 Tryz.results135 Z (sR fL1 Z (oA Z Z (eN (sR gCo Z (oM Z Z (oM Z Z (bnK hm fun x1 h2 aj=>zL 0 Z Z Z Z (zK Z Z Tryz.call162 (zB Z (zB Z zM)) Z) hS (fun hs=>wCY p0 ae ag p1 ah w U hs ap aq h2) (.inr Z) ?_)))))))
 rintro U4 L5 v6 W7 av ao ⟨rfl,rfl⟩
 have an:sW w U U4 [] W7:=ao
 refine oR Z (yw Z Z Z) (oA Z Z (eN (zP ?_)))
 first | (obtain rfl:=nE aj) | cases aj
 exact ⟨Z,_,(zm Z),U4,_,an,Z,Z⟩
theorem wCg (p0:List wAD) (aj:Option Addr) (ak:Nat) (p1:(wAD->Option Bool)) (ah:Value) (w:World) (U:PHeap) (hS:St0 w U []) (be:Sl U 6 aj ak p0.length (nA wAL p0)) (ao:FnOK Tryz.prog U ah wRy wRz p1) {r:Bool} (hm:wAy p0 p1=some r):Gv Tryz.prog 89 [.slice aj p0.length ak,ah] w (wBc w [] U (fun U_ L_ v=>v=.bool r/\L_=[])):=by
 unfold wAy at hm
 refine Gv.of Tryz.func89 Z Tryz.ntmps89 Tryz.results89 Z (sR gBr Z (zq (cs:=[ah]) Z Z Z Z Z Z (FnOK.cells ao) hS ?_))
 intro W1 b2 aZ
 have q:=aZ.freeze (k:=0) rfl
 obtain ⟨U5,ap,ab,ba⟩:=q
 replace ab:=Cl.of ab
 have bb:sW w U U5 [] W1:=ba
 replace ab:Cl U5 b2 0 [ah]:=ab
 refine oA Z Z (eN (sR gCo Z (oM Z Z (oR Z (yJ Z zM (zB Z zM)) ?_))))
 have av:=be.le ap
 have az:=ao.le ap
 have aW:FnOK Tryz.prog U5 (.func (.func 136) #[] #[.pointer (some ⟨b2,0,none⟩)]) wRy wRz (fun x=>wAu x p1):=⟨136,[],[.pointer (some ⟨b2,0,none⟩)],rfl,Tryz.call136,fun U1 w1 x y vs le hs ha hm=>by obtain rfl:=ha;exact wFM x p1 b2 ah w1 U1 hs (ab.le le) (az.le le) hm⟩
 refine bnK hm fun bm aV bg=>zL 0 Z Z Z Z (zK Z Z Tryz.call135 (zB Z (zB Z zM)) Z) bb (fun hs=>wCL p0 aj ak (fun x=>wAu x p1) (.func (.func 136) #[] #[.pointer (some ⟨b2,0,none⟩)]) W1 U5 hs av aW aV) (.inr Z) ?_
 rintro am bi bk au bj aX ⟨rfl,rfl⟩
 have aY:sW w U am [] au:=aX
 refine oR Z (ZB Z Z) (oA Z Z (eN (zP ?_)))
 cases bg
 exact ⟨Z,_,(zm Z),am,_,aY,Z,Z⟩
theorem wDd (p0:Int) (w:World) (U:PHeap) (hS:St0 w U [])  {r:Bool} (hm:wBH p0=some r):Gv Tryz.prog 94 [jV p0] w (wBc w [] U (fun U_ L_ v=>v=.bool r/\L_=[])):=by
 unfold wBH at hm
 refine Gv.of Tryz.func94 Z Tryz.ntmps94 Tryz.results94 Z (sR fL1 Z (oA Z Z (eN (sR fL3 Z (oM Z Z (oR Z (yo Z Z Z) (oA Z Z (eN (zP ?_)))))))))
 first | (obtain rfl:=nE hm) | cases hm
 exact ⟨Z,_,(zm Z),U,_,hS,Z,Z⟩
theorem wFr (p0:wAD) (w:World) (U:PHeap) (hS:St0 w U [])  {r:Bool} (hm:wBK p0=some r):Gv Tryz.prog 90 [.agg #[jV p0.Number,jV p0.Kind,jV p0.Minute,jV p0.Bib,jV p0.Much,jV p0.About]] w (wBc w [] U (fun U_ L_ v=>v=.bool r/\L_=[])):=by
 unfold wBK at hm
 refine Gv.of Tryz.func90 Z Tryz.ntmps90 Tryz.results90 Z (sR gBr Z ?_)
 let B0:List Value:=[jV p0.Number,jV p0.Kind,jV p0.Minute,jV p0.Bib,jV p0.Much,jV p0.About]
 refine zq (cs:=B0) rfl rfl rfl rfl rfl rfl (by rfl) hS ?_
 intro W1 b2 aq
 refine oA Z Z (eN (sR fL1 Z (oA Z Z (eN (zJ (bnK hm fun b5 bE cL=>yP (fun σ_ w_=>∃ (U_:PHeap),σ_ 1=.pointer (some ⟨b2,0,none⟩)/\σ_ 3=jV 36000/\σ_ 17=.bool b5/\PHeap.Le U U_/\sW w U U_ [.blk b2 123 B0] w_) ?_ ?_))))))
 refine rR (wJO (.fx 6 (wSP (.nil)) .stop)) Z (oR Z (zF Z Z ZE Z yt) (oL Z (aq.ldB (j:=0) Z Z Z YB (v:=jV p0.Kind) Z) (oR Z (yO Z Z Z) (oM Z Z ?_))))
 by_cases c9:p0.Kind=3
 have bC:=bE;rw [if_pos c9] at bC;replace c9:=zH c9
 refine oT Z c9 (oT Z c9 (Zr Z Z Z (ze Z Z (ZU c9.out) Z) (oT Z c9 (oT Z c9 (ZG Z Z Z (wEA Z Z Z) (ZG Z Z Z (wEA Z Z Z) (ZG Z Z Z (wEA Z Z Z) (oT Z c9 (oR Z (zb Z (ZU c9.out) Z) (zd ?_))))))))))
 cases bC
 exact zI ⟨Z,⟨U,Z,Z,Z,(zN _),aq⟩⟩
 have bD:=bE;rw [if_neg c9] at bD;replace c9:=zH c9
 refine rU Z (wF Z c9) (zF Z Z ZE Z yt) (ZC Z Z Z (wF Z c9) (aq.ldB (j:=0) Z Z Z YB (v:=jV p0.Kind) Z) Z (bnK bD fun dE bP cz=>zL 0 Z Z Z (wF Z c9) (zK Z Z Tryz.call94 (zB Z zM) Z) aq (fun hs=>wDd p0.Kind W1 U hs bP) (.inr Z) ?_))
 rintro aV cW dw bI bF bZ ⟨rfl,rfl⟩
 have bg:sW w U aV [.blk b2 123 B0] bI:=bZ
 refine rU Z (wF Z c9) (ZB Z Z) (zX Z Z Z (wF Z c9) Z Z (ifc cz ?_ ?_))
 intro ak cA
 refine ZG Z Z Z (ze Z Z (nC ak.out) Z) (ZG Z Z Z (ze Z Z (nC ak.out) Z) (ZG Z Z Z (ze Z Z (nC ak.out) Z) (rU Z (wF Z c9) (zi Z (nC ak.out) Z) (oR Z (zi Z (ZT c9.out) Z) (zd ?_)))))
 cases cA
 exact zI ⟨Z,⟨aV,Z,Z,Z,bF,bg⟩⟩
 intro ak cB
 refine zY Z Z Z (zQ Z Z (nF (ak.out))) (fun _=>zF Z Z ZE Z yt) (ZC Z Z Z (zQ Z Z (nF (ak.out))) (bg.ldB (j:=0) Z Z Z YB (v:=jV p0.Kind) Z) Z (zY Z Z Z (zQ Z Z (nF (ak.out))) (fun _=>Zz Z Z Z) (rU Z (wF Z c9) (zb Z (nF (ak.out)) Z) (oR Z (zi Z (ZT c9.out) Z) (zd ?_)))))
 have q:=nE cB
 obtain rfl:=q
 exact zI ⟨Z,⟨aV,Z,Z,Z,bF,bg⟩⟩
 rintro dF bs ⟨bn,ap,bL,bB,dg,au⟩
 refine ifc cL ?_ ?_
 intro ba cC
 refine zo (bB.trans (congrArg nB ba.out)) (rR fL1 Z (oA Z Z (eN (sR (.fl 0 (.fl 1 (.fx 2 (wRW (.fx 6 (wSO (.fx 11 (wQQ gCf) .stop)) .stop)) .stop))) Z (oR Z (zF Z ap ZE Z zC) (oL Z (au.ldB (j:=0) Z Z Z zG (v:=jV p0.Number) Z) (bnK cC fun x38 bQ cD=>zL 0 Z Z Z Z (zK Z Z yU (zB Z (zB Z (zB Z zM))) Z) au (fun hs=>wBZ p0.Number 1 9999 bs bn hs bQ) (.inr Z) ?_)))))))
 rintro aW cX dx bu dh cd ⟨rfl,rfl⟩
 have bh:sW w U aW [.blk b2 123 B0] bu:=cd
 refine oM Z Z (ifc cD ?_ ?_)
 intro am cE
 refine zY Z Z Z (zQ Z Z (congrArg nB am.out)) (fun _=>zF Z ap ZE Z yt) (ZC Z Z Z (zQ Z Z (congrArg nB am.out)) (bh.ldB (j:=0) Z Z Z YB (v:=jV p0.Kind) Z) Z (bnK cE fun x50 bR cG=>zL 0 Z Z Z (zQ Z Z (congrArg nB am.out)) (zK Z Z yU (zB Z (zB Z (zB Z zM))) Z) bh (fun hs=>wBZ p0.Kind 0 9 bu aW hs bR) (.inr Z) ?_))
 rintro aX cY dy bw dm cg ⟨rfl,rfl⟩
 have bi:sW w U aX [.blk b2 123 B0] bw:=cg
 refine oR Z (zb Z (congrArg nB am.out) Z) (oM Z Z (ifc cG ?_ ?_))
 intro an cH
 refine zY Z Z Z (zQ Z Z (congrArg nB an.out)) (fun _=>zF Z ap ZE Z zC) (ZC Z Z Z (zQ Z Z (congrArg nB an.out)) (bi.ldB (j:=0) Z Z Z zG (v:=jV p0.Minute) Z) Z (bnK cH fun x62 bS cI=>zL 0 Z Z Z (zQ Z Z (congrArg nB an.out)) (zK Z Z yU (zB Z (zB Z (zB Z zM))) Z) bi (fun hs=>wBZ p0.Minute 0 10000 bw aX hs bS) (.inr Z) ?_))
 rintro aY cZ dz bz dp ci ⟨rfl,rfl⟩
 have bj:sW w U aY [.blk b2 123 B0] bz:=ci
 refine oR Z (zb Z (congrArg nB an.out) Z) (oM Z Z (ifc cI ?_ ?_))
 intro ai cJ
 refine zY Z Z Z (zQ Z Z (congrArg nB ai.out)) (fun _=>zF Z ap ZE Z zC) (ZC Z Z Z (zQ Z Z (congrArg nB ai.out)) (bj.ldB (j:=0) Z Z Z zG (v:=jV p0.Much) Z) Z (zX Z Z Z (zQ Z Z (congrArg nB ai.out)) Z Z (bnK cJ fun x74 bT cK=>zL 0 Z Z Z (zQ Z Z (congrArg nB ai.out)) (zK Z Z yU (zB Z (zB Z (zB Z zM))) Z) bj (fun hs=>wBZ p0.Much 0 0 bz aY hs bT) (.inr Z) ?_)))
 rintro bp c8 dA bJ dq cj ⟨rfl,rfl⟩
 have cm:sW w U bp [.blk b2 123 B0] bJ:=cj
 refine oR Z (zb Z (congrArg nB ai.out) Z) (oA Z Z (eN (zP ?_)))
 have hE:=nE cK;first | subst r | cases hE
 exact ⟨rfl,_,(zm rfl),bp,_,(cm.pick [] _ (by decide) rfl),rfl,rfl⟩
 intro ai cM
 refine ZG Z Z Z (ze Z Z (congrArg nB (nD.2 ai.out)) Z) (ZG Z Z Z (ze Z Z (congrArg nB (nD.2 ai.out)) Z) (ZG Z Z Z (ze Z Z (congrArg nB (nD.2 ai.out)) Z) (Zr Z Z Z (ze Z Z (congrArg nB (nD.2 ai.out)) Z) (oR Z (zi Z (congrArg nB (nD.2 ai.out)) Z) (oA Z Z (eN (zP ?_)))))))
 have hE:=nE cM;first | subst r | cases hE
 exact ⟨rfl,_,(zm rfl),aY,_,(bj.pick [] _ (by decide) rfl),rfl,rfl⟩
 intro an cN
 refine ZG Z Z Z (ze Z Z (congrArg nB (nD.2 an.out)) Z) (ZG Z Z Z (ze Z Z (congrArg nB (nD.2 an.out)) Z) (Zr Z Z Z (ze Z Z (congrArg nB (nD.2 an.out)) Z) (oR Z (zi Z (congrArg nB (nD.2 an.out)) Z) (oM Z Z (oN Z (oN Z (oN Z (Zr Z Z Z (ze Z Z Z Z) (oR Z (zi Z Z Z) (oA Z Z (eN (zP ?_))))))))))))
 have hE:=nE cN;first | subst r | cases hE
 exact ⟨rfl,_,(zm rfl),aX,_,(bi.pick [] _ (by decide) rfl),rfl,rfl⟩
 intro am cO
 refine ZG Z Z Z (ze Z Z (congrArg nB (nD.2 am.out)) Z) (ZG Z Z Z (ze Z Z (congrArg nB (nD.2 am.out)) Z) (Zr Z Z Z (ze Z Z (congrArg nB (nD.2 am.out)) Z) (oR Z (zi Z (congrArg nB (nD.2 am.out)) Z) (oM Z Z (oN Z (oN Z (Zr Z Z Z (ze Z Z Z Z) (oR Z (zi Z Z Z) (oM Z Z (oN Z (oN Z (oN Z (Zr Z Z Z (ze Z Z Z Z) (oR Z (zi Z Z Z) (oA Z Z (eN (zP ?_)))))))))))))))))
 have hE:=nE cO;first | subst r | cases hE
 exact ⟨rfl,_,(zm rfl),aW,_,(bh.pick [] _ (by decide) rfl),rfl,rfl⟩
 intro ba cP
 refine zu (bB.trans (congrArg nB (nD.2 ba.out))) (kN (sR (.fl 0 (.fl 1 (.fx 2 (wRW (.fx 6 (wSO (.fx 11 (wQQ gCf) .stop)) .stop)) .stop))) Z (oR Z (zF Z ap ZE Z zC) (oL Z (au.ldB (j:=0) Z Z Z zG (v:=jV p0.Number) Z) (bnK cP fun x88 bU cQ=>zL 0 Z Z Z Z (zK Z Z yU (zB Z (zB Z (zB Z zM))) Z) au (fun hs=>wBZ p0.Number 1 9999 bs bn hs bU) (.inr Z) ?_)))))
 rintro aZ da dB bA dr cn ⟨rfl,rfl⟩
 have bk:sW w U aZ [.blk b2 123 B0] bA:=cn
 refine oM Z Z (ifc cQ ?_ ?_)
 intro ao cR
 refine zY Z Z Z (zQ Z Z (congrArg nB ao.out)) (fun _=>zF Z ap ZE Z yt) (ZC Z Z Z (zQ Z Z (congrArg nB ao.out)) (bk.ldB (j:=0) Z Z Z YB (v:=jV p0.Kind) Z) Z (bnK cR fun dC bM cp=>zL 0 Z Z Z (zQ Z Z (congrArg nB ao.out)) (zK Z Z yU (zB Z (zB Z (zB Z zM))) Z) bk (fun hs=>wBZ p0.Kind 0 9 bA aZ hs bM) (.inr Z) ?_))
 rintro av cS dt bq db bV ⟨rfl,rfl⟩
 have bb:sW w U av [.blk b2 123 B0] bq:=bV
 refine oR Z (zb Z (congrArg nB ao.out) Z) (oM Z Z (ifc cp ?_ ?_))
 intro aj cq
 refine zY Z Z Z (zQ Z Z (congrArg nB aj.out)) (fun _=>zF Z ap ZE Z zC) (ZC Z Z Z (zQ Z Z (congrArg nB aj.out)) (bb.ldB (j:=0) Z Z Z zG (v:=jV p0.Minute) Z) Z (bnK cq fun x112 bN cr=>zL 0 Z Z Z (zQ Z Z (congrArg nB aj.out)) (zK Z Z yU (zB Z (zB Z (zB Z zM))) Z) bb (fun hs=>wBZ p0.Minute 0 10000 bq av hs bN) (.inr Z) ?_))
 rintro az cU du br de bW ⟨rfl,rfl⟩
 have be:sW w U az [.blk b2 123 B0] br:=bW
 refine oR Z (zb Z (congrArg nB aj.out) Z) (oM Z Z (ifc cr ?_ ?_))
 intro ah ct
 refine zY Z Z Z (zQ Z Z (congrArg nB ah.out)) (fun _=>zF Z ap ZE Z zC) (ZC Z Z Z (zQ Z Z (congrArg nB ah.out)) (be.ldB (j:=0) Z Z Z zG (v:=jV p0.Much) Z) Z (zX Z Z Z (zQ Z Z (congrArg nB ah.out)) Z bL (bnK ct fun dD bO cu=>zL 0 Z Z Z (zQ Z Z (congrArg nB ah.out)) (zK Z Z yU (zB Z (zB Z (zB Z zM))) Z) be (fun hs=>wBZ p0.Much 0 36000 br az hs bO) (.inr Z) ?_)))
 rintro bm cV dv bH df bX ⟨rfl,rfl⟩
 have bY:sW w U bm [.blk b2 123 B0] bH:=bX
 refine oR Z (zb Z (congrArg nB ah.out) Z) (oA Z Z (eN (zP ?_)))
 have hE:=nE cu;first | subst r | cases hE
 exact ⟨rfl,_,(zm rfl),bm,_,(bY.pick [] _ (by decide) rfl),rfl,rfl⟩
 intro ah cw
 refine ZG Z Z Z (ze Z Z (congrArg nB (nD.2 ah.out)) Z) (ZG Z Z Z (ze Z Z (congrArg nB (nD.2 ah.out)) Z) (ZG Z Z Z (ze Z Z (congrArg nB (nD.2 ah.out)) Z) (Zr Z Z Z (ze Z Z (congrArg nB (nD.2 ah.out)) Z) (oR Z (zi Z (congrArg nB (nD.2 ah.out)) Z) (oA Z Z (eN (zP ?_)))))))
 have hE:=nE cw;first | subst r | cases hE
 exact ⟨rfl,_,(zm rfl),az,_,(be.pick [] _ (by decide) rfl),rfl,rfl⟩
 intro aj cx
 refine ZG Z Z Z (ze Z Z (congrArg nB (nD.2 aj.out)) Z) (ZG Z Z Z (ze Z Z (congrArg nB (nD.2 aj.out)) Z) (Zr Z Z Z (ze Z Z (congrArg nB (nD.2 aj.out)) Z) (oR Z (zi Z (congrArg nB (nD.2 aj.out)) Z) (oM Z Z (oN Z (oN Z (oN Z (Zr Z Z Z (ze Z Z Z Z) (oR Z (zi Z Z Z) (oA Z Z (eN (zP ?_))))))))))))
 have hE:=nE cx;first | subst r | cases hE
 exact ⟨rfl,_,(zm rfl),av,_,(bb.pick [] _ (by decide) rfl),rfl,rfl⟩
 intro ao cy
 refine ZG Z Z Z (ze Z Z (congrArg nB (nD.2 ao.out)) Z) (ZG Z Z Z (ze Z Z (congrArg nB (nD.2 ao.out)) Z) (Zr Z Z Z (ze Z Z (congrArg nB (nD.2 ao.out)) Z) (oR Z (zi Z (congrArg nB (nD.2 ao.out)) Z) (oM Z Z (oN Z (oN Z (Zr Z Z Z (ze Z Z Z Z) (oR Z (zi Z Z Z) (oM Z Z (oN Z (oN Z (oN Z (Zr Z Z Z (ze Z Z Z Z) (oR Z (zi Z Z Z) (oA Z Z (eN (zP ?_)))))))))))))))))
 have hE:=nE cy;first | subst r | cases hE
 exact ⟨rfl,_,(zm rfl),aZ,_,(bk.pick [] _ (by decide) rfl),rfl,rfl⟩
set_option maxHeartbeats 4000000
theorem wFS (p0:wAU) (ah:Option Addr) (ai:Nat) (az:Option Addr) (aV:Nat) (w:World) (U:PHeap) (hS:St0 w U []) (bS:Sl U 2 ah ai p0.Skiers.length (nA wAO p0.Skiers)) (cp:Sl U 6 az aV p0.Decisions.length (nA wAL p0.Decisions)) {r:(List Int)} (hm:wBu p0=some r):Gv Tryz.prog 81 [.agg #[jV p0.Deadline,.slice ah p0.Skiers.length ai,.slice az p0.Decisions.length aV]] w (wBc w [] U (fun U_ L_ v=>∃ (A0:Option Addr) (c0:Nat),v=.slice A0 r.length c0/\L_=[.row A0 c0 3 1 (nA KL.encI r)])):=by
 unfold wBu at hm
 refine Gv.of Tryz.func81 Z Tryz.ntmps81 Tryz.results81 Z (sR gBr Z ?_)
 let B0:List Value:=[jV p0.Deadline,.slice ah p0.Skiers.length ai,.slice az p0.Decisions.length aV]
 refine zq (cs:=B0) rfl rfl rfl rfl rfl rfl (by rfl) hS ?_
 intro W1 b2 bj
 refine oA Z Z (eN (sR fL1 Z (oA Z Z (eN (zJ (sR fL4 Z (oR Z (zF Z Z ZF Z yL) (oL Z (bj.ldB (j:=0) Z Z Z yh (v:=.slice ah p0.Skiers.length ai) Z) (oR Z (zn Z Z Zf) (oM Z Z (eN (zS (bnK hm fun cu bT bW=>?_)))))))))))))
 have q:=wBM bT
 obtain ⟨av,bU⟩:=q
 replace av:=zH av
 refine CK.forN' (fun ae ag σ_ w_=>∃ (U_:PHeap) (aj:Option Addr) (ao:Nat),σ_ 9=jV (↑ae:Int)/\σ_ 3=.slice aj ag.length ao/\σ_ 7=.slice ah p0.Skiers.length ai/\σ_ 8=jV (↑p0.Skiers.length:Int)/\PHeap.Le U U_/\sW w U U_ [.blk b2 37 B0,.row aj ao 3 1 (nA KL.encI ag)] w_) bU ?_ ?_ ?_
 have bL:=bj.nilrow 3 1
 exact ⟨U,none,0,rfl,rfl,rfl,rfl,(zN _),(bL.pick [1,0] _ (by decide) rfl)⟩
 rintro ae ag ct cw cg au ⟨am,aj,ao,aq,bD,bg,bh,bp,bk⟩ bZ
 have bb:Hid ((↑ae:Int) < (↑p0.Skiers.length:Int)):=zH (wBG au)
 replace au:=zH au
 have bV:Hid (w64 ((↑ae:Int) + 1)=(↑(ae + 1):Int)):=zH (by have h1:=av.out;have h2:=bb.out;rw [wAX] <;> omega)
 refine sR fL1 Z (oR Z (zV Z aq bh) (eN (zJ (cT Z bb (kN (zJ (zS (sR gCl Z (bnK bZ fun x45 bi bX=>?_)))))))))
 have bH:=bS.le bp
 have q:=bH.el (fun _=>rfl) (wAj bi)
 obtain ⟨cm,cr,bJ,bK⟩:=q
 refine oR Z (ZV Z bg bJ aq Zf Zu (wCZ bi)) (oL Z (bk.ldCA (f:=0) bK Z Z Tryz.isAgg39 Zu (us:=[jV x45.Bib,jV x45.Time]) Z Z) (zg (cs:=[jV 0,jV 0]) Z Z Z Z Z Tryz.zeroValue39 Z bk ?_))
 intro ci ap bM
 let B1:List Value:=[jV x45.Bib,jV x45.Time]
 refine zh (j:=0) (vs:=B1) Z Z Z Z bM Z Z Z Z Zu (zA Z) Z Z Z ?_
 intro bu bN
 let B2:Res:=.row aj ao 3 1 (nA KL.encI ag)
 have bm:sW w U am [.blk ap 39 B1,.blk b2 37 B0,B2] bu:=bN
 refine eN (rR (wEQ gCg) Z (oM Z bD (oR Z (zF Z Z Zp Z zC) (oL Z (bm.ldB (j:=0) Z Z Z zG (v:=jV x45.Bib) Z) (ZL (pv:=[(0,jV x45.Bib)]) (zs:=[jV 0]) (cs:=[jV x45.Bib]) Z Z Z Z Z (wAG Z wAZ) zD zC ZW Z Z Z Z Z bm ?_)))))
 intro bw bA bO
 let B3:Res:=.row (some ⟨bA,0,none⟩) 1 3 1 (nA KL.encI [x45.Bib])
 have bn:sW w U am [B3,.blk ap 39 B1,.blk b2 37 B0,B2] bw:=bO
 refine bnK bX fun bq bI bY=>Zq (j:=3) (enc:=KL.encI) (xs:=ag) (ys:=[x45.Bib]) (zs:=bq) rfl rfl rfl rfl rfl yF wId rfl rfl rfl rfl rfl rfl bn rfl rfl rfl (bn.srcR (j:=0) rfl (by decide) (wAC (f:=KL.encI) (sz:=1) (fun _=>rfl) [x45.Bib])) (fun _=>rfl) (fun _=>rfl) bI rfl ?_
 intro aX be bz bP
 have bQ:sW w U am [B3,.blk ap 39 B1,.blk b2 37 B0,.row aX be 3 1 (nA KL.encI bq)] bz:=bP
 refine oA Z Z (zd (zf (zI (rR fL2 Z (oR Z (zt (zU Z aq Z) (congrArg (jV) bV.out)) (oM Z Z (zd ?_)))))))
 cases bY
 exact zI ⟨rfl,⟨am,aX,be,rfl,rfl,bg,bh,bp,(bQ.pick [2,3] _ (by decide) rfl)⟩⟩
 rintro cx cj ⟨bs,br,bB,bG,bE,cn,bF,cq,bR⟩
 have bC:Hid (¬ ((↑(((↑p0.Skiers.length:Int):Int) - 0).toNat:Int) < (↑p0.Skiers.length:Int))):=zH (wAq)
 refine sR fL1 Z (oR Z (zV Z bG bF) (eN (zJ (cF Z bC (ZH (zZ (zZ (zx (zI (sR fL2 Z (oM Z bE (oA Z Z (eN (zP ?_))))))))))))))
 have hE:=nE bW;first | subst r | cases hE
 exact ⟨rfl,_,(zm rfl),bs,_,(bR.pick [1] _ (by decide) rfl),br,bB,rfl,rfl⟩
theorem wHq (p0:List Int) (aq:Option Addr) (au:Nat) (w:World) (U:PHeap) (hS:St0 w U []) (bz:Sl U 1 aq au p0.length (nA KL.encI p0)) {r:Bool} (hm:wDt p0=some r):Gv Tryz.prog 91 [.slice aq p0.length au] w (wBc w [] U (fun U_ L_ v=>v=.bool r/\L_=[])):=by
 unfold wDt at hm
 refine Gv.of Tryz.func91 Z Tryz.ntmps91 Tryz.results91 Z (sR fL1 Z (oA Z Z (eN (sR gBr Z (OKS.makeMap Z Z Z Z Z hS ?_)))))
 intro W1 b2 br
 have bJ:=MpR.nil wKC wLB
 refine oA Z Z (eN (zJ (sR fL3 Z (oM Z Z (oR Z (zn Z Z zD) (oM Z Z (eN (zS ?_))))))))
 have q:=wCT hm
 obtain ⟨bY,an⟩:=q
 have q:=wCS an
 obtain ⟨ap,bC⟩:=q
 replace ap:=zH ap
 refine yQ (fun ab bb σ_ w_=>∃ (U_:PHeap) (aj:Array MapEntry) (az:Nat),σ_ 9=jV (↑ab:Int)/\σ_ 3=.map (some b2)/\σ_ 7=.slice aq p0.length au/\σ_ 8=jV (↑p0.length:Int)/\PHeap.Le U U_/\sW w U U_ [.obj b2 (.map aj az)] w_/\MpR aj wKC wLB bb) bC ?_ ?_ ?_
 exact ⟨U,#[],0,Z,Z,Z,Z,(zN _),br,bJ⟩
 rintro ab bb bZ cg bO ao ⟨ag,aj,az,am,ak,aX,aY,be,ae,aZ⟩ bL bA
 have av:Hid ((↑ab:Int) < (↑p0.length:Int)):=zH (wBG ao)
 replace ao:=zH ao
 have bD:Hid (w64 ((↑ab:Int) + 1)=(↑(ab + 1):Int)):=zH (by have h1:=ap.out;have h2:=av.out;rw [wAX] <;> omega)
 refine sR fL1 Z (oR Z (zV Z am aY) (eN (zJ (cT Z av (kN (zJ (zS (sR fL3 Z (bnK bL fun x41 ba bE=>?_)))))))))
 have bn:=bz.le be
 have q:=bn.el (fun _=>rfl) (wAj ba)
 obtain ⟨bQ,bX,bp,bq⟩:=q
 refine oR Z (ZV Z aX bp am zD zC (wCZ ba)) (oL Z (ae.ldC (f:=0) bq (v:=jV x41) Z Z zG Z) (oA Z Z (eN (zJ (sR fL3 Z (oM Z ak (oM Z Z (oL Z (ae.lookup1 (j:=0) (mk:=wKC) (mv:=wLB) (a:=x41) (z:=false) Z Z Z Z (wDa Tryz.runUnderlying128) wPf Tryz.zeroValue4 aZ) (eN (ifc bE ?_ ?_))))))))))
 intro ai bF
 refine zo (congrArg nB ai.out) (sR fL1 Z (oA Z Z (eN (zP (zR (za (zR ?_)))))))
 have q:=wAc bF
 obtain ⟨bM,bG,bj⟩:=q
 have q:=wBn hm an (bA bM bj)
 obtain rfl:=q
 refine zR (za (zR ?_))
 have hE:=nE bG;first | subst r | cases hE
 exact ⟨rfl,_,(zm rfl),ag,_,(ae.pick [] _ (by decide) rfl),rfl,rfl⟩
 intro ai bH
 refine zu (congrArg nB (nD.2 ai.out)) (kN (rR gCh rfl (zX rfl rfl rfl rfl rfl ak (zX rfl rfl rfl rfl rfl rfl (OKS.mapPut (x:=.tmp 16) (y:=.tmp 17) (j:=0) (mk:=wKC) (mv:=wLB) (a:=x41) (v:=true) rfl rfl rfl (by first | exact .inl rfl | exact .inr rfl) ae rfl rfl rfl rfl (wDa Tryz.runUnderlying128) wPf aZ rfl ?_)))))
 intro aW aV bh bK bs
 have bu:sW w U ag [.obj b2 (.map aW aV)] bh:=bs
 refine zd (zf (zI (rR fL2 Z (oR Z (zt (zU Z am Z) (congrArg (jV) bD.out)) (oM Z Z (zd ?_))))))
 have q:=nE bH
 obtain rfl:=q
 exact zI ⟨Z,_,Z,⟨ag,aW,aV,Z,ak,aX,aY,be,bu,bK⟩⟩
 rintro cd ci bP ⟨bg,bS,bR,bm,bT,bU,bk,bW,bw,bV⟩ bB
 have bI:=wDe hm an bB
 have bi:Hid (¬ ((↑(((↑p0.length:Int):Int) - 0).toNat:Int) < (↑p0.length:Int))):=zH (wAq)
 refine sR fL1 Z (oR Z (zV Z bm bk) (eN (zJ (cF Z bi (ZH (zZ (zZ (zx (zI (sR fL1 Z (oA Z Z (eN (zP ?_)))))))))))))
 have hE:=nE bI;first | subst r | cases hE
 exact ⟨rfl,_,(zm rfl),bg,_,(bw.pick [] _ (by decide) rfl),rfl,rfl⟩
theorem wGF (p0:wAU) (az:Option Addr) (aV:Nat) (ah:Option Addr) (ai:Nat) (w:World) (U:PHeap) (hS:St0 w U []) (cp:Sl U 2 az aV p0.Skiers.length (nA wAO p0.Skiers)) (bS:Sl U 6 ah ai p0.Decisions.length (nA wAL p0.Decisions)) {r:(List Int)} (hm:wBs p0=some r):Gv Tryz.prog 92 [.agg #[jV p0.Deadline,.slice az p0.Skiers.length aV,.slice ah p0.Decisions.length ai]] w (wBc w [] U (fun U_ L_ v=>∃ (A0:Option Addr) (c0:Nat),v=.slice A0 r.length c0/\L_=[.row A0 c0 3 1 (nA KL.encI r)])):=by
 unfold wBs at hm
 refine Gv.of Tryz.func92 Z Tryz.ntmps92 Tryz.results92 Z (sR gBr Z ?_)
 let B0:List Value:=[jV p0.Deadline,.slice az p0.Skiers.length aV,.slice ah p0.Decisions.length ai]
 refine zq (cs:=B0) rfl rfl rfl rfl rfl rfl (by rfl) hS ?_
 intro W1 b2 bj
 refine oA Z Z (eN (sR fL1 Z (oA Z Z (eN (zJ (sR fL4 Z (oR Z (zF Z Z ZF Z yV) (oL Z (bj.ldB (j:=0) Z Z Z yM (v:=.slice ah p0.Decisions.length ai) Z) (oR Z (zn Z Z Zj) (oM Z Z (eN (zS (bnK hm fun cu bT bW=>?_)))))))))))))
 have q:=wBM bT
 obtain ⟨av,bU⟩:=q
 replace av:=zH av
 refine CK.forN' (fun ae ag σ_ w_=>∃ (U_:PHeap) (aj:Option Addr) (ao:Nat),σ_ 9=jV (↑ae:Int)/\σ_ 3=.slice aj ag.length ao/\σ_ 7=.slice ah p0.Decisions.length ai/\σ_ 8=jV (↑p0.Decisions.length:Int)/\PHeap.Le U U_/\sW w U U_ [.blk b2 37 B0,.row aj ao 3 1 (nA KL.encI ag)] w_) bU ?_ ?_ ?_
 have bL:=bj.nilrow 3 1
 exact ⟨U,none,0,rfl,rfl,rfl,rfl,(zN _),(bL.pick [1,0] _ (by decide) rfl)⟩
 rintro ae ag ct cw cg au ⟨am,aj,ao,aq,bD,bg,bh,bp,bk⟩ bZ
 have bb:Hid ((↑ae:Int) < (↑p0.Decisions.length:Int)):=zH (wBG au)
 replace au:=zH au
 have bV:Hid (w64 ((↑ae:Int) + 1)=(↑(ae + 1):Int)):=zH (by have h1:=av.out;have h2:=bb.out;rw [wAX] <;> omega)
 refine sR fL1 Z (oR Z (zV Z aq bh) (eN (zJ (cT Z bb (kN (zJ (zS (sR gCl Z (bnK bZ fun x45 bi bX=>?_)))))))))
 have bH:=bS.le bp
 have q:=bH.el (fun _=>rfl) (wAj bi)
 obtain ⟨cm,cr,bJ,bK⟩:=q
 refine oR Z (ZV Z bg bJ aq Zj Zn (wCZ bi)) (oL Z (bk.ldCA (f:=0) bK Z Z yq Zn (us:=[jV x45.Number,jV x45.Kind,jV x45.Minute,jV x45.Bib,jV x45.Much,jV x45.About]) Z Z) (zg (cs:=[jV 0,jV 0,jV 0,jV 0,jV 0,jV 0]) Z Z Z Z Z Tryz.zeroValue123 Z bk ?_))
 intro ci ap bM
 let B1:List Value:=[jV x45.Number,jV x45.Kind,jV x45.Minute,jV x45.Bib,jV x45.Much,jV x45.About]
 refine zh (j:=0) (vs:=B1) Z Z Z Z bM Z Z Z Z Zn (zA Z) Z Z Z ?_
 intro bu bN
 let B2:Res:=.row aj ao 3 1 (nA KL.encI ag)
 have bm:sW w U am [.blk ap 123 B1,.blk b2 37 B0,B2] bu:=bN
 refine eN (rR (wEQ gCg) Z (oM Z bD (oR Z (zF Z Z ZE Z zC) (oL Z (bm.ldB (j:=0) Z Z Z zG (v:=jV x45.Number) Z) (ZL (pv:=[(0,jV x45.Number)]) (zs:=[jV 0]) (cs:=[jV x45.Number]) Z Z Z Z Z (wAG Z wAZ) zD zC ZW Z Z Z Z Z bm ?_)))))
 intro bw bA bO
 let B3:Res:=.row (some ⟨bA,0,none⟩) 1 3 1 (nA KL.encI [x45.Number])
 have bn:sW w U am [B3,.blk ap 123 B1,.blk b2 37 B0,B2] bw:=bO
 refine bnK bX fun bq bI bY=>Zq (j:=3) (enc:=KL.encI) (xs:=ag) (ys:=[x45.Number]) (zs:=bq) rfl rfl rfl rfl rfl yF wId rfl rfl rfl rfl rfl rfl bn rfl rfl rfl (bn.srcR (j:=0) rfl (by decide) (wAC (f:=KL.encI) (sz:=1) (fun _=>rfl) [x45.Number])) (fun _=>rfl) (fun _=>rfl) bI rfl ?_
 intro aX be bz bP
 have bQ:sW w U am [B3,.blk ap 123 B1,.blk b2 37 B0,.row aX be 3 1 (nA KL.encI bq)] bz:=bP
 refine oA Z Z (zd (zf (zI (rR fL2 Z (oR Z (zt (zU Z aq Z) (congrArg (jV) bV.out)) (oM Z Z (zd ?_)))))))
 cases bY
 exact zI ⟨rfl,⟨am,aX,be,rfl,rfl,bg,bh,bp,(bQ.pick [2,3] _ (by decide) rfl)⟩⟩
 rintro cx cj ⟨bs,br,bB,bG,bE,cn,bF,cq,bR⟩
 have bC:Hid (¬ ((↑(((↑p0.Decisions.length:Int):Int) - 0).toNat:Int) < (↑p0.Decisions.length:Int))):=zH (wAq)
 refine sR fL1 Z (oR Z (zV Z bG bF) (eN (zJ (cF Z bC (ZH (zZ (zZ (zx (zI (sR fL2 Z (oM Z bE (oA Z Z (eN (zP ?_))))))))))))))
 have hE:=nE bW;first | subst r | cases hE
 exact ⟨rfl,_,(zm rfl),bs,_,(bR.pick [1] _ (by decide) rfl),br,bB,rfl,rfl⟩
theorem wFs (p0:List Int) (an:Option Addr) (ao:Nat) (p1:Int) (w:World) (U:PHeap) (hS:St0 w U []) (bm:Sl U 1 an ao p0.length (nA KL.encI p0)) {r:Int} (hm:wCI p0 p1=some r):Gv Tryz.prog 24 [.slice an p0.length ao,jV p1] w (wBc w [] U (fun U_ L_ v=>v=jV r/\L_=[])):=by
 unfold wCI at hm
 refine Gv.of Tryz.func24 Z Tryz.ntmps24 Tryz.results24 Z (sR fL1 Z (oA Z Z (eN (zJ (sR fL3 Z (oM Z Z (oR Z (zn Z Z zD) (oM Z Z (eN (zS ?_))))))))))
 have q:=wCT hm
 obtain ⟨r3,ai⟩:=q
 have q:=wCS ai
 obtain ⟨ak,bq⟩:=q
 replace ak:=zH ak
 refine yQ (fun k2 _ σ_ w_=>∃ (U_:PHeap),σ_ 8=jV (↑k2:Int)/\σ_ 0=.slice an p0.length ao/\σ_ 1=jV p1/\σ_ 7=jV (↑p0.length:Int)/\PHeap.Le U U_/\sW w U U_ [] w_) bq ?_ ?_ ?_
 exact ⟨U,Z,Z,Z,Z,(zN _),hS⟩
 rintro k2 ⟨⟩ bJ bL W8 aj ⟨ap,ag,au,av,az,aY,ah⟩ aX bn
 try dsimp only at aX
 have aq:Hid ((↑k2:Int) < (↑p0.length:Int)):=zH (wBG aj)
 replace aj:=zH aj
 have br:Hid (w64 ((↑k2:Int) + 1)=(↑(k2 + 1):Int)):=zH (by have h1:=ak.out;have h2:=aq.out;rw [wAX] <;> omega)
 refine sR fL1 Z (oR Z (zV Z ag az) (eN (zJ (cT Z aq (kN (zJ (zS (sR fL2 Z (oM Z ag (oA Z Z (eN (sR fL6 Z (oM Z av (oM Z au (oM Z Z (bnK aX fun x22 aV bs=>?_))))))))))))))))
 have bh:=bm.le aY
 have q:=bh.el (fun _=>rfl) (wAj aV)
 obtain ⟨bD,bH,bi,bj⟩:=q
 refine oR Z (ZV Z Z bi Z zD zC (wCZ aV)) (oL Z (ah.ldC (f:=0) bj (v:=jV x22) Z Z zG Z) (oR Z (yO Z Z Z) (eN (ifc bs ?_ ?_))))
 intro ae bu
 refine cT Z ae (sR fL2 Z (oM Z Z (oA Z Z (eN (zP (za (zR ?_)))))))
 have q:=wAc bu
 obtain ⟨bA,bw,bb⟩:=q
 have q:=wBn hm ai (bn bA bb)
 obtain rfl:=q
 refine zR (za (zR ?_))
 cases bw
 exact ⟨Z,_,(zm Z),ap,_,ah,Z,Z⟩
 intro ae bz
 refine cF Z ae (Ze (zf (zI (rR fL2 Z (oR Z (zt (zU Z ag Z) (congrArg (jV) br.out)) (oM Z Z (zd ?_)))))))
 have q:=nE bz
 obtain rfl:=q
 exact zI ⟨Z,_,Z,⟨ap,Z,au,av,az,aY,ah⟩⟩
 rintro ⟨⟩ bK bB ⟨aZ,bg,bE,bF,be,bG,bk⟩ bp
 have aW:=wDe hm ai bp
 try dsimp only at aW
 have ba:Hid (¬ ((↑(((↑p0.length:Int):Int) - 0).toNat:Int) < (↑p0.length:Int))):=zH (wAq)
 refine sR fL1 Z (oR Z (zV Z bg be) (eN (zJ (cF Z ba (ZH (zZ (zZ (zx (zI (sR fL1 Z (oA Z Z (eN (zP ?_)))))))))))))
 cases aW
 exact ⟨Z,_,(zm Z),aZ,_,bk,Z,Z⟩
theorem wDg (p0:List Int) (ae:Option Addr) (ag:Nat) (p1:Int) (w:World) (U:PHeap) (hS:St0 w U []) (ao:Sl U 1 ae ag p0.length (nA KL.encI p0)) {r:Bool} (hm:wBF p0 p1=some r):Gv Tryz.prog 11 [.slice ae p0.length ag,jV p1] w (wBc w [] U (fun U_ L_ v=>v=.bool r/\L_=[])):=by
 unfold wBF at hm
 refine Gv.of Tryz.func11 Z Tryz.ntmps11 Tryz.results11 Z (sR fL1 Z (oA Z Z (eN (sR gCo Z (oM Z Z (oM Z Z (bnK hm fun x1 h2 ai=>zL 0 Z Z Z Z (zK Z Z Tryz.call24 (zB Z (zB Z zM)) Z) hS (fun hs=>wFs p0 ae ag p1 w U hs ao h2) (.inr Z) ?_)))))))
 rintro U4 L5 v6 W7 aq an ⟨rfl,rfl⟩
 have am:sW w U U4 [] W7:=an
 refine oR Z (yw Z Z Z) (oA Z Z (eN (zP ?_)))
 first | (obtain rfl:=nE ai) | cases ai
 exact ⟨Z,_,(zm Z),U4,_,am,Z,Z⟩
theorem wJJ (p0:wAD) (p1:wAU) (ba:Nat) (ai:Option Addr) (ak:Nat) (aj:Option Addr) (am:Nat) (w:World) (U:PHeap) (hS:St0 w U []) (bB:Cl U ba 0 [jV p1.Deadline,.slice ai p1.Skiers.length ak,.slice aj p1.Decisions.length am]) (bC:Sl U 2 ai ak p1.Skiers.length (nA wAO p1.Skiers)) (bD:Sl U 6 aj am p1.Decisions.length (nA wAL p1.Decisions)) {r:Bool} (hm:wDD p0 p1=some r):Gv Tryz.prog 93 [.agg #[jV p0.Number,jV p0.Kind,jV p0.Minute,jV p0.Bib,jV p0.Much,jV p0.About],.pointer (some ⟨ba,0,none⟩)] w (wBc w [] U (fun U_ L_ v=>v=.bool r/\L_=[])):=by
 unfold wDD at hm
 refine Gv.of Tryz.func93 Z Tryz.ntmps93 Tryz.results93 Z (sR gBr Z ?_)
 let B0:List Value:=[jV p0.Number,jV p0.Kind,jV p0.Minute,jV p0.Bib,jV p0.Much,jV p0.About]
 refine zq (cs:=B0) rfl rfl rfl rfl rfl rfl (by rfl) hS ?_
 intro W1 b2 aY
 refine oA Z Z (eN (zJ (sR gCh Z (oR Z (zF Z Z ZE Z yt) (oL Z (aY.ldB (j:=0) Z Z Z YB (v:=jV p0.Kind) Z) (bnK hm fun x5 h6 bH=>zL 0 Z Z Z Z (zK Z Z Tryz.call94 (zB Z zM) Z) aY (fun hs=>wDd p0.Kind W1 U hs h6) (.inr Z) ?_))))))
 rintro U8 L9 bP ao av bq ⟨rfl,rfl⟩
 have au:sW w U U8 [.blk b2 123 B0] ao:=bq
 refine eN (ifc bH ?_ ?_)
 intro aq bE
 refine zo (congrArg nB aq.out) (zJ (ZO zz [1,2,3,1,2,3] (.fl 0 (.fl 2 (.fl 3 (.fx 1 gBy .stop)))) (by kernel_rfl) ?_))
 have ah:=au.drew
 generalize hw_W18:({ ao with drawn:=ao.drawn + 1 }:World)=bg at ah ⊢
 have bi:=bB.le av
 refine oL Z (ah.ldCA (f:=0) bi Z Z yS Zg (us:=[jV p1.Deadline,.slice ai p1.Skiers.length ak,.slice aj p1.Decisions.length am]) Z Z) (oR Z (zF Z Z ZE Z zC) (oL Z (ah.ldB (j:=0) Z Z Z zG (v:=jV p0.Bib) Z) ?_))
 have bj:=bC.le av
 have bk:=bD.le av
 refine bnK bE fun x22 bm bF=>zL 0 Z Z Z Z (zK Z Z Tryz.call81 (zB Z zM) Z) ah (fun hs=>wFS p1 ai ak aj am bg U8 hs bj bk bm) (.inr Z) ?_
 rintro bb bJ bQ ap bM br ⟨az,aX,rfl,rfl⟩
 have bs:sW w U bb [.row az aX 3 1 (nA KL.encI x22),.blk b2 123 B0] ap:=br
 have q:=bs.freezeR (k:=0) (n:=x22.length) rfl (wAC (f:=KL.encI) (sz:=1) (fun _=>rfl) x22) (by decide)
 obtain ⟨aV,bN,bI,bu⟩:=q
 have bw:sW w U aV [.blk b2 123 B0] ap:=bu
 refine bnK bF fun x40 bn bG=>zL 0 Z Z Z Z (zK Z Z Tryz.call11 (zB Z (zB Z zM)) Z) bw (fun hs=>wDg x22 az aX p0.Bib ap aV hs bI bn) (.inr Z) ?_
 rintro aW bK bR bh bO bz ⟨rfl,rfl⟩
 have bA:sW w U aW [.blk b2 123 B0] bh:=bz
 refine oA Z Z (eN (zP (zR ?_)))
 have hE:=nE bG;first | subst r | cases hE
 exact ⟨rfl,_,(zm rfl),aW,_,(bA.pick [] _ (by decide) rfl),rfl,rfl⟩
 intro aq aZ
 refine zu (congrArg nB (nD.2 aq.out)) (kN (sR fL4 Z (oR Z (zF Z Z ZE Z zC) (oL Z (au.ldB (j:=0) Z Z Z zG (v:=jV p0.Bib) Z) (oR Z (yO Z Z Z) (oA Z Z (eN (zP ?_))))))))
 first | (obtain rfl:=nE aZ) | cases aZ
 exact ⟨rfl,_,(zm rfl),U8,_,(au.pick [] _ (by decide) rfl),rfl,rfl⟩
theorem wJK (p0:wAD) (w:World) (U:PHeap) (hS:St0 w U [])  {r:Bool} (hm:wDE p0=some r):Gv Tryz.prog 95 [.agg #[jV p0.Number,jV p0.Kind,jV p0.Minute,jV p0.Bib,jV p0.Much,jV p0.About]] w (wBc w [] U (fun U_ L_ v=>v=.bool r/\L_=[])):=by
 unfold wDE at hm
 refine Gv.of Tryz.func95 Z Tryz.ntmps95 Tryz.results95 Z (sR gBr Z ?_)
 let B0:List Value:=[jV p0.Number,jV p0.Kind,jV p0.Minute,jV p0.Bib,jV p0.Much,jV p0.About]
 refine zq (cs:=B0) rfl rfl rfl rfl rfl rfl (by rfl) hS ?_
 intro W1 b2 am
 refine oA Z Z (eN (zJ (sR gCh Z (oR Z (zF Z Z ZE Z yt) (oL Z (am.ldB (j:=0) Z Z Z YB (v:=jV p0.Kind) Z) (bnK hm fun x5 h6 aY=>zL 0 Z Z Z Z (zK Z Z Tryz.call94 (zB Z zM) Z) am (fun hs=>wDd p0.Kind W1 U hs h6) (.inr Z) ?_))))))
 rintro U8 L9 bg aj bb av ⟨rfl,rfl⟩
 have ab:sW w U U8 [.blk b2 123 B0] aj:=av
 refine eN (ifc aY ?_ ?_)
 intro ah an
 refine zo (congrArg nB ah.out) (sR fL4 Z (oR Z (zF Z Z ZE Z zC) (oL Z (ab.ldB (j:=0) Z Z Z zG (v:=jV p0.About) Z) (oR Z (yO Z Z Z) (oA Z Z (eN (zP (zR ?_))))))))
 first | (obtain rfl:=nE an) | cases an
 exact ⟨rfl,_,(zm rfl),U8,_,(ab.pick [] _ (by decide) rfl),rfl,rfl⟩
 intro ah aW
 refine zu (congrArg nB (nD.2 ah.out)) (kN (sR (wGw (.fx 5 (.fl 6 .nil) .stop)) Z (oR Z (zF Z Z ZE Z zC) (oL Z (ab.ldB (j:=0) Z Z Z zG (v:=jV p0.About) Z) (oR Z (zF Z Z ZE Z zC) (oL Z (ab.ldB (j:=0) Z Z Z zG (v:=jV p0.Number) Z) (oR Z (Zk Z Z Z) (bnK aW fun bi aq aX=>zL 0 Z Z Z Z (zK Z Z yU (zB Z (zB Z (zB Z zM))) Z) ab (fun hs=>wBZ p0.About 1 (w64 (p0.Number - 1)) aj U8 hs aq) (.inr Z) ?_))))))))
 rintro ai aZ bh ap be az ⟨rfl,rfl⟩
 have aV:sW w U ai [.blk b2 123 B0] ap:=az
 refine oA Z Z (eN (zP ?_))
 have hE:=nE aX;first | subst r | cases hE
 exact ⟨rfl,_,(zm rfl),ai,_,(aV.pick [] _ (by decide) rfl),rfl,rfl⟩
theorem wLJ (p0:wAU) (ak:Option Addr) (am:Nat) (ab:Option Addr) (ae:Nat) (w:World) (U:PHeap) (hS:St0 w U []) (dP:Sl U 2 ak am p0.Skiers.length (nA wAO p0.Skiers)) (dQ:Sl U 6 ab ae p0.Decisions.length (nA wAL p0.Decisions)) {r:Int} (hm:wEo p0=some r):Gv Tryz.prog 56 [.agg #[jV p0.Deadline,.slice ak p0.Skiers.length am,.slice ab p0.Decisions.length ae]] w (wBc w [] U (fun U_ L_ v=>v=jV r/\L_=[])):=by
 unfold wEo at hm
 refine Gv.of Tryz.func56 Z Tryz.ntmps56 Tryz.results56 Z (sR gBr Z ?_)
 let B0:List Value:=[jV p0.Deadline,.slice ak p0.Skiers.length am,.slice ab p0.Decisions.length ae]
 refine zq (cs:=B0) rfl rfl rfl rfl rfl rfl (by rfl) hS ?_
 intro W1 b2 dG
 have q:=dG.freeze (k:=0) rfl
 obtain ⟨U5,cA,aq,dK⟩:=q
 replace aq:=Cl.of aq
 have cx:sW w U U5 [] W1:=dK
 replace aq:Cl U5 b2 0 B0:=aq
 refine oA Z Z (eN (zJ (zS (sR (wEQ (.fx 3 (wWP (.nil)) .stop)) Z (oR Z (zF Z Z ZF Z yL) (oL Z (cx.ldC (f:=1) aq (v:=.slice ak p0.Skiers.length am) Z Z yh Z) (oR Z (zn Z Z Zf) (bnK hm fun x10 cH dU=>zL 0 Z Z Z Z (zK Z Z yU (zB Z (zB Z (zB Z zM))) Z) cx (fun hs=>wBZ (↑p0.Skiers.length:Int) 1 30 W1 U5 hs cH) (.inr Z) ?_))))))))
 rintro az eQ fh bU bH dE ⟨rfl,rfl⟩
 have au:sW w U az [] bU:=dE
 refine oR Z (ZB Z Z) (oM Z Z (ifc dU ?_ ?_))
 intro ag ew
 refine zY Z Z Z (zQ Z Z (nC ag.out)) (fun _=>zF Z Z ZF Z yV) ?_
 have bs:=aq.le bH
 refine ZC Z Z Z (zQ Z Z (nC ag.out)) (au.ldC (f:=2) bs (v:=.slice ab p0.Decisions.length ae) Z Z yM Z) Z (zY Z Z Z (zQ Z Z (nC ag.out)) (fun _=>zn Z Z Zj) (zY Z Z Z (zQ Z Z (nC ag.out)) (fun _=>yG Z Z Z) (oR Z (zi Z (nC ag.out) Z) (oA Z Z (eN (ifc ew ?_ ?_))))))
 intro bm ey
 refine cT Z bm (sR fL1 Z (oA Z Z (eN (zP (za (zR ?_))))))
 cases ey
 exact ⟨Z,_,(zm Z),az,_,au,Z,Z⟩
 intro bm ez
 refine cF Z bm (sR (.fl 0 (.fl 1 (.fx 2 (wNw (.fx 7 (wWV (.fx 13 (wUW (.nil)) .stop)) .stop)) .stop))) Z (oR Z (zF Z Z ZF Z zC) (oL Z (au.ldC (f:=0) bs (v:=jV p0.Deadline) Z Z zG Z) (bnK ez fun x26 c8 eA=>zL 0 Z Z Z Z (zK Z Z yU (zB Z (zB Z (zB Z zM))) Z) au (fun hs=>wBZ p0.Deadline 0 10000 bU az hs c8) (.inr Z) ?_))))
 rintro aX eW fm bW bI dH ⟨rfl,rfl⟩
 have bA:sW w U aX [] bW:=dH
 refine oR Z (ZB Z Z) (oM Z Z (ifc eA ?_ ?_))
 intro ah eB
 refine zY Z Z Z (zQ Z Z (nC ah.out)) (fun _=>zF Z Z ZF Z yL) ?_
 have cm:=bs.le bI
 refine ZC Z Z Z (zQ Z Z (nC ah.out)) (bA.ldC (f:=1) cm (v:=.slice ak p0.Skiers.length am) Z Z yh Z) Z ?_
 have da:=dP.le cA
 have db:=da.le bH
 have cn:=db.le bI
 have dv:FnOK Tryz.prog aX (.func (.func 88) #[] #[]) wNd wNe wDC:=⟨88,[],[],rfl,Tryz.call88,fun U1 w1 x y vs le hs ha hm=>by obtain rfl:=ha;exact wJI x w1 U1 hs  hm⟩
 refine bnK eB fun x43 de eD=>zL 0 Z Z Z (zQ Z Z (nC ah.out)) (zK Z Z Tryz.call87 (zB Z (zB Z zM)) Z) bA (fun hs=>wGE p0.Skiers ak am wDC (.func (.func 88) #[] #[]) bW aX hs cn dv de) (.inr Z) ?_
 rintro aY eX fq bX bJ dI ⟨rfl,rfl⟩
 have bB:sW w U aY [] bX:=dI
 refine zY Z Z Z (zQ Z Z (nC ah.out)) (fun _=>ZB Z Z) (oR Z (zi Z (nC ah.out) Z) (oM Z Z (ifc eD ?_ ?_)))
 intro ai eE
 refine zY Z Z Z (zQ Z Z (nC ai.out)) (fun _=>zF Z Z ZF Z yV) ?_
 have cp:=cm.le bJ
 refine ZC Z Z Z (zQ Z Z (nC ai.out)) (bB.ldC (f:=2) cp (v:=.slice ab p0.Decisions.length ae) Z Z yM Z) Z ?_
 have df:=dQ.le cA
 have dg:=df.le bH
 have dh:=dg.le bI
 have cq:=dh.le bJ
 have dw:FnOK Tryz.prog aY (.func (.func 90) #[] #[]) wRy wRz wBK:=⟨90,[],[],rfl,Tryz.call90,fun U1 w1 x y vs le hs ha hm=>by obtain rfl:=ha;exact wFr x w1 U1 hs  hm⟩
 refine bnK eE fun x61 dm eF=>zL 0 Z Z Z (zQ Z Z (nC ai.out)) (zK Z Z Tryz.call89 (zB Z (zB Z zM)) Z) bB (fun hs=>wCg p0.Decisions ab ae wBK (.func (.func 90) #[] #[]) bX aY hs cq dw dm) (.inr Z) ?_
 rintro bb eY ft bY bK dJ ⟨rfl,rfl⟩
 have bC:sW w U bb [] bY:=dJ
 refine zY Z Z Z (zQ Z Z (nC ai.out)) (fun _=>ZB Z Z) (oR Z (zi Z (nC ai.out) Z) (oA Z Z (eN (ifc eF ?_ ?_))))
 intro bn eG
 refine zu (nC bn.out) (sR (.fl 0 (.fx 1 (.fx 2 (.fl 3 (.fl 4 (.fx 5 gCe .stop))) .stop) .stop)) Z ?_)
 have cr:=cp.le bK
 refine oL Z (bC.ldCA (f:=0) cr Z Z yS Zg (us:=B0) Z Z) ?_
 have dp:=cn.le bJ
 have ct:=dp.le bK
 have cu:=cq.le bK
 refine bnK eG fun x77 dq eH=>zL 0 Z Z Z Z (zK Z Z Tryz.call81 (zB Z zM) Z) bC (fun hs=>wFS p0 ak am ab ae bY bb hs ct cu dq) (.inr Z) ?_
 rintro cC eZ fu bh bL dL ⟨bO,cd,rfl,rfl⟩
 have dM:sW w U cC [.row bO cd 3 1 (nA KL.encI x77)] bh:=dL
 have q:=dM.freezeR (k:=0) (n:=x77.length) rfl (wAC (f:=KL.encI) (sz:=1) (fun _=>rfl) x77) (by decide)
 obtain ⟨bQ,bM,eK,dN⟩:=q
 have dO:sW w U bQ [] bh:=dN
 refine bnK eH fun x95 dr eI=>zL 0 Z Z Z Z (zK Z Z Tryz.call91 (zB Z zM) Z) dO (fun hs=>wHq x77 bO cd bh bQ hs eK dr) (.inr Z) ?_
 rintro be fb fd bS bD dx ⟨rfl,rfl⟩
 have bu:sW w U be [] bS:=dx
 refine oM Z Z (ifc eI ?_ ?_)
 intro aj dR
 refine ZG Z Z Z (ze Z Z (congrArg nB aj.out) Z) (Zr Z Z Z (ze Z Z (congrArg nB aj.out) Z) (Zr Z Z Z (ze Z Z (congrArg nB aj.out) Z) (oR Z (zb Z (congrArg nB aj.out) Z) (oA Z Z (eN (zo Z (sR fL1 Z (oA Z Z (eN (zP (za (zR ?_))))))))))))
 cases dR
 exact ⟨Z,_,(zm Z),be,_,bu,Z,Z⟩
 intro aj dS
 have cE:=cr.le bL
 have cG:=cE.le bM
 have cg:=cG.le bD
 refine ZC Z Z Z (zQ Z Z (congrArg nB (nD.2 aj.out))) (bu.ldCA (f:=0) cg Z Z yS Zg (us:=B0) Z Z) Z ?_
 have cI:=ct.le bL
 have cJ:=cI.le bM
 have ci:=cJ.le bD
 have cK:=cu.le bL
 have cL:=cK.le bM
 have cj:=cL.le bD
 refine bnK dS fun x117 cM dT=>zL 0 Z Z Z (zQ Z Z (congrArg nB (nD.2 aj.out))) (zK Z Z Tryz.call92 (zB Z zM) Z) bu (fun hs=>wGF p0 ak am ab ae bS be hs ci cj cM) (.inr Z) ?_
 rintro cB eM ff bg bE dy ⟨bN,bZ,rfl,rfl⟩
 have dz:sW w U cB [.row bN bZ 3 1 (nA KL.encI x117)] bg:=dy
 have q:=dz.freezeR (k:=0) (n:=x117.length) rfl (wAC (f:=KL.encI) (sz:=1) (fun _=>rfl) x117) (by decide)
 obtain ⟨bP,bF,eJ,dA⟩:=q
 have dB:sW w U bP [] bg:=dA
 refine bnK dT fun x135 cN dV=>zL 0 Z Z Z (zQ Z Z (congrArg nB (nD.2 aj.out))) (zK Z Z Tryz.call91 (zB Z zM) Z) dB (fun hs=>wHq x117 bN bZ bg bP hs eJ cN) (.inr Z) ?_
 rintro aV eO fg bT bG dC ⟨rfl,rfl⟩
 have bw:sW w U aV [] bT:=dC
 refine oR Z (zi Z (congrArg nB (nD.2 aj.out)) Z) (oA Z Z (eN (ifc dV ?_ ?_)))
 intro bi dW
 refine zo (congrArg nB bi.out) (sR fL1 Z (oA Z Z (eN (zP (za (zR ?_))))))
 cases dW
 exact ⟨Z,_,(zm Z),aV,_,bw,Z,Z⟩
 intro bi dX
 refine zu (congrArg nB (nD.2 bi.out)) (zJ (yu fun eL cy=>?_))
 have bp:eL 1=.pointer (some ⟨b2,0,none⟩):=(cy 1).trans rfl
 clear cy
 refine rR (wEQ gCd) Z (oR Z (zF Z bp ZF Z yV) ?_)
 have cO:=cg.le bE
 have cP:=cO.le bF
 have bq:=cP.le bG
 refine oL Z (bw.ldC (f:=2) bq (v:=.slice ab p0.Decisions.length ae) Z Z yM Z) (oR Z (yJ Z zM (zB bp zM)) ?_)
 have cQ:=cj.le bE
 have cR:=cQ.le bF
 have br:=cR.le bG
 have cS:=ci.le bE
 have cU:=cS.le bF
 have cV:=cU.le bG
 have dt:FnOK Tryz.prog aV (.func (.func 93) #[] #[.pointer (some ⟨b2,0,none⟩)]) wRy wRz (fun x=>wDD x p0):=⟨93,[],[.pointer (some ⟨b2,0,none⟩)],rfl,Tryz.call93,fun U1 w1 x y vs le hs ha hm=>by obtain rfl:=ha;exact wJJ x p0 b2 ak am ab ae w1 U1 hs (bq.le le) (cV.le le) (br.le le) hm⟩
 refine bnK dX fun x161 cW dY=>zL 0 Z Z Z Z (zK Z Z Tryz.call89 (zB Z (zB Z zM)) Z) bw (fun hs=>wCg p0.Decisions ab ae (fun x=>wDD x p0) (.func (.func 93) #[] #[.pointer (some ⟨b2,0,none⟩)]) bT aV hs br dt cW) (.inr Z) ?_
 rintro aW eU fj bV cz dD ⟨rfl,rfl⟩
 have bz:sW w U aW [] bV:=dD
 refine oR Z (ZB Z Z) (oA Z Z (eN (ifc dY ?_ ?_)))
 intro bj dZ
 refine zu (nC bj.out) (sR gCo Z (oR Z (zF Z bp ZF Z yV) ?_))
 have cX:=bq.le cz
 refine oL Z (bz.ldC (f:=2) cX (v:=.slice ab p0.Decisions.length ae) Z Z yM Z) ?_
 have cY:=br.le cz
 have du:FnOK Tryz.prog aW (.func (.func 95) #[] #[]) wRy wRz wDE:=⟨95,[],[],rfl,Tryz.call95,fun U1 w1 x y vs le hs ha hm=>by obtain rfl:=ha;exact wJK x w1 U1 hs  hm⟩
 refine bnK dZ fun fw cZ d5=>zL 0 Z Z Z Z (zK Z Z Tryz.call89 (zB Z (zB Z zM)) Z) bz (fun hs=>wCg p0.Decisions ab ae wDE (.func (.func 95) #[] #[]) bV aW hs cY du cZ) (.inr Z) ?_
 rintro aZ eV fk cD fc dF ⟨rfl,rfl⟩
 have cw:sW w U aZ [] cD:=dF
 refine oR Z (ZB Z Z) (oA Z Z (eN (ifc d5 ?_ ?_)))
 intro bk d7
 refine zu (nC bk.out) (Ze (zf (zI (sR fL1 Z (oA Z Z (eN (zP ?_)))))))
 cases d7
 exact ⟨Z,_,(zm Z),aZ,_,cw,Z,Z⟩
 intro bk d9
 refine zo (nF (bk.out)) (sR fL1 Z (oA Z Z (eN (zP (za (zR ?_))))))
 cases d9
 exact ⟨Z,_,(zm Z),aZ,_,cw,Z,Z⟩
 intro bj ef
 refine zo (nF (bj.out)) (sR fL1 Z (oA Z Z (eN (zP (za (zR ?_))))))
 cases ef
 exact ⟨Z,_,(zm Z),aW,_,bz,Z,Z⟩
 intro bn eh
 refine zo (nF (bn.out)) (sR fL1 Z (oA Z Z (eN (zP (za (zR ?_))))))
 cases eh
 exact ⟨Z,_,(zm Z),bb,_,bC,Z,Z⟩
 intro ai en
 refine ZG Z Z Z (ze Z Z (nF (ai.out)) Z) (ZG Z Z Z (ze Z Z (nF (ai.out)) Z) (Zr Z Z Z (ze Z Z (nF (ai.out)) Z) (ZG Z Z Z (ze Z Z (nF (ai.out)) Z) (oR Z (zb Z (nF (ai.out)) Z) (oA Z Z (eN (zo Z (sR fL1 Z (oA Z Z (eN (zP (za (zR ?_)))))))))))))
 cases en
 exact ⟨Z,_,(zm Z),aY,_,bB,Z,Z⟩
 intro ah er
 refine ZG Z Z Z (ze Z Z (nF (ah.out)) Z) (ZG Z Z Z (ze Z Z (nF (ah.out)) Z) (Zr Z Z Z (ze Z Z (nF (ah.out)) Z) (ZG Z Z Z (ze Z Z (nF (ah.out)) Z) (oR Z (zb Z (nF (ah.out)) Z) (oM Z Z (oN Z (oN Z (Zr Z Z Z (ze Z Z Z Z) (oN Z (oR Z (zb Z Z Z) (oA Z Z (eN (zo Z (sR fL1 Z (oA Z Z (eN (zP (za (zR ?_)))))))))))))))))))
 cases er
 exact ⟨Z,_,(zm Z),aX,_,bA,Z,Z⟩
 intro ag eu
 refine ZG Z Z Z (ze Z Z (nF (ag.out)) Z) (ZG Z Z Z (ze Z Z (nF (ag.out)) Z) (ZG Z Z Z (ze Z Z (nF (ag.out)) Z) (ZG Z Z Z (ze Z Z (nF (ag.out)) Z) (oR Z (zb Z (nF (ag.out)) Z) (oA Z Z (eN (zo Z (sR fL1 Z (oA Z Z (eN (zP (za (zR ?_)))))))))))))
 cases eu
 exact ⟨Z,_,(zm Z),az,_,au,Z,Z⟩
theorem wDO (p0:List wAQ) (ab:Option Addr) (ae:Nat) (p1:((wAQ × wAQ)->Option Int)) (ag:Value) (w:World) (U:PHeap) (hS:St ⟨w,[.row ab ae 39 2 (nA wAO p0)],U⟩ U [.row ab ae 39 2 (nA wAO p0)] w) (ai:FnOK Tryz.prog U ag wVn wVo p1) (aj:∃ g cb,ag=.func (.func g) #[] cb) {r:List wAQ} (hm:wBT p0 p1=some r):Gv Tryz.prog 57 [.slice ab p0.length ae,ag] w (wBc w [.row ab ae 39 2 (nA wAO p0)] U (fun U_ L_ v=>v=.tuple #[]/\L_=[.row ab ae 39 2 (nA wAO r)]/\r.length=p0.length)) :=
 wKm (sz:=2) (fun _=>rfl) (fun x v h=>List.all_eq_true.1 (show (wAO x).all (·.oneCell')=true from rfl) v h) (fun _ _ _=>rfl) (fun _ _ _ _ h=>h.1) (fun enc a1 a2 cf b g cb k1 k2 k3 d w h1 h2 h3 h4 h5 h6=>Go.Proofs.Tryz.slices_SortFunc_total_f57 2 Tryz.isAgg39 Tryz.sizeOf39 enc a1 a2 cf b g cb k1 k2 k3 d w h1 h2 h3 h4 h5 h6) (fun p c v w=>Go.Proofs.Tryz.slices_SortFunc_none_f57 (α:=Int) p c v w) hS ai (by decide) aj hm
set_option maxHeartbeats 4000000
theorem wGG (p0:Int) (w:World) (U:PHeap) (hS:St0 w U [])  {r:Bool} (hm:wDK p0=some r):Gv Tryz.prog 66 [jV p0] w (wBc w [] U (fun U_ L_ v=>v=.bool r/\L_=[])):=by
 unfold wDK at hm
 refine Gv.of Tryz.func66 Z Tryz.ntmps66 Tryz.results66 Z (sR fL1 Z (oA Z Z (eN (sR fL4 Z (oM Z Z (oM Z Z (oR Z (Zz Z Z Z) (oA Z Z (eN (zP ?_))))))))))
 first | (obtain rfl:=nE hm) | cases hm
 exact ⟨Z,_,(zm Z),U,_,hS,Z,Z⟩
theorem wCh (p0:Int) (p1:Int) (w:World) (U:PHeap) (hS:St0 w U [])  {r:Int} (hm:wBX p0 p1=some r):Gv Tryz.prog 36 [jV p0,jV p1] w (wBc w [] U (fun U_ L_ v=>v=jV r/\L_=[])):=by
 unfold wBX at hm
 refine Gv.of Tryz.func36 Z Tryz.ntmps36 Tryz.results36 Z (sR fL1 Z (oA Z Z (eN (sR gCb Z (oM Z Z (bnK hm fun x1 h2 bg=>zL 0 Z Z Z Z (zK Z Z Tryz.call66 (zB Z zM) Z) hS (fun hs=>wGG p0 w U hs h2) (.inr Z) ?_))))))
 rintro U4 L5 v6 W7 bq aV ⟨rfl,rfl⟩
 have av:sW w U U4 [] W7:=aV
 refine oA Z Z (eN (sR gCb Z (oM Z Z (bnK bg fun x11 aq aW=>zL 0 Z Z Z Z (zK Z Z Tryz.call66 (zB Z zM) Z) av (fun hs=>wGG p1 W7 U4 hs aq) (.inr Z) ?_))))
 rintro aa bm br ap bp az ⟨rfl,rfl⟩
 have ab:sW w U aa [] ap:=az
 refine oA Z Z (eN (zJ (sR fL1 Z (oM Z Z (eN (ifc aW ?_ ?_))))))
 intro ae aX
 refine zo (congrArg nB ae.out) (zJ (sR fL1 Z (oM Z Z (eN (ifc aX ?_ ?_)))))
 intro ag aY
 refine zo (congrArg nB ag.out) (sR fL1 Z (oA Z Z (eN (zP (zR (zR ?_))))))
 cases aY
 exact ⟨Z,_,(zm Z),aa,_,ab,Z,Z⟩
 intro ag aZ
 refine zu (congrArg nB (nD.2 ag.out)) (kN (sR fL1 Z (oA Z Z (eN (zP (zR ?_))))))
 cases aZ
 exact ⟨Z,_,(zm Z),aa,_,ab,Z,Z⟩
 intro ae ba
 refine zu (congrArg nB (nD.2 ae.out)) (kN (zJ (sR fL1 Z (oM Z Z (eN (ifc ba ?_ ?_))))))
 intro ah bb
 refine zo (congrArg nB ah.out) (sR fL1 Z (oA Z Z (eN (zP (zR ?_)))))
 cases bb
 exact ⟨Z,_,(zm Z),aa,_,ab,Z,Z⟩
 intro ah be
 refine zu (congrArg nB (nD.2 ah.out)) (kN (zJ (sR fL3 Z (oM Z Z (oM Z Z (oR Z (zV Z Z Z) (eN (ifc be ?_ ?_))))))))
 intro ai bh
 refine cT Z ai (sR fL1 Z (oA Z Z (eN (zP (zR ?_)))))
 cases bh
 exact ⟨Z,_,(zm Z),aa,_,ab,Z,Z⟩
 intro ai bi
 refine cF Z ai (kN (zJ (sR fL3 Z (oM Z Z (oM Z Z (oR Z (yG Z Z Z) (eN (ifc bi ?_ ?_))))))))
 intro aj bj
 refine cT Z aj (sR fL1 Z (oA Z Z (eN (zP (zR ?_)))))
 cases bj
 exact ⟨Z,_,(zm Z),aa,_,ab,Z,Z⟩
 intro aj bk
 refine cF Z aj (kN (sR fL1 Z (oA Z Z (eN (zP ?_)))))
 cases bk
 exact ⟨Z,_,(zm Z),aa,_,ab,Z,Z⟩
theorem wIi (p0:wAQ) (p1:wAQ) (w:World) (U:PHeap) (hS:St0 w U [])  {r:Int} (hm:wCc p0 p1=some r):Gv Tryz.prog 58 [.agg #[jV p0.Bib,jV p0.Time],.agg #[jV p1.Bib,jV p1.Time]] w (wBc w [] U (fun U_ L_ v=>v=jV r/\L_=[])):=by
 unfold wCc at hm
 refine Gv.of Tryz.func58 Z Tryz.ntmps58 Tryz.results58 Z (sR gCi Z ?_)
 let B0:List Value:=[jV p0.Bib,jV p0.Time]
 refine zq (cs:=B0) rfl rfl rfl rfl rfl rfl (by rfl) hS ?_
 intro W1 b2 au
 let B1:List Value:=[jV p1.Bib,jV p1.Time]
 refine zq (cs:=B1) rfl rfl rfl rfl rfl rfl (by rfl) au ?_
 intro W5 b6 ae
 refine oA Z Z (eN (sR (wDo gBy) Z (oR Z (zF Z Z Zp Z zC) (oL Z (ae.ldB (j:=1) Z Z Z zG (v:=jV p0.Bib) Z) (oR Z (zF Z Z Zp Z zC) (oL Z (ae.ldB (j:=0) Z Z Z zG (v:=jV p1.Bib) Z) (bnK hm fun x9 ao av=>zL 0 Z Z Z Z (zK Z Z Tryz.call36 (zB Z (zB Z zM)) Z) ae (fun hs=>wCh p0.Bib p1.Bib W5 U hs ao) (.inr Z) ?_)))))))
 rintro ai az aX aj aW ap ⟨rfl,rfl⟩
 have aq:sW w U ai [.blk b6 39 B1,.blk b2 39 B0] aj:=ap
 refine oA Z Z (eN (zP ?_))
 have hE:=nE av;first | subst r | cases hE
 exact ⟨rfl,_,(zm rfl),ai,_,(aq.pick [] _ (by decide) rfl),rfl,rfl⟩
theorem wCi (p0:List wAD) (ab:Option Addr) (ae:Nat) (p1:((wAD × wAD)->Option Int)) (ag:Value) (w:World) (U:PHeap) (hS:St ⟨w,[.row ab ae 123 6 (nA wAL p0)],U⟩ U [.row ab ae 123 6 (nA wAL p0)] w) (ai:FnOK Tryz.prog U ag wVp wVq p1) (aj:∃ g cb,ag=.func (.func g) #[] cb) {r:List wAD} (hm:wAz p0 p1=some r):Gv Tryz.prog 59 [.slice ab p0.length ae,ag] w (wBc w [.row ab ae 123 6 (nA wAL p0)] U (fun U_ L_ v=>v=.tuple #[]/\L_=[.row ab ae 123 6 (nA wAL r)]/\r.length=p0.length)) :=
 wKm (sz:=6) (fun _=>rfl) (fun x v h=>List.all_eq_true.1 (show (wAL x).all (·.oneCell')=true from rfl) v h) (fun _ _ _=>rfl) (fun _ _ _ _ h=>h.1) (fun enc a1 a2 cf b g cb k1 k2 k3 d w h1 h2 h3 h4 h5 h6=>Go.Proofs.Tryz.slices_SortFunc_total_f59 6 Tryz.isAgg123 Tryz.sizeOf123 enc a1 a2 cf b g cb k1 k2 k3 d w h1 h2 h3 h4 h5 h6) (fun p c v w=>Go.Proofs.Tryz.slices_SortFunc_none_f59 (α:=Int) p c v w) hS ai (by decide) aj hm
theorem wIj (p0:wAD) (p1:wAD) (w:World) (U:PHeap) (hS:St0 w U [])  {r:Int} (hm:wCd p0 p1=some r):Gv Tryz.prog 60 [.agg #[jV p0.Number,jV p0.Kind,jV p0.Minute,jV p0.Bib,jV p0.Much,jV p0.About],.agg #[jV p1.Number,jV p1.Kind,jV p1.Minute,jV p1.Bib,jV p1.Much,jV p1.About]] w (wBc w [] U (fun U_ L_ v=>v=jV r/\L_=[])):=by
 unfold wCd at hm
 refine Gv.of Tryz.func60 Z Tryz.ntmps60 Tryz.results60 Z (sR gCi Z ?_)
 let B0:List Value:=[jV p0.Number,jV p0.Kind,jV p0.Minute,jV p0.Bib,jV p0.Much,jV p0.About]
 refine zq (cs:=B0) rfl rfl rfl rfl rfl rfl (by rfl) hS ?_
 intro W1 b2 au
 let B1:List Value:=[jV p1.Number,jV p1.Kind,jV p1.Minute,jV p1.Bib,jV p1.Much,jV p1.About]
 refine zq (cs:=B1) rfl rfl rfl rfl rfl rfl (by rfl) au ?_
 intro W5 b6 ae
 refine oA Z Z (eN (sR (wDo gBy) Z (oR Z (zF Z Z ZE Z zC) (oL Z (ae.ldB (j:=1) Z Z Z zG (v:=jV p0.Number) Z) (oR Z (zF Z Z ZE Z zC) (oL Z (ae.ldB (j:=0) Z Z Z zG (v:=jV p1.Number) Z) (bnK hm fun x9 ao av=>zL 0 Z Z Z Z (zK Z Z Tryz.call36 (zB Z (zB Z zM)) Z) ae (fun hs=>wCh p0.Number p1.Number W5 U hs ao) (.inr Z) ?_)))))))
 rintro ai az aX aj aW ap ⟨rfl,rfl⟩
 have aq:sW w U ai [.blk b6 123 B1,.blk b2 123 B0] aj:=ap
 refine oA Z Z (eN (zP ?_))
 have hE:=nE av;first | subst r | cases hE
 exact ⟨rfl,_,(zm rfl),ai,_,(aq.pick [] _ (by decide) rfl),rfl,rfl⟩
theorem wKJ (p0:wAU) (az:Option Addr) (aW:Nat) (aV:Option Addr) (aX:Nat) (w:World) (U:PHeap) (hS:St0 w U []) (cn:Sl U 2 az aW p0.Skiers.length (nA wAO p0.Skiers)) (cp:Sl U 6 aV aX p0.Decisions.length (nA wAL p0.Decisions)) {r:wAU × Int} (hm:wEH p0=some r):Gv Tryz.prog 31 [.agg #[jV p0.Deadline,.slice az p0.Skiers.length aW,.slice aV p0.Decisions.length aX]] w (wBc w [] U (fun U_ L_ v=>∃ (bF:Option Addr) (bQ:Nat) (bG:Option Addr) (bR:Nat),v=.tuple #[.agg #[jV r.1.Deadline,.slice bF r.1.Skiers.length bQ,.slice bG r.1.Decisions.length bR],jV r.2]/\L_=[.row bF bQ 39 2 (nA wAO r.1.Skiers),.row bG bR 123 6 (nA wAL r.1.Decisions)])):=by
 unfold wEH at hm
 refine Gv.of Tryz.func31 Z Tryz.ntmps31 Tryz.results31 Z (sR gCi Z ?_)
 let B0:List Value:=[jV p0.Deadline,.slice az p0.Skiers.length aW,.slice aV p0.Decisions.length aX]
 refine zq (cs:=B0) rfl rfl rfl rfl rfl rfl (by rfl) hS ?_
 intro W1 b2 dS
 let B1:List Value:=[jV 0,.slice none 0 0,.slice none 0 0]
 refine zg (cs:=B1) Z Z Z Z Z yl Z dS ?_
 intro W5 b6 cm
 refine oA Z Z (eN (zJ (sR gCb Z (oL Z (cm.ldBA (j:=1) Z Z Z yS Zg (vs:=B0) Z Z) (bnK hm fun x9 cY en=>zL 0 Z Z Z Z (zK Z Z Tryz.call56 (zB Z zM) Z) cm (fun hs=>wLJ p0 az aW aV aX W5 U hs cn cp cY) (.inr Z) ?_)))))
 rintro bi eZ fA cA cr dC ⟨rfl,rfl⟩
 have bY:sW w U bi [.blk b6 37 B1,.blk b2 37 B0] cA:=dC
 refine oA Z Z (eN (sR fL2 Z (oM Z Z (oR Z (Zz Z Z Z) (eN (ifc en ?_ ?_))))))
 intro bC er
 refine zu (ZT (fun h=>h bC.out)) (kN ?_)
 have q:=bnd er
 obtain ⟨⟨bb,au⟩,eE,cq⟩:=q
 try dsimp only at cq
 refine yP (fun σ_ w_=>∃ (U_:PHeap) (ap:Nat) (ak:Nat) (am:Nat) (ai:Nat) (aj:Nat),σ_ 1=.pointer (some ⟨b2,0,none⟩)/\σ_ 2=.pointer (some ⟨b6,0,none⟩)/\σ_ 5=.pointer (some ⟨ap,0,none⟩)/\PHeap.Le bi U_/\sW w U U_ [.blk b6 37 B1,.blk b2 37 B0,.blk ap 37 [jV p0.Deadline,.slice (some ⟨ak,0,none⟩) bb.length am,.slice (some ⟨ai,0,none⟩) au.length aj],.row (some ⟨ak,0,none⟩) am 39 2 (nA wAO bb),.row (some ⟨ai,0,none⟩) aj 123 6 (nA wAL au)] w_) ?_ ?_
 refine bnK eE fun x32 dq eB=>bnK eB fun x40 dr eD=>CK.webp (U0:=bi) (L0:=[.blk b6 37 B1,.blk b2 37 B0]) zz [pW 12 [] (.pointer (some ⟨b2,0,none⟩)),pW 13 [0] (jV p0.Deadline),pW 14 [] (.pointer (some ⟨b2,1,none⟩)),pW 15 [2] (.slice az p0.Skiers.length aW),pW 16 [3] (jV (↑p0.Skiers.length:Int)),⟨some 17,[17],[4],false,[],true,[],fun σ R=>∃ an,σ 17=.slice (some ⟨an,0,none⟩) x32.length x32.length/\R=[.row (some ⟨an,0,none⟩) x32.length 39 2 (nA wAO x32)]⟩,pW 18 [] (.pointer (some ⟨b2,2,none⟩)),pW 19 [6] (.slice aV p0.Decisions.length aX),pW 20 [7] (jV (↑p0.Decisions.length:Int)),⟨some 21,[21],[8],false,[],true,[],fun σ R=>∃ ao,σ 21=.slice (some ⟨ao,0,none⟩) x40.length x40.length/\R=[.row (some ⟨ao,0,none⟩) x40.length 123 6 (nA wAL x40)]⟩,⟨some 22,[22],[1],true,[5,9],false,[],fun σ R=>∃ an ao,σ 22=.agg #[jV p0.Deadline,.slice (some ⟨an,0,none⟩) x32.length x32.length,.slice (some ⟨ao,0,none⟩) x40.length x40.length]/\R=[.row (some ⟨an,0,none⟩) x32.length 39 2 (nA wAO x32),.row (some ⟨ao,0,none⟩) x40.length 123 6 (nA wAL x40)]⟩,⟨some 5,[5],[],false,[],false,[],fun σ R=>∃ ba,σ 5=.pointer (some ⟨ba,0,none⟩)/\R=[.blk ba 37 B1]⟩] [false] [(1,.pointer (some ⟨b2,0,none⟩)),(2,.pointer (some ⟨b6,0,none⟩))] (by kernel_rfl) ⟨rfl,rfl,trivial⟩ bY ⟨?_,?_,?_,?_,?_,?_,?_,?_,?_,?_,?_,?_,trivial⟩ ?_
 refine wpW ?_
 rintro _ _ _ _ _ ⟨cN,_⟩ _ _ _ eV
 exact oR Z (zF Z cN ZF Z zC) eV
 refine wpW ?_
 rintro _ _ _ _ _ _ _ ⟨⟨_,⟨cO,_⟩⟩,_⟩ dx eF
 exact oL Z (dx.ldB (j:=1) Z Z cO zG (v:=jV p0.Deadline) Z) eF
 refine wpW ?_
 rintro _ _ _ _ _ ⟨cJ,_⟩ _ _ _ eG
 exact oR Z (zF Z cJ ZF Z yL) eG
 refine wpW ?_
 rintro _ _ _ _ _ _ _ ⟨⟨_,⟨cP,_⟩⟩,_⟩ dy eH
 exact oL Z (dy.ldB (j:=1) Z Z cP yh (v:=.slice az p0.Skiers.length aW) Z) eH
 refine wpW ?_
 rintro _ _ _ _ _ _ _ ⟨⟨_,⟨cQ,_⟩⟩,_⟩ _ eI
 exact oR Z (zn Z cQ Zf) eI
 rintro _ _ _ cy cw _ _ _ ⟨⟨_,⟨bU,_⟩⟩,_⟩ rfl dz eJ
 refine OKS.makeSliceZ (sz:=2) (enc:=wAO) (z:=(⟨0,0⟩:wAQ)) (v:=jV 0) rfl rfl rfl rfl rfl (wDa Zf) wSB rfl rfl rfl rfl (by decide) (by decide) bU bU dq dz ?_
 intro cB bO dA
 have dB:sW w U cy (.row (some ⟨bO,0,none⟩) x32.length 39 2 (nA wAO x32) :: .blk b6 37 B1 :: .blk b2 37 B0 :: cw) cB:=dA
 exact eJ _ _ _ _ (zN _) dB ⟨bO,Z,Z⟩
 refine wpW ?_
 rintro _ _ _ _ _ ⟨cK,_⟩ _ _ _ eK
 exact oR Z (zF Z cK ZF Z yV) eK
 refine wpW ?_
 rintro _ _ _ _ _ _ _ ⟨⟨_,⟨cR,_⟩⟩,_⟩ dD eL
 exact oL Z (dD.ldB (j:=1) Z Z cR yM (v:=.slice aV p0.Decisions.length aX) Z) eL
 refine wpW ?_
 rintro _ _ _ _ _ _ _ ⟨⟨_,⟨cS,_⟩⟩,_⟩ _ eM
 exact oR Z (zn Z cS Zj) eM
 rintro _ _ _ cz cx _ _ _ ⟨⟨_,⟨bV,_⟩⟩,_⟩ rfl dE eO
 refine OKS.makeSliceZ (sz:=6) (enc:=wAL) (z:=(⟨0,0,0,0,0,0⟩:wAD)) (v:=jV 0) rfl rfl rfl rfl rfl (wDa Zj) wTm rfl rfl rfl rfl (by decide) (by decide) bV bV dr dE ?_
 intro cC bP dF
 have dG:sW w U cz (.row (some ⟨bP,0,none⟩) x40.length 123 6 (nA wAL x40) :: .blk b6 37 B1 :: .blk b2 37 B0 :: cx) cC:=dF
 exact eO _ _ _ _ (zN _) dG ⟨bP,Z,Z⟩
 rintro _ _ _ _ _ _ _ _ ⟨⟨_,⟨cW,_⟩⟩,_⟩ ⟨_,_,⟨an,cV,rfl⟩,⟨_,_,⟨ao,cU,rfl⟩,rfl,rfl⟩,rfl⟩ dH eQ
 exact oR Z (ZN (pv:=[(0,jV p0.Deadline),(1,.slice (some ⟨an,0,none⟩) x32.length x32.length),(2,.slice (some ⟨ao,0,none⟩) x40.length x40.length)]) (z:=B1) (cs:=[jV p0.Deadline,.slice (some ⟨an,0,none⟩) x32.length x32.length,.slice (some ⟨ao,0,none⟩) x40.length x40.length]) Z (wAG cW (wAG cV (wAG cU wAZ))) yl wKF Z Z) (eQ _ _ _ _ (zN _) dH ⟨an,ao,Z,Z⟩)
 rintro _ _ _ _ _ _ _ _ _ rfl dI eU
 refine zg (cs:=B1) Z Z Z Z Z yl Z dI ?_
 intro ff cI dJ
 exact eU _ _ _ _ (zN _) dJ ⟨cI,Z,Z⟩
 rintro eY bL bB ⟨cL,cM,_⟩ eW _ ⟨fh,rfl⟩ _ ⟨fj,rfl⟩ _ ⟨fk,rfl⟩ _ ⟨fm,rfl⟩ _ ⟨fq,rfl⟩ _ _ _ ⟨ft,rfl⟩ _ ⟨fu,rfl⟩ _ ⟨fw,rfl⟩ _ _ _ ⟨an,ao,cX,rfl⟩ _ ⟨ba,bW,rfl⟩ dK
 let B2:Res:=.row (some ⟨ao,0,none⟩) x40.length 123 6 (nA wAL x40)
 let B3:Res:=.row (some ⟨an,0,none⟩) x32.length 39 2 (nA wAO x32)
 have dL:sW w U bB [.blk ba 37 B1,B3,B2,.blk b6 37 B1,.blk b2 37 B0] bL:=dK
 show OKS _ _ _ _ _ _ (.fx 12 .nil .stop) eY bL
 let B4:List Value:=[jV p0.Deadline,.slice (some ⟨an,0,none⟩) x32.length x32.length,.slice (some ⟨ao,0,none⟩) x40.length x40.length]
 refine zh (j:=0) (vs:=B4) Z Z Z Z dL Z bW cX Z Zg (zA Z) Z Z Z ?_
 intro cD dM
 have dN:sW w U bB [.blk ba 37 B4,B3,B2,.blk b6 37 B1,.blk b2 37 B0] cD:=dM
 refine zd ?_
 have bX:=nE eD
 simp only [Prod.mk.injEq] at bX
 obtain ⟨dt,du⟩:=bX
 subst dt
 subst du
 exact zI ⟨rfl,⟨bB,ba,an,x32.length,ao,x40.length,cL,cM,bW,eW,(dN.pick [3,4,0,1,2] _ (by decide) rfl)⟩⟩
 rintro fD fg ⟨av,ap,ak,am,ai,aj,bS,bT,bk,ct,bs⟩
 refine sR (wDo (.fx 4 .nil .stop)) Z (oR Z (zF Z bk ZF Z yL) (oL Z (bs.ldB (j:=2) Z Z Z yh (v:=.slice (some ⟨ak,0,none⟩) bb.length am) Z) (oR Z (zF Z bS ZF Z yL) (oL Z (bs.ldB (j:=1) Z Z Z yh (v:=.slice az p0.Skiers.length aW) Z) ?_))))
 have cZ:=cn.le cr
 have c8:=cZ.le ct
 refine bnK cq fun be da eu=>OKS.copyM (j:=3) (f:=wAO) (m:=bb) (ys:=p0.Skiers) (z:=be) (a:=0) (n:=bb.length) rfl rfl rfl rfl rfl rfl Zf Zu bs rfl (fun _=>rfl) (fun _=>rfl) rfl da rfl (by simp) (.inr (by simp)) rfl (bs.srcS c8) rfl ?_
 intro bM dO ef
 let B5:Res:=.row (some ⟨ak,0,none⟩) am 39 2 (nA wAO be)
 let B6:Res:=.row (some ⟨ai,0,none⟩) aj 123 6 (nA wAL au)
 have dP:sW w U av [.blk b6 37 B1,.blk b2 37 B0,.blk ap 37 [jV p0.Deadline,.slice (some ⟨ak,0,none⟩) bb.length am,.slice (some ⟨ai,0,none⟩) au.length aj],B5,B6] bM:=dO
 let B7:Res:=.blk ap 37 [jV p0.Deadline,.slice (some ⟨ak,0,none⟩) be.length am,.slice (some ⟨ai,0,none⟩) au.length aj]
 have bu:sW w U av [.blk b6 37 B1,.blk b2 37 B0,B7,B5,B6] bM:=by simp only [B7,ef];exact dP
 refine eN (sR (wDo (.fx 4 .nil .stop)) Z (oR Z (zF Z bk ZF Z yV) (oL Z (bu.ldB (j:=2) Z Z Z yM (v:=.slice (some ⟨ai,0,none⟩) au.length aj) Z) (oR Z (zF Z bS ZF Z yV) (oL Z (bu.ldB (j:=1) Z Z Z yM (v:=.slice aV p0.Decisions.length aX) Z) ?_)))))
 have db:=cp.le cr
 have de:=db.le ct
 refine bnK eu fun bg df ew=>OKS.copyM (j:=4) (f:=wAL) (m:=au) (ys:=p0.Decisions) (z:=bg) (a:=0) (n:=au.length) rfl rfl rfl rfl rfl rfl Zj Zn bu rfl (fun _=>rfl) (fun _=>rfl) rfl df rfl (by simp) (.inr (by simp)) rfl (bu.srcS de) rfl ?_
 intro bq dQ eh
 let B8:Res:=.row (some ⟨ai,0,none⟩) aj 123 6 (nA wAL bg)
 have dR:sW w U av [.blk b6 37 B1,.blk b2 37 B0,B7,B5,B8] bq:=dQ
 let B9:Res:=.blk ap 37 [jV p0.Deadline,.slice (some ⟨ak,0,none⟩) be.length am,.slice (some ⟨ai,0,none⟩) bg.length aj]
 have bZ:sW w U av [.blk b6 37 B1,.blk b2 37 B0,B9,B5,B8] bq:=by simp only [B9,eh];exact dR
 refine eN (sR gCh Z (oR Z (zF Z bk ZF Z yL) (oL Z (bZ.ldB (j:=2) Z Z Z yh (v:=.slice (some ⟨ak,0,none⟩) be.length am) Z) ?_)))
 have dv:FnOK Tryz.prog av (.func (.func 58) #[] #[]) wVn wVo (fun x=>wCc x.1 x.2):=⟨58,[],[],rfl,Tryz.call58,fun U1 w1 x y vs le hs ha hm=>by obtain rfl:=ha;exact wIi x.1 x.2 w1 U1 hs  hm⟩
 refine bnK ew fun bE dg ey=>?_
 have dT:sW w U av [B5,.blk b6 37 B1,.blk b2 37 B0,B9,B8] bq:=bZ.pick [3,0,1,2,4] _ (by decide) rfl
 refine zL 1 Z Z Z Z (zK Z Z Tryz.call57 (zB Z (zB Z zM)) Z) dT (fun hs=>wDO be (some ⟨ak,0,none⟩) am (fun x=>wCc x.1 x.2) (.func (.func 58) #[] #[]) bq av hs dv ⟨_,_,Z⟩ dg) (.inl Z) ?_
 rintro bj fb fB br fy dU ⟨rfl,rfl,dh⟩
 let aY:Res:=.row (some ⟨ak,0,none⟩) am 39 2 (nA wAO bE)
 have dV:sW w U bj [aY,.blk b6 37 B1,.blk b2 37 B0,B9,B8] br:=dU
 let bm:Res:=.blk ap 37 [jV p0.Deadline,.slice (some ⟨ak,0,none⟩) bE.length am,.slice (some ⟨ai,0,none⟩) bg.length aj]
 have cd:sW w U bj [aY,.blk b6 37 B1,.blk b2 37 B0,bm,B8] br:=by simp only [bm,dh];exact dV
 refine eN (sR gCh Z (oR Z (zF Z bk ZF Z yV) (oL Z (cd.ldB (j:=3) Z Z Z yM (v:=.slice (some ⟨ai,0,none⟩) bg.length aj) Z) ?_)))
 have dw:FnOK Tryz.prog bj (.func (.func 60) #[] #[]) wVp wVq (fun x=>wCd x.1 x.2):=⟨60,[],[],rfl,Tryz.call60,fun U1 w1 x y vs le hs ha hm=>by obtain rfl:=ha;exact wIj x.1 x.2 w1 U1 hs  hm⟩
 refine bnK ey fun cu dm ez=>?_
 have dW:sW w U bj [B8,aY,.blk b6 37 B1,.blk b2 37 B0,bm] br:=cd.pick [4,0,1,2,3] _ (by decide) rfl
 refine zL 1 Z Z Z Z (zK Z Z Tryz.call59 (zB Z (zB Z zM)) Z) dW (fun hs=>wCi bg (some ⟨ai,0,none⟩) aj (fun x=>wCd x.1 x.2) (.func (.func 60) #[] #[]) br bj hs dw ⟨_,_,Z⟩ dm) (.inl Z) ?_
 rintro bp fc fC bN fz dX ⟨rfl,rfl,dp⟩
 let bw:Res:=.row (some ⟨ai,0,none⟩) aj 123 6 (nA wAL cu)
 have dY:sW w U bp [bw,aY,.blk b6 37 B1,.blk b2 37 B0,bm] bN:=dX
 let aq:List Value:=[jV p0.Deadline,.slice (some ⟨ak,0,none⟩) bE.length am,.slice (some ⟨ai,0,none⟩) cu.length aj]
 have cg:sW w U bp [bw,aY,.blk b6 37 B1,.blk b2 37 B0,.blk ap 37 aq] bN:=by simp only [aq,dp];exact dY
 refine eN (sR gCb Z (oL Z (cg.ldBA (j:=4) Z Z bk yS Zg (vs:=aq) Z Z) (zh (j:=2) (vs:=aq) Z Z Z Z cg Z bT Z Z Zg (zA Z) Z Z Z ?_)))
 intro cE dZ
 have ci:sW w U bp [bw,aY,.blk b6 37 aq,.blk b2 37 B0,.blk ap 37 aq] cE:=dZ
 refine oA Z Z (eN (zP ?_))
 cases ez
 exact ⟨rfl,_,(wFc (rs:=[.cell 2 37,.tmp 3]) (vs:=[.agg aq.toArray,jV 0]) ⟨⟨_,bT,(wBo yS Zg (ci.blkAt (k:=2) rfl) (vs:=aq) rfl rfl)⟩,⟨rfl,trivial⟩⟩ rfl),bp,_,(ci.pick [1,0] _ (by decide) rfl),(some ⟨ak,0,none⟩),am,(some ⟨ai,0,none⟩),aj,rfl,rfl⟩
 intro bC eA
 refine cT Z bC (sR gCm Z (oR Z (ZN (pv:=[]) (z:=B1) (cs:=B1) Z wAZ yl wKF Z Z) (oM Z Z (zh (j:=0) (vs:=B1) Z Z Z Z bY Z Z Z Z Zg (zA Z) Z Z Z ?_))))
 intro cG d5
 have d7:sW w U bi [.blk b6 37 B1,.blk b2 37 B0] cG:=d5
 refine oA Z Z (eN (zP (zR ?_)))
 have d9:=d7.nilrow 39 2
 have cj:=d9.nilrow 123 6
 cases eA
 exact ⟨rfl,_,(wFc (rs:=[.cell 2 37,.tmp 3]) (vs:=[.agg B1.toArray,jV x9]) ⟨⟨_,rfl,(wBo yS Zg (cj.blkAt (k:=2) rfl) (vs:=B1) rfl rfl)⟩,⟨rfl,trivial⟩⟩ rfl),bi,_,(cj.pick [1,0] _ (by decide) rfl),none,0,none,0,rfl,rfl⟩
theorem wCV {S E:Type} (PY:S->PHeap->List Res->Prop) (PE:E->PHeap->List Res->Prop) (f:S->(Int × wAD)->Option (S ⊕ E)) (y:Nat) (s0:S) (p1:List wAD) (av:Nat) (am:Option Addr) (an:Nat) (w:World) (L:List Res) (U:PHeap) (hS:St ⟨w,L,U⟩ U L w) (hP:PY s0 U L) (hY:YOK Tryz.prog y wVr PY PE f U) (aZ:Cl U av 0 [.slice am p1.length an]) (bw:Sl U 6 am an p1.length (nA wAL p1)) {r:S ⊕ E} (hm:wAd f s0 p1=some r):Gv Tryz.prog 61 [.func (.yield y) #[] #[],.pointer (some ⟨av,0,none⟩)] w (ItS w L U PY PE r):=by
 unfold wAd at hm
 refine Gv.of Tryz.func61 Z Tryz.ntmps61 Tryz.results61 Z (sR fL4 Z (oL Z (hS.ldC (f:=0) aZ (v:=.slice am p1.length an) Z Z yM Z) (oR Z (zn Z Z Zj) (oR Z (Zk Z Z Z) (oA Z Z (eN (zS (yr (fun (x11,bh) σ_ w_=>∃ (U_:PHeap) (ao:List Res),σ_ 0=.func (.yield y) #[] #[]/\σ_ 1=.pointer (some ⟨av,0,none⟩)/\σ_ 3=jV x11/\PHeap.Le U U_/\St ⟨w,L,U⟩ U_ ao w_/\PY bh U_ ao) hm ?_ ?_))))))))
 exact ⟨U,L,Z,Z,Z,(zN _),hS,hP⟩
 rintro ⟨x11,bh⟩ bN bO bJ ⟨bi,ao,aV,aW,ag,ak,ai,aX⟩ au ba
 try dsimp only at au
 refine zJ (sR fL2 Z (oM Z ag (oR Z (yw Z Z Z) (eN ?_))))
 by_cases aa:0 <= x11
 have bb:=au;rw [if_pos aa] at bb;replace aa:=zH aa
 refine cT Z aa (kN (zJ (zS (sR (wJO gBz) Z (oM Z aV (oM Z ag ?_))))))
 have bm:=aZ.le ak
 refine oL Z (ai.ldC (f:=0) bm (v:=.slice am p1.length an) Z aW yM Z) (oM Z ag (bnK bb fun x31 aq bz=>?_))
 have bn:=bw.le ak
 have q:=bn.el (fun _=>rfl) (wAj aq)
 obtain ⟨bK,bM,bq,br⟩:=q
 refine oR Z (ZA Z Z bq Z Zj Zn (wCO aq) (wCX aq)) (oL Z (ai.ldCA (f:=0) br Z Z yq Zn (us:=[jV x31.Number,jV x31.Kind,jV x31.Minute,jV x31.Bib,jV x31.Much,jV x31.About]) Z Z) (bnK bz fun bI bp aj=>OKS.yieldT 0 (a:=(x11,x31)) Z Z Z Z Z Z (zB Z (zB Z zM)) ai hY ak aX Z bp Z ?_))
 rintro ae ap bL az bE aY ah
 rcases bI with bF | bF
 try dsimp only at aj ah
 obtain ⟨rfl,bC⟩:=ah
 have bs:St ⟨w,L,U⟩ ae ap az:=aY
 refine oR Z (ZB Z Z) (eN (zu Z (Ze (zf (zI (rR fL3 Z (oM Z ag (oR Z (Zk Z Z Z) (oA Z Z (zd ?_))))))))))
 have q:=nE aj
 obtain rfl:=q
 exact zI ⟨Z,_,Z,⟨ae,ap,aV,aW,Z,(ak.trans bE),bs,bC⟩⟩
 try dsimp only at aj ah
 obtain ⟨rfl,bD⟩:=ah
 have bu:St ⟨w,L,U⟩ ae ap az:=aY
 refine oR Z (ZB Z Z) (eN (zo Z (zP (za (zR ?_)))))
 have q:=wAc aj
 obtain ⟨bG,bA,bj⟩:=q
 have q:=ba bG bj
 obtain rfl:=q
 refine zR (za ?_)
 cases bA
 exact ⟨Z,_,(wNG),ae,_,bu,bD⟩
 have be:=au;rw [if_neg aa] at be;replace aa:=zH aa
 refine cF Z aa (ZH (zZ ?_))
 have q:=wAc be
 obtain ⟨bH,bB,bk⟩:=q
 have q:=ba bH bk
 obtain rfl:=q
 refine zZ (zx ?_)
 cases bB
 exact ⟨Z,_,(wNG),bi,_,ai,aX⟩
theorem wCj (p0:List wAD) (ae:Option Addr) (ag:Nat) (w:World) (U:PHeap) (hS:St0 w U []) (ap:Sl U 6 ae ag p0.length (nA wAL p0)) {r:Unit} (hm:wAn p0=some r):Gv Tryz.prog 32 [.slice ae p0.length ag] w (wBc w [] U (fun U_ L_ v=>∃ (b0:Nat),v=.func (.func 61) #[] #[.pointer (some ⟨b0,0,none⟩)]/\L_=[]/\Cl U_ b0 0 [.slice ae p0.length ag])):=by
 unfold wAn at hm
 refine Gv.of Tryz.func32 rfl Tryz.ntmps32 Tryz.results32 rfl (sR gBr rfl (zq (cs:=[.slice ae p0.length ag]) rfl rfl rfl rfl rfl rfl (by rfl) hS ?_))
 intro W1 b2 am
 have q:=am.freeze (k:=0) rfl
 obtain ⟨U5,aq,ab,an⟩:=q
 replace ab:=Cl.of ab
 have ao:sW w U U5 [] W1:=an
 replace ab:Cl U5 b2 0 [.slice ae p0.length ag]:=ab
 refine oA Z Z (eN (sR fL2 Z (oR Z (yJ Z zM (zB Z zM)) (oA Z Z (eN (zP ?_))))))
 cases hm
 exact ⟨Z,_,(zm Z),U5,_,ao,b2,Z,Z,ab⟩
theorem wLK (p0:wAU) (bn:Option Addr) (bq:Nat) (bp:Option Addr) (br:Nat) (w:World) (U:PHeap) (hS:St0 w U []) (dv:Sl U 2 bn bq p0.Skiers.length (nA wAO p0.Skiers)) (dw:Sl U 6 bp br p0.Decisions.length (nA wAL p0.Decisions)) {r:(Option wBJ) × Int} (hm:wEp p0=some r):Gv Tryz.prog 17 [.agg #[jV p0.Deadline,.slice bn p0.Skiers.length bq,.slice bp p0.Decisions.length br]] w (wBc w [] U (fun U_ L_ v=>match r.1 with | none=>v=.tuple #[.pointer none,jV r.2]/\L_=[] | some d=>∃ (b0:Nat) (A0p01:Option Addr) (c0p01:Nat) (A0p02:Option Addr) (c0p02:Nat) (m0p1:Nat) (es0p1:Array MapEntry) (ck0p1:Nat) (m0p2:Nat) (es0p2:Array MapEntry) (ck0p2:Nat),v=.tuple #[.pointer (some ⟨b0,0,none⟩),jV r.2]/\L_=[.blk b0 117 [jV d.Record.Deadline,.slice A0p01 d.Record.Skiers.length c0p01,.slice A0p02 d.Record.Decisions.length c0p02,.map (some m0p1),.map (some m0p2)],.row A0p01 c0p01 39 2 (nA wAO d.Record.Skiers),.obj m0p1 (.map es0p1 ck0p1),.obj m0p2 (.map es0p2 ck0p2)]/\Sl U_ 6 A0p02 c0p02 d.Record.Decisions.length (nA wAL d.Record.Decisions)/\MpR es0p1 wIw wKD d.at_/\MpR es0p2 wMA wMB d.about)):=by
 unfold wEp at hm
 refine Go.KX.Gv.ofM Tryz.func17 Z Tryz.ntmps17 Tryz.results17 (zA Z) (sR gCa Z ?_)
 let B0:List Value:=[jV p0.Deadline,.slice bn p0.Skiers.length bq,.slice bp p0.Decisions.length br]
 refine zq (cs:=B0) rfl rfl rfl rfl rfl rfl (by rfl) hS ?_
 intro W1 b2 bS
 refine oA Z Z (oA Z Z (eN (sR (.fl 0 (.fx 1 (wWN (.fx 5 gBz .stop)) .stop)) Z (oL Z (bS.ldBA (j:=0) Z Z Z yS Zg (vs:=B0) Z Z) ?_))))
 have q:=bnd hm
 obtain ⟨⟨x5,x6⟩,h7,bX⟩:=q
 try dsimp only at bX
 refine zL 0 Z Z Z Z (zK Z Z Tryz.call31 (zB Z zM) Z) bS (fun hs=>wKJ p0 bn bq bp br W1 U hs dv dw h7) (.inr Z) ?_
 rintro U9 dJ d7 cm dW cL ⟨aW,aY,au,az,rfl,rfl⟩
 let B1:Res:=.row aW aY 39 2 (nA wAO x5.Skiers)
 let B2:Res:=.row au az 123 6 (nA wAL x5.Decisions)
 have c8:sW w U U9 [B1,B2,.blk b2 37 B0] cm:=cL
 refine oM Z Z (oR Z (zw Z Z (v:=.agg #[jV x5.Deadline,.slice aW x5.Skiers.length aY,.slice au x5.Decisions.length az]) Z) (oR Z (zw Z Z (v:=jV x6) Z) (zg (cs:=[jV 0,.slice none 0 0,.slice none 0 0]) Z Z Z Z Z yl Z c8 ?_)))
 intro dP ak da
 let B3:List Value:=[jV x5.Deadline,.slice aW x5.Skiers.length aY,.slice au x5.Decisions.length az]
 refine zh (j:=0) (vs:=B3) Z Z Z Z da Z Z Z Z Zg (zA Z) Z Z Z ?_
 intro cu db
 have bC:sW w U U9 [.blk ak 37 B3,B1,B2,.blk b2 37 B0] cu:=db
 refine oA Z Z (eN (zJ (sR fL2 Z (oM Z Z (oR Z (Zz Z Z Z) (eN (ifc bX ?_ ?_)))))))
 intro bB dA
 refine zu (ZT (fun h=>h bB.out)) (kN (sR (.fl 0 (.fx 1 (.fx 2 (.fl 3 (.fx 4 (.fx 5 (.fx 6 .nil .stop) .stop) .stop)) .stop) .stop)) Z (oL Z (bC.ldBA (j:=0) Z Z Z yS Zg (vs:=B3) Z Z) (OKS.makeMap Z Z Z Z Z bC ?_))))
 intro dQ ai de
 have dC:=MpR.nil wIw wKD
 refine OKS.makeMap Z Z Z Z Z de ?_
 intro dR am df
 have dD:=MpR.nil wMA wMB
 let B4:List Value:=[jV x5.Deadline,.slice aW x5.Skiers.length aY,.slice au x5.Decisions.length az,.map (some ai),.map (some am)]
 refine zY rfl rfl rfl rfl (fun _=>ZN (pv:=[(0,.agg B3.toArray),(1,.map (some ai)),(2,.map (some am))]) (z:=[jV 0,.slice none 0 0,.slice none 0 0,.map none,.map none]) (cs:=B4) rfl (wAG rfl (wAG rfl (wAG rfl wAZ))) Tryz.zeroValue117 wPc rfl rfl) (zq (cs:=B4) rfl rfl rfl rfl rfl rfl (by rfl) df ?_)
 intro dS ae dg
 refine zg (cs:=[.pointer none]) Z Z Z Z Z Tryz.zeroValue74 Z dg ?_
 intro dT ao dh
 let B5:List Value:=[.pointer (some ⟨ae,0,none⟩)]
 refine zh (j:=0) (vs:=B5) Z Z Z Z dh Z Z Z Z Tryz.sizeOf74 (zA Z) Z Z Z ?_
 intro bA dm
 have bD:sW w U U9 [.blk ao 74 B5,.blk ae 117 B4,.obj am (.map #[] 0),.obj ai (.map #[] 0),.blk ak 37 B3,B1,B2,.blk b2 37 B0] bA:=dm
 refine eN (zJ (sR (wGw (.fx 5 .nil .stop)) Z (oL Z (bD.ldB (j:=0) Z Z Z Tryz.isAgg74 (v:=.pointer (some ⟨ae,0,none⟩)) Z) (oR Z (Zd Z Z) (oR Z (zF Z Z Tryz.runUnderlying117 Z Zg) (oR Z (zF Z Z ZF Z yV) (oL Z (bD.ldB (j:=1) Z Z Z yM (v:=.slice au x5.Decisions.length az) Z) ?_)))))))
 have q:=bD.freezeR (k:=6) (n:=x5.Decisions.length) rfl (wAC (f:=wAL) (sz:=6) (fun _=>rfl) x5.Decisions) (by decide)
 obtain ⟨bI,dY,bY,dp⟩:=q
 have dq:sW w U bI [.blk ao 74 B5,.blk ae 117 B4,.obj am (.map #[] 0),.obj ai (.map #[] 0),.blk ak 37 B3,B1,.blk b2 37 B0] bA:=dp
 have q:=bnd dA
 obtain ⟨⟨⟩,cE,bW⟩:=q
 try dsimp only at bW
 refine zL 0 Z Z Z Z (zK Z Z Tryz.call32 (zB Z zM) Z) dq (fun hs=>wCj x5.Decisions au az bA bI hs bY cE) (.inr Z) ?_
 rintro bJ dM d9 cw dF dr ⟨bL,rfl,rfl,cG⟩
 have dt:sW w U bJ [.blk ao 74 B5,.blk ae 117 B4,.obj am (.map #[] 0),.obj ai (.map #[] 0),.blk ak 37 B3,B1,.blk b2 37 B0] cw:=dr
 refine eN (zS (yu fun bH bF=>?_))
 have bO:bH 6=.pointer (some ⟨ao,0,none⟩):=(bF 6).trans rfl
 have cA:bH 27=.func (.func 61) #[] #[.pointer (some ⟨bL,0,none⟩)]:=(bF 27).trans rfl
 clear bF
 refine bnK bW fun wKE dy bT=>?_
 have bP:=bY.le dF
 refine CK.rangeY (S:=(List (Int × wAD))) (E:=Empty) (ar:=wVr) (PY:=(fun (bZ:(List (Int × wAD))) (U_:PHeap) (L_:List Res)=>∃ (aV:Array MapEntry) (aZ:Nat),L_=[.blk ao 74 B5,.row aW aY 39 2 (nA wAO x5.Skiers),.blk ae 117 B4,.obj am (.map #[] 0),.obj ai (.map aV aZ),.blk ak 37 B3,.blk b2 37 B0]/\MpR aV wIw wKD bZ)) (PE:=(fun (_:Empty) _ _=>False)) (exO:=Empty.elim) (s0:=([]:List (Int × wAD))) (rr:=wKE) cA Tryz.call61 (dt.pick [0,5,1,2,3,4,6] _ (by decide) rfl) (by decide) (fun _ _ _ h=>by obtain rfl:=h;rfl) (fun e=>nomatch e) ⟨#[],0,rfl,dC⟩ (fun l w1 L1 PY' PE' cK cI du=>wCV PY' PE' _ l _ x5.Decisions bL au az w1 L1 bJ cK cI du cG bP dy) ?_ ?_
 rintro bh d5 dV bZ x134 ef dZ bs dK dH bG bi dX cM cJ dx bE bu bb
 obtain ⟨aV,aZ,rfl,cB⟩:=cJ
 obtain rfl:=dx
 replace bb:∀ t,bu t=upd (upd bH 28 (jV x134.1)) 29 (.agg #[jV x134.2.Number,jV x134.2.Kind,jV x134.2.Minute,jV x134.2.Bib,jV x134.2.Much,jV x134.2.About]) t:=bb
 have dU:bu 28=jV x134.1:=(bb 28).trans ((wFE _ _ (by decide)).trans (wEY _ _ _))
 have cy:bu 29=.agg #[jV x134.2.Number,jV x134.2.Kind,jV x134.2.Minute,jV x134.2.Bib,jV x134.2.Much,jV x134.2.About]:=(bb 29).trans (wEY _ _ _)
 have cz:bu 6=.pointer (some ⟨ao,0,none⟩):=(bb 6).trans ((wFE _ _ (by decide)).trans ((wFE _ _ (by decide)).trans bO))
 clear bb
 have cN:St bi bs [.obj bh bG,.blk ao 74 B5,B1,.blk ae 117 B4,.obj am (.map #[] 0),.obj ai (.map aV aZ),.blk ak 37 B3,.blk b2 37 B0] dH:=cM
 try dsimp only at bE
 refine rR gBt Z (zg (cs:=[jV 0,jV 0,jV 0,jV 0,jV 0,jV 0]) Z Z Z Z Z Tryz.zeroValue123 Z cN ?_)
 intro dN bj cO
 let B6:List Value:=[jV x134.2.Number,jV x134.2.Kind,jV x134.2.Minute,jV x134.2.Bib,jV x134.2.Much,jV x134.2.About]
 refine zh (j:=0) (vs:=B6) Z Z Z Z cO Z Z cy Z Zn (zA Z) Z Z Z ?_
 intro cn cP
 have cQ:St bi bs [.blk bj 123 B6,.obj bh bG,.blk ao 74 B5,B1,.blk ae 117 B4,.obj am (.map #[] 0),.obj ai (.map aV aZ),.blk ak 37 B3,.blk b2 37 B0] cn:=cP
 refine zd ⟨rfl,rfl,_,_,(cQ.pick [1,0,2,3,4,5,6,7,8] [.obj bh bG,.blk bj 123 B6,.blk ao 74 B5,B1,.blk ae 117 B4,.obj am (.map #[] 0),.obj ai (.map aV aZ),.blk ak 37 B3,.blk b2 37 B0] (by decide) rfl),fun bz cd cR=>?_⟩
 have cS:St bi bs [.obj bh cd,.blk bj 123 B6,.blk ao 74 B5,B1,.blk ae 117 B4,.obj am (.map #[] 0),.obj ai (.map aV aZ),.blk ak 37 B3,.blk b2 37 B0] bz:=cR
 refine zS (zJ (ZO zz [1,3,3,1,3,1,1,0] (wMT (.fx 7 .nil .stop)) (by kernel_rfl) ?_))
 have ba:=cS.drew
 generalize hw_W167:({ bz with drawn:=bz.drawn + 1 }:World)=dO at ba ⊢
 refine ZC rfl rfl rfl rfl (ba.ldB (j:=2) rfl rfl cz Tryz.isAgg74 (v:=.pointer (some ⟨ae,0,none⟩)) rfl) rfl (zY rfl rfl rfl rfl (fun _=>Zd rfl rfl) (zY rfl rfl rfl rfl (fun _=>zF rfl rfl Tryz.runUnderlying117 rfl Tryz.sizeOf114) (ZC rfl rfl rfl rfl (ba.ldB (j:=4) rfl rfl rfl Tryz.isAgg114 (v:=.map (some ai)) rfl) rfl (zY rfl rfl rfl rfl (fun _=>zF rfl rfl ZE rfl zC) (ZC rfl rfl rfl rfl (ba.ldB (j:=1) rfl rfl rfl zG (v:=jV x134.2.Number) rfl) rfl (ZC rfl rfl rfl rfl (ba.ldBA (j:=1) rfl rfl rfl yq Zn (vs:=B6) rfl rfl) rfl (OKS.mapPut (x:=.tmp 33) (y:=.tmp 35) (z:=.tmp 36) (j:=6) (mk:=wIw) (mv:=wKD) (a:=x134.2.Number) (v:=x134.2) rfl rfl rfl (by first | exact .inl rfl | exact .inr rfl) ba rfl rfl rfl rfl (wDa Tryz.runUnderlying114) wTo cB rfl ?_)))))))
 intro bN bM cp dB cU
 have bQ:St bi bs [.obj bh cd,.blk bj 123 B6,.blk ao 74 B5,B1,.blk ae 117 B4,.obj am (.map #[] 0),.obj ai (.map bN bM),.blk ak 37 B3,.blk b2 37 B0] cp:=cU
 refine eN (sR fL3 Z (oR Z (zF Z Z ZE Z zC) (oL Z (bQ.ldB (j:=1) Z Z Z zG (v:=jV x134.2.About) Z) (oR Z (yG Z Z Z) (eN ?_)))))
 by_cases av:0 < x134.2.About
 have bU:=bE;rw [if_pos av] at bU;replace av:=zH av
 refine cT Z av ?_
 cases bU
 have bV:=bE;rw [if_neg av] at bV;replace av:=zH av
 refine cF Z av (Ze (zf ?_))
 have q:=nE bV
 obtain rfl:=q
 exact ⟨_,_,(bQ.pick [0,2,3,4,5,6,7,8] _ (by decide) rfl),rfl,⟨bN,bM,rfl,dB⟩⟩
 rintro cg bw dL cq dE cV
 rcases wKE with eh | cx
 try dsimp only at bT
 rintro ⟨bm,bk,rfl,cC⟩
 have bR:sW w U bw [.blk ao 74 B5,B1,.blk ae 117 B4,.obj am (.map #[] 0),.obj ai (.map bm bk),.blk ak 37 B3,.blk b2 37 B0,.obj cg (.deferred (some []))] cq:=cV
 refine zf (zI (sR fL3 Z (oL Z (bR.ldB (j:=0) Z Z bO Tryz.isAgg74 (v:=.pointer (some ⟨ae,0,none⟩)) Z) (oA Z Z (oA Z Z (eN (zP ?_)))))))
 have cD:=bP.le dE
 refine wLf (by first | exact .inl rfl | exact .inr rfl) (rbs:=[cg]) (L:=[.blk ao 74 B5,B1,.blk ae 117 B4,.obj am (.map #[] 0),.obj ai (.map bm bk),.blk ak 37 B3,.blk b2 37 B0]) bR fun cr cW=>?_
 have cX:sW w U bw [.blk ao 74 B5,B1,.blk ae 117 B4,.obj am (.map #[] 0),.obj ai (.map bm bk),.blk ak 37 B3,.blk b2 37 B0] cr:=cW
 cases bT
 exact ⟨_,(wGV rfl rfl),bw,_,(cX.pick [2,1,4,3] _ (by decide) rfl),ae,aW,aY,au,az,ai,bm,bk,am,#[],0,rfl,rfl,cD,cC,dD⟩
 exact cx.elim
 intro bB dz
 refine cT Z bB (sR fL3 rfl (zX rfl rfl rfl rfl rfl rfl (Zw rfl rfl rfl rfl rfl rfl (Zw rfl rfl rfl rfl rfl rfl (eN (zP (zR (wLf (by first | exact .inl rfl | exact .inr rfl) (rbs:=[]) (L:=[.blk ak 37 B3,B1,B2,.blk b2 37 B0]) bC fun ct cY=>?_))))))))
 have cZ:sW w U U9 [.blk ak 37 B3,B1,B2,.blk b2 37 B0] ct:=cY
 cases dz
 exact ⟨_,(wGV rfl rfl),U9,_,(cZ.pick [] _ (by decide) rfl),rfl,rfl⟩
set_option maxHeartbeats 4000000
theorem wHs (p0:wBJ) (av:Nat) (bF:Option Addr) (bH:Nat) (bG:Option Addr) (bI:Nat) (bJ:Nat) (dg:Array MapEntry) (dm:Nat) (bK:Nat) (dh:Array MapEntry) (dp:Nat) (p1:List Int) (bg:Option Addr) (bh:Nat) (w:World) (U:PHeap) (hS:St0 w U []) (dx:Cl U av 0 [jV p0.Record.Deadline,.slice bF p0.Record.Skiers.length bH,.slice bG p0.Record.Decisions.length bI,.map (some bJ),.map (some bK)]) (dy:Sl U 2 bF bH p0.Record.Skiers.length (nA wAO p0.Record.Skiers)) (dz:Sl U 6 bG bI p0.Record.Decisions.length (nA wAL p0.Record.Decisions)) (dA:MpF U bJ dg dm wIw wKD p0.at_) (dB:MpF U bK dh dp wMA wMB p0.about) (dC:Sl U 1 bg bh p1.length (nA KL.encI p1)) {r:(List (Int × Bool))} (hm:wDi p0 p1=some r):Gv Tryz.prog 19 [.pointer (some ⟨av,0,none⟩),.slice bg p1.length bh] w (wBc w [] U (fun U_ L_ v=>∃ (bt:Nat) (bl:Nat) (bd:Nat) (bv:Nat) (bf:Nat) (bo:Nat) (m:Nat) (es:Array MapEntry) (ck:Nat),v=.agg #[.func (.func 39) #[] #[.pointer (some ⟨bt,0,none⟩),.pointer (some ⟨bl,0,none⟩),.pointer (some ⟨bd,0,none⟩),.pointer (some ⟨bv,0,none⟩)],.func (.func 41) #[] #[.pointer (some ⟨bf,0,none⟩)],.func (.func 42) #[] #[.pointer (some ⟨bv,0,none⟩),.pointer (some ⟨bo,0,none⟩)],.func (.func 45) #[] #[.pointer (some ⟨bv,0,none⟩)],.func (.func 43) #[] #[.pointer (some ⟨bf,0,none⟩)]]/\L_=[.obj m (.map es ck)]/\Cl U_ bt 0 [.map (some m)]/\Cl U_ bl 0 [.func (.func 37) #[.pointer (some ⟨av,0,none⟩)] #[]]/\Cl U_ bd 0 [.pointer (some ⟨av,0,none⟩)]/\Cl U_ bv 0 [.func (.func 39) #[] #[.pointer (some ⟨bt,0,none⟩),.pointer (some ⟨bl,0,none⟩),.pointer (some ⟨bd,0,none⟩),.pointer (some ⟨bv,0,none⟩)],.func (.func 41) #[] #[.pointer (some ⟨bf,0,none⟩)],.func (.func 42) #[] #[.pointer (some ⟨bv,0,none⟩),.pointer (some ⟨bo,0,none⟩)],.func (.func 45) #[] #[.pointer (some ⟨bv,0,none⟩)],.func (.func 43) #[] #[.pointer (some ⟨bf,0,none⟩)]]/\Cl U_ bf 0 [.func (.func 38) #[] #[.pointer (some ⟨bd,0,none⟩),.pointer (some ⟨bv,0,none⟩)]]/\Cl U_ bo 0 [.slice bg p1.length bh]/\MpR es wKC wLB r)):=by
 unfold wDi at hm
 refine Gv.of Tryz.func19 Z Tryz.ntmps19 Tryz.results19 Z (sR gCj Z ?_)
 let B0:List Value:=[.pointer (some ⟨av,0,none⟩)]
 refine zq (cs:=B0) rfl rfl rfl rfl rfl rfl (by rfl) hS ?_
 intro W1 b2 cy
 have q:=cy.freeze (k:=0) rfl
 obtain ⟨U5,dD,ba,cW⟩:=q
 replace ba:=Cl.of ba
 have da:sW w U U5 [] W1:=cW
 replace ba:Cl U5 b2 0 B0:=ba
 refine zq (cs:=[.slice bg p1.length bh]) rfl rfl rfl rfl rfl rfl (by rfl) da ?_
 intro bM au cq
 have q:=cq.freeze (k:=0) rfl
 obtain ⟨aV,df,aW,cr⟩:=q
 replace aW:=Cl.of aW
 have ct:sW w U aV [] bM:=cr
 replace aW:Cl aV au 0 [.slice bg p1.length bh]:=aW
 let B1:List Value:=[.nilFunc,.nilFunc,.nilFunc,.nilFunc,.nilFunc]
 refine zg (cs:=B1) Z Z Z Z Z Tryz.zeroValue82 Z ct ?_
 intro dq ah cu
 refine eN (sR (.fx 0 .nil .stop) Z (zg (cs:=B1) Z Z Z Z Z Tryz.zeroValue82 Z cu ?_))
 intro dr aa cw
 refine eN (sR gCj Z (OKS.makeMap Z Z Z Z Z cw ?_))
 intro dt ae cx
 have de:=MpR.nil wKC wLB
 refine zg (cs:=[.map none]) Z Z Z Z Z Tryz.zeroValue128 Z cx ?_
 intro du an cz
 refine zh (j:=0) (vs:=[.map (some ae)]) Z Z Z Z cz Z Z Z Z Tryz.sizeOf128 (zA Z) Z Z Z ?_
 intro bN cA
 let B2:Res:=.blk an 128 [.map (some ae)]
 have bB:sW w U aV [B2,.obj ae (.map #[] 0),.blk aa 82 B1,.blk ah 82 B1] bN:=cA
 refine eN (sR gCl Z ?_)
 have bA:=ba.le df
 refine oL Z (bB.ldC (f:=0) bA (v:=.pointer (some ⟨av,0,none⟩)) Z Z Tryz.isAgg74 Z) (oR Z (yJ Z (zB Z zM) zM) (zg (cs:=[.nilFunc]) Z Z Z Z Z Tryz.zeroValue78 Z bB ?_))
 intro dv ai cB
 let B3:List Value:=[.func (.func 37) B0.toArray #[]]
 refine zh (j:=0) (vs:=B3) Z Z Z Z cB Z Z Z Z Tryz.sizeOf78 (zA Z) Z Z Z ?_
 intro bO cC
 have cD:sW w U aV [.blk ai 78 B3,B2,.obj ae (.map #[] 0),.blk aa 82 B1,.blk ah 82 B1] bO:=cC
 refine eN (sR (.fl 0 gBu) Z (oR Z (yJ Z zM (zB Z (zB Z zM))) (zg (cs:=[.nilFunc]) Z Z Z Z Z Tryz.zeroValue130 Z cD ?_)))
 intro dw ag cE
 let B4:List Value:=[.func (.func 38) #[] #[.pointer (some ⟨b2,0,none⟩),.pointer (some ⟨aa,0,none⟩)]]
 refine zh (j:=0) (vs:=B4) Z Z Z Z cE Z Z Z Z Tryz.sizeOf130 (zA Z) Z Z Z ?_
 intro bp cG
 have cH:sW w U aV [.blk ag 130 B4,.blk ai 78 B3,B2,.obj ae (.map #[] 0),.blk aa 82 B1,.blk ah 82 B1] bp:=cG
 refine eN (sR gCh Z ?_)
 have q:=cH.freeze (k:=2) rfl
 obtain ⟨bu,bE,aX,cI⟩:=q
 replace aX:=Cl.of aX
 have cJ:sW w U bu [.blk ag 130 B4,.blk ai 78 B3,.obj ae (.map #[] 0),.blk aa 82 B1,.blk ah 82 B1] bp:=cI
 replace aX:Cl bu an 0 [.map (some ae)]:=aX
 have q:=cJ.freeze (k:=1) rfl
 obtain ⟨bm,bq,aY,cK⟩:=q
 replace aY:=Cl.of aY
 have cL:sW w U bm [.blk ag 130 B4,.obj ae (.map #[] 0),.blk aa 82 B1,.blk ah 82 B1] bp:=cK
 replace aY:Cl bm ai 0 B3:=aY
 refine oR Z (yJ Z zM (zB Z (zB Z (zB Z (zB Z zM))))) (oR Z (zF Z Z Tryz.runUnderlying82 Z Tryz.sizeOf78) (zh (j:=2) (vs:=[.func (.func 39) #[] #[.pointer (some ⟨an,0,none⟩),.pointer (some ⟨ai,0,none⟩),.pointer (some ⟨b2,0,none⟩),.pointer (some ⟨aa,0,none⟩)]]) Z Z Z Z cL Z Z Z Z Tryz.sizeOf78 (zA Z) Z Z Z ?_))
 intro bw cM
 let B5:Res:=.blk aa 82 [.func (.func 39) #[] #[.pointer (some ⟨an,0,none⟩),.pointer (some ⟨ai,0,none⟩),.pointer (some ⟨b2,0,none⟩),.pointer (some ⟨aa,0,none⟩)],.nilFunc,.nilFunc,.nilFunc,.nilFunc]
 have cN:sW w U bm [.blk ag 130 B4,.obj ae (.map #[] 0),B5,.blk ah 82 B1] bw:=cM
 refine eN (sR gCh Z ?_)
 have q:=cN.freeze (k:=0) rfl
 obtain ⟨ao,bi,aZ,cO⟩:=q
 replace aZ:=Cl.of aZ
 have cP:sW w U ao [.obj ae (.map #[] 0),B5,.blk ah 82 B1] bw:=cO
 replace aZ:Cl ao ag 0 B4:=aZ
 refine oR Z (yJ Z zM (zB Z zM)) (oR Z (zF Z Z Tryz.runUnderlying82 Z Tryz.sizeOf79) (zh (j:=1) (vs:=[.func (.func 41) #[] #[.pointer (some ⟨ag,0,none⟩)]]) Z Z Z Z cP Z Z Z Z Tryz.sizeOf79 (zA Z) Z Z Z ?_))
 intro bP cQ
 have cR:sW w U ao [.obj ae (.map #[] 0),.blk aa 82 [.func (.func 39) #[] #[.pointer (some ⟨an,0,none⟩),.pointer (some ⟨ai,0,none⟩),.pointer (some ⟨b2,0,none⟩),.pointer (some ⟨aa,0,none⟩)],.func (.func 41) #[] #[.pointer (some ⟨ag,0,none⟩)],.nilFunc,.nilFunc,.nilFunc],.blk ah 82 B1] bP:=cQ
 refine eN (sR gCh Z (oR Z (yJ Z zM (zB Z (zB Z zM))) (oR Z (zF Z Z Tryz.runUnderlying82 Z Tryz.sizeOf78) (zh (j:=1) (vs:=[.func (.func 42) #[] #[.pointer (some ⟨aa,0,none⟩),.pointer (some ⟨au,0,none⟩)]]) Z Z Z Z cR Z Z Z Z Tryz.sizeOf78 (zA Z) Z Z Z ?_))))
 intro bQ cS
 have cU:sW w U ao [.obj ae (.map #[] 0),.blk aa 82 [.func (.func 39) #[] #[.pointer (some ⟨an,0,none⟩),.pointer (some ⟨ai,0,none⟩),.pointer (some ⟨b2,0,none⟩),.pointer (some ⟨aa,0,none⟩)],.func (.func 41) #[] #[.pointer (some ⟨ag,0,none⟩)],.func (.func 42) #[] #[.pointer (some ⟨aa,0,none⟩),.pointer (some ⟨au,0,none⟩)],.nilFunc,.nilFunc],.blk ah 82 B1] bQ:=cS
 refine eN (sR gCh Z (oR Z (yJ Z zM (zB Z zM)) (oR Z (zF Z Z Tryz.runUnderlying82 Z Tryz.sizeOf79) (zh (j:=1) (vs:=[.func (.func 43) #[] #[.pointer (some ⟨ag,0,none⟩)]]) Z Z Z Z cU Z Z Z Z Tryz.sizeOf79 (zA Z) Z Z Z ?_))))
 intro bR cV
 have cX:sW w U ao [.obj ae (.map #[] 0),.blk aa 82 [.func (.func 39) #[] #[.pointer (some ⟨an,0,none⟩),.pointer (some ⟨ai,0,none⟩),.pointer (some ⟨b2,0,none⟩),.pointer (some ⟨aa,0,none⟩)],.func (.func 41) #[] #[.pointer (some ⟨ag,0,none⟩)],.func (.func 42) #[] #[.pointer (some ⟨aa,0,none⟩),.pointer (some ⟨au,0,none⟩)],.nilFunc,.func (.func 43) #[] #[.pointer (some ⟨ag,0,none⟩)]],.blk ah 82 B1] bR:=cV
 refine eN (sR gCh Z (oR Z (yJ Z zM (zB Z zM)) (oR Z (zF Z Z Tryz.runUnderlying82 Z Tryz.sizeOf80) (zh (j:=1) (vs:=[.func (.func 45) #[] #[.pointer (some ⟨aa,0,none⟩)]]) Z Z Z Z cX Z Z Z Z Tryz.sizeOf80 (zA Z) Z Z Z ?_))))
 intro bS cY
 let B6:List Value:=[.func (.func 39) #[] #[.pointer (some ⟨an,0,none⟩),.pointer (some ⟨ai,0,none⟩),.pointer (some ⟨b2,0,none⟩),.pointer (some ⟨aa,0,none⟩)],.func (.func 41) #[] #[.pointer (some ⟨ag,0,none⟩)],.func (.func 42) #[] #[.pointer (some ⟨aa,0,none⟩),.pointer (some ⟨au,0,none⟩)],.func (.func 45) #[] #[.pointer (some ⟨aa,0,none⟩)],.func (.func 43) #[] #[.pointer (some ⟨ag,0,none⟩)]]
 have bC:sW w U ao [.obj ae (.map #[] 0),.blk aa 82 B6,.blk ah 82 B1] bS:=cY
 refine eN (sR gBs Z (oL Z (bC.ldBA (j:=1) Z Z Z Tryz.isAgg82 Tryz.sizeOf82 (vs:=B6) Z Z) (zh (j:=2) (vs:=B6) Z Z Z Z bC Z Z Z Z Tryz.sizeOf82 (zA Z) Z Z Z ?_)))
 intro bz cZ
 have c8:sW w U ao [.obj ae (.map #[] 0),.blk aa 82 B6,.blk ah 82 B6] bz:=cZ
 refine eN (zP ?_)
 have q:=c8.freeze (k:=1) rfl
 obtain ⟨bn,be,bb,db⟩:=q
 replace bb:=Cl.of bb
 have bD:sW w U bn [.obj ae (.map #[] 0),.blk ah 82 B6] bz:=db
 replace bb:Cl bn aa 0 B6:=bb
 have bZ:=aX.le bq
 have cd:=bZ.le bi
 have cg:=cd.le be
 have ci:=aY.le bi
 have cj:=ci.le be
 have cm:=bA.le bE
 have cn:=cm.le bq
 have cp:=cn.le bi
 have bT:=cp.le be
 have bU:=aZ.le be
 have bV:=aW.le bE
 have bW:=bV.le bq
 have bX:=bW.le bi
 have bY:=bX.le be
 cases hm
 exact ⟨rfl,_,(wLc (v:=.agg B6.toArray) ⟨⟨_,rfl,(wBo Tryz.isAgg82 Tryz.sizeOf82 (bD.blkAt (k:=1) rfl) (vs:=B6) rfl rfl)⟩,trivial⟩),bn,_,(bD.pick [0] _ (by decide) rfl),an,ai,b2,aa,ag,au,ae,#[],0,rfl,rfl,cg,cj,bT,bb,bU,bY,de⟩
end Go.Proofs.YtadbejldcmkokaaGreat
