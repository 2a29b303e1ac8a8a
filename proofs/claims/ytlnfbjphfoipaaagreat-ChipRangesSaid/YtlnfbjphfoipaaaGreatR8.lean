import Derived.Test.YtlnfbjphfoipaaaGreatR7
import Derived.Test.YtlnfbjphfoipaaaGreatR6
set_option linter.all false
open List renaming flatMap->hH,set->nB,getElem_cons_succ->nE,getElem_cons_zero->nG,getElem_toArray->nH,length_set->nK,length_append->nP
open Go.Value renaming bool->nA,slice->nL
open Bool renaming eq_false_iff->nD
open Int renaming toNat_natCast->nI,eq_ofNat_of_zero_le->nN
open Option.some renaming inj->nJ
open Eq renaming trans->nM
open Nat renaming lt_of_lt_of_eq->nO
namespace Go.Proofs.YtlnfbjphfoipaaaGreat
open Go.KL
def gCf:Sch:=.fx 1 (.fl 2 .nil) .stop
def gCg:Sch:=.fx 2 (.fl 3 .nil) .stop
def gCh:Sch:=.fx 0 (.fx 1 .nil .stop) .stop
def gCi:Sch:=.fl 14 (.fx 16 .nil .stop)
def gCj:Sch:=.fl 17 (.fx 18 .nil .stop)
def gCk:Sch:=.fx 0 (.fl 1 .nil) .stop
def gCl:Sch:=.fx 5 (.fx 6 .nil .stop) .stop
def gCm:Sch:=.fx 0 (.fl 1 (.fl 2 .nil)) .stop
def gCn:Sch:=.fx 7 (.fl 8 (.fl 9 .nil)) .stop
def gCo:Sch:=.fl 14 (.fx 15 (.fx 16 .nil .stop) .stop)
def gCp:Sch:=.fx 13 gCi .stop
def gCq:Sch:=.fx 3 (.fl 4 (.fl 5 .nil)) .stop
def gCr:Sch:=.fx 13 (.fl 14 (.fl 15 .nil)) .stop
def gCs:Sch:=.fl 0 (.fx 1 (.fl 2 (.fl 3 .nil)) .stop)
def gCt:Sch:=.fl 0 (.fl 1 (.fx 2 (.fx 3 .nil .stop) .stop))
def gCu:Sch:=.fl 0 (.fl 1 gCg)
def gCv:Sch:=.fx 7 gCp .stop
def gCw:Sch:=.fx 12 gCr .stop
def gCx:Sch:=.fx 13 gCo (.fx 15 gCp .stop)
def gCy:Sch:=.fx 6 (.fl 12 gCp) .stop
def gCz:Sch:=.fx 4 (.fx 16 gCj .stop) (.fx 16 (.fx 4 gCj .stop) .stop)
def gDa:Sch:=.fx 0 gCy .stop
def gDb:Sch:=.fx 6 (.fl 12 gCx) (.fx 15 gCy .stop)
def gDc:Sch:=.fx 6 (.fl 12 gCv) (.fx 7 gCy .stop)
def gDd:Sch:=.fl 0 (.fl 2 (.fx 1 (.fx 3 (.fx 4 (.fx 5 (.fl 6 .nil) .stop) .stop) .stop) .stop))
set_option maxHeartbeats 4000000
theorem wKL (p0:wAA) (ah:Option Addr) (am:Nat) (ai:Option Addr) (ap:Nat) (aj:Option Addr) (aq:Nat) (ak:Option Addr) (au:Nat) (w:World) (U:PHeap) (hS:St0 w U []) (bm:Sl U 1 ah am p0.Starts.length (hH KL.encI p0.Starts)) (bn:Sl U 2 ai ap p0.Splits.length (hH wAB p0.Splits)) (bo:Sl U 3 aj aq p0.Clocks.length (hH wAD p0.Clocks)) (bp:Sl U 4 ak au p0.Readings.length (hH wAC p0.Readings)) {r:(Option wAk) × Int} (hm:wDQ p0=some r):Gv Tryz.prog 80 [.agg #[.slice ah p0.Starts.length am,.slice ai p0.Splits.length ap,.slice aj p0.Clocks.length aq,.slice ak p0.Readings.length au]] w (wCq w [] U (fun U_ L_ v=>match r.1 with | none=>v=.tuple #[.pointer none,jV r.2]/\L_=[] | some d=>∃ (b0:Nat) (A0p00:Option Addr) (c0p00:Nat) (A0p01:Option Addr) (c0p01:Nat) (A0p02:Option Addr) (c0p02:Nat) (A0p03:Option Addr) (c0p03:Nat) (m0p1:Nat) (es0p1:Array MapEntry) (ck0p1:Nat) (A0p2:Option Addr) (c0p2:Nat),v=.tuple #[.pointer (some ⟨b0,0,none⟩),jV r.2]/\L_=[.blk b0 139 [.slice A0p00 d.Race.Starts.length c0p00,.slice A0p01 d.Race.Splits.length c0p01,.slice A0p02 d.Race.Clocks.length c0p02,.slice A0p03 d.Race.Readings.length c0p03,.map (some m0p1),.slice A0p2 d.edges.length c0p2],.obj m0p1 (.map es0p1 ck0p1),.row A0p2 c0p2 184 7 (hH wAY d.edges)]/\Sl U_ 1 A0p00 c0p00 d.Race.Starts.length (hH KL.encI d.Race.Starts)/\Sl U_ 2 A0p01 c0p01 d.Race.Splits.length (hH wAB d.Race.Splits)/\Sl U_ 3 A0p02 c0p02 d.Race.Clocks.length (hH wAD d.Race.Clocks)/\Sl U_ 4 A0p03 c0p03 d.Race.Readings.length (hH wAC d.Race.Readings)/\MpR es0p1 wBP wBV d.number)):=by
 unfold wDQ at hm
 refine Gv.of Tryz.func80 Z Tryz.ntmps80 Tryz.results80 Z (sR gCm Z ?_)
 let B0:List Value:=[.slice ah p0.Starts.length am,.slice ai p0.Splits.length ap,.slice aj p0.Clocks.length aq,.slice ak p0.Readings.length au]
 refine zy (cs:=B0) rfl rfl rfl rfl rfl rfl (by rfl) hS ?_
 intro W1 b2 bk
 refine oA Z Z (oA Z Z (eN (zJ (sR (.fl 0 gCf) Z (oL Z (bk.ldBA (j:=0) Z Z Z ZA zl (vs:=B0) Z Z) (bnK hm fun x5 h6 bM=>zG 0 Z Z Z Z (zH Z Z Tryz.call33 (zB Z zM) Z) bk (fun hs=>wHK p0 ah am ai ap aj aq ak au W1 U hs bm bn bo bp h6) (.inr Z) ?_))))))
 rintro U8 L9 bQ a0 av bG ⟨rfl,rfl⟩
 have aT:sW w U U8 [.blk b2 27 B0] a0:=bG
 refine oA Z Z (eN (sR fL2 Z (oM Z Z (oR Z (Zo Z Z Z) (eN (ifc bM ?_ ?_))))))
 intro aR bJ
 refine zr (Za (fun h=>h aR.out)) (kN (sR gCs Z (oL Z (aT.ldBA (j:=0) Z Z Z ZA zl (vs:=B0) Z Z) ?_)))
 have bs:=bm.le av
 have bu:=bn.le av
 have bv:=bo.le av
 have bw:=bp.le av
 refine bnK bJ fun ab bz bK=>zG 0 Z Z Z Z (zH Z Z Tryz.call124 (zB Z zM) Z) aT (fun hs=>wJf p0 ah am ai ap aj aq ak au a0 U8 hs bs bu bv bw bz) (.inr Z) ?_
 rintro aZ bN bR br bP bH ⟨bd,aV,be,aW,bf,aX,bg,aY,bh,aU,bj,bi,az,aS,rfl,rfl,bA,bB,bC,bD,bE⟩
 have bI:sW w U aZ [.blk bd 139 [.slice aV ab.Race.Starts.length be,.slice aW ab.Race.Splits.length bf,.slice aX ab.Race.Clocks.length bg,.slice aY ab.Race.Readings.length bh,.map (some aU),.slice az ab.edges.length aS],.obj aU (.map bj bi),.row az aS 184 7 (hH wAY ab.edges),.blk b2 27 B0] br:=bH
 refine oA Z Z (oA Z Z (eN (zP ?_)))
 cases bK
 exact ⟨rfl,_,(wHO rfl rfl),aZ,_,(bI.pick [0,1,2] _ (by decide) rfl),bd,aV,be,aW,bf,aX,bg,aY,bh,aU,bj,bi,az,aS,rfl,rfl,bA,bB,bC,bD,bE⟩
 intro aR bL
 refine cT Z aR (sR fL3 Z (oM Z Z (oA Z Z (oA Z Z (eN (zP (zN ?_)))))))
 cases bL
 exact ⟨rfl,_,(wHO rfl rfl),U8,_,(aT.pick [] _ (by decide) rfl),rfl,rfl⟩
theorem wDc (p0:List wAM) (au:Option Addr) (av:Nat) (p1:(wAM->Option Bool)) (az:Value) (w:World) (U:PHeap) (hS:St0 w U []) (bv:Sl U 2 au av p0.length (hH wBx p0)) (bw:FnOK Tryz.prog U az wSC wSD p1) {r:Bool} (hm:wBE p0 p1=some r):Gv Tryz.prog 119 [.slice au p0.length av,az] w (wCq w [] U (fun U_ L_ v=>v=.bool r/\L_=[])):=by
 unfold wBE at hm
 refine Gv.of Tryz.func119 Z Tryz.ntmps119 Tryz.results119 Z (sR fL1 Z (oA Z Z (eN (zJ (sR fL3 Z (oM Z Z (oR Z (zi Z Z Tryz.runUnderlying56) (oM Z Z (eN (zd ?_))))))))))
 have q:=wCQ hm
 obtain ⟨r3,ak⟩:=q
 have q:=wCP ak
 obtain ⟨ap,bB⟩:=q
 replace ap:=zL ap
 refine yP (fun k2 _ σ_ w_=>∃ (U_:PHeap),σ_ 9=jV (↑k2:Int)/\σ_ 1=az/\σ_ 7=.slice au p0.length av/\σ_ 8=jV (↑p0.length:Int)/\PHeap.Le U U_/\sW w U U_ [] w_) bB ?_ ?_ ?_
 exact ⟨U,Z,Z,Z,Z,(zQ _),hS⟩
 rintro k2 ⟨⟩ bV bX W8 am ⟨bb,aj,aS,aT,aU,aq,aW⟩ a0 bz
 try dsimp only at a0
 have aR:Hid ((↑k2:Int) < (↑p0.length:Int)):=zL (wBm am)
 replace am:=zL am
 have bC:Hid (w64 ((↑k2:Int) + 1)=(↑(k2 + 1):Int)):=zL (by have h1:=ap.out;have h2:=aR.out;rw [wAZ] <;> omega)
 refine sR fL1 Z (oR Z (zf Z aj aU) (eN (zJ (cT Z aR (kN (zJ (zd (sR gCt Z (bnK a0 fun x22 aV bD=>?_)))))))))
 have bk:=bv.le aq
 have q:=bk.el (fun _=>rfl) (wAR aV)
 obtain ⟨bO,bS,bo,bp⟩:=q
 refine oR Z (ZP Z aT bo aj Tryz.runUnderlying56 ZN (wBi aV)) (oL Z (aW.ldCA (f:=0) bp Z Z Zh ZN (us:=[jV x22.Skier,jV x22.Mat]) Z Z) (zV (cs:=[jV 0,jV 0]) Z Z Z Z Z Tryz.zeroValue29 Z aW ?_))
 intro bL aQ bq
 let B0:List Value:=[jV x22.Skier,jV x22.Mat]
 refine zY (j:=0) (vs:=B0) Z Z Z Z bq Z Z Z Z ZN (zA Z) Z Z Z ?_
 intro be br
 have aX:sW w U bb [.blk aQ 29 B0] be:=br
 refine eN (sR gCu Z (oM Z aS (oL Z (aX.ldBA (j:=0) Z Z Z Zh ZN (vs:=B0) Z Z) (bnK bD fun x37 bm bE=>?_))))
 have bn:=bw.le aq
 refine OKS.callV (a:=x22) Z Z Z Z Z Z (zB Z zM) aX bn Z bm ?_
 rintro ah bK bU bf bI bs ⟨rfl,rfl⟩
 have aY:sW w U ah [.blk aQ 29 B0] bf:=bs
 refine oR Z (Zm Z Z) (eN (ifc bE ?_ ?_))
 intro ai bF
 refine zr (nC ai.out) (Zr (ZE (zK (rR fL2 Z (oR Z (Zd (zj Z aj Z) (congrArg (jV) bC.out)) (oM Z Z (zw ?_)))))))
 obtain rfl:=nJ bF
 exact zK ⟨rfl,_,rfl,⟨ah,rfl,aS,aT,aU,(aq.trans bI),(aY.pick [] _ (by decide) rfl)⟩⟩
 intro ai bG
 refine ZG (nF (ai.out)) (sR fL1 Z (oA Z Z (eN (zP (zg (zN ?_))))))
 have q:=wAa bG
 obtain ⟨bJ,bH,bh⟩:=q
 obtain rfl:=wCK hm ak (bz bJ bh)
 refine zN (zg (zN ?_))
 have hE:=nJ bH;first | subst r | cases hE
 exact ⟨rfl,_,(ZL rfl),ah,_,(aY.pick [] _ (by decide) rfl),rfl,rfl⟩
 rintro ⟨⟩ bW bM ⟨bd,bj,bP,bQ,bi,bR,bu⟩ bA
 have aZ:=wDE hm ak bA
 try dsimp only at aZ
 have bg:Hid (¬ ((↑(((↑p0.length:Int):Int) - 0).toNat:Int) < (↑p0.length:Int))):=zL (wBB)
 refine sR fL1 Z (oR Z (zf Z bj bi) (eN (zJ (cF Z bg (Zf (zo (zo (ZX (zK (sR fL1 Z (oA Z Z (eN (zP ?_)))))))))))))
 have hE:=nJ aZ;first | subst r | cases hE
 exact ⟨Z,_,(ZL Z),bd,_,bu,Z,Z⟩
theorem wIP (p0 p1:Int) (w:World) (U:PHeap) (hS:St0 w U []) {r:Int × Int} (hm:wDb p0 p1=some r):Gv Tryz.prog 132 [.int .u64 p0,.int .u64 p1] w (wCq w [] U (fun U_ L_ v=>v=.tuple #[.int .u64 r.1,.int .u64 r.2]/\L_=[])):=by
 unfold wDb at hm
 split at hm
 rename_i h
 cases hm
 obtain ⟨x,rfl⟩:=nN h.1
 obtain ⟨y,rfl⟩:=nN h.2.2.1
 refine (Go.Proofs.Tryz.bits_Mul x y (by omega) (by omega) w).mono ?_
 rintro e w' ⟨rfl,rfl⟩
 refine ⟨_,Z,U,[],hS,?_,Z⟩
 simp
 cases hm
theorem wAh (p0:List Int) (aV:Option Addr) (aW:Nat) (p1:Int) (w:World) (U:PHeap) (hS:St0 w U []) (bW:Sl U 1 aV aW p0.length (hH KL.encI p0)) {r:(List Int)} (hm:wBF p0 p1=some r):Gv Tryz.prog 122 [.slice aV p0.length aW,jV p1] w (wCq w [] U (fun U_ L_ v=>∃ (A0:Option Addr) (c0:Nat),v=.slice A0 r.length c0/\L_=[.row A0 c0 3 1 (hH KL.encI r)])):=by
 unfold wBF at hm
 refine Gv.of Tryz.func122 Z Tryz.ntmps122 Tryz.results122 Z (sR fL1 Z (oA Z Z (eN (zJ (sR fL2 Z (oM Z Z (oR Z (zf Z Z Z) (eN ?_))))))))
 by_cases c1:p1 < 0
 have bj:=hm;rw [if_pos c1] at bj;replace c1:=zL c1
 refine cT Z c1 (rR gCh Z ?_)
 cases bj
 have bn:=hm;rw [if_neg c1] at bn;replace c1:=zL c1
 refine cF Z c1 (kN (sR (wGG (.fx 5 (wQw (.nil)) .stop)) Z (oM Z Z (oR Z (zi Z Z zD) (oR Z (Runs.cv64 Z Z Tryz.runUnderlying3 Tryz.runUnderlying207 Z Z) (oM Z Z (oR Z (Runs.cv64 Z Z Tryz.runUnderlying3 Tryz.runUnderlying207 Z Z) ?_)))))))
 have q:=bnd bn
 obtain ⟨⟨x4,x5⟩,h6,bo⟩:=q
 try dsimp only at bo
 refine zG 0 Z Z Z Z (zH Z Z Tryz.call132 (zB Z (zB Z zM)) Z) hS (fun hs=>wIP (wPY (↑p0.length:Int)) (wPY p1) w U hs h6) (.inr Z) ?_
 rintro U8 L9 cG bz cu bQ ⟨rfl,rfl⟩
 have bd:sW w U U8 [] bz:=bQ
 refine oM Z Z (oR Z (ze Z Z (v:=.int .u64 x4) Z) (oR Z (ze Z Z (v:=.int .u64 x5) Z) (oA Z Z (oA Z Z (eN (zJ (bnK bo fun bD bs cf=>yQ (fun σ_ w_=>∃ (U_:PHeap),σ_ 0=.slice aV p0.length aW/\σ_ 6=.int .u64 x5/\σ_ 26=.bool bD/\PHeap.Le U8 U_/\sW w U U_ [] w_) ?_ ?_)))))))
 refine rR fL6 Z (oM Z Z (oR Z (yd Z Z Z) (oM Z Z ?_)))
 by_cases ae:0 < x4
 have bk:=bs;rw [if_pos ae] at bk;replace ae:=zL ae
 refine oT Z ae (oT Z ae (oR Z (zm Z (Zp ae.out) Z) (zw ?_)))
 cases bk
 exact zK ⟨Z,⟨U8,Z,Z,Z,(zQ _),bd⟩⟩
 have bm:=bs;rw [if_neg ae] at bm;replace ae:=zL ae
 refine ZJ Z Z Z (wF Z ae) Z Z (rU Z (wF Z ae) (yd Z Z Z) (oR Z (zz Z (Za ae.out) Z) (zw ?_)))
 obtain rfl:=nJ bm
 exact zK ⟨Z,⟨U8,Z,Z,Z,(zQ _),bd⟩⟩
 rintro cI cA ⟨aq,bF,bG,ba,cw,bR⟩
 refine ifc cf ?_ ?_
 intro aR cg
 refine ZG (ba.trans (congrArg nA aR.out)) (rR gCh Z ?_)
 cases cg
 intro aR cj
 refine zr (ba.trans (congrArg nA (nD.2 aR.out))) (kN (sR gCu Z (oM Z bG (oR Z (Runs.cvw Z Z Tryz.runUnderlying207 Tryz.runUnderlying3 Z Z) (bnK cj fun aa bH cm=>OKS.makeSlice (enc:=KL.encI) (z:=(0:Int)) (v:=jV 0) Z Z Z Z Z (wBn zD) wOq Z Z Z Z Z Z bH bR ?_)))))
 intro bA ab bS
 have be:sW w U aq [.row (some ⟨ab,0,none⟩) aa.length 3 1 (hH KL.encI aa)] bA:=bS
 refine oA Z Z (eN (sR gCu Z (oM Z Z (oM Z bF ?_))))
 have bI:=bW.le cu
 have bJ:=bI.le cw
 refine bnK cm fun aX bK cn=>OKS.copyM (j:=0) (f:=KL.encI) (m:=aa) (ys:=p0) (z:=aX) (a:=0) (n:=aa.length) rfl rfl rfl rfl rfl rfl zD zC be rfl (fun _=>rfl) (fun _=>rfl) rfl bK rfl (by simp) (.inr (by simp)) rfl (be.srcS bJ) rfl ?_
 intro bB bT bh
 have bU:sW w U aq [.row (some ⟨ab,0,none⟩) aa.length 3 1 (hH KL.encI aX)] bB:=bT
 refine oA Z Z (eN (zJ (zd (yt (fun (ah,x59) σ_ w_=>∃ (U_:PHeap),σ_ 7=.slice (some ⟨ab,0,none⟩) ah.length aa.length/\σ_ 8=jV x59/\PHeap.Le aq U_/\sW w U U_ [.row (some ⟨ab,0,none⟩) aa.length 3 1 (hH KL.encI ah)] w_/\ah.length=aa.length) cn ?_ ?_))))
 exact ⟨aq,(nM (b:=(.slice (some ⟨ab,0,none⟩) aa.length aa.length:Value)) (c:=(.slice (some ⟨ab,0,none⟩) aX.length aa.length:Value)) rfl (by rw [bh])),rfl,(zQ _),bU,bh⟩
 rintro ⟨ah,x59⟩ cH cJ aZ ⟨aQ,am,av,cx,bf,bM⟩ aU b9
 try dsimp only at aU
 refine zJ (sR fL4 Z (oM Z av (oM Z am (oR Z (zi Z Z zD) (oR Z (zf Z Z Z) (eN ?_))))))
 by_cases aj:x59 < (↑ah.length:Int)
 have bp:=aU;rw [if_pos aj] at bp;replace aj:=zL aj
 refine cT Z aj (kN (zd (zx zn [3,3,3,3,3,3,3,0,3,3] (wQP gCn) (by kernel_rfl) ?_)))
 have ap:=bf.drew
 generalize hw_W76:({ aZ with drawn:=aZ.drawn + 1 }:World)=cC at ap ⊢
 refine oM Z av (oM Z am (oM Z av (bnK bp fun bw bN cp=>?_)))
 have q:=wNQ bN
 obtain ⟨bX,bZ,aS,cD,aT⟩:=q
 have bq:=ap.rowCap (j:=0) rfl (by decide) (wAI (f:=KL.encI) (sz:=1) (fun _=>rfl) ah)
 refine zq (v:=.slice (if aa.length=(x59:Int).toNat then (some ⟨ab,0,none⟩) else Option.map (fun q:Addr=>q.add ((x59:Int).toNat * 1)) ((some ⟨ab,0,none⟩):Option Addr)) bw.length (aa.length - (x59:Int).toNat)) rfl rfl rfl rfl (fun _=>Zd (Runs.slc (sz:=1) (a:=x59) (b:=(↑(ah.length):Int)) rfl rfl (.inl ⟨_,rfl,rfl⟩) (.inr ⟨rfl,rfl⟩) zD zC bX bZ aS bq) (by rw [aT])) (ZJ rfl rfl rfl rfl rfl am (ZJ rfl rfl rfl rfl rfl av (bnK cp fun x86 bb cq=>?_)))
 have q:=wNQ bb
 obtain ⟨bY,b5,cb,cE,ct⟩:=q
 have br:=ap.rowCap (j:=0) rfl (by decide) (wAI (f:=KL.encI) (sz:=1) (fun _=>rfl) ah)
 refine zq (v:=.slice (if aa.length=(0:Int).toNat then (some ⟨ab,0,none⟩) else Option.map (fun q:Addr=>q.add ((0:Int).toNat * 1)) ((some ⟨ab,0,none⟩):Option Addr)) x86.length (aa.length - (0:Int).toNat)) rfl rfl rfl rfl (fun _=>Zd (Runs.slc (sz:=1) (a:=0) (b:=x59) rfl rfl (.inr ⟨rfl,rfl⟩) (.inl ⟨_,rfl,rfl⟩) zD zC bY b5 cb br) (by rw [ct])) (bnK cq fun x95 bO cr=>OKS.copyM (j:=0) (f:=KL.encI) (m:=ah) (ys:=x86) (z:=x95) (a:=x59) (n:=bw.length) rfl rfl rfl rfl rfl rfl zD zC ap rfl (fun _=>rfl) (fun _=>rfl) rfl bO rfl (by have:=aT;have:=aS;omega) (cutA rfl (by have:=aT;have:=aS;have:=bq;omega)) rfl (ap.srcCut (f:=KL.encI) (j:=0) rfl (fun _=>rfl) rfl bb br) rfl ?_)
 intro bC bV bg
 have bP:sW w U aQ [.row (some ⟨ab,0,none⟩) aa.length 3 1 (hH KL.encI x95)] bC:=bV
 refine oR Z (zj Z Z Z) (oA Z Z (zw (ZE ?_)))
 obtain rfl:=nJ cr
 exact zK ⟨rfl,_,rfl,⟨aQ,(nM (b:=(.slice (some ⟨ab,0,none⟩) ah.length aa.length:Value)) (c:=(.slice (some ⟨ab,0,none⟩) x95.length aa.length:Value)) am (by rw [bg])),rfl,cx,bP,(bg.trans bM)⟩⟩
 have bi:=aU;rw [if_neg aj] at bi;replace aj:=zL aj
 refine cF Z aj (Zf (zo ?_))
 have q:=wAa bi
 obtain ⟨cy,cd,bE⟩:=q
 obtain rfl:=b9 cy bE
 refine zo (ZX (zK (sR fL2 Z (oM Z am (oA Z Z (eN (zP ?_)))))))
 have hE:=nJ cd;first | subst r | cases hE
 exact ⟨Z,_,(ZL Z),aQ,_,bf,(some ⟨ab,0,none⟩),aa.length,Z,Z⟩
theorem wAi (p0:wAk) (aj:Nat) (dG:Option Addr) (dK:Nat) (dH:Option Addr) (dL:Nat) (dI:Option Addr) (dM:Nat) (dJ:Option Addr) (dN:Nat) (aa:Nat) (ae:Array MapEntry) (ah:Nat) (bp:Option Addr) (bq:Nat) (p1:Int) (p2:Bool) (w:World) (U:PHeap) (hS:St0 w U [.blk aj 139 [.slice dG p0.Race.Starts.length dK,.slice dH p0.Race.Splits.length dL,.slice dI p0.Race.Clocks.length dM,.slice dJ p0.Race.Readings.length dN,.map (some aa),.slice bp p0.edges.length bq],.obj aa (.map ae ah)]) (AP:Sl U 1 dG dK p0.Race.Starts.length (hH KL.encI p0.Race.Starts)) (AQ:Sl U 2 dH dL p0.Race.Splits.length (hH wAB p0.Race.Splits)) (AS:Sl U 3 dI dM p0.Race.Clocks.length (hH wAD p0.Race.Clocks)) (AT:Sl U 4 dJ dN p0.Race.Readings.length (hH wAC p0.Race.Readings)) (cQ:MpR ae wBP wBV p0.number) (wa:Sl U 7 bp bq p0.edges.length (hH wAY p0.edges)) {r:wDO × Int × Bool} (hm:wAg p0 p1 p2=some r):Gv Tryz.prog 74 [.pointer (some ⟨aj,0,none⟩),jV p1,.bool p2] w (wCq w [.blk aj 139 [.slice dG p0.Race.Starts.length dK,.slice dH p0.Race.Splits.length dL,.slice dI p0.Race.Clocks.length dM,.slice dJ p0.Race.Readings.length dN,.map (some aa),.slice bp p0.edges.length bq],.obj aa (.map ae ah)] U (fun U_ L_ v=>∃ (gj:Option Addr) (iL:Nat) (gk:Option Addr) (iM:Nat),v=.tuple #[.agg #[.slice gj r.1.far.length iL,.slice gk r.1.by_.length iM],jV r.2.1,.bool r.2.2]/\L_=[.row gj iL 3 1 (hH KL.encI r.1.far),.row gk iM 3 1 (hH KL.encI r.1.by_),.blk aj 139 [.slice dG p0.Race.Starts.length dK,.slice dH p0.Race.Splits.length dL,.slice dI p0.Race.Clocks.length dM,.slice dJ p0.Race.Readings.length dN,.map (some aa),.slice bp p0.edges.length bq],.obj aa (.map ae ah)])):=by
 unfold wAg at hm
 refine Gv.of Tryz.func74 Z Tryz.ntmps74 Tryz.results74 Z (sR gCm Z ?_)
 let B0:List Value:=[.slice none 0 0,.slice none 0 0]
 refine zV (cs:=B0) Z Z Z Z Z ZY Z hS ?_
 intro W3 b4 vt
 refine oA Z Z (oA Z Z (eN ?_))
 have q:=bnd hm
 obtain ⟨⟨l9,bw⟩,xe,mg⟩:=q
 try dsimp only at mg
 let B1:Res:=.blk aj 139 [.slice dG p0.Race.Starts.length dK,.slice dH p0.Race.Splits.length dL,.slice dI p0.Race.Clocks.length dM,.slice dJ p0.Race.Readings.length dN,.map (some aa),.slice bp p0.edges.length bq]
 refine yQ (fun σ_ w_=>∃ (U_:PHeap) (b8:Nat) (au:Option Addr) (av:Nat) (az:Option Addr) (aQ:Nat),σ_ 0=.pointer (some ⟨aj,0,none⟩)/\σ_ 1=jV p1/\σ_ 2=.bool p2/\σ_ 6=.pointer (some ⟨b4,0,none⟩)/\σ_ 9=.pointer (some ⟨b8,0,none⟩)/\PHeap.Le U U_/\SW w [B1,.obj aa (.map ae ah)] U U_ [.blk b4 133 B0,B1,.obj aa (.map ae ah),.blk b8 133 [.slice au l9.length av,.slice az bw.length aQ],.row au av 3 1 (hH KL.encI l9),.row az aQ 3 1 (hH KL.encI bw)] w_) ?_ ?_
 refine bnK xe fun aR eK w9=>bnK w9 fun x51 eL xa=>zx zn [2,3,3,3,1,1,2,2,3,3,3,1,1,2,3,2,0] (fC1_5 (wKh (.fx 0 (.fx 6 (.fl 12 (.fx 7 gCx (.fx 15 gCv .stop))) (.fx 7 gDb (.fx 15 gDc .stop))) (.fx 7 (.fx 0 gDb (.fx 15 gDa .stop)) (.fx 15 (.fx 0 gDc (.fx 7 gDa .stop)) .stop))))) (by kernel_rfl) ?_
 have cf:=vt.drew
 generalize hw_W74:({ W3 with drawn:=W3.drawn + 1 }:World)=z7 at cf ⊢
 refine ZR (s:=.nil) (M:=fun σ_ w_=>∃ (U_:PHeap) (ec:Nat) (cm:Option Addr) (cD:Nat) (cn:Option Addr) (cE:Nat) (eS:Option Addr) (fj:Nat) (eU:Option Addr) (fm:Nat),σ_ 0=.pointer (some ⟨aj,0,none⟩)/\σ_ 1=jV p1/\σ_ 2=.bool p2/\σ_ 6=.pointer (some ⟨b4,0,none⟩)/\σ_ 9=.pointer (some ⟨ec,0,none⟩)/\σ_ 16=.slice eS ([1125899906842624].length) fj/\σ_ 17=.pointer (some ⟨aj,0,none⟩)/\σ_ 18=.pointer (some ⟨aj,0,none⟩)/\σ_ 19=.pointer (some ⟨aj,4,none⟩)/\σ_ 20=.map (some aa)/\σ_ 21=jV (↑(p0.number.length):Int)/\σ_ 22=.slice cm aR.length cD/\σ_ 23=.slice eU ([-1].length) fm/\σ_ 24=.pointer (some ⟨aj,0,none⟩)/\σ_ 25=.pointer (some ⟨aj,0,none⟩)/\σ_ 26=.pointer (some ⟨aj,4,none⟩)/\σ_ 27=.map (some aa)/\σ_ 28=jV (↑(p0.number.length):Int)/\σ_ 29=.slice cn x51.length cE/\σ_ 30=.agg #[.slice cm aR.length cD,.slice cn x51.length cE]/\PHeap.Le U U_/\SW w [B1,.obj aa (.map ae ah)] U U_ [.blk b4 133 B0,B1,.obj aa (.map ae ah),.blk ec 133 [.slice cm aR.length cD,.slice cn x51.length cE],.row cm cD 3 1 (hH KL.encI aR),.row cn cE 3 1 (hH KL.encI x51)] w_/\Sl U_ 1 eS fj [1125899906842624].length (hH KL.encI [1125899906842624])/\Sl U_ 1 eU fm [-1].length (hH KL.encI [-1])) ?_ fun my=>?_
 rintro Bq y9 ⟨mZ,ec,cm,cD,cn,cE,eS,fj,eU,fm,qa,qb,qc,qd,qe,Ap,Aq,Ar,As,Au,Av,Aw,Ax,Ay,Az,AA,AD,AE,AG,AI,xq,vq,AM,AN⟩
 refine zw ?_
 cases xa
 exact zK ⟨Z,⟨mZ,ec,cm,cD,cn,cE,qa,qb,qc,qd,qe,xq,vq⟩⟩
 refine ZR (s:=.fx 16 .nil .stop) (M:=fun σ_ w_=>∃ (U_:PHeap) (dk:Nat) (dP:Option Addr) (eg:Nat) (bL:Option Addr) (bV:Nat) (dQ:Option Addr) (eh:Nat) (bM:Option Addr) (bW:Nat),σ_ 0=.pointer (some ⟨aj,0,none⟩)/\σ_ 1=jV p1/\σ_ 2=.bool p2/\σ_ 6=.pointer (some ⟨b4,0,none⟩)/\σ_ 9=.pointer (some ⟨dk,0,none⟩)/\σ_ 16=.slice dP ([1125899906842624].length) eg/\σ_ 17=.pointer (some ⟨aj,0,none⟩)/\σ_ 18=.pointer (some ⟨aj,0,none⟩)/\σ_ 19=.pointer (some ⟨aj,4,none⟩)/\σ_ 20=.map (some aa)/\σ_ 21=jV (↑(p0.number.length):Int)/\σ_ 22=.slice bL aR.length bV/\σ_ 23=.slice dQ ([-1].length) eh/\σ_ 24=.pointer (some ⟨aj,0,none⟩)/\σ_ 25=.pointer (some ⟨aj,0,none⟩)/\σ_ 26=.pointer (some ⟨aj,4,none⟩)/\σ_ 27=.map (some aa)/\σ_ 28=jV (↑(p0.number.length):Int)/\σ_ 29=.slice bM x51.length bW/\σ_ 30=.agg #[.slice bL aR.length bV,.slice bM x51.length bW]/\PHeap.Le U U_/\SW w [B1,.obj aa (.map ae ah)] U U_ [.blk b4 133 B0,B1,.obj aa (.map ae ah),.blk dk 133 B0,.row bL bV 3 1 (hH KL.encI aR),.row bM bW 3 1 (hH KL.encI x51)] w_/\Sl U_ 1 dP eg [1125899906842624].length (hH KL.encI [1125899906842624])/\Sl U_ 1 dQ eh [-1].length (hH KL.encI [-1])) ?_ fun xf=>?_
 rintro Br z0 ⟨gP,dk,dP,eg,bL,bV,dQ,eh,bM,bW,qf,qh,qi,qj,jH,qk,qm,qn,qo,qp,qq,qr,qt,qu,qv,qw,qx,qy,qz,jJ,xr,vr,tE,tF⟩
 let B2:List Value:=[.slice bL aR.length bV,.slice bM x51.length bW]
 refine zY (j:=3) (vs:=B2) Z Z Z Z vr Z jH jJ Z Zq (zA Z) Z Z Z ?_
 intro og vu
 have vv:SW w [B1,.obj aa (.map ae ah)] U gP [.blk b4 133 B0,B1,.obj aa (.map ae ah),.blk dk 133 B2,.row bL bV 3 1 (hH KL.encI aR),.row bM bW 3 1 (hH KL.encI x51)] og:=vu
 exact my _ _ ⟨gP,dk,bL,bV,bM,bW,dP,eg,dQ,eh,qf,qh,qi,qj,jH,qk,qm,qn,qo,qp,qq,qr,qt,qu,qv,qw,qx,qy,qz,jJ,xr,vv,tE,tF⟩
 refine ZR (s:=gCi) (M:=fun σ_ w_=>∃ (U_:PHeap) (dl:Nat) (dR:Option Addr) (ej:Nat) (bN:Option Addr) (bX:Nat) (dS:Option Addr) (en:Nat) (bO:Option Addr) (bY:Nat),σ_ 0=.pointer (some ⟨aj,0,none⟩)/\σ_ 1=jV p1/\σ_ 2=.bool p2/\σ_ 6=.pointer (some ⟨b4,0,none⟩)/\σ_ 9=.pointer (some ⟨dl,0,none⟩)/\σ_ 16=.slice dR ([1125899906842624].length) ej/\σ_ 17=.pointer (some ⟨aj,0,none⟩)/\σ_ 18=.pointer (some ⟨aj,0,none⟩)/\σ_ 19=.pointer (some ⟨aj,4,none⟩)/\σ_ 20=.map (some aa)/\σ_ 21=jV (↑(p0.number.length):Int)/\σ_ 22=.slice bN aR.length bX/\σ_ 23=.slice dS ([-1].length) en/\σ_ 24=.pointer (some ⟨aj,0,none⟩)/\σ_ 25=.pointer (some ⟨aj,0,none⟩)/\σ_ 26=.pointer (some ⟨aj,4,none⟩)/\σ_ 27=.map (some aa)/\σ_ 28=jV (↑(p0.number.length):Int)/\σ_ 29=.slice bO x51.length bY/\PHeap.Le U U_/\SW w [B1,.obj aa (.map ae ah)] U U_ [.blk b4 133 B0,B1,.obj aa (.map ae ah),.blk dl 133 B0,.row bN bX 3 1 (hH KL.encI aR),.row bO bY 3 1 (hH KL.encI x51)] w_/\Sl U_ 1 dR ej [1125899906842624].length (hH KL.encI [1125899906842624])/\Sl U_ 1 dS en [-1].length (hH KL.encI [-1])) ?_ fun mz=>?_
 rintro Bs z4 ⟨gQ,dl,dR,ej,bN,bX,dS,en,bO,bY,qA,qB,qC,qD,jK,qE,qF,qG,qH,qI,qJ,jL,qK,qL,qM,qN,qO,qP,jM,xt,vw,tG,tH⟩
 let B3:List Value:=[.slice bN aR.length bX,.slice bO x51.length bY]
 refine oR Z (ZC (pv:=[(0,.slice bN aR.length bX),(1,.slice bO x51.length bY)]) (z:=B0) (cs:=B3) Z (wAH jL (wAH jM wAU)) ZY wKK Z Z) (zY (j:=3) (vs:=B3) Z Z Z Z vw Z jK Z Z Zq (zA Z) Z Z Z ?_)
 intro oh vx
 have vy:SW w [B1,.obj aa (.map ae ah)] U gQ [.blk b4 133 B0,B1,.obj aa (.map ae ah),.blk dl 133 B3,.row bN bX 3 1 (hH KL.encI aR),.row bO bY 3 1 (hH KL.encI x51)] oh:=vx
 exact my _ _ ⟨gQ,dl,bN,bX,bO,bY,dR,ej,dS,en,qA,qB,qC,qD,jK,qE,qF,qG,qH,qI,qJ,jL,qK,qL,qM,qN,qO,qP,jM,Z,xt,vy,tG,tH⟩
 refine ZR (s:=gCp) (M:=fun σ_ w_=>∃ (U_:PHeap) (cx:Nat) (dT:Option Addr) (eu:Nat) (cS:Option Addr) (dq:Nat) (cU:Option Addr) (dr:Nat),σ_ 0=.pointer (some ⟨aj,0,none⟩)/\σ_ 1=jV p1/\σ_ 2=.bool p2/\σ_ 6=.pointer (some ⟨b4,0,none⟩)/\σ_ 9=.pointer (some ⟨cx,0,none⟩)/\σ_ 16=.slice dT ([1125899906842624].length) eu/\σ_ 17=.pointer (some ⟨aj,0,none⟩)/\σ_ 18=.pointer (some ⟨aj,0,none⟩)/\σ_ 19=.pointer (some ⟨aj,4,none⟩)/\σ_ 20=.map (some aa)/\σ_ 21=jV (↑(p0.number.length):Int)/\σ_ 22=.slice cS aR.length dq/\σ_ 23=.slice cU ([-1].length) dr/\σ_ 24=.pointer (some ⟨aj,0,none⟩)/\σ_ 25=.pointer (some ⟨aj,0,none⟩)/\σ_ 26=.pointer (some ⟨aj,4,none⟩)/\σ_ 27=.map (some aa)/\σ_ 28=jV (↑(p0.number.length):Int)/\PHeap.Le U U_/\SW w [B1,.obj aa (.map ae ah)] U U_ [.blk b4 133 B0,B1,.obj aa (.map ae ah),.blk cx 133 B0,.row cS dq 3 1 (hH KL.encI aR),.row cU dr 3 1 (hH KL.encI [-1])] w_/\Sl U_ 1 dT eu [1125899906842624].length (hH KL.encI [1125899906842624])) ?_ fun eO=>?_
 rintro Bt iw ⟨xP,cx,dT,eu,cS,dq,cU,dr,qQ,qR,qS,qT,qU,qV,qW,qX,qY,qZ,rc,re,jN,ri,rj,rk,rn,jO,xu,vz,tI⟩
 have q:=vz.freezeR (k:=5) (n:=[-1].length) rfl (wAI (f:=KL.encI) (sz:=1) (fun _=>rfl) [-1]) (by decide)
 obtain ⟨gR,mJ,ml,vA⟩:=q
 let B4:Res:=.row cS dq 3 1 (hH KL.encI aR)
 have vB:SW w [B1,.obj aa (.map ae ah)] U gR [.blk b4 133 B0,B1,.obj aa (.map ae ah),.blk cx 133 B0,B4] iw:=vA
 refine zG 0 Z Z Z Z (zH Z Z yq (zB jN (zB jO zM)) Z) vB (fun hs=>wAh [-1] cU dr (↑(p0.number.length):Int) iw gR hs ml eL) (.inr Z) ?_
 rintro gS xL A5 oi gg vC ⟨gt,iU,rfl,rfl⟩
 have vD:SW w [B1,.obj aa (.map ae ah)] U gS [.row gt iU 3 1 (hH KL.encI x51),.blk b4 133 B0,B1,.obj aa (.map ae ah),.blk cx 133 B0,B4] oi:=vC
 have tJ:=tI.le mJ
 have tK:=tJ.le gg
 have tL:=ml.le gg
 exact mz _ _ ⟨gS,cx,dT,eu,cS,dq,cU,dr,gt,iU,qQ,qR,qS,qT,qU,qV,qW,qX,qY,qZ,rc,re,jN,ri,rj,rk,rn,jO,rfl,((xu.trans mJ).trans gg),(vD.pick [1,2,3,4,5,0] _ (by decide) rfl),tK,tL⟩
 refine ZR (s:=gCo) (M:=fun σ_ w_=>∃ (U_:PHeap) (dU:Option Addr) (ey:Nat) (cp:Option Addr) (cG:Nat) (dV:Option Addr) (eA:Nat) (cq:Option Addr) (cH:Nat),σ_ 0=.pointer (some ⟨aj,0,none⟩)/\σ_ 1=jV p1/\σ_ 2=.bool p2/\σ_ 6=.pointer (some ⟨b4,0,none⟩)/\σ_ 16=.slice dU ([1125899906842624].length) ey/\σ_ 17=.pointer (some ⟨aj,0,none⟩)/\σ_ 18=.pointer (some ⟨aj,0,none⟩)/\σ_ 19=.pointer (some ⟨aj,4,none⟩)/\σ_ 20=.map (some aa)/\σ_ 21=jV (↑(p0.number.length):Int)/\σ_ 22=.slice cp aR.length cG/\σ_ 23=.slice dV ([-1].length) eA/\σ_ 24=.pointer (some ⟨aj,0,none⟩)/\σ_ 25=.pointer (some ⟨aj,0,none⟩)/\σ_ 26=.pointer (some ⟨aj,4,none⟩)/\σ_ 27=.map (some aa)/\σ_ 28=jV (↑(p0.number.length):Int)/\σ_ 29=.slice cq x51.length cH/\PHeap.Le U U_/\SW w [B1,.obj aa (.map ae ah)] U U_ [.blk b4 133 B0,B1,.obj aa (.map ae ah),.row cp cG 3 1 (hH KL.encI aR),.row cq cH 3 1 (hH KL.encI x51)] w_/\Sl U_ 1 dU ey [1125899906842624].length (hH KL.encI [1125899906842624])/\Sl U_ 1 dV eA [-1].length (hH KL.encI [-1])) ?_ fun mA=>?_
 rintro Bu z5 ⟨m4,dU,ey,cp,cG,dV,eA,cq,cH,ro,rp,rq,rx,ry,rA,rC,rD,rE,rF,jP,rG,rH,rI,rJ,rK,rL,jQ,xw,vE,tM,tO⟩
 refine oR Z (ZC (pv:=[(0,.slice cp aR.length cG),(1,.slice cq x51.length cH)]) (z:=B0) (cs:=[.slice cp aR.length cG,.slice cq x51.length cH]) Z (wAH jP (wAH jQ wAU)) ZY wKK Z Z) (zV (cs:=B0) Z Z Z Z Z ZY Z vE ?_)
 intro z6 oB vG
 exact xf _ _ ⟨m4,oB,dU,ey,cp,cG,dV,eA,cq,cH,ro,rp,rq,rx,rfl,ry,rA,rC,rD,rE,rF,jP,rG,rH,rI,rJ,rK,rL,jQ,rfl,xw,(vG.pick [1,2,3,0,4,5] _ (by decide) rfl),tM,tO⟩
 refine ZR (s:=.fl 12 gCp) (M:=fun σ_ w_=>∃ (U_:PHeap) (cy:Nat) (dW:Option Addr) (eC:Nat) (cV:Option Addr) (dt:Nat) (cW:Option Addr) (du:Nat),σ_ 0=.pointer (some ⟨aj,0,none⟩)/\σ_ 1=jV p1/\σ_ 2=.bool p2/\σ_ 6=.pointer (some ⟨b4,0,none⟩)/\σ_ 9=.pointer (some ⟨cy,0,none⟩)/\σ_ 16=.slice dW ([1125899906842624].length) eC/\σ_ 17=.pointer (some ⟨aj,0,none⟩)/\σ_ 18=.pointer (some ⟨aj,0,none⟩)/\σ_ 19=.pointer (some ⟨aj,4,none⟩)/\σ_ 20=.map (some aa)/\σ_ 21=jV (↑(p0.number.length):Int)/\σ_ 22=.slice cV aR.length dt/\σ_ 23=.slice cW ([-1].length) du/\σ_ 24=.pointer (some ⟨aj,0,none⟩)/\σ_ 25=.pointer (some ⟨aj,0,none⟩)/\σ_ 26=.pointer (some ⟨aj,4,none⟩)/\σ_ 27=.map (some aa)/\PHeap.Le U U_/\SW w [B1,.obj aa (.map ae ah)] U U_ [.blk b4 133 B0,B1,.obj aa (.map ae ah),.blk cy 133 B0,.row cV dt 3 1 (hH KL.encI aR),.row cW du 3 1 (hH KL.encI [-1])] w_/\Sl U_ 1 dW eC [1125899906842624].length (hH KL.encI [1125899906842624])) ?_ fun xg=>?_
 rintro Bv iy ⟨xR,cy,dW,eC,cV,dt,cW,du,rM,rN,rO,rP,rQ,rS,rT,rV,rW,rX,rY,rZ,jR,r6,r7,r8,jS,xx,lZ,tP⟩
 refine oL Z (lZ.lenM (j:=2) (mk:=wBP) (mv:=wBV) Z Z jS (wBn ZF) cQ) ?_
 have q:=lZ.freezeR (k:=5) (n:=[-1].length) rfl (wAI (f:=KL.encI) (sz:=1) (fun _=>rfl) [-1]) (by decide)
 obtain ⟨gT,mK,mn,vH⟩:=q
 let B5:Res:=.row cV dt 3 1 (hH KL.encI aR)
 have vJ:SW w [B1,.obj aa (.map ae ah)] U gT [.blk b4 133 B0,B1,.obj aa (.map ae ah),.blk cy 133 B0,B5] iy:=vH
 refine zG 0 Z Z Z Z (zH Z Z yq (zB jR (zB Z zM)) Z) vJ (fun hs=>wAh [-1] cW du (↑(p0.number.length):Int) iy gT hs mn eL) (.inr Z) ?_
 rintro gU xM A6 oj gh vK ⟨gu,iV,rfl,rfl⟩
 have vL:SW w [B1,.obj aa (.map ae ah)] U gU [.row gu iV 3 1 (hH KL.encI x51),.blk b4 133 B0,B1,.obj aa (.map ae ah),.blk cy 133 B0,B5] oj:=vK
 have tQ:=tP.le mK
 have tR:=tQ.le gh
 have tS:=mn.le gh
 exact mz _ _ ⟨gU,cy,dW,eC,cV,dt,cW,du,gu,iV,rM,rN,rO,rP,rQ,rS,rT,rV,rW,rX,rY,rZ,jR,r6,r7,r8,jS,rfl,rfl,((xx.trans mK).trans gh),(vL.pick [1,2,3,4,5,0] _ (by decide) rfl),tR,tS⟩
 refine ZR (s:=.fl 12 gCv) (M:=fun σ_ w_=>∃ (U_:PHeap) (dm:Nat) (dX:Option Addr) (eD:Nat) (cX:Option Addr) (dv:Nat),σ_ 0=.pointer (some ⟨aj,0,none⟩)/\σ_ 1=jV p1/\σ_ 2=.bool p2/\σ_ 6=.pointer (some ⟨b4,0,none⟩)/\σ_ 9=.pointer (some ⟨dm,0,none⟩)/\σ_ 16=.slice dX ([1125899906842624].length) eD/\σ_ 17=.pointer (some ⟨aj,0,none⟩)/\σ_ 18=.pointer (some ⟨aj,0,none⟩)/\σ_ 19=.pointer (some ⟨aj,4,none⟩)/\σ_ 20=.map (some aa)/\σ_ 21=jV (↑(p0.number.length):Int)/\σ_ 22=.slice cX aR.length dv/\σ_ 24=.pointer (some ⟨aj,0,none⟩)/\σ_ 25=.pointer (some ⟨aj,0,none⟩)/\σ_ 26=.pointer (some ⟨aj,4,none⟩)/\σ_ 27=.map (some aa)/\PHeap.Le U U_/\SW w [B1,.obj aa (.map ae ah)] U U_ [.blk b4 133 B0,B1,.obj aa (.map ae ah),.blk dm 133 B0,.row cX dv 3 1 (hH KL.encI aR)] w_/\Sl U_ 1 dX eD [1125899906842624].length (hH KL.encI [1125899906842624])) ?_ fun xh=>?_
 rintro Bw z8 ⟨gW,dm,dX,eD,cX,dv,r9,sb,sc,sd,se,sf,sg,sh,sj,sk,sm,sn,so,sq,ss,jU,xz,l5,tT⟩
 refine oL Z (l5.lenM (j:=2) (mk:=wBP) (mv:=wBV) Z Z jU (wBn ZF) cQ) (Zk (pv:=[(0,jV (-1))]) (zs:=[jV 0]) (cs:=[jV (-1)]) Z Z Z Z Z (wAH Z wAU) zD zC ZV Z Z Z Z Z l5 ?_)
 intro om iJ vM
 have vN:SW w [B1,.obj aa (.map ae ah)] U gW [.row (some ⟨iJ,0,none⟩) 1 3 1 (hH KL.encI [-1]),.blk b4 133 B0,B1,.obj aa (.map ae ah),.blk dm 133 B0,.row cX dv 3 1 (hH KL.encI aR)] om:=vM
 exact eO _ _ ⟨gW,dm,dX,eD,cX,dv,(some ⟨iJ,0,none⟩),1,r9,sb,sc,sd,se,sf,sg,sh,sj,sk,sm,sn,rfl,so,sq,ss,jU,rfl,xz,(vN.pick [1,2,3,4,5,0] _ (by decide) rfl),tT⟩
 refine ZR (s:=gCy) (M:=fun σ_ w_=>∃ (U_:PHeap) (cz:Nat) (cY:Option Addr) (dw:Nat) (cZ:Option Addr) (dx:Nat),σ_ 0=.pointer (some ⟨aj,0,none⟩)/\σ_ 1=jV p1/\σ_ 2=.bool p2/\σ_ 6=.pointer (some ⟨b4,0,none⟩)/\σ_ 9=.pointer (some ⟨cz,0,none⟩)/\σ_ 16=.slice cY ([1125899906842624].length) dw/\σ_ 17=.pointer (some ⟨aj,0,none⟩)/\σ_ 18=.pointer (some ⟨aj,0,none⟩)/\σ_ 19=.pointer (some ⟨aj,4,none⟩)/\σ_ 20=.map (some aa)/\σ_ 21=jV (↑(p0.number.length):Int)/\σ_ 23=.slice cZ ([-1].length) dx/\σ_ 24=.pointer (some ⟨aj,0,none⟩)/\σ_ 25=.pointer (some ⟨aj,0,none⟩)/\σ_ 26=.pointer (some ⟨aj,4,none⟩)/\σ_ 27=.map (some aa)/\PHeap.Le U U_/\SW w [B1,.obj aa (.map ae ah)] U U_ [.blk b4 133 B0,B1,.obj aa (.map ae ah),.blk cz 133 B0,.row cY dw 3 1 (hH KL.encI [1125899906842624]),.row cZ dx 3 1 (hH KL.encI [-1])] w_) ?_ fun fY=>?_
 rintro Bx iz ⟨xS,cz,cY,dw,cZ,dx,su,sv,sw,sA,sB,jW,sC,sD,sE,sF,jX,sG,sH,sI,sJ,sK,xA,vO⟩
 have q:=vO.freezeR (k:=4) (n:=[1125899906842624].length) rfl (wAI (f:=KL.encI) (sz:=1) (fun _=>rfl) [1125899906842624]) (by decide)
 obtain ⟨gX,xB,mo,vP⟩:=q
 let B6:Res:=.row cZ dx 3 1 (hH KL.encI [-1])
 have vQ:SW w [B1,.obj aa (.map ae ah)] U gX [.blk b4 133 B0,B1,.obj aa (.map ae ah),.blk cz 133 B0,B6] iz:=vP
 refine zG 0 Z Z Z Z (zH Z Z yq (zB jW (zB jX zM)) Z) vQ (fun hs=>wAh [1125899906842624] cY dw (↑(p0.number.length):Int) iz gX hs mo eK) (.inr Z) ?_
 rintro gZ xN A8 oq mL vR ⟨gv,iW,rfl,rfl⟩
 have vS:SW w [B1,.obj aa (.map ae ah)] U gZ [.row gv iW 3 1 (hH KL.encI aR),.blk b4 133 B0,B1,.obj aa (.map ae ah),.blk cz 133 B0,B6] oq:=vR
 have tU:=mo.le mL
 exact xg _ _ ⟨gZ,cz,cY,dw,gv,iW,cZ,dx,su,sv,sw,sA,sB,jW,sC,sD,sE,sF,jX,rfl,sG,sH,sI,sJ,sK,((xA.trans xB).trans mL),(vS.pick [1,2,3,4,0,5] _ (by decide) rfl),tU⟩
 refine ZR (s:=.fl 12 gCx) (M:=fun σ_ w_=>∃ (U_:PHeap) (da:Option Addr) (dy:Nat) (cr:Option Addr) (cI:Nat) (ct:Option Addr) (cJ:Nat),σ_ 0=.pointer (some ⟨aj,0,none⟩)/\σ_ 1=jV p1/\σ_ 2=.bool p2/\σ_ 6=.pointer (some ⟨b4,0,none⟩)/\σ_ 16=.slice da ([1125899906842624].length) dy/\σ_ 17=.pointer (some ⟨aj,0,none⟩)/\σ_ 18=.pointer (some ⟨aj,0,none⟩)/\σ_ 19=.pointer (some ⟨aj,4,none⟩)/\σ_ 20=.map (some aa)/\σ_ 21=jV (↑(p0.number.length):Int)/\σ_ 22=.slice cr aR.length cI/\σ_ 23=.slice ct ([-1].length) cJ/\σ_ 24=.pointer (some ⟨aj,0,none⟩)/\σ_ 25=.pointer (some ⟨aj,0,none⟩)/\σ_ 26=.pointer (some ⟨aj,4,none⟩)/\σ_ 27=.map (some aa)/\PHeap.Le U U_/\SW w [B1,.obj aa (.map ae ah)] U U_ [.blk b4 133 B0,B1,.obj aa (.map ae ah),.row cr cI 3 1 (hH KL.encI aR),.row ct cJ 3 1 (hH KL.encI [-1])] w_/\Sl U_ 1 da dy [1125899906842624].length (hH KL.encI [1125899906842624])) ?_ fun xi=>?_
 rintro By iA ⟨m5,da,dy,cr,cI,ct,cJ,jY,jZ,j0,j5,j6,j7,j8,j9,k9,lf,lg,fA,lh,li,lj,fB,mM,fN,lG⟩
 refine oL Z (fN.lenM (j:=2) (mk:=wBP) (mv:=wBV) Z Z fB (wBn ZF) cQ) (zt ?_ ?_)
 have q:=fN.freezeR (k:=4) (n:=[-1].length) rfl (wAI (f:=KL.encI) (sz:=1) (fun _=>rfl) [-1]) (by decide)
 obtain ⟨g7,mN,mp,vU⟩:=q
 let B7:Res:=.row cr cI 3 1 (hH KL.encI aR)
 have vV:SW w [B1,.obj aa (.map ae ah)] U g7 [.blk b4 133 B0,B1,.obj aa (.map ae ah),B7] iA:=vU
 refine zG 0 Z Z Z Z (zH Z Z yq (zB fA (zB Z zM)) Z) vV (fun hs=>wAh [-1] ct cJ (↑(p0.number.length):Int) iA g7 hs mp eL) (.inr Z) ?_
 rintro g8 xO A9 ot gi vW ⟨gw,iX,rfl,rfl⟩
 have vX:SW w [B1,.obj aa (.map ae ah)] U g8 [.row gw iX 3 1 (hH KL.encI x51),.blk b4 133 B0,B1,.obj aa (.map ae ah),B7] ot:=vW
 have tV:=lG.le mN
 have tW:=tV.le gi
 have tX:=mp.le gi
 exact mA _ _ ⟨g8,da,dy,cr,cI,ct,cJ,gw,iX,jY,jZ,j0,j5,j6,j7,j8,j9,k9,lf,lg,fA,lh,li,lj,fB,rfl,rfl,((mM.trans mN).trans gi),(vX.pick [1,2,3,4,0] _ (by decide) rfl),tW,tX⟩
 refine zV (cs:=B0) Z Z Z Z Z ZY Z fN ?_
 intro z9 oG vY
 exact eO _ _ ⟨m5,oG,da,dy,cr,cI,ct,cJ,jY,jZ,j0,j5,rfl,j6,j7,j8,j9,k9,lf,lg,fA,lh,li,lj,fB,rfl,mM,(vY.pick [1,2,3,0,4,5] _ (by decide) rfl),lG⟩
 refine ZR (s:=gDa) (M:=fun σ_ w_=>∃ (U_:PHeap) (dp:Nat) (db:Option Addr) (dz:Nat),σ_ 0=.pointer (some ⟨aj,0,none⟩)/\σ_ 1=jV p1/\σ_ 2=.bool p2/\σ_ 6=.pointer (some ⟨b4,0,none⟩)/\σ_ 9=.pointer (some ⟨dp,0,none⟩)/\σ_ 17=.pointer (some ⟨aj,0,none⟩)/\σ_ 18=.pointer (some ⟨aj,0,none⟩)/\σ_ 19=.pointer (some ⟨aj,4,none⟩)/\σ_ 20=.map (some aa)/\σ_ 21=jV (↑(p0.number.length):Int)/\σ_ 23=.slice db ([-1].length) dz/\σ_ 24=.pointer (some ⟨aj,0,none⟩)/\σ_ 25=.pointer (some ⟨aj,0,none⟩)/\σ_ 26=.pointer (some ⟨aj,4,none⟩)/\σ_ 27=.map (some aa)/\PHeap.Le U U_/\SW w [B1,.obj aa (.map ae ah)] U U_ [.blk b4 133 B0,B1,.obj aa (.map ae ah),.blk dp 133 B0,.row db dz 3 1 (hH KL.encI [-1])] w_) ?_ fun mB=>?_
 rintro Bz Aa ⟨g9,dp,db,dz,sL,sM,sN,sP,sQ,sS,sU,sV,sX,sY,sZ,s5,s6,s7,s8,xC,vZ⟩
 refine Zk (pv:=[(0,jV 1125899906842624)]) (zs:=[jV 0]) (cs:=[jV 1125899906842624]) Z Z Z Z Z (wAH Z wAU) zD zC ZV Z Z Z Z Z vZ ?_
 intro ou iK v5
 have v7:SW w [B1,.obj aa (.map ae ah)] U g9 [.row (some ⟨iK,0,none⟩) 1 3 1 (hH KL.encI [1125899906842624]),.blk b4 133 B0,B1,.obj aa (.map ae ah),.blk dp 133 B0,.row db dz 3 1 (hH KL.encI [-1])] ou:=v5
 exact fY _ _ ⟨g9,dp,(some ⟨iK,0,none⟩),1,db,dz,sL,sM,sN,sP,sQ,rfl,sS,sU,sV,sX,sY,sZ,s5,s6,s7,s8,xC,(v7.pick [1,2,3,4,0,5] _ (by decide) rfl)⟩
 refine ZR (s:=gDc) (M:=fun σ_ w_=>∃ (U_:PHeap) (bI:Nat) (bP:Option Addr) (bZ:Nat),σ_ 0=.pointer (some ⟨aj,0,none⟩)/\σ_ 1=jV p1/\σ_ 2=.bool p2/\σ_ 6=.pointer (some ⟨b4,0,none⟩)/\σ_ 9=.pointer (some ⟨bI,0,none⟩)/\σ_ 16=.slice bP ([1125899906842624].length) bZ/\σ_ 17=.pointer (some ⟨aj,0,none⟩)/\σ_ 18=.pointer (some ⟨aj,0,none⟩)/\σ_ 19=.pointer (some ⟨aj,4,none⟩)/\σ_ 20=.map (some aa)/\σ_ 21=jV (↑(p0.number.length):Int)/\σ_ 24=.pointer (some ⟨aj,0,none⟩)/\σ_ 25=.pointer (some ⟨aj,0,none⟩)/\σ_ 26=.pointer (some ⟨aj,4,none⟩)/\σ_ 27=.map (some aa)/\PHeap.Le U U_/\SW w [B1,.obj aa (.map ae ah)] U U_ [.blk b4 133 B0,B1,.obj aa (.map ae ah),.blk bI 133 B0,.row bP bZ 3 1 (hH KL.encI [1125899906842624])] w_) ?_ fun mC=>?_
 rintro BA iB ⟨ib,bI,bP,bZ,lm,ln,lp,ls,lu,fC,lv,lw,lx,ly,fD,lz,lA,lB,lD,mO,l6⟩
 refine zt ?_ ?_
 have q:=l6.freezeR (k:=4) (n:=[1125899906842624].length) rfl (wAI (f:=KL.encI) (sz:=1) (fun _=>rfl) [1125899906842624]) (by decide)
 obtain ⟨ic,xD,mq,v8⟩:=q
 have v9:SW w [B1,.obj aa (.map ae ah)] U ic [.blk b4 133 B0,B1,.obj aa (.map ae ah),.blk bI 133 B0] iB:=v8
 refine zG 0 Z Z Z Z (zH Z Z yq (zB fC (zB fD zM)) Z) v9 (fun hs=>wAh [1125899906842624] bP bZ (↑(p0.number.length):Int) iB ic hs mq eK) (.inr Z) ?_
 rintro gF xH AY m6 mD t7 ⟨gm,iN,rfl,rfl⟩
 have t8:SW w [B1,.obj aa (.map ae ah)] U gF [.row gm iN 3 1 (hH KL.encI aR),.blk b4 133 B0,B1,.obj aa (.map ae ah),.blk bI 133 B0] m6:=t7
 have te:=mq.le mD
 exact xh _ _ ⟨gF,bI,bP,bZ,gm,iN,lm,ln,lp,ls,lu,fC,lv,lw,lx,ly,fD,rfl,lz,lA,lB,lD,((mO.trans xD).trans mD),(t8.pick [1,2,3,4,0] _ (by decide) rfl),te⟩
 refine Zk (pv:=[(0,jV (-1))]) (zs:=[jV 0]) (cs:=[jV (-1)]) Z Z Z Z Z (wAH Z wAU) zD zC ZV Z Z Z Z Z l6 ?_
 intro m7 iC t9
 have ua:SW w [B1,.obj aa (.map ae ah)] U ib [.row (some ⟨iC,0,none⟩) 1 3 1 (hH KL.encI [-1]),.blk b4 133 B0,B1,.obj aa (.map ae ah),.blk bI 133 B0,.row bP bZ 3 1 (hH KL.encI [1125899906842624])] m7:=t9
 exact fY _ _ ⟨ib,bI,bP,bZ,(some ⟨iC,0,none⟩),1,lm,ln,lp,ls,lu,fC,lv,lw,lx,ly,fD,rfl,lz,lA,lB,lD,mO,(ua.pick [1,2,3,4,5,0] _ (by decide) rfl)⟩
 refine ZR (s:=gDb) (M:=fun σ_ w_=>∃ (U_:PHeap) (cg:Option Addr) (cA:Nat) (cj:Option Addr) (cC:Nat),σ_ 0=.pointer (some ⟨aj,0,none⟩)/\σ_ 1=jV p1/\σ_ 2=.bool p2/\σ_ 6=.pointer (some ⟨b4,0,none⟩)/\σ_ 16=.slice cg ([1125899906842624].length) cA/\σ_ 17=.pointer (some ⟨aj,0,none⟩)/\σ_ 18=.pointer (some ⟨aj,0,none⟩)/\σ_ 19=.pointer (some ⟨aj,4,none⟩)/\σ_ 20=.map (some aa)/\σ_ 21=jV (↑(p0.number.length):Int)/\σ_ 23=.slice cj ([-1].length) cC/\σ_ 24=.pointer (some ⟨aj,0,none⟩)/\σ_ 25=.pointer (some ⟨aj,0,none⟩)/\σ_ 26=.pointer (some ⟨aj,4,none⟩)/\σ_ 27=.map (some aa)/\PHeap.Le U U_/\SW w [B1,.obj aa (.map ae ah)] U U_ [.blk b4 133 B0,B1,.obj aa (.map ae ah),.row cg cA 3 1 (hH KL.encI [1125899906842624]),.row cj cC 3 1 (hH KL.encI [-1])] w_) ?_ fun mw=>?_
 rintro Bf ie ⟨mV,cg,cA,cj,cC,iY,iZ,i4,i6,fq,i8,i9,ja,jb,ft,jc,jd,je,jf,jg,mE,lN⟩
 refine zt ?_ ?_
 have q:=lN.freezeR (k:=3) (n:=[1125899906842624].length) rfl (wAI (f:=KL.encI) (sz:=1) (fun _=>rfl) [1125899906842624]) (by decide)
 obtain ⟨gG,xj,mi,ub⟩:=q
 let B8:Res:=.row cj cC 3 1 (hH KL.encI [-1])
 have ud:SW w [B1,.obj aa (.map ae ah)] U gG [.blk b4 133 B0,B1,.obj aa (.map ae ah),B8] ie:=ub
 refine zG 0 Z Z Z Z (zH Z Z yq (zB fq (zB ft zM)) Z) ud (fun hs=>wAh [1125899906842624] cg cA (↑(p0.number.length):Int) ie gG hs mi eK) (.inr Z) ?_
 rintro gH xI AZ m8 mF ue ⟨gp,iO,rfl,rfl⟩
 have uf:SW w [B1,.obj aa (.map ae ah)] U gH [.row gp iO 3 1 (hH KL.encI aR),.blk b4 133 B0,B1,.obj aa (.map ae ah),B8] m8:=ue
 have tf:=mi.le mF
 exact xi _ _ ⟨gH,cg,cA,gp,iO,cj,cC,iY,iZ,i4,i6,fq,i8,i9,ja,jb,ft,rfl,jc,jd,je,jf,jg,((mE.trans xj).trans mF),(uf.pick [1,2,3,0,4] _ (by decide) rfl),tf⟩
 refine zV (cs:=B0) Z Z Z Z Z ZY Z lN ?_
 intro xT ow ug
 exact fY _ _ ⟨mV,ow,cg,cA,cj,cC,iY,iZ,i4,i6,rfl,fq,i8,i9,ja,jb,ft,jc,jd,je,jf,jg,mE,(ug.pick [1,2,3,0,4,5] _ (by decide) rfl)⟩
 refine oM Z Z (oR Z (Zz Z Z) (oR Z (zE Z Z ZK Z Zw) (oL Z (cf.ldB (j:=1) Z Z Z yB (v:=.map (some aa)) Z) (oL Z (cf.lenM (j:=2) (mk:=wBP) (mv:=wBV) Z Z Z (wBn ZF) cQ) (oM Z Z (oR Z (Zz Z Z) (oR Z (zE Z Z ZK Z Zw) (oL Z (cf.ldB (j:=1) Z Z Z yB (v:=.map (some aa)) Z) (zt ?_ ?_)))))))))
 refine Zk (pv:=[(0,jV 1125899906842624)]) (zs:=[jV 0]) (cs:=[jV 1125899906842624]) Z Z Z Z Z (wAH Z wAU) zD zC ZV Z Z Z Z Z cf ?_
 intro eZ bU uh
 let B9:Res:=.row (some ⟨bU,0,none⟩) 1 3 1 (hH KL.encI [1125899906842624])
 have fG:SW w [B1,.obj aa (.map ae ah)] U U [B9,.blk b4 133 B0,B1,.obj aa (.map ae ah)] eZ:=uh
 refine zt ?_ ?_
 have q:=fG.freezeR (k:=0) (n:=[1125899906842624].length) rfl (wAI (f:=KL.encI) (sz:=1) (fun _=>rfl) [1125899906842624]) (by decide)
 obtain ⟨gI,gb,eM,ui⟩:=q
 have uj:SW w [B1,.obj aa (.map ae ah)] U gI [.blk b4 133 B0,B1,.obj aa (.map ae ah)] eZ:=ui
 refine zG 0 Z Z Z Z (zH Z Z yq (zB Z (zB Z zM)) Z) uj (fun hs=>wAh [1125899906842624] (some ⟨bU,0,none⟩) 1 (↑(p0.number.length):Int) eZ gI hs eM eK) (.inr Z) ?_
 rintro dh xJ A3 m9 cR uk ⟨dO,ef,rfl,rfl⟩
 let de:Res:=.row dO ef 3 1 (hH KL.encI aR)
 have fH:SW w [B1,.obj aa (.map ae ah)] U dh [de,.blk b4 133 B0,B1,.obj aa (.map ae ah)] m9:=uk
 refine oL Z (fH.lenM (j:=3) (mk:=wBP) (mv:=wBV) Z Z Z (wBn ZF) cQ) (zt ?_ ?_)
 refine Zk (pv:=[(0,jV (-1))]) (zs:=[jV 0]) (cs:=[jV (-1)]) Z Z Z Z Z (wAH Z wAU) zD zC ZV Z Z Z Z Z fH ?_
 intro e8 d8 ul
 have lO:SW w [B1,.obj aa (.map ae ah)] U dh [.row (some ⟨d8,0,none⟩) 1 3 1 (hH KL.encI [-1]),de,.blk b4 133 B0,B1,.obj aa (.map ae ah)] e8:=ul
 refine zt ?_ ?_
 have q:=lO.freezeR (k:=0) (n:=[-1].length) rfl (wAI (f:=KL.encI) (sz:=1) (fun _=>rfl) [-1]) (by decide)
 obtain ⟨gJ,mG,mj,um⟩:=q
 have uo:SW w [B1,.obj aa (.map ae ah)] U gJ [de,.blk b4 133 B0,B1,.obj aa (.map ae ah)] e8:=um
 refine zG 0 Z Z Z Z (zH Z Z yq (zB Z (zB Z zM)) Z) uo (fun hs=>wAh [-1] (some ⟨d8,0,none⟩) 1 (↑(p0.number.length):Int) e8 gJ hs mj eL) (.inr Z) ?_
 rintro gK xK A4 n5 ge uq ⟨gq,iP,rfl,rfl⟩
 have ur:SW w [B1,.obj aa (.map ae ah)] U gK [.row gq iP 3 1 (hH KL.encI x51),de,.blk b4 133 B0,B1,.obj aa (.map ae ah)] n5:=uq
 have tg:=eM.le cR
 have th:=tg.le mG
 have tj:=th.le ge
 have tl:=mj.le ge
 exact mA _ _ ⟨gK,(some ⟨bU,0,none⟩),1,dO,ef,(some ⟨d8,0,none⟩),1,gq,iP,rfl,rfl,rfl,rfl,rfl,rfl,rfl,rfl,rfl,rfl,rfl,rfl,rfl,rfl,rfl,rfl,rfl,rfl,(((gb.trans cR).trans mG).trans ge),(ur.pick [2,3,4,1,0] _ (by decide) rfl),tj,tl⟩
 refine zV (cs:=B0) Z Z Z Z Z ZY Z lO ?_
 intro xU ox uu
 have tm:=eM.le cR
 exact eO _ _ ⟨dh,ox,(some ⟨bU,0,none⟩),1,dO,ef,(some ⟨d8,0,none⟩),1,rfl,rfl,rfl,rfl,rfl,rfl,rfl,rfl,rfl,rfl,rfl,rfl,rfl,rfl,rfl,rfl,rfl,rfl,(gb.trans cR),(uu.pick [3,4,5,0,2,1] _ (by decide) rfl),tm⟩
 refine zV (cs:=B0) Z Z Z Z Z ZY Z fH ?_
 intro xV iD uv
 refine Zk (pv:=[(0,jV (-1))]) (zs:=[jV 0]) (cs:=[jV (-1)]) Z Z Z Z Z (wAH Z wAU) zD zC ZV Z Z Z Z Z uv ?_
 intro n6 iE uw
 have ux:SW w [B1,.obj aa (.map ae ah)] U dh [.row (some ⟨iE,0,none⟩) 1 3 1 (hH KL.encI [-1]),.blk iD 133 B0,de,.blk b4 133 B0,B1,.obj aa (.map ae ah)] n6:=uw
 have tn:=eM.le cR
 exact eO _ _ ⟨dh,iD,(some ⟨bU,0,none⟩),1,dO,ef,(some ⟨iE,0,none⟩),1,rfl,rfl,rfl,rfl,rfl,rfl,rfl,rfl,rfl,rfl,rfl,rfl,rfl,rfl,rfl,rfl,rfl,rfl,(gb.trans cR),(ux.pick [3,4,5,1,2,0] _ (by decide) rfl),tn⟩
 refine zt ?_ ?_
 refine Zk (pv:=[(0,jV (-1))]) (zs:=[jV 0]) (cs:=[jV (-1)]) Z Z Z Z Z (wAH Z wAU) zD zC ZV Z Z Z Z Z fG ?_
 intro n7 iF uy
 have uz:SW w [B1,.obj aa (.map ae ah)] U U [.row (some ⟨iF,0,none⟩) 1 3 1 (hH KL.encI [-1]),B9,.blk b4 133 B0,B1,.obj aa (.map ae ah)] n7:=uy
 exact mw _ _ ⟨U,(some ⟨bU,0,none⟩),1,(some ⟨iF,0,none⟩),1,rfl,rfl,rfl,rfl,rfl,rfl,rfl,rfl,rfl,rfl,rfl,rfl,rfl,rfl,rfl,(zQ _),(uz.pick [2,3,4,1,0] _ (by decide) rfl)⟩
 refine zV (cs:=B0) Z Z Z Z Z ZY Z fG ?_
 intro xW oy uA
 exact mC _ _ ⟨U,oy,(some ⟨bU,0,none⟩),1,rfl,rfl,rfl,rfl,rfl,rfl,rfl,rfl,rfl,rfl,rfl,rfl,rfl,rfl,rfl,(zQ _),(uA.pick [2,3,4,0,1] _ (by decide) rfl)⟩
 refine zt ?_ ?_
 refine Zk (pv:=[(0,jV (-1))]) (zs:=[jV 0]) (cs:=[jV (-1)]) Z Z Z Z Z (wAH Z wAU) zD zC ZV Z Z Z Z Z cf ?_
 intro n8 fb uB
 let gx:Res:=.row (some ⟨fb,0,none⟩) 1 3 1 (hH KL.encI [-1])
 have lP:SW w [B1,.obj aa (.map ae ah)] U U [gx,.blk b4 133 B0,B1,.obj aa (.map ae ah)] n8:=uB
 refine zt ?_ ?_
 refine Zk (pv:=[(0,jV 1125899906842624)]) (zs:=[jV 0]) (cs:=[jV 1125899906842624]) Z Z Z Z Z (wAH Z wAU) zD zC ZV Z Z Z Z Z lP ?_
 intro n9 iG uC
 have uD:SW w [B1,.obj aa (.map ae ah)] U U [.row (some ⟨iG,0,none⟩) 1 3 1 (hH KL.encI [1125899906842624]),gx,.blk b4 133 B0,B1,.obj aa (.map ae ah)] n9:=uC
 exact mw _ _ ⟨U,(some ⟨iG,0,none⟩),1,(some ⟨fb,0,none⟩),1,rfl,rfl,rfl,rfl,rfl,rfl,rfl,rfl,rfl,rfl,rfl,rfl,rfl,rfl,rfl,(zQ _),(uD.pick [2,3,4,0,1] _ (by decide) rfl)⟩
 refine zV (cs:=B0) Z Z Z Z Z ZY Z lP ?_
 intro xX oz uE
 exact mB _ _ ⟨U,oz,(some ⟨fb,0,none⟩),1,rfl,rfl,rfl,rfl,rfl,rfl,rfl,rfl,rfl,rfl,rfl,rfl,rfl,rfl,rfl,(zQ _),(uE.pick [2,3,4,0,1] _ (by decide) rfl)⟩
 refine zV (cs:=B0) Z Z Z Z Z ZY Z cf ?_
 intro xY d9 lQ
 refine zt ?_ ?_
 refine Zk (pv:=[(0,jV 1125899906842624)]) (zs:=[jV 0]) (cs:=[jV 1125899906842624]) Z Z Z Z Z (wAH Z wAU) zD zC ZV Z Z Z Z Z lQ ?_
 intro oa iH uF
 have uG:SW w [B1,.obj aa (.map ae ah)] U U [.row (some ⟨iH,0,none⟩) 1 3 1 (hH KL.encI [1125899906842624]),.blk d9 133 B0,.blk b4 133 B0,B1,.obj aa (.map ae ah)] oa:=uF
 exact mC _ _ ⟨U,d9,(some ⟨iH,0,none⟩),1,rfl,rfl,rfl,rfl,rfl,rfl,rfl,rfl,rfl,rfl,rfl,rfl,rfl,rfl,rfl,(zQ _),(uG.pick [2,3,4,1,0] _ (by decide) rfl)⟩
 refine Zk (pv:=[(0,jV (-1))]) (zs:=[jV 0]) (cs:=[jV (-1)]) Z Z Z Z Z (wAH Z wAU) zD zC ZV Z Z Z Z Z lQ ?_
 intro oc iI uH
 have uI:SW w [B1,.obj aa (.map ae ah)] U U [.row (some ⟨iI,0,none⟩) 1 3 1 (hH KL.encI [-1]),.blk d9 133 B0,.blk b4 133 B0,B1,.obj aa (.map ae ah)] oc:=uH
 exact mB _ _ ⟨U,d9,(some ⟨iI,0,none⟩),1,rfl,rfl,rfl,rfl,rfl,rfl,rfl,rfl,rfl,rfl,rfl,rfl,rfl,rfl,rfl,(zQ _),(uI.pick [2,3,4,1,0] _ (by decide) rfl)⟩
 rintro Bg xZ ⟨gL,b8,au,av,az,aQ,oP,oU,oW,oX,jh,xk,lR⟩
 refine zJ (sR fL4 Z (oR Z (zE Z jh ZU Z zW) (oL Z (lR.ldB (j:=3) Z Z Z zX (v:=.slice au l9.length av) Z) (oR Z (zi Z Z zD) (oM Z Z (eN (zd (bnK mg fun Bd wd fW=>?_))))))))
 have q:=wCw wd
 obtain ⟨fT,we⟩:=q
 replace fT:=zL fT
 let bQ:Res:=.row az aQ 3 1 (hH KL.encI bw)
 refine CK.forN' (fun bu ba σ_ w_=>∃ (U_:PHeap),σ_ 34=jV (↑bu:Int)/\σ_ 0=.pointer (some ⟨aj,0,none⟩)/\σ_ 1=jV p1/\σ_ 2=.bool p2/\σ_ 6=.pointer (some ⟨b4,0,none⟩)/\σ_ 9=.pointer (some ⟨b8,0,none⟩)/\σ_ 33=jV (↑l9.length:Int)/\PHeap.Le gL U_/\SW w [B1,.obj aa (.map ae ah)] U U_ [.blk b4 133 B0,B1,.obj aa (.map ae ah),.row au av 3 1 (hH KL.encI ba),bQ,.blk b8 133 [.slice au ba.length av,.slice az bw.length aQ]] w_/\ba.length=l9.length) we ?_ ?_ ?_
 exact ⟨gL,rfl,oP,oU,oW,oX,jh,rfl,(zQ _),(lR.pick [0,1,2,4,5,3] _ (by decide) rfl),rfl⟩
 rintro bu ba Ba Bh x7 fQ ⟨bT,dE,fu,dA,fw,fy,dB,eE,gf,cd,fE⟩ mr
 have iQ:Hid ((↑bu:Int) < (↑l9.length:Int)):=zL (wBm fQ)
 replace fQ:=zL fQ
 have fP:Hid (w64 ((↑bu:Int) + 1)=(↑(bu + 1):Int)):=zL (by have h1:=fT.out;have h2:=iQ.out;rw [wAZ] <;> omega)
 refine sR fL1 Z (oR Z (zf Z dE eE) (eN (zJ (cT Z iQ (kN (zJ (zd (sR fL2 Z (oM Z dE (oA Z Z (eN (sR fL7 Z (oM Z dA (oR Z (zf Z Z Z) (oM Z Z ?_)))))))))))))))
 by_cases bd:p1 < 0
 have l7:=mr;rw [if_pos bd] at l7;replace bd:=zL bd
 refine oT Z bd (oT Z bd (oT Z bd (oR Z (zm Z (Zp bd.out) Z) (eN (ZG Z (rR (wEu (.fx 4 .nil .stop)) Z (oR Z (zE Z dB ZU Z zW) (oL Z (cd.ldB (j:=5) Z Z Z zX (v:=.slice au ba.length av) Z) (oM Z Z (bnK l7 fun _ eI wH=>?_))))))))))
 obtain ⟨Ab,lH⟩:=cd.rowSome (j:=3) rfl (by rw [wAI (f:=KL.encI) (sz:=1) (fun _=>rfl) ba];have hz:=wAW eI;omega)
 refine oR Z (ZP Z Z lH Z zD zC (wAW eI)) ?_
 have wj:=wBL (xs:=ba) (wAW eI)
 refine yp (j:=3) (vs:=[jV 0]) (cs':=hH KL.encI (nB ba bu 0)) rfl rfl rfl rfl cd rfl lH rfl rfl rfl zC (by rw [wAI (f:=KL.encI) (sz:=1) (fun _=>rfl)];have hz:=wAW eI;show _ + 1 <= _;first | omega | (simp only [nI];omega) | (simp only [nH,nE,nG];omega)) rfl (wDW (sz:=1) (fo:=0) (fun _=>rfl) _ _ _ _ wj (by first | omega | (simp only [nI];omega) | (simp only [nH,nE,nG];omega)) (zA rfl) rfl) rfl ?_
 intro ig uJ
 let eV:Res:=.row au av 3 1 (hH KL.encI (nB ba bu 0))
 have uK:SW w [B1,.obj aa (.map ae ah)] U bT [.blk b4 133 B0,B1,.obj aa (.map ae ah),eV,bQ,.blk b8 133 [.slice au ba.length av,.slice az bw.length aQ]] ig:=uJ
 have uL:SW w [B1,.obj aa (.map ae ah)] U bT [.blk b4 133 B0,B1,.obj aa (.map ae ah),eV,bQ,.blk b8 133 [.slice au ((nB ba bu 0).length) av,.slice az bw.length aQ]] ig:=by simpa only [B0,B1,bQ,eV,nK] using uK
 refine zw (ZE (zK (rR fL2 Z (oR Z (Zd (zj Z dE Z) (congrArg (jV) fP.out)) (oM Z Z (zw ?_))))))
 cases wH
 exact zK ⟨Z,⟨bT,Z,fu,dA,fw,fy,dB,eE,gf,uL,(nK.trans fE)⟩⟩
 have l8:=mr;rw [if_neg bd] at l8;replace bd:=zL bd
 refine ZJ Z Z Z (wF Z bd) Z Z (ZJ Z Z Z (wF Z bd) Z dA (rU Z (wF Z bd) (Runs.eql Z Z Z) (oR Z (zz Z (Za bd.out) Z) (eN (ifc l8 ?_ ?_)))))
 intro fc wI
 refine cT Z fc (rR (wEu (.fx 4 .nil .stop)) Z (oR Z (zE Z dB ZU Z zW) (oL Z (cd.ldB (j:=5) Z Z Z zX (v:=.slice au ba.length av) Z) (oM Z Z (bnK wI fun _ eJ wJ=>?_)))))
 obtain ⟨Ac,lI⟩:=cd.rowSome (j:=3) rfl (by rw [wAI (f:=KL.encI) (sz:=1) (fun _=>rfl) ba];have hz:=wAW eJ;omega)
 refine oR Z (ZP Z Z lI Z zD zC (wAW eJ)) ?_
 have wk:=wBL (xs:=ba) (wAW eJ)
 refine yp (j:=3) (vs:=[jV 0]) (cs':=hH KL.encI (nB ba bu 0)) rfl rfl rfl rfl cd rfl lI rfl rfl rfl zC (by rw [wAI (f:=KL.encI) (sz:=1) (fun _=>rfl)];have hz:=wAW eJ;show _ + 1 <= _;first | omega | (simp only [nI];omega) | (simp only [nH,nE,nG];omega)) rfl (wDW (sz:=1) (fo:=0) (fun _=>rfl) _ _ _ _ wk (by first | omega | (simp only [nI];omega) | (simp only [nH,nE,nG];omega)) (zA rfl) rfl) rfl ?_
 intro ii uM
 let eW:Res:=.row au av 3 1 (hH KL.encI (nB ba bu 0))
 have uN:SW w [B1,.obj aa (.map ae ah)] U bT [.blk b4 133 B0,B1,.obj aa (.map ae ah),eW,bQ,.blk b8 133 [.slice au ba.length av,.slice az bw.length aQ]] ii:=uM
 have uO:SW w [B1,.obj aa (.map ae ah)] U bT [.blk b4 133 B0,B1,.obj aa (.map ae ah),eW,bQ,.blk b8 133 [.slice au ((nB ba bu 0).length) av,.slice az bw.length aQ]] ii:=by simpa only [B0,B1,bQ,eW,nK] using uN
 refine zw (ZE (zK (rR fL2 Z (oR Z (Zd (zj Z dE Z) (congrArg (jV) fP.out)) (oM Z Z (zw ?_))))))
 cases wJ
 exact zK ⟨Z,⟨bT,Z,fu,dA,fw,fy,dB,eE,gf,uO,(nK.trans fE)⟩⟩
 intro fc wK
 refine cF Z fc (Zr (ZE (zK (rR fL2 Z (oR Z (Zd (zj Z dE Z) (congrArg (jV) fP.out)) (oM Z Z (zw ?_)))))))
 cases wK
 exact zK ⟨Z,⟨bT,Z,fu,dA,fw,fy,dB,eE,gf,cd,fE⟩⟩
 rintro Bi x8 ⟨gM,s9,ji,Ak,oY,o0,o3,o5,xl,fJ,tp⟩
 have oH:Hid (¬ ((↑(((↑l9.length:Int):Int) - 0).toNat:Int) < (↑l9.length:Int))):=zL (wBB)
 refine sR fL1 Z (oR Z (zf Z s9 o5) (eN (zJ (cF Z oH (Zf (zo (zo (ZX (zK (sR fL1 Z (oA Z Z (eN (zJ (sR fL7 Z (oM Z ji (oR Z (Zz Z Z) (oR Z (zE Z Z ZK Z Zw) (oL Z (fJ.ldB (j:=1) Z Z Z yB (v:=.map (some aa)) Z) (oL Z (fJ.lenM (j:=2) (mk:=wBP) (mv:=wBV) Z Z Z (wBn ZF) cQ) (oR Z (zj Z Z Z) (oM Z Z (eN (zd ?_)))))))))))))))))))))))
 have q:=wCQ fW
 obtain ⟨AX,fO⟩:=q
 have q:=wCP fO
 obtain ⟨fU,wg⟩:=q
 replace fU:=zL fU
 refine yP (fun bv (eP,eQ,mP) σ_ w_=>∃ (U_:PHeap),σ_ 55=jV (↑bv:Int)/\σ_ 0=.pointer (some ⟨aj,0,none⟩)/\σ_ 2=.bool p2/\σ_ 6=.pointer (some ⟨b4,0,none⟩)/\σ_ 9=.pointer (some ⟨b8,0,none⟩)/\σ_ 11=jV mP/\σ_ 54=jV (w64 ((↑(p0.number.length):Int) + 1))/\PHeap.Le gM U_/\SW w [B1,.obj aa (.map ae ah)] U U_ [.blk b4 133 B0,B1,.obj aa (.map ae ah),.row au av 3 1 (hH KL.encI eP),.row az aQ 3 1 (hH KL.encI eQ),.blk b8 133 [.slice au eP.length av,.slice az eQ.length aQ]] w_/\eP.length=l9.length/\eQ.length=bw.length) wg ?_ ?_ ?_
 exact ⟨gM,Z,ji,oY,o0,o3,Z,Z,(zQ _),fJ,tp,Z⟩
 rintro bv ⟨eP,eQ,mP⟩ Bb Bj yu fR ⟨gN,lE,jj,o6,o7,o8,Al,jk,mH,lS,tq,tr⟩ ms wb
 try dsimp only at ms
 have iR:Hid ((↑bv:Int) < (w64 ((↑(p0.number.length):Int) + 1))):=zL (wBm fR)
 replace fR:=zL fR
 have wE:Hid (w64 ((↑bv:Int) + 1)=(↑(bv + 1):Int)):=zL (by have h1:=fU.out;have h2:=iR.out;rw [wAZ] <;> omega)
 refine sR fL1 Z (oR Z (zf Z lE jk) (eN (zJ (cT Z iR (kN (zJ (zd (sR fL1 Z (oA Z Z (eN (zJ (sR fL6 Z (oM Z jj (oR Z (Zz Z Z) (oR Z (zE Z Z ZK Z yk) (oL Z (lS.ldB (j:=1) Z Z Z Tryz.isAgg137 (v:=.slice bp p0.edges.length bq) Z) (oR Z (zi Z Z Tryz.runUnderlying137) (oM Z Z (eN (zd ?_))))))))))))))))))))
 have q:=bnd ms
 obtain ⟨⟨mR,mS,Be⟩,wh,ma⟩:=q
 try dsimp only at ma
 have q:=wCw wh
 obtain ⟨fV,wi⟩:=q
 replace fV:=zL fV
 refine CK.forN' (fun aY (aq,aU,mQ) σ_ w_=>∃ (U_:PHeap),σ_ 62=jV (↑aY:Int)/\σ_ 0=.pointer (some ⟨aj,0,none⟩)/\σ_ 2=.bool p2/\σ_ 6=.pointer (some ⟨b4,0,none⟩)/\σ_ 9=.pointer (some ⟨b8,0,none⟩)/\σ_ 11=jV mQ/\σ_ 54=jV (w64 ((↑(p0.number.length):Int) + 1))/\σ_ 55=jV (↑bv:Int)/\σ_ 60=.slice bp p0.edges.length bq/\σ_ 61=jV (↑p0.edges.length:Int)/\PHeap.Le gN U_/\SW w [B1,.obj aa (.map ae ah)] U U_ [.blk b4 133 B0,B1,.obj aa (.map ae ah),.row au av 3 1 (hH KL.encI aq),.row az aQ 3 1 (hH KL.encI aU),.blk b8 133 [.slice au aq.length av,.slice az aU.length aQ]] w_/\aq.length=l9.length/\aU.length=bw.length) wi ?_ ?_ ?_
 exact ⟨gN,Z,jj,o6,o7,o8,Z,jk,lE,Z,Z,(zQ _),lS,tq,tr⟩
 rintro aY ⟨aq,aU,mQ⟩ Bc Bk yv fS ⟨aW,bF,cK,b5,cL,bm,eF,cM,cN,b9,cb,mI,lT,cO,cP⟩ mu
 try dsimp only at mu
 have iT:Hid ((↑aY:Int) < (↑p0.edges.length:Int)):=zL (wBm fS)
 replace fS:=zL fS
 have wG:Hid (w64 ((↑aY:Int) + 1)=(↑(aY + 1):Int)):=zL (by have h1:=fV.out;have h2:=iT.out;rw [wAZ] <;> omega)
 refine sR fL1 Z (oR Z (zf Z bF cb) (eN (zJ (cT Z iT (kN ?_)))))
 have q:=bnd mu
 obtain ⟨⟨fZ,ga,xF⟩,xb,mb⟩:=q
 try dsimp only at mb
 refine yQ (fun σ_ w_=>∃ (U_:PHeap),σ_ 0=.pointer (some ⟨aj,0,none⟩)/\σ_ 2=.bool p2/\σ_ 6=.pointer (some ⟨b4,0,none⟩)/\σ_ 9=.pointer (some ⟨b8,0,none⟩)/\σ_ 11=jV xF/\σ_ 54=jV (w64 ((↑(p0.number.length):Int) + 1))/\σ_ 55=jV (↑bv:Int)/\σ_ 60=.slice bp p0.edges.length bq/\σ_ 61=jV (↑p0.edges.length:Int)/\σ_ 62=jV (↑aY:Int)/\PHeap.Le aW U_/\SW w [B1,.obj aa (.map ae ah)] U U_ [.blk b4 133 B0,B1,.obj aa (.map ae ah),.row au av 3 1 (hH KL.encI fZ),.row az aQ 3 1 (hH KL.encI ga),.blk b8 133 [.slice au fZ.length av,.slice az ga.length aQ]] w_/\fZ.length=l9.length/\ga.length=bw.length) ?_ ?_
 refine zd (sR (wEF (.fx 3 (.fl 4 (.fx 5 .nil .stop)) .stop)) Z (oM Z bF (bnK xb fun ap lF wL=>?_)))
 have tu:=wa.le xk
 have tv:=tu.le xl
 have tw:=tv.le mH
 have tz:=tw.le mI
 have q:=tz.el (fun _=>rfl) (wAR lF)
 obtain ⟨Ad,AW,tY,tZ⟩:=q
 refine oR Z (ZP Z b9 tY bF Tryz.runUnderlying137 Tryz.sizeOf184 (wBi lF)) (oL Z (lT.ldCA (f:=0) tZ Z Z Tryz.isAgg184 Tryz.sizeOf184 (us:=[jV ap.step.Kind,jV ap.step.Skier,jV ap.step.Index,.bool ap.step.Up,jV ap.from_,jV ap.to_,jV ap.count]) Z Z) (zV (cs:=[jV 0,jV 0,jV 0,.bool false,jV 0,jV 0,jV 0]) Z Z Z Z Z Tryz.zeroValue184 Z lT ?_))
 intro yw a0 uP
 refine oA Z Z ?_
 let aV:List Value:=[jV ap.step.Kind,jV ap.step.Skier,jV ap.step.Index,.bool ap.step.Up,jV ap.from_,jV ap.to_,jV ap.count]
 refine zY (j:=0) (vs:=aV) Z Z Z Z uP Z Z Z Z Tryz.sizeOf184 (zA Z) Z Z Z ?_
 intro e9 uQ
 let bg:Res:=.row az aQ 3 1 (hH KL.encI aU)
 let bE:Res:=.blk b8 133 [.slice au aq.length av,.slice az aU.length aQ]
 have uR:SW w [B1,.obj aa (.map ae ah)] U aW [.blk a0 184 aV,.blk b4 133 B0,B1,.obj aa (.map ae ah),.row au av 3 1 (hH KL.encI aq),bg,bE] e9:=uQ
 refine eN (zJ (zx zn [3,1,3,1,3,3] fL6 (by kernel_rfl) ?_))
 have dF:=uR.drew
 generalize hw_W1431:({ e9 with drawn:=e9.drawn + 1 }:World)=d7 at dF ⊢
 refine oR Z (zE Z Z yb Z zC) (oL Z (dF.ldB (j:=0) Z Z Z zF (v:=jV ap.from_) Z) (oR Z (zE Z Z yb Z zC) (oL Z (dF.ldB (j:=0) Z Z Z zF (v:=jV ap.to_) Z) (oA Z Z (oA Z Z (eN (zJ (sR fL1 Z (oM Z b5 (eN (ifc wL ?_ ?_)))))))))))
 intro fd wM
 refine ZG (congrArg nA fd.out) (rR fL4 rfl (ZJ rfl rfl rfl rfl rfl rfl (ZJ rfl rfl rfl rfl rfl rfl (yi rfl rfl rfl rfl rfl rfl (yi rfl rfl rfl rfl rfl rfl (eN (zJ (zx zn [3,1,3,3,1,3,3,3,1,3,3,1,3,1,3,3,1,3,3,1,3,3] fL22 (by kernel_rfl) ?_))))))))
 have bn:=dF.drew
 generalize hw_W1435:({ d7 with drawn:=d7.drawn + 1 }:World)=ij at bn ⊢
 refine oR Z (zE Z bm ZU Z zW) (oL Z (bn.ldB (j:=6) Z Z Z zX (v:=.slice au aq.length av) Z) (oM Z Z (bnK wM fun _ bA wN=>?_)))
 obtain ⟨Ae,br⟩:=bn.rowSome (j:=4) rfl (by rw [wAI (f:=KL.encI) (sz:=1) (fun _=>rfl) aq];have hz:=wAW bA;omega)
 refine oR Z (ZB Z Z br Z zD zC (wCf bA) (wCg bA)) ?_
 have wl:=wBL (xs:=aq) (wAW bA)
 refine ZI rfl rfl rfl rfl (bn.ldR (j:=4) rfl br rfl rfl zF (wAX (sz:=1) (fun _=>rfl) _ _ 0 _ wl (by first | omega | rfl | simp) rfl)) rfl (zq rfl rfl rfl rfl (fun _=>zf rfl rfl rfl) (ZJ rfl rfl rfl rfl rfl rfl (ifc wN ?_ ?_)))
 intro aS wO
 refine rU Z (wT Z aS) (zE Z bm ZU Z zW) (ZI Z Z Z (wT Z aS) (bn.ldB (j:=6) Z Z Z zX (v:=.slice au aq.length av) Z) Z (ZJ Z Z Z (wT Z aS) Z Z (rU Z (wT Z aS) (ZB Z Z br Z zD zC (wCf bA) (wCg bA)) ?_)))
 have wn:=wBL (xs:=aq) (wAW bA)
 refine ZI rfl rfl rfl (zO rfl rfl (Zp aS.out)) (bn.ldR (j:=4) rfl br rfl rfl zF (wAX (sz:=1) (fun _=>rfl) _ _ 0 _ wn (by first | omega | rfl | simp) rfl)) rfl (zq rfl rfl rfl (zO rfl rfl (Zp aS.out)) (fun _=>zE rfl rfl yb rfl zC) (ZI rfl rfl rfl (zO rfl rfl (Zp aS.out)) (bn.ldB (j:=0) rfl rfl rfl zF (v:=jV ap.count) rfl) rfl (zq rfl rfl rfl (zO rfl rfl (Zp aS.out)) (fun _=>zj rfl rfl rfl) (zq rfl rfl rfl (zO rfl rfl (Zp aS.out)) (fun _=>zE rfl bm ZU rfl zW) (ZI rfl rfl rfl (zO rfl rfl (Zp aS.out)) (bn.ldB (j:=6) rfl rfl rfl zX (v:=.slice au aq.length av) rfl) rfl (ZJ rfl rfl rfl (zO rfl rfl (Zp aS.out)) rfl rfl (bnK wO fun _ bG wP=>zq rfl rfl rfl (zO rfl rfl (Zp aS.out)) (fun _=>ZB rfl rfl br rfl zD zC (wCf bG) (wCg bG)) ?_)))))))
 have wo:=wBL (xs:=aq) (wAW bG)
 refine ZI rfl rfl rfl (zO rfl rfl (Zp aS.out)) (bn.ldR (j:=4) rfl br rfl rfl zF (wAX (sz:=1) (fun _=>rfl) _ _ 0 _ wo (by first | omega | rfl | simp) rfl)) rfl (zq rfl rfl rfl (zO rfl rfl (Zp aS.out)) (fun _=>zf rfl rfl rfl) (zq rfl rfl rfl rfl (fun _=>zm rfl (Zp aS.out) rfl) (eN (ifc wP ?_ ?_))))
 intro ff wQ
 refine cT Z ff ?_
 have q:=bnd wQ
 obtain ⟨⟨⟩,xc,mc⟩:=q
 try dsimp only at mc
 let bh:Res:=.row au av 3 1 (hH KL.encI (nB aq ap.from_.toNat (w64 ((gd aq ap.to_.toNat) + ap.count))))
 let df:Res:=.blk b8 133 [.slice au ((nB aq ap.from_.toNat (w64 ((gd aq ap.to_.toNat) + ap.count))).length) av,.slice az ((nB aU ap.from_.toNat (↑aY:Int)).length) aQ]
 let bR:Res:=.row az aQ 3 1 (hH KL.encI (nB aU ap.from_.toNat (↑aY:Int)))
 refine yQ (fun σ_ w_=>∃ (U_:PHeap),σ_ 0=.pointer (some ⟨aj,0,none⟩)/\σ_ 2=.bool p2/\σ_ 6=.pointer (some ⟨b4,0,none⟩)/\σ_ 9=.pointer (some ⟨b8,0,none⟩)/\σ_ 15=jV ap.from_/\σ_ 54=jV (w64 ((↑(p0.number.length):Int) + 1))/\σ_ 55=jV (↑bv:Int)/\σ_ 60=.slice bp p0.edges.length bq/\σ_ 61=jV (↑p0.edges.length:Int)/\σ_ 62=jV (↑aY:Int)/\PHeap.Le aW U_/\SW w [B1,.obj aa (.map ae ah)] U U_ [.blk a0 184 aV,.blk b4 133 B0,B1,.obj aa (.map ae ah),bh,bR,df] w_) ?_ ?_
 refine yj fun bj be=>?_
 have jl:bj 0=.pointer (some ⟨aj,0,none⟩):=(be 0).trans cK
 have jm:bj 2=.bool p2:=(be 2).trans b5
 have jo:bj 6=.pointer (some ⟨b4,0,none⟩):=(be 6).trans cL
 have dC:bj 9=.pointer (some ⟨b8,0,none⟩):=(be 9).trans bm
 have o9:bj 12=jV (↑aY:Int):=(be 12).trans rfl
 have pe:bj 13=.pointer (some ⟨a0,0,none⟩):=(be 13).trans rfl
 have pf:bj 14=jV ap.to_:=(be 14).trans rfl
 have eG:bj 15=jV ap.from_:=(be 15).trans rfl
 have jp:bj 54=jV (w64 ((↑(p0.number.length):Int) + 1)):=(be 54).trans cM
 have jq:bj 55=jV (↑bv:Int):=(be 55).trans cN
 have jr:bj 60=.slice bp p0.edges.length bq:=(be 60).trans b9
 have jt:bj 61=jV (↑p0.edges.length:Int):=(be 61).trans cb
 have ju:bj 62=jV (↑aY:Int):=(be 62).trans bF
 clear be
 refine bnK xc fun _ bB md=>zx zn [3,1,3,3,2,3,3,1,3,3,1,3,1,3,3,3,0,3,0] (wEu (wQv gCz)) (by kernel_rfl) ?_
 have bJ:=bn.drew
 generalize hw_W1484:({ ij with drawn:=ij.drawn + 1 }:World)=yy at bJ ⊢
 refine oR Z (zE Z dC ZU Z zW) (oL Z (bJ.ldB (j:=6) Z Z Z zX (v:=.slice au aq.length av) Z) (oM Z eG (oR Z (zE Z dC ZU Z zW) (oM Z eG (oR Z (zE Z dC ZU Z zW) (oL Z (bJ.ldB (j:=6) Z Z Z zX (v:=.slice au aq.length av) Z) (oM Z pf (oR Z (ZB Z Z br Z zD zC (wCf bA) (wCg bA)) ?_))))))))
 have wp:=wBL (xs:=aq) (wAW bA)
 refine ZI rfl rfl rfl rfl (bJ.ldR (j:=4) rfl br rfl rfl zF (wAX (sz:=1) (fun _=>rfl) _ _ 0 _ wp (by first | omega | rfl | simp) rfl)) rfl (zq rfl rfl rfl rfl (fun _=>zE rfl pe yb rfl zC) (ZI rfl rfl rfl rfl (bJ.ldB (j:=0) rfl rfl rfl zF (v:=jV ap.count) rfl) rfl (zq rfl rfl rfl rfl (fun _=>zj rfl rfl rfl) (ZJ rfl rfl rfl rfl rfl o9 (zq rfl rfl rfl rfl (fun _=>ZB rfl rfl br rfl zD zC (wCf bG) (wCg bG)) (zt ?_ ?_))))))
 refine Zc Z Z Z Z (bJ.ldB (j:=6) Z Z Z zX (v:=.slice az aU.length aQ) Z) ?_
 have wq:=wBL (xs:=aq) (wAW bG)
 refine yp (j:=4) (vs:=[jV (w64 ((gd aq ap.to_.toNat) + ap.count))]) (cs':=hH KL.encI (nB aq ap.from_.toNat (w64 ((gd aq ap.to_.toNat) + ap.count)))) rfl rfl rfl rfl bJ rfl br rfl rfl rfl zC (by rw [wAI (f:=KL.encI) (sz:=1) (fun _=>rfl)];have hz:=wAW bG;show _ + 1 <= _;first | omega | (simp only [nI];omega) | (simp only [nH,nE,nG];omega)) rfl (wDW (sz:=1) (fo:=0) (fun _=>rfl) _ _ _ _ wq (by first | omega | (simp only [nI];omega) | (simp only [nH,nE,nG];omega)) (zA rfl) rfl) rfl ?_
 intro ik uS
 have uT:SW w [B1,.obj aa (.map ae ah)] U aW [.blk a0 184 aV,.blk b4 133 B0,B1,.obj aa (.map ae ah),bh,bg,bE] ik:=uS
 let dY:Res:=.blk b8 133 [.slice au ((nB aq ap.from_.toNat (w64 ((gd aq ap.to_.toNat) + ap.count))).length) av,.slice az aU.length aQ]
 have lU:SW w [B1,.obj aa (.map ae ah)] U aW [.blk a0 184 aV,.blk b4 133 B0,B1,.obj aa (.map ae ah),bh,bg,dY] ik:=by simpa only [B0,B1,aV,bg,bE,bh,dY,nK] using uT
 obtain ⟨Af,lJ⟩:=lU.rowSome (j:=5) rfl (by rw [wAI (f:=KL.encI) (sz:=1) (fun _=>rfl) aU];have hz:=wAW bB;omega)
 refine oR Z (ZB Z Z lJ Z zD zC (wCf bB) (wCg bB)) ?_
 have wt:=wBL (xs:=aU) (wAW bB)
 refine yp (j:=5) (vs:=[jV (↑aY:Int)]) (cs':=hH KL.encI (nB aU ap.from_.toNat (↑aY:Int))) rfl rfl rfl rfl lU rfl lJ rfl rfl rfl zC (by rw [wAI (f:=KL.encI) (sz:=1) (fun _=>rfl)];have hz:=wAW bB;show _ + 1 <= _;first | omega | (simp only [nI];omega) | (simp only [nH,nE,nG];omega)) rfl (wDW (sz:=1) (fo:=0) (fun _=>rfl) _ _ _ _ wt (by first | omega | (simp only [nI];omega) | (simp only [nH,nE,nG];omega)) (zA rfl) rfl) rfl ?_
 intro il uU
 have uV:SW w [B1,.obj aa (.map ae ah)] U aW [.blk a0 184 aV,.blk b4 133 B0,B1,.obj aa (.map ae ah),bh,bR,dY] il:=uU
 have uW:SW w [B1,.obj aa (.map ae ah)] U aW [.blk a0 184 aV,.blk b4 133 B0,B1,.obj aa (.map ae ah),bh,bR,df] il:=by simpa only [B0,B1,aV,bh,df,bR,dY,nK] using uV
 refine zw ?_
 cases md
 exact zK ⟨Z,⟨aW,jl,jm,jo,dC,eG,jp,jq,jr,jt,ju,(zQ _),uW⟩⟩
 have wu:=wBL (xs:=aq) (wAW bG)
 refine yp (j:=4) (vs:=[jV (w64 ((gd aq ap.to_.toNat) + ap.count))]) (cs':=hH KL.encI (nB aq ap.from_.toNat (w64 ((gd aq ap.to_.toNat) + ap.count)))) rfl rfl rfl rfl bJ rfl br rfl rfl rfl zC (by rw [wAI (f:=KL.encI) (sz:=1) (fun _=>rfl)];have hz:=wAW bG;show _ + 1 <= _;first | omega | (simp only [nI];omega) | (simp only [nH,nE,nG];omega)) rfl (wDW (sz:=1) (fo:=0) (fun _=>rfl) _ _ _ _ wu (by first | omega | (simp only [nI];omega) | (simp only [nH,nE,nG];omega)) (zA rfl) rfl) rfl ?_
 intro im uX
 have uY:SW w [B1,.obj aa (.map ae ah)] U aW [.blk a0 184 aV,.blk b4 133 B0,B1,.obj aa (.map ae ah),bh,bg,bE] im:=uX
 let dZ:Res:=.blk b8 133 [.slice au ((nB aq ap.from_.toNat (w64 ((gd aq ap.to_.toNat) + ap.count))).length) av,.slice az aU.length aQ]
 have fK:SW w [B1,.obj aa (.map ae ah)] U aW [.blk a0 184 aV,.blk b4 133 B0,B1,.obj aa (.map ae ah),bh,bg,dZ] im:=by simpa only [B0,B1,aV,bg,bE,bh,dZ,nK] using uY
 refine Zc Z Z Z Z (fK.ldB (j:=6) Z Z Z zX (v:=.slice az aU.length aQ) Z) ?_
 obtain ⟨Ag,lK⟩:=fK.rowSome (j:=5) rfl (by rw [wAI (f:=KL.encI) (sz:=1) (fun _=>rfl) aU];have hz:=wAW bB;omega)
 refine oR Z (ZB Z Z lK Z zD zC (wCf bB) (wCg bB)) ?_
 have wv:=wBL (xs:=aU) (wAW bB)
 refine yp (j:=5) (vs:=[jV (↑aY:Int)]) (cs':=hH KL.encI (nB aU ap.from_.toNat (↑aY:Int))) rfl rfl rfl rfl fK rfl lK rfl rfl rfl zC (by rw [wAI (f:=KL.encI) (sz:=1) (fun _=>rfl)];have hz:=wAW bB;show _ + 1 <= _;first | omega | (simp only [nI];omega) | (simp only [nH,nE,nG];omega)) rfl (wDW (sz:=1) (fo:=0) (fun _=>rfl) _ _ _ _ wv (by first | omega | (simp only [nI];omega) | (simp only [nH,nE,nG];omega)) (zA rfl) rfl) rfl ?_
 intro io uZ
 have u7:SW w [B1,.obj aa (.map ae ah)] U aW [.blk a0 184 aV,.blk b4 133 B0,B1,.obj aa (.map ae ah),bh,bR,dZ] io:=uZ
 have u9:SW w [B1,.obj aa (.map ae ah)] U aW [.blk a0 184 aV,.blk b4 133 B0,B1,.obj aa (.map ae ah),bh,bR,df] io:=by simpa only [B0,B1,aV,bh,df,bR,dZ,nK] using u7
 refine zw ?_
 cases md
 exact zK ⟨Z,⟨aW,jl,jm,jo,dC,eG,jp,jq,jr,jt,ju,(zQ _),u9⟩⟩
 rintro Bl yz ⟨mW,pg,ph,pj,pk,pm,pn,po,pp,pq,pu,xm,va⟩
 refine rR fL2 Z (oM Z pm (oA Z Z (zw (ZE ?_))))
 cases mc
 exact zK ⟨rfl,⟨mW,pg,ph,pj,pk,rfl,pn,po,pp,pq,pu,xm,(va.pick [1,2,3,4,5,6] _ (by decide) rfl),(nK.trans cO),(nK.trans cP)⟩⟩
 intro ff wR
 refine cF Z ff (Zr (ZE ?_))
 cases wR
 exact zK ⟨rfl,⟨aW,cK,b5,cL,bm,eF,cM,cN,b9,cb,bF,(zQ _),(bn.pick [1,2,3,4,5,6] _ (by decide) rfl),cO,cP⟩⟩
 intro aS wS
 refine oF Z aS (oF Z aS (oF Z aS (oF Z aS (oF Z aS (oF Z aS (oF Z aS (oF Z aS (oF Z aS (oF Z aS (oF Z aS (oF Z aS (oF Z aS (oF Z aS (oR Z (zz Z (Za aS.out) Z) (eN (zr Z (Zr (ZE ?_))))))))))))))))))
 cases wS
 exact zK ⟨rfl,⟨aW,cK,b5,cL,bm,eF,cM,cN,b9,cb,bF,(zQ _),(bn.pick [1,2,3,4,5,6] _ (by decide) rfl),cO,cP⟩⟩
 intro fd wU
 refine zr (congrArg nA (nD.2 fd.out)) (kN (zJ (zx zn [3,1,3,3,1,3,3,3,1,3,3,1,3,1,3,3,1,3,3,1,3,3] fL22 (by kernel_rfl) ?_)))
 have bo:=dF.drew
 generalize hw_W1538:({ d7 with drawn:=d7.drawn + 1 }:World)=ip at bo ⊢
 refine oR Z (zE Z bm ZU Z zW) (oL Z (bo.ldB (j:=6) Z Z Z zX (v:=.slice au aq.length av) Z) (oM Z Z (bnK wU fun _ bC wV=>?_)))
 obtain ⟨Ah,bs⟩:=bo.rowSome (j:=4) rfl (by rw [wAI (f:=KL.encI) (sz:=1) (fun _=>rfl) aq];have hz:=wAW bC;omega)
 refine oR Z (ZB Z Z bs Z zD zC (wCf bC) (wCg bC)) ?_
 have ww:=wBL (xs:=aq) (wAW bC)
 refine ZI rfl rfl rfl rfl (bo.ldR (j:=4) rfl bs rfl rfl zF (wAX (sz:=1) (fun _=>rfl) _ _ 0 _ ww (by first | omega | rfl | simp) rfl)) rfl (zq rfl rfl rfl rfl (fun _=>zf rfl rfl rfl) (ZJ rfl rfl rfl rfl rfl rfl (ifc wV ?_ ?_)))
 intro aT wW
 refine rU Z (wT Z aT) (zE Z bm ZU Z zW) (ZI Z Z Z (wT Z aT) (bo.ldB (j:=6) Z Z Z zX (v:=.slice au aq.length av) Z) Z (ZJ Z Z Z (wT Z aT) Z Z (rU Z (wT Z aT) (ZB Z Z bs Z zD zC (wCf bC) (wCg bC)) ?_)))
 have wx:=wBL (xs:=aq) (wAW bC)
 refine ZI rfl rfl rfl (zO rfl rfl (Zp aT.out)) (bo.ldR (j:=4) rfl bs rfl rfl zF (wAX (sz:=1) (fun _=>rfl) _ _ 0 _ wx (by first | omega | rfl | simp) rfl)) rfl (zq rfl rfl rfl (zO rfl rfl (Zp aT.out)) (fun _=>zE rfl rfl yb rfl zC) (ZI rfl rfl rfl (zO rfl rfl (Zp aT.out)) (bo.ldB (j:=0) rfl rfl rfl zF (v:=jV ap.count) rfl) rfl (zq rfl rfl rfl (zO rfl rfl (Zp aT.out)) (fun _=>zj rfl rfl rfl) (zq rfl rfl rfl (zO rfl rfl (Zp aT.out)) (fun _=>zE rfl bm ZU rfl zW) (ZI rfl rfl rfl (zO rfl rfl (Zp aT.out)) (bo.ldB (j:=6) rfl rfl rfl zX (v:=.slice au aq.length av) rfl) rfl (ZJ rfl rfl rfl (zO rfl rfl (Zp aT.out)) rfl rfl (bnK wW fun _ bH wX=>zq rfl rfl rfl (zO rfl rfl (Zp aT.out)) (fun _=>ZB rfl rfl bs rfl zD zC (wCf bH) (wCg bH)) ?_)))))))
 have wy:=wBL (xs:=aq) (wAW bH)
 refine ZI rfl rfl rfl (zO rfl rfl (Zp aT.out)) (bo.ldR (j:=4) rfl bs rfl rfl zF (wAX (sz:=1) (fun _=>rfl) _ _ 0 _ wy (by first | omega | rfl | simp) rfl)) rfl (zq rfl rfl rfl (zO rfl rfl (Zp aT.out)) (fun _=>zf rfl rfl rfl) (zq rfl rfl rfl rfl (fun _=>zm rfl (Zp aT.out) rfl) (eN (ifc wX ?_ ?_))))
 intro fg wY
 refine cT Z fg ?_
 have q:=bnd wY
 obtain ⟨⟨⟩,xd,me⟩:=q
 try dsimp only at me
 let bi:Res:=.row au av 3 1 (hH KL.encI (nB aq ap.to_.toNat (w64 ((gd aq ap.from_.toNat) + ap.count))))
 let dg:Res:=.blk b8 133 [.slice au ((nB aq ap.to_.toNat (w64 ((gd aq ap.from_.toNat) + ap.count))).length) av,.slice az ((nB aU ap.to_.toNat (↑aY:Int)).length) aQ]
 let bS:Res:=.row az aQ 3 1 (hH KL.encI (nB aU ap.to_.toNat (↑aY:Int)))
 refine yQ (fun σ_ w_=>∃ (U_:PHeap),σ_ 0=.pointer (some ⟨aj,0,none⟩)/\σ_ 2=.bool p2/\σ_ 6=.pointer (some ⟨b4,0,none⟩)/\σ_ 9=.pointer (some ⟨b8,0,none⟩)/\σ_ 15=jV ap.to_/\σ_ 54=jV (w64 ((↑(p0.number.length):Int) + 1))/\σ_ 55=jV (↑bv:Int)/\σ_ 60=.slice bp p0.edges.length bq/\σ_ 61=jV (↑p0.edges.length:Int)/\σ_ 62=jV (↑aY:Int)/\PHeap.Le aW U_/\SW w [B1,.obj aa (.map ae ah)] U U_ [.blk a0 184 aV,.blk b4 133 B0,B1,.obj aa (.map ae ah),bi,bS,dg] w_) ?_ ?_
 refine yj fun bk bf=>?_
 have jv:bk 0=.pointer (some ⟨aj,0,none⟩):=(bf 0).trans cK
 have jw:bk 2=.bool p2:=(bf 2).trans b5
 have jx:bk 6=.pointer (some ⟨b4,0,none⟩):=(bf 6).trans cL
 have dD:bk 9=.pointer (some ⟨b8,0,none⟩):=(bf 9).trans bm
 have py:bk 12=jV (↑aY:Int):=(bf 12).trans rfl
 have pz:bk 13=.pointer (some ⟨a0,0,none⟩):=(bf 13).trans rfl
 have pB:bk 14=jV ap.from_:=(bf 14).trans rfl
 have eH:bk 15=jV ap.to_:=(bf 15).trans rfl
 have jy:bk 54=jV (w64 ((↑(p0.number.length):Int) + 1)):=(bf 54).trans cM
 have jz:bk 55=jV (↑bv:Int):=(bf 55).trans cN
 have jA:bk 60=.slice bp p0.edges.length bq:=(bf 60).trans b9
 have jB:bk 61=jV (↑p0.edges.length:Int):=(bf 61).trans cb
 have jC:bk 62=jV (↑aY:Int):=(bf 62).trans bF
 clear bf
 refine bnK xd fun _ bD mf=>zx zn [3,1,3,3,2,3,3,1,3,3,1,3,1,3,3,3,0,3,0] (wEu (wQv gCz)) (by kernel_rfl) ?_
 have bK:=bo.drew
 generalize hw_W1587:({ ip with drawn:=ip.drawn + 1 }:World)=y4 at bK ⊢
 refine oR Z (zE Z dD ZU Z zW) (oL Z (bK.ldB (j:=6) Z Z Z zX (v:=.slice au aq.length av) Z) (oM Z eH (oR Z (zE Z dD ZU Z zW) (oM Z eH (oR Z (zE Z dD ZU Z zW) (oL Z (bK.ldB (j:=6) Z Z Z zX (v:=.slice au aq.length av) Z) (oM Z pB (oR Z (ZB Z Z bs Z zD zC (wCf bC) (wCg bC)) ?_))))))))
 have wz:=wBL (xs:=aq) (wAW bC)
 refine ZI rfl rfl rfl rfl (bK.ldR (j:=4) rfl bs rfl rfl zF (wAX (sz:=1) (fun _=>rfl) _ _ 0 _ wz (by first | omega | rfl | simp) rfl)) rfl (zq rfl rfl rfl rfl (fun _=>zE rfl pz yb rfl zC) (ZI rfl rfl rfl rfl (bK.ldB (j:=0) rfl rfl rfl zF (v:=jV ap.count) rfl) rfl (zq rfl rfl rfl rfl (fun _=>zj rfl rfl rfl) (ZJ rfl rfl rfl rfl rfl py (zq rfl rfl rfl rfl (fun _=>ZB rfl rfl bs rfl zD zC (wCf bH) (wCg bH)) (zt ?_ ?_))))))
 refine Zc Z Z Z Z (bK.ldB (j:=6) Z Z Z zX (v:=.slice az aU.length aQ) Z) ?_
 have wA:=wBL (xs:=aq) (wAW bH)
 refine yp (j:=4) (vs:=[jV (w64 ((gd aq ap.from_.toNat) + ap.count))]) (cs':=hH KL.encI (nB aq ap.to_.toNat (w64 ((gd aq ap.from_.toNat) + ap.count)))) rfl rfl rfl rfl bK rfl bs rfl rfl rfl zC (by rw [wAI (f:=KL.encI) (sz:=1) (fun _=>rfl)];have hz:=wAW bH;show _ + 1 <= _;first | omega | (simp only [nI];omega) | (simp only [nH,nE,nG];omega)) rfl (wDW (sz:=1) (fo:=0) (fun _=>rfl) _ _ _ _ wA (by first | omega | (simp only [nI];omega) | (simp only [nH,nE,nG];omega)) (zA rfl) rfl) rfl ?_
 intro iq vb
 have vc:SW w [B1,.obj aa (.map ae ah)] U aW [.blk a0 184 aV,.blk b4 133 B0,B1,.obj aa (.map ae ah),bi,bg,bE] iq:=vb
 let d5:Res:=.blk b8 133 [.slice au ((nB aq ap.to_.toNat (w64 ((gd aq ap.from_.toNat) + ap.count))).length) av,.slice az aU.length aQ]
 have lV:SW w [B1,.obj aa (.map ae ah)] U aW [.blk a0 184 aV,.blk b4 133 B0,B1,.obj aa (.map ae ah),bi,bg,d5] iq:=by simpa only [B0,B1,aV,bg,bE,bi,d5,nK] using vc
 obtain ⟨Ai,lL⟩:=lV.rowSome (j:=5) rfl (by rw [wAI (f:=KL.encI) (sz:=1) (fun _=>rfl) aU];have hz:=wAW bD;omega)
 refine oR Z (ZB Z Z lL Z zD zC (wCf bD) (wCg bD)) ?_
 have wB:=wBL (xs:=aU) (wAW bD)
 refine yp (j:=5) (vs:=[jV (↑aY:Int)]) (cs':=hH KL.encI (nB aU ap.to_.toNat (↑aY:Int))) rfl rfl rfl rfl lV rfl lL rfl rfl rfl zC (by rw [wAI (f:=KL.encI) (sz:=1) (fun _=>rfl)];have hz:=wAW bD;show _ + 1 <= _;first | omega | (simp only [nI];omega) | (simp only [nH,nE,nG];omega)) rfl (wDW (sz:=1) (fo:=0) (fun _=>rfl) _ _ _ _ wB (by first | omega | (simp only [nI];omega) | (simp only [nH,nE,nG];omega)) (zA rfl) rfl) rfl ?_
 intro ir vd
 have ve:SW w [B1,.obj aa (.map ae ah)] U aW [.blk a0 184 aV,.blk b4 133 B0,B1,.obj aa (.map ae ah),bi,bS,d5] ir:=vd
 have vg:SW w [B1,.obj aa (.map ae ah)] U aW [.blk a0 184 aV,.blk b4 133 B0,B1,.obj aa (.map ae ah),bi,bS,dg] ir:=by simpa only [B0,B1,aV,bi,dg,bS,d5,nK] using ve
 refine zw ?_
 cases mf
 exact zK ⟨Z,⟨aW,jv,jw,jx,dD,eH,jy,jz,jA,jB,jC,(zQ _),vg⟩⟩
 have wC:=wBL (xs:=aq) (wAW bH)
 refine yp (j:=4) (vs:=[jV (w64 ((gd aq ap.from_.toNat) + ap.count))]) (cs':=hH KL.encI (nB aq ap.to_.toNat (w64 ((gd aq ap.from_.toNat) + ap.count)))) rfl rfl rfl rfl bK rfl bs rfl rfl rfl zC (by rw [wAI (f:=KL.encI) (sz:=1) (fun _=>rfl)];have hz:=wAW bH;show _ + 1 <= _;first | omega | (simp only [nI];omega) | (simp only [nH,nE,nG];omega)) rfl (wDW (sz:=1) (fo:=0) (fun _=>rfl) _ _ _ _ wC (by first | omega | (simp only [nI];omega) | (simp only [nH,nE,nG];omega)) (zA rfl) rfl) rfl ?_
 intro it vh
 have vi:SW w [B1,.obj aa (.map ae ah)] U aW [.blk a0 184 aV,.blk b4 133 B0,B1,.obj aa (.map ae ah),bi,bg,bE] it:=vh
 let d6:Res:=.blk b8 133 [.slice au ((nB aq ap.to_.toNat (w64 ((gd aq ap.from_.toNat) + ap.count))).length) av,.slice az aU.length aQ]
 have fL:SW w [B1,.obj aa (.map ae ah)] U aW [.blk a0 184 aV,.blk b4 133 B0,B1,.obj aa (.map ae ah),bi,bg,d6] it:=by simpa only [B0,B1,aV,bg,bE,bi,d6,nK] using vi
 refine Zc Z Z Z Z (fL.ldB (j:=6) Z Z Z zX (v:=.slice az aU.length aQ) Z) ?_
 obtain ⟨Aj,lM⟩:=fL.rowSome (j:=5) rfl (by rw [wAI (f:=KL.encI) (sz:=1) (fun _=>rfl) aU];have hz:=wAW bD;omega)
 refine oR Z (ZB Z Z lM Z zD zC (wCf bD) (wCg bD)) ?_
 have wD:=wBL (xs:=aU) (wAW bD)
 refine yp (j:=5) (vs:=[jV (↑aY:Int)]) (cs':=hH KL.encI (nB aU ap.to_.toNat (↑aY:Int))) rfl rfl rfl rfl fL rfl lM rfl rfl rfl zC (by rw [wAI (f:=KL.encI) (sz:=1) (fun _=>rfl)];have hz:=wAW bD;show _ + 1 <= _;first | omega | (simp only [nI];omega) | (simp only [nH,nE,nG];omega)) rfl (wDW (sz:=1) (fo:=0) (fun _=>rfl) _ _ _ _ wD (by first | omega | (simp only [nI];omega) | (simp only [nH,nE,nG];omega)) (zA rfl) rfl) rfl ?_
 intro iu vj
 have vk:SW w [B1,.obj aa (.map ae ah)] U aW [.blk a0 184 aV,.blk b4 133 B0,B1,.obj aa (.map ae ah),bi,bS,d6] iu:=vj
 have vl:SW w [B1,.obj aa (.map ae ah)] U aW [.blk a0 184 aV,.blk b4 133 B0,B1,.obj aa (.map ae ah),bi,bS,dg] iu:=by simpa only [B0,B1,aV,bi,dg,bS,d6,nK] using vk
 refine zw ?_
 cases mf
 exact zK ⟨Z,⟨aW,jv,jw,jx,dD,eH,jy,jz,jA,jB,jC,(zQ _),vl⟩⟩
 rintro Bm y5 ⟨mX,pC,pD,pE,pF,pG,pH,pI,pJ,pK,pL,xn,vm⟩
 refine rR fL2 Z (oM Z pG (oA Z Z (zw (ZE ?_))))
 cases me
 exact zK ⟨rfl,⟨mX,pC,pD,pE,pF,rfl,pH,pI,pJ,pK,pL,xn,(vm.pick [1,2,3,4,5,6] _ (by decide) rfl),(nK.trans cO),(nK.trans cP)⟩⟩
 intro fg wZ
 refine cF Z fg (Zr (ZE ?_))
 cases wZ
 exact zK ⟨rfl,⟨aW,cK,b5,cL,bm,eF,cM,cN,b9,cb,bF,(zQ _),(bo.pick [1,2,3,4,5,6] _ (by decide) rfl),cO,cP⟩⟩
 intro aT w5
 refine oF Z aT (oF Z aT (oF Z aT (oF Z aT (oF Z aT (oF Z aT (oF Z aT (oF Z aT (oF Z aT (oF Z aT (oF Z aT (oF Z aT (oF Z aT (oF Z aT (oR Z (zz Z (Za aT.out) Z) (eN (zr Z (Zr (ZE ?_))))))))))))))))))
 cases w5
 exact zK ⟨rfl,⟨aW,cK,b5,cL,bm,eF,cM,cN,b9,cb,bF,(zQ _),(bo.pick [1,2,3,4,5,6] _ (by decide) rfl),cO,cP⟩⟩
 rintro Bn y6 ⟨mY,pM,pN,pO,pP,pQ,pR,pS,pT,pU,pV,xo,vn,tA,tB⟩
 refine rR fL2 Z (oR Z (Zd (zj Z pV Z) (congrArg (jV) wG.out)) (oM Z Z (zw ?_)))
 cases mb
 exact zK ⟨Z,⟨mY,Z,pM,pN,pO,pP,pQ,pR,pS,pT,pU,(mI.trans xo),vn,tA,tB⟩⟩
 rintro Bo y7 ⟨eY,tc,pW,pX,fz,jD,jE,pY,pZ,Am,p6,xp,fM,tC,tD⟩
 have oI:Hid (¬ ((↑(((↑p0.edges.length:Int):Int) - 0).toNat:Int) < (↑p0.edges.length:Int))):=zL (wBB)
 refine sR fL1 Z (oR Z (zf Z tc p6) (eN (zJ (cF Z oI (Zf (zo (zo (ZX (zK (sR fL2 Z (oM Z jE (oR Z (zf Z Z Z) (eN (ifc ma ?_ ?_))))))))))))))
 intro fh w6
 refine cT Z fh (sR gCs Z ?_)
 let cu:List Value:=[.slice au mR.length av,.slice az mS.length aQ]
 refine oL Z (fM.ldBA (j:=5) Z Z jD Tryz.isAgg133 Zq (vs:=cu) Z Z) (zY (j:=0) (vs:=cu) Z Z Z Z fM Z fz Z Z Zq (zA Z) Z Z Z ?_)
 intro od vo
 have lW:SW w [B1,.obj aa (.map ae ah)] U eY [.blk b4 133 cu,B1,.obj aa (.map ae ah),.row au av 3 1 (hH KL.encI mR),.row az aQ 3 1 (hH KL.encI mS),.blk b8 133 cu] od:=vo
 refine oA Z Z (oA Z Z (eN (zP (zg (zN ?_)))))
 have q:=wAa w6
 obtain ⟨xE,w7,oO⟩:=q
 obtain rfl:=wCK fW fO (wb xE oO)
 refine zN (zg (zN ?_))
 cases w7
 exact ⟨rfl,_,(wCx (rs:=[.cell 6 133,.tmp 7,.tmp 8]) (vs:=[.agg cu.toArray,jV 0,.bool true]) ⟨⟨_,fz,(wAs Tryz.isAgg133 Zq (lW.blkAt (k:=0) rfl) (vs:=cu) rfl rfl)⟩,⟨rfl,⟨rfl,trivial⟩⟩⟩ rfl),eY,_,(lW.pick [3,4,1,2] _ (by decide) rfl),au,av,az,aQ,rfl,rfl⟩
 intro fh w8
 refine cF Z fh (Zr (ZE (zK (rR fL2 Z (oR Z (Zd (zj Z pZ Z) (congrArg (jV) wE.out)) (oM Z Z (zw ?_)))))))
 obtain rfl:=nJ w8
 exact zK ⟨Z,_,Z,⟨eY,Z,pW,pX,fz,jD,jE,pY,(mH.trans xp),fM,tC,tD⟩⟩
 rintro ⟨mT,mU,xG⟩ Bp y8 ⟨gO,td,An,Ao,jG,p7,p8,p9,AU,lX,AJ,AL⟩ wc
 have mh:=wDE fW fO wc
 try dsimp only at mh
 have oK:Hid (¬ ((↑((w64 ((↑(p0.number.length):Int) + 1):Int) - 0).toNat:Int) < (w64 ((↑(p0.number.length):Int) + 1)))):=zL (wBB)
 refine sR fL1 Z (oR Z (zf Z td p9) (eN (zJ (cF Z oK (Zf (zo (zo (ZX (zK (sR (.fl 0 (.fl 1 (.fx 2 (.fl 3 (.fl 4 .nil)) .stop))) Z ?_))))))))))
 let cw:List Value:=[.slice au mT.length av,.slice az mU.length aQ]
 refine oL Z (lX.ldBA (j:=5) Z Z p7 Tryz.isAgg133 Zq (vs:=cw) Z Z) (oM Z p8 (zY (j:=0) (vs:=cw) Z Z Z Z lX Z jG Z Z Zq (zA Z) Z Z Z ?_))
 intro oe vp
 have lY:SW w [B1,.obj aa (.map ae ah)] U gO [.blk b4 133 cw,B1,.obj aa (.map ae ah),.row au av 3 1 (hH KL.encI mT),.row az aQ 3 1 (hH KL.encI mU),.blk b8 133 cw] oe:=vp
 refine oA Z Z (oA Z Z (eN (zP ?_)))
 cases mh
 exact ⟨rfl,_,(wCx (rs:=[.cell 6 133,.tmp 7,.tmp 8]) (vs:=[.agg cw.toArray,jV xG,.bool false]) ⟨⟨_,jG,(wAs Tryz.isAgg133 Zq (lY.blkAt (k:=0) rfl) (vs:=cw) rfl rfl)⟩,⟨rfl,⟨rfl,trivial⟩⟩⟩ rfl),gO,_,(lY.pick [3,4,1,2] _ (by decide) rfl),au,av,az,aQ,rfl,rfl⟩
end Go.Proofs.YtlnfbjphfoipaaaGreat
namespace Go.Proofs.YtlnfbjphfoipaaaGreat
open Go.KL
set_option maxHeartbeats 4000000
theorem wGw (p0:wAk) (aq:Nat) (ai:Option Addr) (au:Nat) (aj:Option Addr) (av:Nat) (ak:Option Addr) (az:Nat) (am:Option Addr) (aQ:Nat) (ab:Nat) (ae:Array MapEntry) (ah:Nat) (ap:Option Addr) (aR:Nat) (w:World) (U:PHeap) (hS:St0 w U [.blk aq 139 [.slice ai p0.Race.Starts.length au,.slice aj p0.Race.Splits.length av,.slice ak p0.Race.Clocks.length az,.slice am p0.Race.Readings.length aQ,.map (some ab),.slice ap p0.edges.length aR],.obj ab (.map ae ah)]) (bn:Sl U 1 ai au p0.Race.Starts.length (hH KL.encI p0.Race.Starts)) (bo:Sl U 2 aj av p0.Race.Splits.length (hH wAB p0.Race.Splits)) (bp:Sl U 3 ak az p0.Race.Clocks.length (hH wAD p0.Race.Clocks)) (bq:Sl U 4 am aQ p0.Race.Readings.length (hH wAC p0.Race.Readings)) (br:MpR ae wBP wBV p0.number) (bs:Sl U 7 ap aR p0.edges.length (hH wAY p0.edges)) {r:Bool} (hm:wCX p0=some r):Gv Tryz.prog 81 [.pointer (some ⟨aq,0,none⟩)] w (wCq w [.blk aq 139 [.slice ai p0.Race.Starts.length au,.slice aj p0.Race.Splits.length av,.slice ak p0.Race.Clocks.length az,.slice am p0.Race.Readings.length aQ,.map (some ab),.slice ap p0.edges.length aR],.obj ab (.map ae ah)] U (fun U_ L_ v=>v=.bool r/\L_=[.blk aq 139 [.slice ai p0.Race.Starts.length au,.slice aj p0.Race.Splits.length av,.slice ak p0.Race.Clocks.length az,.slice am p0.Race.Readings.length aQ,.map (some ab),.slice ap p0.edges.length aR],.obj ab (.map ae ah)])):=by
 unfold wCX at hm
 refine Gv.of Tryz.func81 Z Tryz.ntmps81 Tryz.results81 Z (sR fL1 Z (oA Z Z (eN (sR (.fl 0 (.fx 1 (fC2_5 (.fx 6 gCn .stop)) .stop)) Z (oM Z Z ?_)))))
 have q:=bnd hm
 obtain ⟨⟨x3,x4,x5⟩,h6,bb⟩:=q
 try dsimp only at bb
 refine zG 2 Z Z Z Z (zH Z Z yc (zB Z (zB Z (zB Z zM))) Z) hS (fun hs=>wAi p0 aq ai au aj av ak az am aQ ab ae ah ap aR (-1) false w U hs bn bo bp bq br bs h6) (.inl Z) ?_
 rintro U8 L9 bB bd bA bh ⟨aU,aX,aV,aY,rfl,rfl⟩
 let B0:Res:=.blk aq 139 [.slice ai p0.Race.Starts.length au,.slice aj p0.Race.Splits.length av,.slice ak p0.Race.Clocks.length az,.slice am p0.Race.Readings.length aQ,.map (some ab),.slice ap p0.edges.length aR]
 let B1:Res:=.row aU aX 3 1 (hH KL.encI x3.far)
 let B2:Res:=.row aV aY 3 1 (hH KL.encI x3.by_)
 have bi:SW w [B0,.obj ab (.map ae ah)] U U8 [B1,B2,B0,.obj ab (.map ae ah)] bd:=bh
 refine oM Z Z (oR Z (ze Z Z (v:=.agg #[.slice aU x3.far.length aX,.slice aV x3.by_.length aY]) Z) (oR Z (ze Z Z (v:=jV x4) Z) (oR Z (ze Z Z (v:=.bool x5) Z) (zV (cs:=[.slice none 0 0,.slice none 0 0]) Z Z Z Z Z ZY Z bi ?_))))
 intro bz bf bj
 let B3:List Value:=[.slice aU x3.far.length aX,.slice aV x3.by_.length aY]
 refine zY (j:=0) (vs:=B3) Z Z Z Z bj Z Z Z Z Zq (zA Z) Z Z Z ?_
 intro be bk
 have bm:SW w [B0,.obj ab (.map ae ah)] U U8 [.blk bf 133 B3,B1,B2,B0,.obj ab (.map ae ah)] be:=bk
 refine oA Z Z (oA Z Z (eN (sR fL2 Z (oM Z Z (oA Z Z (eN (zP ?_)))))))
 have hE:=nJ bb;first | subst r | cases hE
 exact ⟨rfl,_,(ZL rfl),U8,_,(bm.pick [3,4] _ (by decide) rfl),rfl,rfl⟩
theorem wEZ (p0:wAA) (au:Option Addr) (aR:Nat) (av:Option Addr) (aS:Nat) (az:Option Addr) (aT:Nat) (aQ:Option Addr) (aU:Nat) (p1:List wAM) (be:Option Addr) (bf:Nat) (w:World) (U:PHeap) (hS:St0 w U []) (bC:Sl U 1 au aR p0.Starts.length (hH KL.encI p0.Starts)) (bD:Sl U 2 av aS p0.Splits.length (hH wAB p0.Splits)) (bE:Sl U 3 az aT p0.Clocks.length (hH wAD p0.Clocks)) (bF:Sl U 4 aQ aU p0.Readings.length (hH wAC p0.Readings)) (bW:Sl U 2 be bf p1.length (hH wBx p1)) {r:(Option wAk) × Int} (hm:wCd p0 p1=some r):Gv Tryz.prog 63 [.agg #[.slice au p0.Starts.length aR,.slice av p0.Splits.length aS,.slice az p0.Clocks.length aT,.slice aQ p0.Readings.length aU],.slice be p1.length bf] w (wCq w [] U (fun U_ L_ v=>match r.1 with | none=>v=.tuple #[.pointer none,jV r.2]/\L_=[] | some d=>∃ (b0:Nat) (A0p00:Option Addr) (c0p00:Nat) (A0p01:Option Addr) (c0p01:Nat) (A0p02:Option Addr) (c0p02:Nat) (A0p03:Option Addr) (c0p03:Nat) (m0p1:Nat) (es0p1:Array MapEntry) (ck0p1:Nat) (A0p2:Option Addr) (c0p2:Nat),v=.tuple #[.pointer (some ⟨b0,0,none⟩),jV r.2]/\L_=[.blk b0 139 [.slice A0p00 d.Race.Starts.length c0p00,.slice A0p01 d.Race.Splits.length c0p01,.slice A0p02 d.Race.Clocks.length c0p02,.slice A0p03 d.Race.Readings.length c0p03,.map (some m0p1),.slice A0p2 d.edges.length c0p2],.obj m0p1 (.map es0p1 ck0p1)]/\Sl U_ 1 A0p00 c0p00 d.Race.Starts.length (hH KL.encI d.Race.Starts)/\Sl U_ 2 A0p01 c0p01 d.Race.Splits.length (hH wAB d.Race.Splits)/\Sl U_ 3 A0p02 c0p02 d.Race.Clocks.length (hH wAD d.Race.Clocks)/\Sl U_ 4 A0p03 c0p03 d.Race.Readings.length (hH wAC d.Race.Readings)/\MpR es0p1 wBP wBV d.number/\Sl U_ 7 A0p2 c0p2 d.edges.length (hH wAY d.edges))):=by
 unfold wCd at hm
 refine Gv.of Tryz.func63 Z Tryz.ntmps63 Tryz.results63 Z (sR gCm Z ?_)
 let B0:List Value:=[.slice au p0.Starts.length aR,.slice av p0.Splits.length aS,.slice az p0.Clocks.length aT,.slice aQ p0.Readings.length aU]
 refine zy (cs:=B0) rfl rfl rfl rfl rfl rfl (by rfl) hS ?_
 intro W1 b2 bU
 refine oA Z Z (oA Z Z (eN (sR (.fl 0 (.fx 1 (wUO (.nil)) .stop)) Z (oL Z (bU.ldBA (j:=0) Z Z Z ZA zl (vs:=B0) Z Z) ?_))))
 have q:=bnd hm
 obtain ⟨⟨x5,x6⟩,h7,aV⟩:=q
 try dsimp only at aV
 refine zG 0 Z Z Z Z (zH Z Z Tryz.call80 (zB Z zM) Z) bU (fun hs=>wKL p0 au aR av aS az aT aQ aU W1 U hs bC bD bE bF h7) (.inr Z) ?_
 rintro U9 dq dx aZ ae bT bR
 rcases x5 with _ | ah
 try dsimp only at aV
 obtain ⟨rfl,rfl⟩:=bR
 have bA:sW w U U9 [.blk b2 27 B0] aZ:=bT
 refine oM Z Z (oR Z (ze Z Z (v:=.pointer none) Z) (oR Z (ze Z Z (v:=jV x6) Z) (oA Z Z (oA Z Z (eN (zJ (zd (sR fL3 Z (oM Z Z (oR Z (Zo Z Z Z) (oA Z Z (eN (ifc aV ?_ ?_)))))))))))))
 intro bu da
 refine zr (Za (fun h=>h bu.out)) (sR (wEF gCq) Z (oM Z Z (oL Z (bA.ldBA (j:=0) Z Z Z ZA zl (vs:=B0) Z Z) (oR Z (Runs.mkf Z (zB Z zM) zM) ?_))))
 have cm:=bW.le ae
 have cn:=bC.le ae
 have cp:=bD.le ae
 have cq:=bE.le ae
 have cr:=bF.le ae
 have cN:FnOK Tryz.prog U9 (.func (.func 99) #[.agg B0.toArray] #[]) wSC wSD (fun x=>wAu p0 x):=⟨99,[.agg B0.toArray],[],rfl,Tryz.call99,fun U1 w1 x y vs le hs ha hm=>by obtain rfl:=ha;exact wEA p0 au aR av aS az aT aQ aU x w1 U1 hs (cn.le le) (cp.le le) (cq.le le) (cr.le le) hm⟩
 refine bnK da fun x40 ct db=>zG 0 Z Z Z Z (zH Z Z Tryz.call119 (zB Z (zB Z zM)) Z) bA (fun hs=>wDc p1 be bf (fun x=>wAu p0 x) (.func (.func 99) #[.agg B0.toArray] #[]) aZ U9 hs cm cN ct) (.inr Z) ?_
 rintro bI dt dy b9 dv cQ ⟨rfl,rfl⟩
 have cR:sW w U bI [.blk b2 27 B0] b9:=cQ
 refine oR Z (Zm Z Z) (oA Z Z (eN (ifc db ?_ ?_)))
 intro bv de
 refine zr (nC bv.out) (sR gCs Z (oM Z Z ?_))
 cases de
 intro bv df
 refine ZG (nF (bv.out)) (sR fL2 Z (oA Z Z (oA Z Z (eN (zP (zg (zN ?_)))))))
 cases df
 exact ⟨rfl,_,(wHO rfl rfl),bI,_,(cR.pick [] _ (by decide) rfl),rfl,rfl⟩
 intro bu dg
 refine cT Z bu (sR fL3 Z (oM Z Z (oA Z Z (oA Z Z (eN (zP (zg (zN ?_))))))))
 cases dg
 exact ⟨rfl,_,(wHO rfl rfl),U9,_,(bA.pick [] _ (by decide) rfl),rfl,rfl⟩
 try dsimp only at aV
 obtain ⟨a0,bg,bp,bh,bq,bi,br,bj,bs,aj,ap,am,aX,ba,rfl,rfl,cu,cw,cx,cy,bM⟩:=bR
 let B1:Res:=.blk a0 139 [.slice bg ah.Race.Starts.length bp,.slice bh ah.Race.Splits.length bq,.slice bi ah.Race.Clocks.length br,.slice bj ah.Race.Readings.length bs,.map (some aj),.slice aX ah.edges.length ba]
 let B2:Res:=.row aX ba 184 7 (hH wAY ah.edges)
 have bB:sW w U U9 [B1,.obj aj (.map ap am),B2,.blk b2 27 B0] aZ:=bT
 refine oM Z Z (oR Z (ze Z Z (v:=.pointer (some ⟨a0,0,none⟩)) Z) (oR Z (ze Z Z (v:=jV x6) Z) (oA Z Z (oA Z Z (eN (zJ (zd (sR fL3 Z (oM Z Z (oR Z (Zo Z Z Z) (oA Z Z (eN (ifc aV ?_ ?_)))))))))))))
 intro bw dh
 refine zr (Za (fun h=>h bw.out)) (sR (wEF gCq) Z (oM Z Z (oL Z (bB.ldBA (j:=3) Z Z Z ZA zl (vs:=B0) Z Z) (oR Z (Runs.mkf Z (zB Z zM) zM) ?_))))
 have cz:=bW.le ae
 have cA:=bC.le ae
 have cC:=bD.le ae
 have cD:=bE.le ae
 have cE:=bF.le ae
 have cO:FnOK Tryz.prog U9 (.func (.func 99) #[.agg B0.toArray] #[]) wSC wSD (fun x=>wAu p0 x):=⟨99,[.agg B0.toArray],[],rfl,Tryz.call99,fun U1 w1 x y vs le hs ha hm=>by obtain rfl:=ha;exact wEA p0 au aR av aS az aT aQ aU x w1 U1 hs (cA.le le) (cC.le le) (cD.le le) (cE.le le) hm⟩
 refine bnK dh fun dA cH dk=>zG 0 Z Z Z Z (zH Z Z Tryz.call119 (zB Z (zB Z zM)) Z) bB (fun hs=>wDc p1 be bf (fun x=>wAu p0 x) (.func (.func 99) #[.agg B0.toArray] #[]) aZ U9 hs cz cO cH) (.inr Z) ?_
 rintro bJ du dz bn bb cS ⟨rfl,rfl⟩
 have bV:sW w U bJ [B1,.obj aj (.map ap am),B2,.blk b2 27 B0] bn:=cS
 refine oR Z (Zm Z Z) (oA Z Z (eN (ifc dk ?_ ?_)))
 intro bz dl
 refine zr (nC bz.out) (sR gCs Z (oM Z Z ?_))
 have q:=bV.freezeR (k:=2) (n:=ah.edges.length) rfl (wAI (f:=wAY) (sz:=7) (fun _=>rfl) ah.edges) (by decide)
 obtain ⟨bK,bd,bX,cU⟩:=q
 have cV:sW w U bK [B1,.obj aj (.map ap am),.blk b2 27 B0] bn:=cU
 have cI:=cu.le bb
 have bN:=cI.le bd
 have cJ:=cw.le bb
 have bO:=cJ.le bd
 have cK:=cx.le bb
 have bP:=cK.le bd
 have cL:=cy.le bb
 have bQ:=cL.le bd
 refine bnK dl fun x96 cM dm=>zG 2 Z Z Z Z (zH Z Z Tryz.call81 (zB Z zM) Z) cV (fun hs=>wGw ah a0 bg bp bh bq bi br bj bs aj ap am aX ba bn bK hs bN bO bP bQ bM bX cM) (.inl Z) ?_
 rintro bm dr dw b5 aW cP ⟨rfl,rfl⟩
 have bS:sW w U bm [B1,.obj aj (.map ap am),.blk b2 27 B0] b5:=cP
 refine oR Z (Zm Z Z) (oA Z Z (eN (ifc dm ?_ ?_)))
 intro bo cW
 refine zr (nC bo.out) (Zr (ZE (zK (sR fL3 Z (oM Z Z (oA Z Z (oA Z Z (eN (zP ?_)))))))))
 have cb:=bN.le aW
 have cd:=bO.le aW
 have cf:=bP.le aW
 have cg:=bQ.le aW
 have cj:=bX.le aW
 cases cW
 exact ⟨rfl,_,(wHO rfl rfl),bm,_,(bS.pick [0,1] _ (by decide) rfl),a0,bg,bp,bh,bq,bi,br,bj,bs,aj,ap,am,aX,ba,rfl,rfl,cb,cd,cf,cg,bM,cj⟩
 intro bo cX
 refine ZG (nF (bo.out)) (sR fL2 Z (oA Z Z (oA Z Z (eN (zP (zg (zN ?_)))))))
 cases cX
 exact ⟨rfl,_,(wHO rfl rfl),bm,_,(bS.pick [] _ (by decide) rfl),rfl,rfl⟩
 intro bz cY
 refine ZG (nF (bz.out)) (sR fL2 Z (oA Z Z (oA Z Z (eN (zP (zg (zN ?_)))))))
 cases cY
 exact ⟨rfl,_,(wHO rfl rfl),bJ,_,(bV.pick [] _ (by decide) rfl),rfl,rfl⟩
 intro bw cZ
 refine cT Z bw (sR fL3 Z (oM Z Z (oA Z Z (oA Z Z (eN (zP (zg (zN ?_))))))))
 cases cZ
 exact ⟨rfl,_,(wHO rfl rfl),U9,_,(bB.pick [] _ (by decide) rfl),rfl,rfl⟩
theorem wDF (p0:wAM) (w:World) (U:PHeap) (hS:St0 w U [])  {r:wAG} (hm:wCL p0=some r):Gv Tryz.prog 66 [.agg #[jV p0.Skier,jV p0.Mat]] w (wCq w [] U (fun U_ L_ v=>v=.agg #[jV r.skier,jV r.mat]/\L_=[])):=by
 unfold wCL at hm
 refine Gv.of Tryz.func66 Z Tryz.ntmps66 Tryz.results66 Z (sR gCh Z ?_)
 let B0:List Value:=[jV p0.Skier,jV p0.Mat]
 refine zy (cs:=B0) rfl rfl rfl rfl rfl rfl (by rfl) hS ?_
 intro W1 b2 ap
 refine zV (cs:=[jV 0,jV 0]) Z Z Z Z Z zk Z ap ?_
 intro W5 b6 ae
 refine eN (sR (wGG (.fx 5 .nil .stop)) Z (oR Z (zE Z Z Zy Z zC) (oL Z (ae.ldB (j:=1) Z Z Z zF (v:=jV p0.Skier) Z) (oR Z (zE Z Z Zy Z zC) (oL Z (ae.ldB (j:=1) Z Z Z zF (v:=jV p0.Mat) Z) (oR Z (ZC (pv:=[(0,jV p0.Skier),(1,jV p0.Mat)]) (z:=[jV 0,jV 0]) (cs:=B0) Z (wAH Z (wAH Z wAU)) zk wBl Z Z) (zY (j:=0) (vs:=B0) Z Z Z Z ae Z Z Z Z zI (zA Z) Z Z Z ?_)))))))
 intro W9 am
 have ah:sW w U U [.blk b6 123 B0,.blk b2 29 B0] W9:=am
 refine eN (zP ?_)
 cases hm
 exact ⟨rfl,_,(wJs (v:=.agg B0.toArray) ⟨⟨_,rfl,(wAs zh zI (ah.blkAt (k:=0) rfl) (vs:=B0) rfl rfl)⟩,trivial⟩),U,_,(ah.pick [] _ (by decide) rfl),rfl,rfl⟩
theorem wDK (p0:wAk) (aR:Nat) (aV:Option Addr) (a0:Nat) (aW:Option Addr) (ba:Nat) (aX:Option Addr) (bb:Nat) (aY:Option Addr) (bd:Nat) (ab:Nat) (ae:Array MapEntry) (ah:Nat) (aZ:Option Addr) (be:Nat) (p1:wAG) (p2:wAG) (w:World) (U:PHeap) (hS:St0 w U [.blk aR 139 [.slice aV p0.Race.Starts.length a0,.slice aW p0.Race.Splits.length ba,.slice aX p0.Race.Clocks.length bb,.slice aY p0.Race.Readings.length bd,.map (some ab),.slice aZ p0.edges.length be],.obj ab (.map ae ah)]) (bW:Sl U 1 aV a0 p0.Race.Starts.length (hH KL.encI p0.Race.Starts)) (bX:Sl U 2 aW ba p0.Race.Splits.length (hH wAB p0.Race.Splits)) (bY:Sl U 3 aX bb p0.Race.Clocks.length (hH wAD p0.Race.Clocks)) (bZ:Sl U 4 aY bd p0.Race.Readings.length (hH wAC p0.Race.Readings)) (bf:MpR ae wBP wBV p0.number) (b5:Sl U 7 aZ be p0.edges.length (hH wAY p0.edges)) {r:wAL} (hm:wAl p0 p1 p2=some r):Gv Tryz.prog 64 [.pointer (some ⟨aR,0,none⟩),.agg #[jV p1.skier,jV p1.mat],.agg #[jV p2.skier,jV p2.mat]] w (wCq w [.blk aR 139 [.slice aV p0.Race.Starts.length a0,.slice aW p0.Race.Splits.length ba,.slice aX p0.Race.Clocks.length bb,.slice aY p0.Race.Readings.length bd,.map (some ab),.slice aZ p0.edges.length be],.obj ab (.map ae ah)] U (fun U_ L_ v=>v=.agg #[jV r.Lo,jV r.Hi]/\L_=[.blk aR 139 [.slice aV p0.Race.Starts.length a0,.slice aW p0.Race.Splits.length ba,.slice aX p0.Race.Clocks.length bb,.slice aY p0.Race.Readings.length bd,.map (some ab),.slice aZ p0.edges.length be],.obj ab (.map ae ah)])):=by
 unfold wAl at hm
 refine Gv.of Tryz.func64 Z Tryz.ntmps64 Tryz.results64 Z (sR (.fx 0 (.fx 1 (.fx 2 .nil .stop) .stop) .stop) Z ?_)
 let B0:List Value:=[jV p1.skier,jV p1.mat]
 refine zy (cs:=B0) rfl rfl rfl rfl rfl rfl (by rfl) hS ?_
 intro W3 b4 d9
 let B1:List Value:=[jV p2.skier,jV p2.mat]
 refine zy (cs:=B1) rfl rfl rfl rfl rfl rfl (by rfl) d9 ?_
 intro W7 b8 ey
 let B2:List Value:=[jV 0,jV 0]
 refine zV (cs:=B2) Z Z Z Z Z ZQ Z ey ?_
 intro cJ am dQ
 refine eN ?_
 have q:=bnd hm
 obtain ⟨⟨aU,cb⟩,eH,df⟩:=q
 try dsimp only at df
 let B3:Res:=.blk aR 139 [.slice aV p0.Race.Starts.length a0,.slice aW p0.Race.Splits.length ba,.slice aX p0.Race.Clocks.length bb,.slice aY p0.Race.Readings.length bd,.map (some ab),.slice aZ p0.edges.length be]
 refine yQ (fun σ_ w_=>∃ (U_:PHeap) (bu:Nat) (bk:Option Addr) (bn:Nat) (br:Option Addr) (bw:Nat),σ_ 0=.pointer (some ⟨aR,0,none⟩)/\σ_ 4=.pointer (some ⟨b4,0,none⟩)/\σ_ 5=.pointer (some ⟨b8,0,none⟩)/\σ_ 6=.pointer (some ⟨am,0,none⟩)/\σ_ 7=.pointer (some ⟨bu,0,none⟩)/\PHeap.Le U U_/\SW w [B3,.obj ab (.map ae ah)] U U_ [B3,.obj ab (.map ae ah),.blk am 39 B2,.blk b8 123 B1,.blk b4 123 B0,.blk bu 133 [.slice bk aU.length bn,.slice br cb.length bw],.row bk bn 3 1 (hH KL.encI aU),.row br bw 3 1 (hH KL.encI cb)] w_) ?_ ?_
 have q:=bnd eH
 obtain ⟨⟨x26,x27,dh⟩,cY,cr⟩:=q
 try dsimp only at cr
 refine zx zn [3,3,3,3,1,1,1,0,3,3,3,3,2,0,3,3] (wQP (.fx 7 (wKh gCw) (.fx 12 (.fx 7 (wKh gCr) (.stop)) (.stop)))) (by kernel_rfl) ?_
 have bp:=dQ.drew
 generalize hw_W54:({ cJ with drawn:=cJ.drawn + 1 }:World)=cN at bp ⊢
 refine oM Z Z (oM Z Z (oR Z (Zz Z Z) (oR Z (zE Z Z ZK Z Zw) (oL Z (bp.ldB (j:=3) Z Z Z yB (v:=.map (some ab)) Z) (oL Z (bp.ldBA (j:=2) Z Z Z zh zI (vs:=B0) Z Z) (oL Z (bp.lookup1 (j:=4) (mk:=wBP) (mv:=wBV) (a:=p1) (z:=0) Z Z Z Z (wBn ZF) wCr ZV bf) (zt ?_ ?_)))))))
 have ec:SW w [B3,.obj ab (.map ae ah)] U U [B3,.obj ab (.map ae ah),.blk am 39 B2,.blk b8 123 B1,.blk b4 123 B0] cN:=bp.pick [3,4,0,1,2] _ (by decide) rfl
 refine zG 2 Z Z Z Z (zH Z Z yc (zB Z (zB Z (zB Z zM))) Z) ec (fun hs=>wAi p0 aR aV a0 aW ba aX bb aY bd ab ae ah aZ be (wAt p0.number p1 0) false cN U hs bW bX bY bZ bf b5 cY) (.inl Z) ?_
 rintro cm eP fc du eK ef ⟨bF,bR,bG,bS,rfl,rfl⟩
 let B4:Res:=.row bF bR 3 1 (hH KL.encI x26.far)
 let B5:Res:=.row bG bS 3 1 (hH KL.encI x26.by_)
 have eg:SW w [B3,.obj ab (.map ae ah)] U cm [B4,B5,B3,.obj ab (.map ae ah),.blk am 39 B2,.blk b8 123 B1,.blk b4 123 B0] du:=ef
 refine oM Z Z (oR Z (ze Z Z (v:=.agg #[.slice bF x26.far.length bR,.slice bG x26.by_.length bS]) Z) (oR Z (ze Z Z (v:=jV x27) Z) (oR Z (ze Z Z (v:=.bool dh) Z) (zV (cs:=[.slice none 0 0,.slice none 0 0]) Z Z Z Z Z ZY Z eg ?_))))
 intro eX cQ eh
 let B6:List Value:=[.slice bF x26.far.length bR,.slice bG x26.by_.length bS]
 refine zY (j:=0) (vs:=B6) Z Z Z Z eh Z Z Z Z Zq (zA Z) Z Z Z ?_
 intro dv ej
 have en:SW w [B3,.obj ab (.map ae ah)] U cm [.blk cQ 133 B6,B4,B5,B3,.obj ab (.map ae ah),.blk am 39 B2,.blk b8 123 B1,.blk b4 123 B0] dv:=ej
 refine oA Z Z (oA Z Z (zw ?_))
 cases cr
 exact zK ⟨rfl,⟨cm,cQ,bF,bR,bG,bS,rfl,rfl,rfl,rfl,rfl,eK,(en.pick [3,4,5,6,7,0,1,2] _ (by decide) rfl)⟩⟩
 let B7:List Value:=[.slice none 0 0,.slice none 0 0]
 refine zV (cs:=B7) Z Z Z Z Z ZY Z bp ?_
 intro cO bK eu
 have eA:SW w [B3,.obj ab (.map ae ah)] U U [B3,.obj ab (.map ae ah),.blk bK 133 B7,.blk am 39 B2,.blk b8 123 B1,.blk b4 123 B0] cO:=eu.pick [4,5,0,1,2,3] _ (by decide) rfl
 refine zG 2 Z Z Z Z (zH Z Z yc (zB Z (zB Z (zB Z zM))) Z) eA (fun hs=>wAi p0 aR aV a0 aW ba aX bb aY bd ab ae ah aZ be (wAt p0.number p1 0) false cO U hs bW bX bY bZ bf b5 cY) (.inl Z) ?_
 rintro cn eQ fd dw eL dL ⟨bz,bL,bA,bM,rfl,rfl⟩
 let B8:Res:=.row bz bL 3 1 (hH KL.encI x26.far)
 let B9:Res:=.row bA bM 3 1 (hH KL.encI x26.by_)
 have dM:SW w [B3,.obj ab (.map ae ah)] U cn [B8,B9,B3,.obj ab (.map ae ah),.blk bK 133 B7,.blk am 39 B2,.blk b8 123 B1,.blk b4 123 B0] dw:=dL
 refine oM Z Z (oR Z (ze Z Z (v:=.agg #[.slice bz x26.far.length bL,.slice bA x26.by_.length bM]) Z) (oR Z (ze Z Z (v:=jV x27) Z) (oR Z (ze Z Z (v:=.bool dh) Z) ?_)))
 let ct:List Value:=[.slice bz x26.far.length bL,.slice bA x26.by_.length bM]
 refine zY (j:=4) (vs:=ct) Z Z Z Z dM Z Z Z Z Zq (zA Z) Z Z Z ?_
 intro dk dN
 have dO:SW w [B3,.obj ab (.map ae ah)] U cn [B8,B9,B3,.obj ab (.map ae ah),.blk bK 133 ct,.blk am 39 B2,.blk b8 123 B1,.blk b4 123 B0] dk:=dN
 refine oA Z Z (oA Z Z (zw ?_))
 cases cr
 exact zK ⟨rfl,⟨cn,bK,bz,bL,bA,bM,rfl,rfl,rfl,rfl,rfl,eL,(dO.pick [2,3,5,6,7,4,0,1] _ (by decide) rfl)⟩⟩
 rintro ff cK ⟨bH,bu,bk,bn,br,bw,bT,cR,cp,cS,cU,aS,dP⟩
 have q:=bnd df
 obtain ⟨⟨aT,b9⟩,eG,de⟩:=q
 try dsimp only at de
 let bg:Res:=.blk bu 133 [.slice bk aU.length bn,.slice br cb.length bw]
 let bh:Res:=.row bk bn 3 1 (hH KL.encI aU)
 let bi:Res:=.row br bw 3 1 (hH KL.encI cb)
 refine yQ (fun σ_ w_=>∃ (U_:PHeap) (bI:Nat) (bj:Option Addr) (bm:Nat) (bq:Option Addr) (bv:Nat),σ_ 0=.pointer (some ⟨aR,0,none⟩)/\σ_ 4=.pointer (some ⟨b4,0,none⟩)/\σ_ 5=.pointer (some ⟨b8,0,none⟩)/\σ_ 6=.pointer (some ⟨am,0,none⟩)/\σ_ 7=.pointer (some ⟨bu,0,none⟩)/\σ_ 10=.pointer (some ⟨bI,0,none⟩)/\PHeap.Le bH U_/\SW w [B3,.obj ab (.map ae ah)] U U_ [B3,.obj ab (.map ae ah),.blk am 39 B2,.blk b8 123 B1,.blk b4 123 B0,bh,bi,bg,.blk bI 133 [.slice bj aT.length bm,.slice bq b9.length bv],.row bj bm 3 1 (hH KL.encI aT),.row bq bv 3 1 (hH KL.encI b9)] w_) ?_ ?_
 have q:=bnd eG
 obtain ⟨⟨x145,x146,dg⟩,cX,cq⟩:=q
 try dsimp only at cq
 refine zx zn [3,3,3,3,1,1,1,0,3,3,3,3,2,0,3,3] (wQP (.fx 7 (wKh gCw) (.fx 12 (.fx 7 (wKh gCr) (.stop)) (.stop)))) (by kernel_rfl) ?_
 have bo:=dP.drew
 generalize hw_W172:({ cK with drawn:=cK.drawn + 1 }:World)=dl at bo ⊢
 refine oM Z bT (oM Z bT (oR Z (Zz Z Z) (oR Z (zE Z Z ZK Z Zw) (oL Z (bo.ldB (j:=0) Z Z Z yB (v:=.map (some ab)) Z) (oL Z (bo.ldBA (j:=3) Z Z cp zh zI (vs:=B1) Z Z) (oL Z (bo.lookup1 (j:=1) (mk:=wBP) (mv:=wBV) (a:=p2) (z:=0) Z Z Z Z (wBn ZF) wCr ZV bf) (zt ?_ ?_)))))))
 have dB:=bW.le aS
 have dC:=bX.le aS
 have dD:=bY.le aS
 have dE:=bZ.le aS
 have dF:=b5.le aS
 refine zG 2 Z Z Z Z (zH Z Z yc (zB Z (zB Z (zB Z zM))) Z) bo (fun hs=>wAi p0 aR aV a0 aW ba aX bb aY bd ab ae ah aZ be (wAt p0.number p2 0) false dl bH hs dB dC dD dE bf dF cX) (.inl Z) ?_
 rintro cg eM e9 dm eI dR ⟨bB,bN,bC,bO,rfl,rfl⟩
 let cu:Res:=.row bB bN 3 1 (hH KL.encI x145.far)
 let cw:Res:=.row bC bO 3 1 (hH KL.encI x145.by_)
 have dS:SW w [B3,.obj ab (.map ae ah)] U cg [cu,cw,B3,.obj ab (.map ae ah),.blk am 39 B2,.blk b8 123 B1,.blk b4 123 B0,bg,bh,bi] dm:=dR
 refine oM Z Z (oR Z (ze Z Z (v:=.agg #[.slice bB x145.far.length bN,.slice bC x145.by_.length bO]) Z) (oR Z (ze Z Z (v:=jV x146) Z) (oR Z (ze Z Z (v:=.bool dg) Z) (zV (cs:=[.slice none 0 0,.slice none 0 0]) Z Z Z Z Z ZY Z dS ?_))))
 intro eS cP dT
 let cx:List Value:=[.slice bB x145.far.length bN,.slice bC x145.by_.length bO]
 refine zY (j:=0) (vs:=cx) Z Z Z Z dT Z Z Z Z Zq (zA Z) Z Z Z ?_
 intro dp dU
 have dV:SW w [B3,.obj ab (.map ae ah)] U cg [.blk cP 133 cx,cu,cw,B3,.obj ab (.map ae ah),.blk am 39 B2,.blk b8 123 B1,.blk b4 123 B0,bg,bh,bi] dp:=dU
 refine oA Z Z (oA Z Z (zw ?_))
 cases cq
 exact zK ⟨rfl,⟨cg,cP,bB,bN,bC,bO,bT,cR,cp,cS,cU,rfl,eI,(dV.pick [3,4,5,6,7,9,10,8,0,1,2] _ (by decide) rfl)⟩⟩
 let cd:List Value:=[.slice none 0 0,.slice none 0 0]
 refine zV (cs:=cd) Z Z Z Z Z ZY Z bo ?_
 intro cL bJ dW
 have dG:=bW.le aS
 have dH:=bX.le aS
 have dI:=bY.le aS
 have dJ:=bZ.le aS
 have dK:=b5.le aS
 have dX:SW w [B3,.obj ab (.map ae ah)] U bH [B3,.obj ab (.map ae ah),.blk bJ 133 cd,.blk am 39 B2,.blk b8 123 B1,.blk b4 123 B0,bg,bh,bi] cL:=dW.pick [1,2,0,3,4,5,6,7,8] _ (by decide) rfl
 refine zG 2 Z Z Z Z (zH Z Z yc (zB Z (zB Z (zB Z zM))) Z) dX (fun hs=>wAi p0 aR aV a0 aW ba aX bb aY bd ab ae ah aZ be (wAt p0.number p2 0) false cL bH hs dG dH dI dJ bf dK cX) (.inl Z) ?_
 rintro cj eO fb dq eJ dY ⟨bD,bP,bE,bQ,rfl,rfl⟩
 let cy:Res:=.row bD bP 3 1 (hH KL.encI x145.far)
 let cz:Res:=.row bE bQ 3 1 (hH KL.encI x145.by_)
 have dZ:SW w [B3,.obj ab (.map ae ah)] U cj [cy,cz,B3,.obj ab (.map ae ah),.blk bJ 133 cd,.blk am 39 B2,.blk b8 123 B1,.blk b4 123 B0,bg,bh,bi] dq:=dY
 refine oM Z Z (oR Z (ze Z Z (v:=.agg #[.slice bD x145.far.length bP,.slice bE x145.by_.length bQ]) Z) (oR Z (ze Z Z (v:=jV x146) Z) (oR Z (ze Z Z (v:=.bool dg) Z) ?_)))
 let cA:List Value:=[.slice bD x145.far.length bP,.slice bE x145.by_.length bQ]
 refine zY (j:=4) (vs:=cA) Z Z Z Z dZ Z Z Z Z Zq (zA Z) Z Z Z ?_
 intro dr d5
 have d6:SW w [B3,.obj ab (.map ae ah)] U cj [cy,cz,B3,.obj ab (.map ae ah),.blk bJ 133 cA,.blk am 39 B2,.blk b8 123 B1,.blk b4 123 B0,bg,bh,bi] dr:=d5
 refine oA Z Z (oA Z Z (zw ?_))
 cases cq
 exact zK ⟨rfl,⟨cj,bJ,bD,bP,bE,bQ,bT,cR,cp,cS,cU,rfl,eJ,(d6.pick [2,3,5,6,7,9,10,8,4,0,1] _ (by decide) rfl)⟩⟩
 rintro fg cM ⟨cI,bI,bj,bm,bq,bv,cV,dx,dy,cW,dz,dA,e8,d7⟩
 refine zJ (zx zn [3,1,3,3,3,1,1,1,3,1,3,3,1,3,3,3,1,1,1,3,1,3,0] (wQu (.fx 22 .nil .stop)) (by kernel_rfl) ?_)
 have av:=d7.drew
 generalize hw_W258:({ cM with drawn:=cM.drawn + 1 }:World)=eU at av ⊢
 refine oR Z (zE Z dA ZU Z zW) (oL Z (av.ldB (j:=8) Z Z Z zX (v:=.slice bj aT.length bm) Z) (oM Z cV (oR Z (Zz Z Z) (oR Z (zE Z Z ZK Z Zw) (oL Z (av.ldB (j:=0) Z Z Z yB (v:=.map (some ab)) Z) (oL Z (av.ldBA (j:=4) Z Z dx zh zI (vs:=B0) Z Z) (oL Z (av.lookup1 (j:=1) (mk:=wBP) (mv:=wBV) (a:=p1) (z:=0) Z Z Z Z (wBn ZF) wCr ZV bf) (bnK de fun _ bU eE=>?_))))))))
 obtain ⟨eY,cZ⟩:=av.rowSome (j:=9) rfl (by rw [wAI (f:=KL.encI) (sz:=1) (fun _=>rfl) aT];have hz:=wAW bU;omega)
 refine oR Z (ZB Z Z cZ Z zD zC (wCf bU) (wCg bU)) ?_
 have eC:=wBL (xs:=aT) (wAW bU)
 refine ZI rfl rfl rfl rfl (av.ldR (j:=9) rfl cZ rfl rfl zF (wAX (sz:=1) (fun _=>rfl) _ _ 0 _ eC (by first | omega | rfl | simp) rfl)) rfl (zq rfl rfl rfl rfl (fun _=>yo rfl rfl) (zq rfl rfl rfl rfl (fun _=>zE rfl dz ZU rfl zW) (ZI rfl rfl rfl rfl (av.ldB (j:=7) rfl rfl rfl zX (v:=.slice bk aU.length bn) rfl) rfl (ZJ rfl rfl rfl rfl rfl cV (zq rfl rfl rfl rfl (fun _=>Zz rfl rfl) (zq rfl rfl rfl rfl (fun _=>zE rfl rfl ZK rfl Zw) (ZI rfl rfl rfl rfl (av.ldB (j:=0) rfl rfl rfl yB (v:=.map (some ab)) rfl) rfl (ZI rfl rfl rfl rfl (av.ldBA (j:=3) rfl rfl dy zh zI (vs:=B1) rfl rfl) rfl (ZI rfl rfl rfl rfl (av.lookup1 (j:=1) (mk:=wBP) (mv:=wBV) (a:=p2) (z:=0) rfl rfl rfl rfl (wBn ZF) wCr ZV bf) rfl (bnK eE fun _ bV eF=>?_))))))))))
 obtain ⟨eZ,da⟩:=av.rowSome (j:=5) rfl (by rw [wAI (f:=KL.encI) (sz:=1) (fun _=>rfl) aU];have hz:=wAW bV;omega)
 refine oR Z (ZB Z Z da Z zD zC (wCf bV) (wCg bV)) ?_
 have eD:=wBL (xs:=aU) (wAW bV)
 refine ZI rfl rfl rfl rfl (av.ldR (j:=5) rfl da rfl rfl zF (wAX (sz:=1) (fun _=>rfl) _ _ 0 _ eD (by first | omega | rfl | simp) rfl)) rfl ?_
 let bs:List Value:=[jV (w64 (-(gd aT (wAt p0.number p1 0).toNat))),jV (gd aU (wAt p0.number p2 0).toNat)]
 refine oR Z (ZC (pv:=[(0,jV (w64 (-(gd aT (wAt p0.number p1 0).toNat)))),(1,jV (gd aU (wAt p0.number p2 0).toNat))]) (z:=B2) (cs:=bs) Z (wAH Z (wAH Z wAU)) ZQ wCN Z Z) (zY (j:=2) (vs:=bs) Z Z Z Z av Z cW Z Z zS (zA Z) Z Z Z ?_)
 intro dt d8
 have db:SW w [B3,.obj ab (.map ae ah)] U cI [B3,.obj ab (.map ae ah),.blk am 39 bs,.blk b8 123 B1,.blk b4 123 B0,bh,bi,bg,.blk bI 133 [.slice bj aT.length bm,.slice bq b9.length bv],.row bj bm 3 1 (hH KL.encI aT),.row bq bv 3 1 (hH KL.encI b9)] dt:=d8
 refine eN (zP ?_)
 cases eF
 exact ⟨rfl,_,(wJs (v:=.agg bs.toArray) ⟨⟨_,cW,(wAs ZT zS (db.blkAt (k:=2) rfl) (vs:=bs) rfl rfl)⟩,trivial⟩),cI,_,(db.pick [0,1] _ (by decide) rfl),rfl,rfl⟩
theorem wKM (p0:wAA) (aX:Option Addr) (ba:Nat) (aY:Option Addr) (bb:Nat) (aZ:Option Addr) (bd:Nat) (a0:Option Addr) (be:Nat) (p1:wAM) (w:World) (U:PHeap) (hS:St0 w U []) (df:Sl U 1 aX ba p0.Starts.length (hH KL.encI p0.Starts)) (dg:Sl U 2 aY bb p0.Splits.length (hH wAB p0.Splits)) (dh:Sl U 3 aZ bd p0.Clocks.length (hH wAD p0.Clocks)) (dk:Sl U 4 a0 be p0.Readings.length (hH wAC p0.Readings)) {r:wAL × Int} (hm:wDR p0 p1=some r):Gv Tryz.prog 12 [.agg #[.slice aX p0.Starts.length ba,.slice aY p0.Splits.length bb,.slice aZ p0.Clocks.length bd,.slice a0 p0.Readings.length be],.agg #[jV p1.Skier,jV p1.Mat]] w (wCq w [] U (fun U_ L_ v=>v=.tuple #[.agg #[jV r.1.Lo,jV r.1.Hi],jV r.2]/\L_=[])):=by
 unfold wDR at hm
 refine Gv.of Tryz.func12 Z Tryz.ntmps12 Tryz.results12 Z (sR (.fx 0 (.fx 1 gCg .stop) .stop) Z ?_)
 let B0:List Value:=[.slice aX p0.Starts.length ba,.slice aY p0.Splits.length bb,.slice aZ p0.Clocks.length bd,.slice a0 p0.Readings.length be]
 refine zy (cs:=B0) rfl rfl rfl rfl rfl rfl (by rfl) hS ?_
 intro W1 b2 cX
 let B1:List Value:=[jV p1.Skier,jV p1.Mat]
 refine zy (cs:=B1) rfl rfl rfl rfl rfl rfl (by rfl) cX ?_
 intro W5 b6 da
 let B2:List Value:=[jV 0,jV 0]
 refine zV (cs:=B2) Z Z Z Z Z ZQ Z da ?_
 intro W9 ai bm
 refine oA Z Z (eN (sR (.fl 0 (.fl 1 (.fx 2 (.fx 3 (wSb (.nil)) .stop) .stop))) Z (oL Z (bm.ldBA (j:=2) Z Z Z ZA zl (vs:=B0) Z Z) (oL Z (bm.ldBA (j:=1) Z Z Z Zh ZN (vs:=B1) Z Z) (Zk (pv:=[(0,.agg B1.toArray)]) (zs:=B2) (cs:=B1) Z Z Z Z Z (wAH Z wAU) Tryz.runUnderlying56 ZN Tryz.zeroValue29 Z Z Z Z Z bm ?_)))))
 intro bh bE cS
 have cU:sW w U U [.row (some ⟨bE,0,none⟩) 1 29 2 (hH wBx [p1]),.blk ai 39 B2,.blk b6 29 B1,.blk b2 27 B0] bh:=cS
 have q:=cU.freezeR (k:=0) (n:=[p1].length) rfl (wAI (f:=wBx) (sz:=2) (fun _=>rfl) [p1]) (by decide)
 obtain ⟨bw,aW,dx,cV⟩:=q
 have cW:sW w U bw [.blk ai 39 B2,.blk b6 29 B1,.blk b2 27 B0] bh:=cV
 have ct:=df.le aW
 have cu:=dg.le aW
 have cw:=dh.le aW
 have cx:=dk.le aW
 have q:=bnd hm
 obtain ⟨⟨x27,bf⟩,cy,aS⟩:=q
 try dsimp only at aS
 refine zG 0 Z Z Z Z (zH Z Z Tryz.call63 (zB Z (zB Z zM)) Z) cW (fun hs=>wEZ p0 aX ba aY bb aZ bd a0 be [p1] (some ⟨bE,0,none⟩) 1 bh bw hs ct cu cw cx dx cy) (.inr Z) ?_
 rintro ap dB dQ aQ dK bN bK
 rcases x27 with _ | aR
 try dsimp only at aS
 obtain ⟨rfl,rfl⟩:=bK
 have bO:sW w U ap [.blk ai 39 B2,.blk b6 29 B1,.blk b2 27 B0] aQ:=bN
 refine oM Z Z (oR Z (ze Z Z (v:=.pointer none) Z) (oR Z (ze Z Z (v:=jV bf) Z) (oA Z Z (oA Z Z (eN (zJ (sR fL2 Z (oM Z Z (oR Z (Zo Z Z Z) (eN (ifc aS ?_ ?_)))))))))))
 intro bj dq
 refine zr (Za (fun h=>h bj.out)) (kN (zJ (zx zn [3,2,1,2,0,0,3] gDd (by kernel_rfl) ?_)))
 have bn:=bO.drew
 generalize hw_W57:({ aQ with drawn:=aQ.drawn + 1 }:World)=bW at bn ⊢
 refine oM Z Z (oL Z (bn.ldBA (j:=1) Z Z Z Zh ZN (vs:=B1) Z Z) (bnK dq fun x58 cz dr=>zG 0 Z Z Z Z (zH Z Z yK zM Z) bn (fun hs=>wBQ bW ap hs cz) (.inr Z) ?_))
 rintro bz dC dR bD dL cY ⟨rfl,rfl⟩
 have cZ:sW w U bz [.blk ai 39 B2,.blk b6 29 B1,.blk b2 27 B0] bD:=cY
 refine bnK dr fun dT cA dt=>zG 0 Z Z Z Z (zH Z Z yl (zB Z zM) Z) cZ (fun hs=>wDF p1 bD bz hs cA) (.inr Z) ?_
 rintro bS dD dS bX dM db ⟨rfl,rfl⟩
 have dI:sW w U bS [.blk ai 39 B2,.blk b6 29 B1,.blk b2 27 B0] bX:=db
 cases dt
 intro bj du
 refine cT Z bj (sR gCu Z (oR Z (ZC (pv:=[]) (z:=B2) (cs:=B2) Z wAU ZQ wCN Z Z) (oM Z Z (zY (j:=0) (vs:=B2) Z Z Z Z bO Z Z Z Z zS (zA Z) Z Z Z ?_))))
 intro bY de
 have bP:sW w U ap [.blk ai 39 B2,.blk b6 29 B1,.blk b2 27 B0] bY:=de
 refine oA Z Z (eN (zP (zN ?_)))
 cases du
 exact ⟨rfl,_,(wCx (rs:=[.cell 4 39,.tmp 5]) (vs:=[.agg B2.toArray,jV bf]) ⟨⟨_,rfl,(wAs ZT zS (bP.blkAt (k:=0) rfl) (vs:=B2) rfl rfl)⟩,⟨rfl,trivial⟩⟩ rfl),ap,_,(bP.pick [] _ (by decide) rfl),rfl,rfl⟩
 try dsimp only at aS
 obtain ⟨bi,bp,bF,bq,bG,br,bH,bs,bI,aq,av,au,bu,bJ,rfl,rfl,cC,cD,cE,cG,cH,cI⟩:=bK
 let B3:Res:=.blk bi 139 [.slice bp aR.Race.Starts.length bF,.slice bq aR.Race.Splits.length bG,.slice br aR.Race.Clocks.length bH,.slice bs aR.Race.Readings.length bI,.map (some aq),.slice bu aR.edges.length bJ]
 have bQ:sW w U ap [B3,.obj aq (.map av au),.blk ai 39 B2,.blk b6 29 B1,.blk b2 27 B0] aQ:=bN
 refine oM Z Z (oR Z (ze Z Z (v:=.pointer (some ⟨bi,0,none⟩)) Z) (oR Z (ze Z Z (v:=jV bf) Z) (oA Z Z (oA Z Z (eN (zJ (sR fL2 Z (oM Z Z (oR Z (Zo Z Z Z) (eN (ifc aS ?_ ?_)))))))))))
 intro bk dv
 refine zr (Za (fun h=>h bk.out)) (kN (zJ (zx zn [3,2,1,2,0,0,3] gDd (by kernel_rfl) ?_)))
 have bo:=bQ.drew
 generalize hw_W94:({ aQ with drawn:=aQ.drawn + 1 }:World)=bZ at bo ⊢
 refine oM Z Z (oL Z (bo.ldBA (j:=3) Z Z Z Zh ZN (vs:=B1) Z Z) (bnK dv fun x95 cJ dw=>zG 0 Z Z Z Z (zH Z Z yK zM Z) bo (fun hs=>wBQ bZ ap hs cJ) (.inr Z) ?_))
 rintro bA dE dN bB aT cK ⟨rfl,rfl⟩
 have cL:sW w U bA [B3,.obj aq (.map av au),.blk ai 39 B2,.blk b6 29 B1,.blk b2 27 B0] bB:=cK
 refine bnK dw fun dy b5 dl=>zG 0 Z Z Z Z (zH Z Z yl (zB Z zM) Z) cL (fun hs=>wDF p1 bB bA hs b5) (.inr Z) ?_
 rintro bv dz dO bC aU cM ⟨rfl,rfl⟩
 have cN:sW w U bv [B3,.obj aq (.map av au),.blk ai 39 B2,.blk b6 29 B1,.blk b2 27 B0] bC:=cM
 have b9:=cC.le aT
 have cb:=b9.le aU
 have cd:=cD.le aT
 have cf:=cd.le aU
 have cg:=cE.le aT
 have cj:=cg.le aU
 have cm:=cG.le aT
 have cn:=cm.le aU
 have cp:=cI.le aT
 have cq:=cp.le aU
 refine bnK dl fun bR cr dm=>zG 2 Z Z Z Z (zH Z Z Tryz.call64 (zB Z (zB Z (zB Z zM))) Z) cN (fun hs=>wDK aR bi bp bF bq bG br bH bs bI aq av au bu bJ x95 dy bC bv hs cb cf cj cn cH cq cr) (.inl Z) ?_
 rintro bg dA dP bT dJ cO ⟨rfl,rfl⟩
 have cP:sW w U bg [B3,.obj aq (.map av au),.blk ai 39 B2,.blk b6 29 B1,.blk b2 27 B0] bT:=cO
 let B4:List Value:=[jV bR.Lo,jV bR.Hi]
 refine zY (j:=2) (vs:=B4) Z Z Z Z cP Z Z Z Z zS (zA Z) Z Z Z ?_
 intro bU cQ
 have bL:sW w U bg [B3,.obj aq (.map av au),.blk ai 39 B4,.blk b6 29 B1,.blk b2 27 B0] bU:=cQ
 refine oA Z Z (eN (zP ?_))
 cases dm
 exact ⟨rfl,_,(wCx (rs:=[.cell 4 39,.tmp 5]) (vs:=[.agg B4.toArray,jV 0]) ⟨⟨_,rfl,(wAs ZT zS (bL.blkAt (k:=2) rfl) (vs:=B4) rfl rfl)⟩,⟨rfl,trivial⟩⟩ rfl),bg,_,(bL.pick [] _ (by decide) rfl),rfl,rfl⟩
 intro bk dp
 refine cT Z bk (sR gCu Z (oR Z (ZC (pv:=[]) (z:=B2) (cs:=B2) Z wAU ZQ wCN Z Z) (oM Z Z (zY (j:=2) (vs:=B2) Z Z Z Z bQ Z Z Z Z zS (zA Z) Z Z Z ?_))))
 intro bV cR
 have bM:sW w U ap [B3,.obj aq (.map av au),.blk ai 39 B2,.blk b6 29 B1,.blk b2 27 B0] bV:=cR
 refine oA Z Z (eN (zP (zN ?_)))
 cases dp
 exact ⟨rfl,_,(wCx (rs:=[.cell 4 39,.tmp 5]) (vs:=[.agg B2.toArray,jV bf]) ⟨⟨_,rfl,(wAs ZT zS (bM.blkAt (k:=2) rfl) (vs:=B2) rfl rfl)⟩,⟨rfl,trivial⟩⟩ rfl),ap,_,(bM.pick [] _ (by decide) rfl),rfl,rfl⟩
end Go.Proofs.YtlnfbjphfoipaaaGreat
namespace Go.Proofs.YtlnfbjphfoipaaaGreat
open Go.KL
set_option maxHeartbeats 4000000
theorem wAc (p0:Int) (p1:Int) (p2:Int) (w:World) (U:PHeap) (hS:St0 w U [])  {r:Bool} (hm:wAQ p0 p1 p2=some r):Gv Tryz.prog 71 [jV p0,jV p1,jV p2] w (wCq w [] U (fun U_ L_ v=>v=.bool r/\L_=[])):=by
 unfold wAQ at hm
 refine Gv.of Tryz.func71 Z Tryz.ntmps71 Tryz.results71 Z (sR fL1 Z (oA Z Z (eN (sR fL9 Z (oM Z Z (oM Z Z (oR Z (zf Z Z Z) (oM Z Z ?_))))))))
 by_cases c1:p0 < p1
 have ai:=hm;rw [if_pos c1] at ai;replace c1:=zL c1
 refine oT Z c1 (oT Z c1 (oT Z c1 (oR Z (zm Z (Zp c1.out) Z) (oA Z Z (eN (zP ?_))))))
 have hE:=nJ ai;first | subst r | cases hE
 exact ⟨Z,_,(ZL Z),U,_,hS,Z,Z⟩
 have ab:=hm;rw [if_neg c1] at ab;replace c1:=zL c1
 refine ZJ Z Z Z (wF Z c1) Z Z (ZJ Z Z Z (wF Z c1) Z Z (rU Z (wF Z c1) (yd Z Z Z) (oR Z (zz Z (Za c1.out) Z) (oA Z Z (eN (zP ?_))))))
 first | (obtain rfl:=nJ ab) | cases ab
 exact ⟨Z,_,(ZL Z),U,_,hS,Z,Z⟩
theorem wEP (p0:wAL) (p1:Int) (p2:Int) (w:World) (U:PHeap) (hS:St0 w U [])  {r:Bool} (hm:wBg p0 p1 p2=some r):Gv Tryz.prog 100 [.agg #[jV p0.Lo,jV p0.Hi],jV p1,jV p2] w (wCq w [] U (fun U_ L_ v=>v=.bool r/\L_=[])):=by
 unfold wBg at hm
 refine Gv.of Tryz.func100 rfl Tryz.ntmps100 Tryz.results100 rfl (sR gCk rfl (zy (cs:=[jV p0.Lo,jV p0.Hi]) rfl rfl rfl rfl rfl rfl (by rfl) hS ?_))
 intro W1 b2 ah
 refine oA Z Z (eN (sR fL18 Z (oR Z (zE Z Z ZO Z zC) (oL Z (ah.ldB (j:=0) Z Z Z zF (v:=jV p0.Lo) Z) (oR Z (zE Z Z ZO Z zC) (oL Z (ah.ldB (j:=0) Z Z Z zF (v:=jV p0.Hi) Z) (oR Z (yd Z Z Z) (oM Z Z ?_))))))))
 by_cases c5:p0.Hi < p0.Lo
 have aj:=hm;rw [if_pos c5] at aj;replace c5:=zL c5
 refine oT Z c5 (oT Z c5 (oT Z c5 (oT Z c5 (oR Z (zm Z (Zp c5.out) Z) (oM Z Z (oN Z (oN Z (oN Z (oN Z (oR Z (zm Z Z Z) (oA Z Z (eN (zP ?_)))))))))))))
 have hE:=nJ aj;first | subst r | cases hE
 exact ⟨rfl,_,(ZL rfl),U,_,(ah.pick [] _ (by decide) rfl),rfl,rfl⟩
 have ak:=hm;rw [if_neg c5] at ak;replace c5:=zL c5
 refine rU Z (wF Z c5) (zE Z Z ZO Z zC) (ZI Z Z Z (wF Z c5) (ah.ldB (j:=0) Z Z Z zF (v:=jV p0.Lo) Z) Z (ZJ Z Z Z (wF Z c5) Z Z (rU Z (wF Z c5) (zf Z Z Z) (oR Z (zz Z (Za c5.out) Z) (oM Z Z (ifc ak ?_ ?_))))))
 intro c8 aq
 refine oT Z c8 (oT Z c8 (oT Z c8 (oT Z c8 (oR Z (zm Z (Zp c8.out) Z) (oA Z Z (eN (zP ?_)))))))
 have hE:=nJ aq;first | subst r | cases hE
 exact ⟨rfl,_,(ZL rfl),U,_,(ah.pick [] _ (by decide) rfl),rfl,rfl⟩
 intro c8 ai
 refine rU Z (wF Z c8) (zE Z Z ZO Z zC) (ZI Z Z Z (wF Z c8) (ah.ldB (j:=0) Z Z Z zF (v:=jV p0.Hi) Z) Z (ZJ Z Z Z (wF Z c8) Z Z (rU Z (wF Z c8) (yd Z Z Z) (oR Z (zz Z (Za c8.out) Z) (oA Z Z (eN (zP ?_)))))))
 first | (obtain rfl:=nJ ai) | cases ai
 exact ⟨rfl,_,(ZL rfl),U,_,(ah.pick [] _ (by decide) rfl),rfl,rfl⟩
theorem wCU (p0:wAJ) (aY:Option Addr) (a0:Nat) (aZ:Option Addr) (ba:Nat) (aT:Option Addr) (aV:Nat) (aU:Option Addr) (aW:Nat) (w:World) (U:PHeap) (hS:St0 w U []) (eY:Sl U 1 aY a0 p0.Starts.length (hH KL.encI p0.Starts)) (eZ:Sl U 2 aZ ba p0.Splits.length (hH wAB p0.Splits)) (e8:Sl U 3 aT aV p0.Clocks.length (hH wAF p0.Clocks)) (cD:Sl U 4 aU aW p0.Readings.length (hH wAE p0.Readings)) {r:Int} (hm:wAx p0=some r):Gv Tryz.prog 34 [.agg #[.slice aY p0.Starts.length a0,.slice aZ p0.Splits.length ba,.slice aT p0.Clocks.length aV,.slice aU p0.Readings.length aW]] w (wCq w [] U (fun U_ L_ v=>v=jV r/\L_=[])):=by
 unfold wAx at hm
 refine Gv.of Tryz.func34 Z Tryz.ntmps34 Tryz.results34 Z (sR gCk Z ?_)
 let B0:List Value:=[.slice aY p0.Starts.length a0,.slice aZ p0.Splits.length ba,.slice aT p0.Clocks.length aV,.slice aU p0.Readings.length aW]
 refine zy (cs:=B0) rfl rfl rfl rfl rfl rfl (by rfl) hS ?_
 intro W1 b2 cz
 refine oA Z Z (eN (zJ (sR (wEF (.fx 3 (wUT (.nil)) .stop)) Z (oR Z (zE Z Z zR Z zW) (oL Z (cz.ldB (j:=0) Z Z Z zX (v:=.slice aY p0.Starts.length a0) Z) (oR Z (zi Z Z zD) (bnK hm fun x5 h6 gp=>zG 0 Z Z Z Z (zH Z Z yL (zB Z (zB Z (zB Z zM))) Z) cz (fun hs=>wAc (↑p0.Starts.length:Int) 1 8 W1 U hs h6) (.inr Z) ?_)))))))
 rintro U8 L9 ip dg bn eL ⟨rfl,rfl⟩
 have aS:sW w U U8 [.blk b2 36 B0] dg:=eL
 refine oM Z Z (ifc gp ?_ ?_)
 intro am fj
 refine Zb Z Z Z (zu Z Z (congrArg nA am.out) Z) (Zb Z Z Z (zu Z Z (congrArg nA am.out) Z) (Zb Z Z Z (zu Z Z (congrArg nA am.out) Z) (Zb Z Z Z (zu Z Z (congrArg nA am.out) Z) (oR Z (zm Z (congrArg nA am.out) Z) (oM Z Z (oN Z (oN Z (oN Z (oN Z (oR Z (zm Z Z Z) (oM Z Z (oN Z (oN Z (oN Z (oN Z (oR Z (zm Z Z Z) (eN (ZG Z (sR fL1 Z (oA Z Z (eN (zP (zN ?_)))))))))))))))))))))))
 cases fj
 exact ⟨rfl,_,(ZL rfl),U8,_,(aS.pick [] _ (by decide) rfl),rfl,rfl⟩
 intro am fu
 refine zq Z Z Z (zO Z Z (congrArg nA (nD.2 am.out))) (fun _=>zE Z Z zR Z Zg) (ZI Z Z Z (zO Z Z (congrArg nA (nD.2 am.out))) (aS.ldB (j:=0) Z Z Z Zl (v:=.slice aZ p0.Splits.length ba) Z) Z (zq Z Z Z (zO Z Z (congrArg nA (nD.2 am.out))) (fun _=>zi Z Z ZD) (zq Z Z Z (zO Z Z (congrArg nA (nD.2 am.out))) (fun _=>yd Z Z Z) (oR Z (zz Z (congrArg nA (nD.2 am.out)) Z) (oM Z Z (ifc fu ?_ ?_))))))
 intro ap fB
 refine oT Z ap (oT Z ap (oT Z ap (oT Z ap (oR Z (zm Z (Zp ap.out) Z) (oM Z Z (oN Z (oN Z (oN Z (oN Z (oR Z (zm Z Z Z) (eN (ZG Z (sR fL1 Z (oA Z Z (eN (zP (zN ?_)))))))))))))))))
 cases fB
 exact ⟨rfl,_,(ZL rfl),U8,_,(aS.pick [] _ (by decide) rfl),rfl,rfl⟩
 intro ap fD
 refine rU Z (wF Z ap) (zE Z Z zR Z Zt) (ZI Z Z Z (wF Z ap) (aS.ldB (j:=0) Z Z Z yF (v:=.slice aT p0.Clocks.length aV) Z) Z (rU Z (wF Z ap) (zi Z Z Zi) (rU Z (wF Z ap) (yd Z Z Z) (oR Z (zz Z (Za ap.out) Z) (oM Z Z (ifc fD ?_ ?_))))))
 intro aq fG
 refine oT Z aq (oT Z aq (oT Z aq (oT Z aq (oR Z (zm Z (Zp aq.out) Z) (eN (ZG Z (sR fL1 Z (oA Z Z (eN (zP (zN ?_)))))))))))
 cases fG
 exact ⟨rfl,_,(ZL rfl),U8,_,(aS.pick [] _ (by decide) rfl),rfl,rfl⟩
 intro aq fJ
 refine rU Z (wF Z aq) (zE Z Z zR Z yN) (ZI Z Z Z (wF Z aq) (aS.ldB (j:=0) Z Z Z yf (v:=.slice aU p0.Readings.length aW) Z) Z (rU Z (wF Z aq) (zi Z Z yD) (rU Z (wF Z aq) (yd Z Z Z) (oR Z (zz Z (Za aq.out) Z) (eN (ifc fJ ?_ ?_))))))
 intro bS fO
 refine cT Z bS (sR fL1 Z (oA Z Z (eN (zP (zN ?_)))))
 cases fO
 exact ⟨rfl,_,(ZL rfl),U8,_,(aS.pick [] _ (by decide) rfl),rfl,rfl⟩
 intro bS fP
 refine cF Z bS (kN (zJ (sR fL1 Z (oA Z Z (eN (zd (yt (fun cn σ_ w_=>∃ (U_:PHeap),σ_ 1=.pointer (some ⟨b2,0,none⟩)/\σ_ 3=jV cn/\PHeap.Le U8 U_/\sW w U U_ [.blk b2 36 B0] w_) fP ?_ ?_)))))))
 exact ⟨U8,Z,Z,(zQ _),aS⟩
 rintro cn iM iR dp ⟨bM,bs,bX,be,bk⟩ cW cG
 refine zJ (sR fL5 Z (oM Z bX (oR Z (zE Z bs zR Z zW) (oL Z (bk.ldB (j:=0) Z Z Z zX (v:=.slice aY p0.Starts.length a0) Z) (oR Z (zi Z Z zD) (oR Z (zf Z Z Z) (eN ?_)))))))
 by_cases aQ:cn < (↑p0.Starts.length:Int)
 have cP:=cW;rw [if_pos aQ] at cP;replace aQ:=zL aQ
 refine cT Z aQ (kN (zJ (zd (sR (wGG (.fx 5 .nil .stop)) Z (oR Z (zE Z bs zR Z zW) (oL Z (bk.ldB (j:=0) Z Z Z zX (v:=.slice aY p0.Starts.length a0) Z) (oM Z bX (bnK cP fun db b9 gh=>?_))))))))
 have d8:=eY.le bn
 have d9:=d8.le be
 have q:=d9.el (fun _=>rfl) (wAR b9)
 obtain ⟨ie,io,eD,eJ⟩:=q
 refine oR Z (ZB Z Z eD Z zD zC (wAv b9) (wAz b9)) (oL Z (bk.ldC (f:=0) eJ (v:=jV db) Z Z zF Z) (bnK gh fun iI ec gi=>zG 0 Z Z Z Z (zH Z Z yL (zB Z (zB Z (zB Z zM))) Z) bk (fun hs=>wAc db 0 360000 dp bM hs ec) (.inr Z) ?_))
 rintro bN gW iz dr gA eX ⟨rfl,rfl⟩
 have cC:sW w U bN [.blk b2 36 B0] dr:=eX
 refine eN (ifc gi ?_ ?_)
 intro bU gj
 refine ZG (congrArg nA bU.out) (sR fL1 Z (oA Z Z (eN (zP (zg (zN ?_))))))
 have q:=wAa gj
 obtain ⟨gM,gk,dF⟩:=q
 obtain rfl:=cG gM dF
 refine zN (zg (zN ?_))
 cases gk
 exact ⟨rfl,_,(ZL rfl),bN,_,(cC.pick [] _ (by decide) rfl),rfl,rfl⟩
 intro bU gm
 refine zr (congrArg nA (nD.2 bU.out)) (Zr (ZE (zK (rR fL3 Z (oM Z bX (oR Z (zj Z Z Z) (oA Z Z (zw ?_))))))))
 obtain rfl:=nJ gm
 exact zK ⟨Z,_,Z,⟨bN,bs,Z,(be.trans gA),cC⟩⟩
 have cQ:=cW;rw [if_neg aQ] at cQ;replace aQ:=zL aQ
 refine cF Z aQ (Zf (zo ?_))
 have q:=wAa cQ
 obtain ⟨gN,gq,dG⟩:=q
 obtain rfl:=cG gN dG
 refine zo (ZX (zK (zJ (sR fL1 Z (oA Z Z (eN (zd (yt (fun x78 σ_ w_=>∃ (U_:PHeap),σ_ 1=.pointer (some ⟨b2,0,none⟩)/\σ_ 4=jV x78/\PHeap.Le bM U_/\sW w U U_ [.blk b2 36 B0] w_) gq ?_ ?_))))))))
 exact ⟨bM,bs,Z,(zQ _),bk⟩
 rintro x78 iN iT dt ⟨bO,bu,bY,bo,bm⟩ cX cH
 refine zJ (sR fL5 Z (oM Z bY (oR Z (zE Z bu zR Z Zg) (oL Z (bm.ldB (j:=0) Z Z Z Zl (v:=.slice aZ p0.Splits.length ba) Z) (oR Z (zi Z Z ZD) (oR Z (zf Z Z Z) (eN ?_)))))))
 by_cases aR:x78 < (↑p0.Splits.length:Int)
 have cR:=cX;rw [if_pos aR] at cR;replace aR:=zL aR
 refine cT Z aR (kN (zJ (zd (sR (wGG (.fx 5 .nil .stop)) Z (oR Z (zE Z bu zR Z Zg) (oL Z (bm.ldB (j:=0) Z Z Z Zl (v:=.slice aZ p0.Splits.length ba) Z) (oM Z bY (bnK cR fun x93 cb gt=>?_))))))))
 have eg:=eZ.le bn
 have eh:=eg.le be
 have ej:=eh.le bo
 have q:=ej.el (fun _=>rfl) (wAR cb)
 obtain ⟨ig,ii,en,eE⟩:=q
 refine oR Z (ZB Z Z en Z ZD zS (wAv cb) (wAz cb)) (oL Z (bm.ldCA (f:=0) eE Z Z ZT zS (us:=[jV x93.Lo,jV x93.Hi]) Z Z) (bnK gt fun iA dH e9=>zG 0 Z Z Z Z (zH Z Z Tryz.call100 (zB Z (zB Z (zB Z zM))) Z) bm (fun hs=>wEP x93 0 360000 dt bO hs dH) (.inr Z) ?_))
 rintro bC gO iq df gu eK ⟨rfl,rfl⟩
 have cw:sW w U bC [.blk b2 36 B0] df:=eK
 refine eN (ifc e9 ?_ ?_)
 intro bP fb
 refine ZG (congrArg nA bP.out) (sR fL1 Z (oA Z Z (eN (zP (zg (zN ?_))))))
 have q:=wAa fb
 obtain ⟨gB,fc,du⟩:=q
 obtain rfl:=cH gB du
 refine zN (zg (zN ?_))
 cases fc
 exact ⟨rfl,_,(ZL rfl),bC,_,(cw.pick [] _ (by decide) rfl),rfl,rfl⟩
 intro bP fd
 refine zr (congrArg nA (nD.2 bP.out)) (Zr (ZE (zK (rR fL3 Z (oM Z bY (oR Z (zj Z Z Z) (oA Z Z (zw ?_))))))))
 obtain rfl:=nJ fd
 exact zK ⟨Z,_,Z,⟨bC,bu,Z,(bo.trans gu),cw⟩⟩
 have cI:=cX;rw [if_neg aR] at cI;replace aR:=zL aR
 refine cF Z aR (Zf (zo ?_))
 have q:=wAa cI
 obtain ⟨gC,ff,dv⟩:=q
 obtain rfl:=cH gC dv
 refine zo (ZX (zK (zJ (sR fL1 Z (oA Z Z (eN (zd (yt (fun x127 σ_ w_=>∃ (U_:PHeap),σ_ 1=.pointer (some ⟨b2,0,none⟩)/\σ_ 5=jV x127/\PHeap.Le bO U_/\sW w U U_ [.blk b2 36 B0] w_) ff ?_ ?_))))))))
 exact ⟨bO,bu,Z,(zQ _),bm⟩
 rintro x127 iJ iO dh ⟨bD,bg,bq,bB,bh⟩ cS cf
 refine zJ (sR fL5 Z (oM Z bq (oR Z (zE Z bg zR Z Zt) (oL Z (bh.ldB (j:=0) Z Z Z yF (v:=.slice aT p0.Clocks.length aV) Z) (oR Z (zi Z Z Zi) (oR Z (zf Z Z Z) (eN ?_)))))))
 by_cases au:x127 < (↑p0.Clocks.length:Int)
 have cJ:=cS;rw [if_pos au] at cJ;replace au:=zL au
 refine cT Z au (kN (zJ (zd (sR (wHD (.fx 6 (wQy (.fx 14 (.fl 15 .nil) .stop)) .stop)) Z (oR Z (zE Z bg zR Z Zt) (oL Z (bh.ldB (j:=0) Z Z Z yF (v:=.slice aT p0.Clocks.length aV) Z) (oM Z bq (bnK cJ fun x142 bd fg=>?_))))))))
 have dI:=e8.le bn
 have dJ:=dI.le be
 have dK:=dJ.le bo
 have cu:=dK.le bB
 have q:=cu.el (fun _=>rfl) (wAR bd)
 obtain ⟨g8,ij,eu,eF⟩:=q
 refine oR Z (ZB Z Z eu Z Zi yZ (wAv bd) (wAz bd)) (oR Z (zE Z Z yJ Z zS) (oL Z (bh.ldCA (f:=0) eF Z Z ZT zS (us:=[jV x142.Offset.Lo,jV x142.Offset.Hi]) Z Z) (bnK fg fun iB dL fh=>zG 0 Z Z Z Z (zH Z Z Tryz.call100 (zB Z (zB Z (zB Z zM))) Z) bh (fun hs=>wEP x142.Offset (-36000) 36000 dh bD hs dL) (.inr Z) ?_)))
 rintro bE gP ir cp cY eM ⟨rfl,rfl⟩
 have bv:sW w U bE [.blk b2 36 B0] cp:=eM
 refine oM Z Z (ifc fh ?_ ?_)
 intro ae fm
 refine Zb Z Z Z (zu Z Z (congrArg nA ae.out) Z) (Zb Z Z Z (zu Z Z (congrArg nA ae.out) Z) (Zb Z Z Z (zu Z Z (congrArg nA ae.out) Z) (Zb Z Z Z (zu Z Z (congrArg nA ae.out) Z) (Zb Z Z Z (zu Z Z (congrArg nA ae.out) Z) (Zb Z Z Z (zu Z Z (congrArg nA ae.out) Z) (yU Z Z Z (zu Z Z (congrArg nA ae.out) Z) (oR Z (zm Z (congrArg nA ae.out) Z) (eN (ZG Z (sR fL1 Z (oA Z Z (eN (zP (zg (zN ?_)))))))))))))))
 have q:=wAa fm
 obtain ⟨gD,fq,dw⟩:=q
 obtain rfl:=cf gD dw
 refine zN (zg (zN ?_))
 cases fq
 exact ⟨rfl,_,(ZL rfl),bE,_,(bv.pick [] _ (by decide) rfl),rfl,rfl⟩
 intro ae ft
 refine zq Z Z Z (zO Z Z (congrArg nA (nD.2 ae.out))) (fun _=>zE Z bg zR Z Zt) (ZI Z Z Z (zO Z Z (congrArg nA (nD.2 ae.out))) (bv.ldB (j:=0) Z Z Z yF (v:=.slice aT p0.Clocks.length aV) Z) Z (ZJ Z Z Z (zO Z Z (congrArg nA (nD.2 ae.out))) Z bq ?_))
 have dM:=cu.le cY
 have q:=dM.el (fun _=>rfl) (wAR bd)
 obtain ⟨g9,ik,ey,eG⟩:=q
 refine zq Z Z Z (zO Z Z (congrArg nA (nD.2 ae.out))) (fun _=>ZB Z Z ey Z Zi yZ (wAv bd) (wAz bd)) (zq Z Z Z (zO Z Z (congrArg nA (nD.2 ae.out))) (fun _=>zE Z Z yJ Z zC) (ZI Z Z Z (zO Z Z (congrArg nA (nD.2 ae.out))) (bv.ldC (f:=2) eG (v:=jV x142.Error) Z Z zF Z) Z (bnK ft fun iC dN fw=>zG 0 Z Z Z (zO Z Z (congrArg nA (nD.2 ae.out))) (zH Z Z yL (zB Z (zB Z (zB Z zM))) Z) bv (fun hs=>wAc x142.Error 0 600 cp bE hs dN) (.inr Z) ?_)))
 rintro bF gQ it dk gv eO ⟨rfl,rfl⟩
 have cx:sW w U bF [.blk b2 36 B0] dk:=eO
 refine oR Z (zz Z (congrArg nA (nD.2 ae.out)) Z) (eN (ifc fw ?_ ?_))
 intro bQ fy
 refine ZG (congrArg nA bQ.out) (sR fL1 Z (oA Z Z (eN (zP (zg (zN ?_))))))
 have q:=wAa fy
 obtain ⟨gE,fz,dx⟩:=q
 obtain rfl:=cf gE dx
 refine zN (zg (zN ?_))
 cases fz
 exact ⟨rfl,_,(ZL rfl),bF,_,(cx.pick [] _ (by decide) rfl),rfl,rfl⟩
 intro bQ fA
 refine zr (congrArg nA (nD.2 bQ.out)) (Zr (ZE (zK (rR fL3 Z (oM Z bq (oR Z (zj Z Z Z) (oA Z Z (zw ?_))))))))
 obtain rfl:=nJ fA
 exact zK ⟨Z,_,Z,⟨bF,bg,Z,((bB.trans cY).trans gv),cx⟩⟩
 have cK:=cS;rw [if_neg au] at cK;replace au:=zL au
 refine cF Z au (Zf (zo ?_))
 have q:=wAa cK
 obtain ⟨gF,fC,dy⟩:=q
 obtain rfl:=cf gF dy
 refine zo (ZX (zK (zJ (sR fL1 Z (oA Z Z (eN (zd (yt (fun cj σ_ w_=>∃ (U_:PHeap),σ_ 1=.pointer (some ⟨b2,0,none⟩)/\σ_ 6=jV cj/\PHeap.Le bD U_/\sW w U U_ [.blk b2 36 B0] w_) fC ?_ ?_))))))))
 exact ⟨bD,bg,Z,(zQ _),bh⟩
 rintro cj iK iP dl ⟨bG,br,bV,cg,bi⟩ cU cE
 refine zJ (sR fL5 Z (oM Z bV (oR Z (zE Z br zR Z yN) (oL Z (bi.ldB (j:=0) Z Z Z yf (v:=.slice aU p0.Readings.length aW) Z) (oR Z (zi Z Z yD) (oR Z (zf Z Z Z) (eN ?_)))))))
 by_cases av:cj < (↑p0.Readings.length:Int)
 have cL:=cU;rw [if_pos av] at cL;replace av:=zL av
 refine cT Z av (kN (zJ (zd (sR (wHD (.fx 6 .nil .stop)) Z (oR Z (zE Z br zR Z yN) (oL Z (bi.ldB (j:=0) Z Z Z yf (v:=.slice aU p0.Readings.length aW) Z) (oM Z bV (bnK cL fun da bZ fE=>?_))))))))
 have dO:=cD.le bn
 have dP:=dO.le be
 have dQ:=dP.le bo
 have dR:=dQ.le bB
 have dS:=dR.le cg
 have q:=dS.el (fun _=>rfl) (wAR bZ)
 obtain ⟨ib,il,eA,eH⟩:=q
 refine oR Z (ZB Z Z eA Z yD yO (wAv bZ) (wAz bZ)) (oR Z (zE Z Z Zj Z zC) (oL Z (bi.ldC (f:=3) eH (v:=jV da.Time) Z Z zF Z) (bnK fE fun iD dT fH=>zG 0 Z Z Z Z (zH Z Z yL (zB Z (zB Z (zB Z zM))) Z) bi (fun hs=>wAc da.Time 0 360000 dl bG hs dT) (.inr Z) ?_)))
 rintro bH gR iu dm gw eP ⟨rfl,rfl⟩
 have cy:sW w U bH [.blk b2 36 B0] dm:=eP
 refine eN (ifc fH ?_ ?_)
 intro bR fK
 refine ZG (congrArg nA bR.out) (sR fL1 Z (oA Z Z (eN (zP (zg (zN ?_))))))
 have q:=wAa fK
 obtain ⟨gG,fL,dz⟩:=q
 obtain rfl:=cE gG dz
 refine zN (zg (zN ?_))
 cases fL
 exact ⟨rfl,_,(ZL rfl),bH,_,(cy.pick [] _ (by decide) rfl),rfl,rfl⟩
 intro bR fM
 refine zr (congrArg nA (nD.2 bR.out)) (Zr (ZE (zK (rR fL3 Z (oM Z bV (oR Z (zj Z Z Z) (oA Z Z (zw ?_))))))))
 obtain rfl:=nJ fM
 exact zK ⟨Z,_,Z,⟨bH,br,Z,(cg.trans gw),cy⟩⟩
 have cM:=cU;rw [if_neg av] at cM;replace av:=zL av
 refine cF Z av (Zf (zo ?_))
 have q:=wAa cM
 obtain ⟨gH,fN,dA⟩:=q
 obtain rfl:=cE gH dA
 refine zo (ZX (zK (zJ (sR fL1 Z (oA Z Z (eN (zd (yt (fun cm σ_ w_=>∃ (U_:PHeap),σ_ 1=.pointer (some ⟨b2,0,none⟩)/\σ_ 7=jV cm/\PHeap.Le bG U_/\sW w U U_ [.blk b2 36 B0] w_) fN ?_ ?_))))))))
 exact ⟨bG,br,Z,(zQ _),bi⟩
 rintro cm iL iQ gZ ⟨bI,bb,bW,cZ,bj⟩ cV bA
 refine zJ (sR fL5 Z (oM Z bW (oR Z (zE Z bb zR Z yN) (oL Z (bj.ldB (j:=0) Z Z Z yf (v:=.slice aU p0.Readings.length aW) Z) (oR Z (zi Z Z yD) (oR Z (zf Z Z Z) (eN ?_)))))))
 by_cases az:cm < (↑p0.Readings.length:Int)
 have cN:=cV;rw [if_pos az] at cN;replace az:=zL az
 refine cT Z az (kN (zJ (zd (sR (wGG gCl) Z (oR Z (zE Z bb zR Z yN) (oL Z (bj.ldB (j:=0) Z Z Z yf (v:=.slice aU p0.Readings.length aW) Z) (oM Z bW (bnK cN fun ak b5 fQ=>?_))))))))
 have dU:=cD.le bn
 have dV:=dU.le be
 have dW:=dV.le bo
 have dX:=dW.le bB
 have dY:=dX.le cg
 have dZ:=dY.le cZ
 have q:=dZ.el (fun _=>rfl) (wAR b5)
 obtain ⟨ic,im,eC,eI⟩:=q
 refine oR Z (ZB Z Z eC Z yD yO (wAv b5) (wAz b5)) (oL Z (bj.ldCA (f:=0) eI Z Z Tryz.isAgg117 yO (us:=[jV ak.Skier,jV ak.Mat,jV ak.Clock,jV ak.Time]) Z Z) (zV (cs:=[jV 0,jV 0,jV 0,jV 0]) Z Z Z Z Z Tryz.zeroValue117 Z bj ?_))
 intro g7 bp eQ
 let B1:List Value:=[jV ak.Skier,jV ak.Mat,jV ak.Clock,jV ak.Time]
 refine zY (j:=0) (vs:=B1) Z Z Z Z eQ Z Z Z Z yO (zA Z) Z Z Z ?_
 intro cq eS
 have cd:sW w U bI [.blk bp 117 B1,.blk b2 36 B0] cq:=eS
 refine eN (sR (wHD (.fx 6 (wPM (.fx 13 (wSg (.fx 22 (.fl 23 .nil) .stop)) .stop)) .stop)) Z (oR Z (zE Z Z Zj Z zC) (oL Z (cd.ldB (j:=0) Z Z Z zF (v:=jV ak.Skier) Z) (oR Z (zE Z bb zR Z zW) (oL Z (cd.ldB (j:=1) Z Z Z zX (v:=.slice aY p0.Starts.length a0) Z) (oR Z (zi Z Z zD) (oR Z (yV Z Z Z) (bnK fQ fun iE d5 fR=>zG 0 Z Z Z Z (zH Z Z yL (zB Z (zB Z (zB Z zM))) Z) cd (fun hs=>wAc ak.Skier 0 (w64 ((↑p0.Starts.length:Int) - 1)) cq bI hs d5) (.inr Z) ?_))))))))
 rintro bJ gS iv cr gx eU ⟨rfl,rfl⟩
 have bw:sW w U bJ [.blk bp 117 B1,.blk b2 36 B0] cr:=eU
 refine oM Z Z (ifc fR ?_ ?_)
 intro aj fS
 refine Zb Z Z Z (zu Z Z (congrArg nA aj.out) Z) (Zb Z Z Z (zu Z Z (congrArg nA aj.out) Z) (Zb Z Z Z (zu Z Z (congrArg nA aj.out) Z) (Zb Z Z Z (zu Z Z (congrArg nA aj.out) Z) (Zb Z Z Z (zu Z Z (congrArg nA aj.out) Z) (yU Z Z Z (zu Z Z (congrArg nA aj.out) Z) (oR Z (zm Z (congrArg nA aj.out) Z) (oM Z Z (oN Z (oN Z (oN Z (oN Z (oN Z (oN Z (yU Z Z Z (zu Z Z Z Z) (oR Z (zm Z Z Z) (eN (ZG Z (sR fL1 Z (oA Z Z (eN (zP (zg (zN ?_)))))))))))))))))))))))
 have q:=wAa fS
 obtain ⟨gI,fT,dB⟩:=q
 obtain rfl:=bA gI dB
 refine zN (zg (zN ?_))
 cases fT
 exact ⟨rfl,_,(ZL rfl),bJ,_,(bw.pick [] _ (by decide) rfl),rfl,rfl⟩
 intro aj fU
 refine zq Z Z Z (zO Z Z (congrArg nA (nD.2 aj.out))) (fun _=>zE Z Z Zj Z zC) (ZI Z Z Z (zO Z Z (congrArg nA (nD.2 aj.out))) (bw.ldB (j:=0) Z Z Z zF (v:=jV ak.Mat) Z) Z (zq Z Z Z (zO Z Z (congrArg nA (nD.2 aj.out))) (fun _=>zE Z bb zR Z Zg) (ZI Z Z Z (zO Z Z (congrArg nA (nD.2 aj.out))) (bw.ldB (j:=1) Z Z Z Zl (v:=.slice aZ p0.Splits.length ba) Z) Z (zq Z Z Z (zO Z Z (congrArg nA (nD.2 aj.out))) (fun _=>zi Z Z ZD) (bnK fU fun iF d6 fV=>zG 0 Z Z Z (zO Z Z (congrArg nA (nD.2 aj.out))) (zH Z Z yL (zB Z (zB Z (zB Z zM))) Z) bw (fun hs=>wAc ak.Mat 0 (↑p0.Splits.length:Int) cr bJ hs d6) (.inr Z) ?_)))))
 rintro bK gT iw ct gy eV ⟨rfl,rfl⟩
 have bz:sW w U bK [.blk bp 117 B1,.blk b2 36 B0] ct:=eV
 refine oR Z (zz Z (congrArg nA (nD.2 aj.out)) Z) (oM Z Z (ifc fV ?_ ?_))
 intro ah fW
 refine Zb Z Z Z (zu Z Z (congrArg nA ah.out) Z) (Zb Z Z Z (zu Z Z (congrArg nA ah.out) Z) (Zb Z Z Z (zu Z Z (congrArg nA ah.out) Z) (Zb Z Z Z (zu Z Z (congrArg nA ah.out) Z) (Zb Z Z Z (zu Z Z (congrArg nA ah.out) Z) (Zb Z Z Z (zu Z Z (congrArg nA ah.out) Z) (yU Z Z Z (zu Z Z (congrArg nA ah.out) Z) (oR Z (zm Z (congrArg nA ah.out) Z) (eN (ZG Z (sR fL1 Z (oA Z Z (eN (zP (zg (zN ?_)))))))))))))))
 have q:=wAa fW
 obtain ⟨gJ,fY,dC⟩:=q
 obtain rfl:=bA gJ dC
 refine zN (zg (zN ?_))
 cases fY
 exact ⟨rfl,_,(ZL rfl),bK,_,(bz.pick [] _ (by decide) rfl),rfl,rfl⟩
 intro ah fZ
 refine zq Z Z Z (zO Z Z (congrArg nA (nD.2 ah.out))) (fun _=>zE Z Z Zj Z zC) (ZI Z Z Z (zO Z Z (congrArg nA (nD.2 ah.out))) (bz.ldB (j:=0) Z Z Z zF (v:=jV ak.Clock) Z) Z (zq Z Z Z (zO Z Z (congrArg nA (nD.2 ah.out))) (fun _=>zE Z bb zR Z Zt) (ZI Z Z Z (zO Z Z (congrArg nA (nD.2 ah.out))) (bz.ldB (j:=1) Z Z Z yF (v:=.slice aT p0.Clocks.length aV) Z) Z (zq Z Z Z (zO Z Z (congrArg nA (nD.2 ah.out))) (fun _=>zi Z Z Zi) (zq Z Z Z (zO Z Z (congrArg nA (nD.2 ah.out))) (fun _=>yV Z Z Z) (bnK fZ fun iG d7 ga=>zG 0 Z Z Z (zO Z Z (congrArg nA (nD.2 ah.out))) (zH Z Z yL (zB Z (zB Z (zB Z zM))) Z) bz (fun hs=>wAc ak.Clock 0 (w64 ((↑p0.Clocks.length:Int) - 1)) ct bK hs d7) (.inr Z) ?_))))))
 rintro bL gU iy dq gz eW ⟨rfl,rfl⟩
 have cA:sW w U bL [.blk bp 117 B1,.blk b2 36 B0] dq:=eW
 refine oR Z (zz Z (congrArg nA (nD.2 ah.out)) Z) (eN (ifc ga ?_ ?_))
 intro bT gb
 refine ZG (congrArg nA bT.out) (sR fL1 Z (oA Z Z (eN (zP (zg (zN ?_))))))
 have q:=wAa gb
 obtain ⟨gK,ge,dD⟩:=q
 obtain rfl:=bA gK dD
 refine zN (zg (zN ?_))
 cases ge
 exact ⟨rfl,_,(ZL rfl),bL,_,(cA.pick [] _ (by decide) rfl),rfl,rfl⟩
 intro bT gf
 refine zr (congrArg nA (nD.2 bT.out)) (Zr (ZE (zK (rR fL3 Z (oM Z bW (oR Z (zj Z Z Z) (oA Z Z (zw ?_))))))))
 obtain rfl:=nJ gf
 exact zK ⟨rfl,_,rfl,⟨bL,bb,rfl,(((cZ.trans gx).trans gy).trans gz),(cA.pick [1] _ (by decide) rfl)⟩⟩
 have cO:=cV;rw [if_neg az] at cO;replace az:=zL az
 refine cF Z az (Zf (zo ?_))
 have q:=wAa cO
 obtain ⟨gL,gg,dE⟩:=q
 obtain rfl:=bA gL dE
 refine zo (ZX (zK (sR fL1 Z (oA Z Z (eN (zP ?_))))))
 cases gg
 exact ⟨rfl,_,(ZL rfl),bI,_,(bj.pick [] _ (by decide) rfl),rfl,rfl⟩
theorem wEQ (p0:wAJ) (ai:Option Addr) (ak:Nat) (aj:Option Addr) (am:Nat) (az:Option Addr) (aR:Nat) (aQ:Option Addr) (aS:Nat) (p1:wAP) (w:World) (U:PHeap) (hS:St0 w U []) (bn:Sl U 1 ai ak p0.Starts.length (hH KL.encI p0.Starts)) (bo:Sl U 2 aj am p0.Splits.length (hH wAB p0.Splits)) (bp:Sl U 3 az aR p0.Clocks.length (hH wAF p0.Clocks)) (bq:Sl U 4 aQ aS p0.Readings.length (hH wAE p0.Readings)) {r:Bool} (hm:wBh p0 p1=some r):Gv Tryz.prog 110 [.agg #[.slice ai p0.Starts.length ak,.slice aj p0.Splits.length am,.slice az p0.Clocks.length aR,.slice aQ p0.Readings.length aS],.agg #[jV p1.Skier,jV p1.Mat]] w (wCq w [] U (fun U_ L_ v=>v=.bool r/\L_=[])):=by
 unfold wBh at hm
 refine Gv.of Tryz.func110 Z Tryz.ntmps110 Tryz.results110 Z (sR (.fx 0 gCf .stop) Z ?_)
 let B0:List Value:=[.slice ai p0.Starts.length ak,.slice aj p0.Splits.length am,.slice az p0.Clocks.length aR,.slice aQ p0.Readings.length aS]
 refine zy (cs:=B0) rfl rfl rfl rfl rfl rfl (by rfl) hS ?_
 intro W1 b2 bb
 let B1:List Value:=[jV p1.Skier,jV p1.Mat]
 refine zy (cs:=B1) rfl rfl rfl rfl rfl rfl (by rfl) bb ?_
 intro W5 b6 av
 refine oA Z Z (eN (sR (wHD (.fx 6 (wPM gCr) .stop)) Z (oR Z (zE Z Z yM Z zC) (oL Z (av.ldB (j:=0) Z Z Z zF (v:=jV p1.Skier) Z) (oR Z (zE Z Z zR Z zW) (oL Z (av.ldB (j:=1) Z Z Z zX (v:=.slice ai p0.Starts.length ak) Z) (oR Z (zi Z Z zD) (oR Z (yV Z Z Z) (bnK hm fun x9 aZ bf=>zG 0 Z Z Z Z (zH Z Z yL (zB Z (zB Z (zB Z zM))) Z) av (fun hs=>wAc p1.Skier 0 (w64 ((↑p0.Starts.length:Int) - 1)) W5 U hs aZ) (.inr Z) ?_)))))))))
 rintro au bj bu aU br ba ⟨rfl,rfl⟩
 have ah:sW w U au [.blk b6 44 B1,.blk b2 36 B0] aU:=ba
 refine oM Z Z (ifc bf ?_ ?_)
 intro ab bg
 refine Zb Z Z Z (zu Z Z (congrArg nA ab.out) Z) (Zb Z Z Z (zu Z Z (congrArg nA ab.out) Z) (Zb Z Z Z (zu Z Z (congrArg nA ab.out) Z) (Zb Z Z Z (zu Z Z (congrArg nA ab.out) Z) (Zb Z Z Z (zu Z Z (congrArg nA ab.out) Z) (yU Z Z Z (zu Z Z (congrArg nA ab.out) Z) (oR Z (zm Z (congrArg nA ab.out) Z) (oA Z Z (eN (zP ?_)))))))))
 have hE:=nJ bg;first | subst r | cases hE
 exact ⟨rfl,_,(ZL rfl),au,_,(ah.pick [] _ (by decide) rfl),rfl,rfl⟩
 intro ab bh
 refine zq Z Z Z (zO Z Z (congrArg nA (nD.2 ab.out))) (fun _=>zE Z Z yM Z zC) (ZI Z Z Z (zO Z Z (congrArg nA (nD.2 ab.out))) (ah.ldB (j:=0) Z Z Z zF (v:=jV p1.Mat) Z) Z (zq Z Z Z (zO Z Z (congrArg nA (nD.2 ab.out))) (fun _=>zE Z Z zR Z Zg) (ZI Z Z Z (zO Z Z (congrArg nA (nD.2 ab.out))) (ah.ldB (j:=1) Z Z Z Zl (v:=.slice aj p0.Splits.length am) Z) Z (zq Z Z Z (zO Z Z (congrArg nA (nD.2 ab.out))) (fun _=>zi Z Z ZD) (bnK bh fun x22 a0 bi=>zG 0 Z Z Z (zO Z Z (congrArg nA (nD.2 ab.out))) (zH Z Z yL (zB Z (zB Z (zB Z zM))) Z) ah (fun hs=>wAc p1.Mat 0 (↑p0.Splits.length:Int) aU au hs a0) (.inr Z) ?_)))))
 rintro aT bk bv aX bs bd ⟨rfl,rfl⟩
 have be:sW w U aT [.blk b6 44 B1,.blk b2 36 B0] aX:=bd
 refine oR Z (zz Z (congrArg nA (nD.2 ab.out)) Z) (oA Z Z (eN (zP ?_)))
 have hE:=nJ bi;first | subst r | cases hE
 exact ⟨rfl,_,(ZL rfl),aT,_,(be.pick [] _ (by decide) rfl),rfl,rfl⟩
end Go.Proofs.YtlnfbjphfoipaaaGreat
namespace Go.Proofs.YtlnfbjphfoipaaaGreat
open Go.KL
set_option maxHeartbeats 4000000
theorem wAy (p0:wAJ) (ah:Option Addr) (ak:Nat) (ab:Option Addr) (ae:Nat) (ai:Option Addr) (am:Nat) (aj:Option Addr) (ap:Nat) (p1:Int) (p2:Int) (w:World) (U:PHeap) (hS:St0 w U []) (aR:Sl U 1 ah ak p0.Starts.length (hH KL.encI p0.Starts)) (aS:Sl U 2 ab ae p0.Splits.length (hH wAB p0.Splits)) (aT:Sl U 3 ai am p0.Clocks.length (hH wAF p0.Clocks)) (aU:Sl U 4 aj ap p0.Readings.length (hH wAE p0.Readings)) {r:Int} (hm:wAV p0 p1 p2=some r):Gv Tryz.prog 68 [.agg #[.slice ah p0.Starts.length ak,.slice ab p0.Splits.length ae,.slice ai p0.Clocks.length am,.slice aj p0.Readings.length ap],jV p1,jV p2] w (wCq w [] U (fun U_ L_ v=>v=jV r/\L_=[])):=by
 unfold wAV at hm
 refine Gv.of Tryz.func68 rfl Tryz.ntmps68 Tryz.results68 rfl (sR gCk rfl (zy (cs:=[.slice ah p0.Starts.length ak,.slice ab p0.Splits.length ae,.slice ai p0.Clocks.length am,.slice aj p0.Readings.length ap]) rfl rfl rfl rfl rfl rfl (by rfl) hS ?_))
 intro W1 b2 aq
 refine oA Z Z (eN (sR fL10 Z (oM Z Z (oR Z (zE Z Z zR Z Zg) (oL Z (aq.ldB (j:=0) Z Z Z Zl (v:=.slice ab p0.Splits.length ae) Z) (oR Z (zi Z Z ZD) (oR Z (zj Z Z Z) (oR Z (Runs.mulw Z Z Z) (oR Z (zj Z Z Z) (oM Z Z (oR Z (zj Z Z Z) (oA Z Z (eN (zP ?_))))))))))))))
 cases hm
 exact ⟨rfl,_,(ZL rfl),U,_,(aq.pick [] _ (by decide) rfl),rfl,rfl⟩
theorem wBu (p0:wAJ) (ab:Option Addr) (ae:Nat) (ah:Option Addr) (ak:Nat) (ai:Option Addr) (am:Nat) (aj:Option Addr) (ap:Nat) (p1:Int) (w:World) (U:PHeap) (hS:St0 w U []) (aW:Sl U 1 ab ae p0.Starts.length (hH KL.encI p0.Starts)) (aX:Sl U 2 ah ak p0.Splits.length (hH wAB p0.Splits)) (aY:Sl U 3 ai am p0.Clocks.length (hH wAF p0.Clocks)) (aZ:Sl U 4 aj ap p0.Readings.length (hH wAE p0.Readings)) {r:Int} (hm:wAe p0 p1=some r):Gv Tryz.prog 73 [.agg #[.slice ab p0.Starts.length ae,.slice ah p0.Splits.length ak,.slice ai p0.Clocks.length am,.slice aj p0.Readings.length ap],jV p1] w (wCq w [] U (fun U_ L_ v=>v=jV r/\L_=[])):=by
 unfold wAe at hm
 refine Gv.of Tryz.func73 Z Tryz.ntmps73 Tryz.results73 Z (sR gCk Z ?_)
 let B0:List Value:=[.slice ab p0.Starts.length ae,.slice ah p0.Splits.length ak,.slice ai p0.Clocks.length am,.slice aj p0.Readings.length ap]
 refine zy (cs:=B0) rfl rfl rfl rfl rfl rfl (by rfl) hS ?_
 intro W1 b2 au
 refine oA Z Z (eN (sR (wEu (.fx 4 (wPL (.nil)) .stop)) Z (oL Z (au.ldBA (j:=0) Z Z Z ZS ZH (vs:=B0) Z Z) (oR Z (zE Z Z zR Z zW) (oL Z (au.ldB (j:=0) Z Z Z zX (v:=.slice ab p0.Starts.length ae) Z) (oR Z (zi Z Z zD) (bnK hm fun x5 h6 a0=>zG 0 Z Z Z Z (zH Z Z Tryz.call68 (zB Z (zB Z (zB Z zM))) Z) au (fun hs=>wAy p0 ab ae ah ak ai am aj ap (↑p0.Starts.length:Int) 0 W1 U hs aW aX aY aZ h6) (.inr Z) ?_)))))))
 rintro U8 L9 bd aR bb aU ⟨rfl,rfl⟩
 have aV:sW w U U8 [.blk b2 36 B0] aR:=aU
 refine oM Z Z (oR Z (zj Z Z Z) (oA Z Z (eN (zP ?_))))
 cases a0
 exact ⟨rfl,_,(ZL rfl),U8,_,(aV.pick [] _ (by decide) rfl),rfl,rfl⟩
theorem wFO (p0:wAJ) (ah:Option Addr) (ak:Nat) (ai:Option Addr) (am:Nat) (ab:Option Addr) (ae:Nat) (aj:Option Addr) (ap:Nat) (w:World) (U:PHeap) (hS:St0 w U []) (aV:Sl U 1 ah ak p0.Starts.length (hH KL.encI p0.Starts)) (aW:Sl U 2 ai am p0.Splits.length (hH wAB p0.Splits)) (aX:Sl U 3 ab ae p0.Clocks.length (hH wAF p0.Clocks)) (aY:Sl U 4 aj ap p0.Readings.length (hH wAE p0.Readings)) {r:Int} (hm:wBU p0=some r):Gv Tryz.prog 120 [.agg #[.slice ah p0.Starts.length ak,.slice ai p0.Splits.length am,.slice ab p0.Clocks.length ae,.slice aj p0.Readings.length ap]] w (wCq w [] U (fun U_ L_ v=>v=jV r/\L_=[])):=by
 unfold wBU at hm
 refine Gv.of Tryz.func120 Z Tryz.ntmps120 Tryz.results120 Z (sR gCk Z ?_)
 let B0:List Value:=[.slice ah p0.Starts.length ak,.slice ai p0.Splits.length am,.slice ab p0.Clocks.length ae,.slice aj p0.Readings.length ap]
 refine zy (cs:=B0) rfl rfl rfl rfl rfl rfl (by rfl) hS ?_
 intro W1 b2 au
 refine oA Z Z (eN (sR (wEu (.fx 4 (.fl 5 .nil) .stop)) Z (oL Z (au.ldBA (j:=0) Z Z Z ZS ZH (vs:=B0) Z Z) (oR Z (zE Z Z zR Z Zt) (oL Z (au.ldB (j:=0) Z Z Z yF (v:=.slice ab p0.Clocks.length ae) Z) (oR Z (zi Z Z Zi) (bnK hm fun x5 h6 aZ=>zG 0 Z Z Z Z (zH Z Z Tryz.call73 (zB Z (zB Z zM)) Z) au (fun hs=>wBu p0 ah ak ai am ab ae aj ap (↑p0.Clocks.length:Int) W1 U hs aV aW aX aY h6) (.inr Z) ?_)))))))
 rintro U8 L9 bb aQ ba aT ⟨rfl,rfl⟩
 have aU:sW w U U8 [.blk b2 36 B0] aQ:=aT
 refine oA Z Z (eN (zP ?_))
 have hE:=nJ aZ;first | subst r | cases hE
 exact ⟨rfl,_,(ZL rfl),U8,_,(aU.pick [] _ (by decide) rfl),rfl,rfl⟩
theorem wBb (p0:wAS) (ak:Option Addr) (am:Nat) (ah:List Hd) (p1:Int) (p2:Int) (p3:Int) (p4:Int) (w:World) (U:PHeap) (hS:St0 w U [.row ak am 22 1 (hH wEf ah),inn 3 1 KL.encI ah p0.t])  {r:(List (List Int))} (hm:wAN p0 p1 p2 p3 p4=some r):Gv Tryz.prog 121 [.agg #[.slice ak p0.t.length am],jV p1,jV p2,jV p3,jV p4] w (wCq w [.row ak am 22 1 (hH wEf ah),inn 3 1 KL.encI ah p0.t] U (fun U_ L_ v=>v=.tuple #[]/\L_=[.row ak am 22 1 (hH wEf ah),inn 3 1 KL.encI ah r])):=by
 unfold wAN at hm
 refine Gv.of Tryz.func121 Z Tryz.ntmps121 Tryz.results121 Z (sR (.fx 0 .nil .stop) Z ?_)
 let B0:List Value:=[.slice ak p0.t.length am]
 refine zy (cs:=B0) rfl rfl rfl rfl rfl rfl (by rfl) hS ?_
 intro W3 b4 bA
 refine eN (zJ (zx zn [3,1,3,3,1,3,3,1,3,3,1,3,3,1,3,3,3,0] (wQt (.fx 17 .nil .stop)) (by kernel_rfl) ?_))
 have aQ:=bA.drew
 generalize hw_W8:({ W3 with drawn:=W3.drawn + 1 }:World)=W8 at aQ ⊢
 refine oR Z (zE Z Z Tryz.runUnderlying188 Z Tryz.sizeOf49) (oL Z (aQ.ldB (j:=0) Z Z Z Tryz.isAgg49 (v:=.slice ak p0.t.length am) Z) (oM Z Z (bnK hm fun _ h9 bQ=>?_)))
 obtain ⟨bZ,av⟩:=aQ.rowSome (j:=1) rfl (by rw [wAI (f:=wEf) (sz:=1) (fun _=>rfl),(aQ.innFit (j:=2) rfl).len];have hz:=wAW h9;omega)
 refine oR Z (ZB Z Z av Z zZ zW (wCf h9) (wCg h9)) ?_
 have bj:=aQ.innFit (j:=2) rfl
 have bI:=wBL (xs:=ah) (k:=p1.toNat) (by rw [bj.len];exact (wAW h9))
 have bV:nL (gd ah p1.toNat).A (gd ah p1.toNat).n (gd ah p1.toNat).c=.slice ((gd ah p1.toNat).A) ((gd p0.t p1.toNat).length) ((gd ah p1.toNat).c):=by rw [bj.at_ (k:=p1.toNat) (wAW h9)]
 refine ZI rfl rfl rfl rfl (yr (aQ.ldR (j:=1) rfl av rfl rfl zX (wAX (sz:=1) (fun _=>rfl) _ _ 0 _ bI (by first | omega | rfl | simp) rfl)) bV) rfl ?_
 let B1:Res:=.row ak am 22 1 (hH wEf ah)
 have bq:SW w [B1,inn 3 1 KL.encI ah p0.t] U U [inn 3 1 KL.encI ah p0.t,.blk b4 188 B0,B1] W8:=aQ.pick [2,0,1] _ (by decide) rfl
 have br:=bq.innTake (k:=p1.toNat) (wAW h9)
 have aU:SW w [B1,inn 3 1 KL.encI ah p0.t] U U [.row ((gd ah p1.toNat).A) ((gd ah p1.toNat).c) 3 1 (hH KL.encI (gd p0.t p1.toNat)),wKB 3 1 KL.encI ah p0.t p1.toNat,.blk b4 188 B0,B1] W8:=br
 refine oM Z Z (oR Z (zE Z Z Tryz.runUnderlying188 Z Tryz.sizeOf49) (oL Z (aU.ldB (j:=2) Z Z Z Tryz.isAgg49 (v:=.slice ak p0.t.length am) Z) (oM Z Z (oR Z (ZB Z Z av Z zZ zW (wCf h9) (wCg h9)) ?_))))
 have q:=aU.innHFit (j:=1) rfl
 obtain ⟨bk,bn⟩:=q
 have bJ:=wBL (xs:=ah) (k:=p1.toNat) (by rw [bk.len];exact bn)
 have bW:nL (gd ah p1.toNat).A (gd ah p1.toNat).n (gd ah p1.toNat).c=.slice ((gd ah p1.toNat).A) ((gd p0.t p1.toNat).length) ((gd ah p1.toNat).c):=congrArg (fun n_=>nL (gd ah p1.toNat).A n_ (gd ah p1.toNat).c) ((bk.at_ (k:=p1.toNat) bn).trans (Eq.symm rfl))
 refine ZI rfl rfl rfl rfl (yr (aU.ldR (j:=3) rfl av rfl rfl zX (wAX (sz:=1) (fun _=>rfl) _ _ 0 _ bJ (by first | omega | rfl | simp) rfl)) bW) rfl (ZJ rfl rfl rfl rfl rfl rfl (bnK bQ fun _ ap bR=>?_))
 obtain ⟨b5,aX⟩:=aU.rowSome (j:=0) rfl (by rw [wAI (f:=KL.encI) (sz:=1) (fun _=>rfl) (gd p0.t p1.toNat)];have hz:=wAW ap;omega)
 refine oR Z (ZB Z Z aX Z zD zC (wCf ap) (wCg ap)) ?_
 have bK:=wBL (xs:=(gd p0.t p1.toNat)) (wAW ap)
 refine ZI rfl rfl rfl rfl (aU.ldR (j:=0) rfl aX rfl rfl zF (wAX (sz:=1) (fun _=>rfl) _ _ 0 _ bK (by first | omega | rfl | simp) rfl)) rfl (ZJ rfl rfl rfl rfl rfl rfl (zq rfl rfl rfl rfl (fun _=>Runs.min rfl rfl rfl) (zq rfl rfl rfl rfl (fun _=>ZB rfl rfl aX rfl zD zC (wCf ap) (wCg ap)) ?_)))
 have bL:=wBL (xs:=(gd p0.t p1.toNat)) (wAW ap)
 refine yp (j:=0) (vs:=[jV (min (gd (gd p0.t p1.toNat) p2.toNat) p3)]) (cs':=hH KL.encI (nB (gd p0.t p1.toNat) p2.toNat (min (gd (gd p0.t p1.toNat) p2.toNat) p3))) rfl rfl rfl rfl aU rfl aX rfl rfl rfl zC (by rw [wAI (f:=KL.encI) (sz:=1) (fun _=>rfl)];have hz:=wAW ap;show _ + 1 <= _;first | omega | (simp only [nI];omega) | (simp only [nH,nE,nG];omega)) rfl (wDW (sz:=1) (fo:=0) (fun _=>rfl) _ _ _ _ bL (by first | omega | (simp only [nI];omega) | (simp only [nH,nE,nG];omega)) (zA rfl) rfl) rfl ?_
 intro aZ bs
 have bu:SW w [B1,inn 3 1 KL.encI ah p0.t] U U [.row ((gd ah p1.toNat).A) ((gd ah p1.toNat).c) 3 1 (hH KL.encI (nB (gd p0.t p1.toNat) p2.toNat (min (gd (gd p0.t p1.toNat) p2.toNat) p3))),wKB 3 1 KL.encI ah p0.t p1.toNat,.blk b4 188 B0,B1] aZ:=bs
 refine eN (zx zn [3,1,3,3,1,3,3,1,3,3,1,3,3,1,3,3,3,0] (wQt (.fx 17 .nil .stop)) (by kernel_rfl) ?_)
 have aW:=bu.drew
 generalize hw_W34:({ aZ with drawn:=aZ.drawn + 1 }:World)=a0 at aW ⊢
 refine oR Z (zE Z Z Tryz.runUnderlying188 Z Tryz.sizeOf49) (oL Z (aW.ldB (j:=2) Z Z Z Tryz.isAgg49 (v:=.slice ak p0.t.length am) Z) (oM Z Z (bnK bR fun _ bb bS=>oR Z (ZB Z Z av Z zZ zW (wCf bb) (wCg bb)) ?_)))
 have bG:=(aW.innHFit (j:=1) rfl).1
 have q:=aW.innHFit (j:=1) rfl
 obtain ⟨bH,bo⟩:=q
 have bo:(nB (gd p0.t p1.toNat) p2.toNat (min (gd (gd p0.t p1.toNat) p2.toNat) p3)).length=(gd ah p1.toNat).n:=nM nK (bH.at_ (k:=p1.toNat) bo).symm
 have bv:=aW.innBack nK
 have bw:SW w [B1,inn 3 1 KL.encI ah p0.t] U U [inn 3 1 KL.encI ah (nB p0.t p1.toNat (nB (gd p0.t p1.toNat) p2.toNat (min (gd (gd p0.t p1.toNat) p2.toNat) p3))),.blk b4 188 B0,B1] a0:=bv
 let B2:Res:=.blk b4 188 [.slice ak ((nB p0.t p1.toNat (nB (gd p0.t p1.toNat) p2.toNat (min (gd (gd p0.t p1.toNat) p2.toNat) p3))).length) am]
 have bd:SW w [B1,inn 3 1 KL.encI ah p0.t] U U [inn 3 1 KL.encI ah (nB p0.t p1.toNat (nB (gd p0.t p1.toNat) p2.toNat (min (gd (gd p0.t p1.toNat) p2.toNat) p3))),B2,B1] a0:=by simpa only [B0,B1,B2,nK] using bw
 have be:=bd.innFit (j:=0) rfl
 have bf:p2.toNat < (nB p0.t p1.toNat (nB (gd p0.t p1.toNat) p2.toNat (min (gd (gd p0.t p1.toNat) p2.toNat) p3))).length:=nO (wAW bb) (bG.len.symm.trans be.len)
 have bM:=wBL (xs:=ah) (k:=p2.toNat) (by rw [be.len];exact bf)
 have bX:nL (gd ah p2.toNat).A (gd ah p2.toNat).n (gd ah p2.toNat).c=.slice ((gd ah p2.toNat).A) ((gd (nB p0.t p1.toNat (nB (gd p0.t p1.toNat) p2.toNat (min (gd (gd p0.t p1.toNat) p2.toNat) p3))) p2.toNat).length) ((gd ah p2.toNat).c):=by rw [be.at_ (k:=p2.toNat) bf]
 refine ZI rfl rfl rfl rfl (yr (bd.ldR (j:=2) rfl av rfl rfl zX (wAX (sz:=1) (fun _=>rfl) _ _ 0 _ bM (by first | omega | rfl | simp) rfl)) bX) rfl ?_
 have bz:=bd.innTake (k:=p2.toNat) bf
 have aV:SW w [B1,inn 3 1 KL.encI ah p0.t] U U [.row ((gd ah p2.toNat).A) ((gd ah p2.toNat).c) 3 1 (hH KL.encI (gd (nB p0.t p1.toNat (nB (gd p0.t p1.toNat) p2.toNat (min (gd (gd p0.t p1.toNat) p2.toNat) p3))) p2.toNat)),wKB 3 1 KL.encI ah (nB p0.t p1.toNat (nB (gd p0.t p1.toNat) p2.toNat (min (gd (gd p0.t p1.toNat) p2.toNat) p3))) p2.toNat,B2,B1] a0:=bz
 refine oM Z Z (oR Z (zE Z Z Tryz.runUnderlying188 Z Tryz.sizeOf49) (oL Z (aV.ldB (j:=2) Z Z Z Tryz.isAgg49 (v:=.slice ak ((nB p0.t p1.toNat (nB (gd p0.t p1.toNat) p2.toNat (min (gd (gd p0.t p1.toNat) p2.toNat) p3))).length) am) Z) (oM Z Z (bnK bS fun _ bi bT=>oR Z (ZB Z Z av Z zZ zW (wCf bi) (wCg bi)) ?_))))
 have q:=aV.innHFit (j:=1) rfl
 obtain ⟨bm,bp⟩:=q
 have bN:=wBL (xs:=ah) (k:=p2.toNat) (by rw [bm.len];exact bp)
 have bY:nL (gd ah p2.toNat).A (gd ah p2.toNat).n (gd ah p2.toNat).c=.slice ((gd ah p2.toNat).A) ((gd (nB p0.t p1.toNat (nB (gd p0.t p1.toNat) p2.toNat (min (gd (gd p0.t p1.toNat) p2.toNat) p3))) p2.toNat).length) ((gd ah p2.toNat).c):=congrArg (fun n_=>nL (gd ah p2.toNat).A n_ (gd ah p2.toNat).c) ((bm.at_ (k:=p2.toNat) bp).trans (Eq.symm rfl))
 refine ZI rfl rfl rfl rfl (yr (aV.ldR (j:=3) rfl av rfl rfl zX (wAX (sz:=1) (fun _=>rfl) _ _ 0 _ bN (by first | omega | rfl | simp) rfl)) bY) rfl (ZJ rfl rfl rfl rfl rfl rfl (bnK bT fun _ aq bU=>?_))
 obtain ⟨b9,aY⟩:=aV.rowSome (j:=0) rfl (by rw [wAI (f:=KL.encI) (sz:=1) (fun _=>rfl) (gd (nB p0.t p1.toNat (nB (gd p0.t p1.toNat) p2.toNat (min (gd (gd p0.t p1.toNat) p2.toNat) p3))) p2.toNat)];have hz:=wAW aq;omega)
 refine oR Z (ZB Z Z aY Z zD zC (wCf aq) (wCg aq)) ?_
 have bO:=wBL (xs:=(gd (nB p0.t p1.toNat (nB (gd p0.t p1.toNat) p2.toNat (min (gd (gd p0.t p1.toNat) p2.toNat) p3))) p2.toNat)) (wAW aq)
 refine ZI rfl rfl rfl rfl (aV.ldR (j:=0) rfl aY rfl rfl zF (wAX (sz:=1) (fun _=>rfl) _ _ 0 _ bO (by first | omega | rfl | simp) rfl)) rfl (ZJ rfl rfl rfl rfl rfl rfl (zq rfl rfl rfl rfl (fun _=>Runs.min rfl rfl rfl) (zq rfl rfl rfl rfl (fun _=>ZB rfl rfl aY rfl zD zC (wCf aq) (wCg aq)) ?_)))
 have bP:=wBL (xs:=(gd (nB p0.t p1.toNat (nB (gd p0.t p1.toNat) p2.toNat (min (gd (gd p0.t p1.toNat) p2.toNat) p3))) p2.toNat)) (wAW aq)
 refine yp (j:=0) (vs:=[jV (min (gd (gd (nB p0.t p1.toNat (nB (gd p0.t p1.toNat) p2.toNat (min (gd (gd p0.t p1.toNat) p2.toNat) p3))) p2.toNat) p1.toNat) p4)]) (cs':=hH KL.encI (nB (gd (nB p0.t p1.toNat (nB (gd p0.t p1.toNat) p2.toNat (min (gd (gd p0.t p1.toNat) p2.toNat) p3))) p2.toNat) p1.toNat (min (gd (gd (nB p0.t p1.toNat (nB (gd p0.t p1.toNat) p2.toNat (min (gd (gd p0.t p1.toNat) p2.toNat) p3))) p2.toNat) p1.toNat) p4))) rfl rfl rfl rfl aV rfl aY rfl rfl rfl zC (by rw [wAI (f:=KL.encI) (sz:=1) (fun _=>rfl)];have hz:=wAW aq;show _ + 1 <= _;first | omega | (simp only [nI];omega) | (simp only [nH,nE,nG];omega)) rfl (wDW (sz:=1) (fo:=0) (fun _=>rfl) _ _ _ _ bP (by first | omega | (simp only [nI];omega) | (simp only [nH,nE,nG];omega)) (zA rfl) rfl) rfl ?_
 intro ba bB
 have bC:SW w [B1,inn 3 1 KL.encI ah p0.t] U U [.row ((gd ah p2.toNat).A) ((gd ah p2.toNat).c) 3 1 (hH KL.encI (nB (gd (nB p0.t p1.toNat (nB (gd p0.t p1.toNat) p2.toNat (min (gd (gd p0.t p1.toNat) p2.toNat) p3))) p2.toNat) p1.toNat (min (gd (gd (nB p0.t p1.toNat (nB (gd p0.t p1.toNat) p2.toNat (min (gd (gd p0.t p1.toNat) p2.toNat) p3))) p2.toNat) p1.toNat) p4))),wKB 3 1 KL.encI ah (nB p0.t p1.toNat (nB (gd p0.t p1.toNat) p2.toNat (min (gd (gd p0.t p1.toNat) p2.toNat) p3))) p2.toNat,B2,B1] ba:=bB
 refine zw ?_
 have bD:=bC.innBack nK
 have bE:SW w [B1,inn 3 1 KL.encI ah p0.t] U U [inn 3 1 KL.encI ah (nB (nB p0.t p1.toNat (nB (gd p0.t p1.toNat) p2.toNat (min (gd (gd p0.t p1.toNat) p2.toNat) p3))) p2.toNat (nB (gd (nB p0.t p1.toNat (nB (gd p0.t p1.toNat) p2.toNat (min (gd (gd p0.t p1.toNat) p2.toNat) p3))) p2.toNat) p1.toNat (min (gd (gd (nB p0.t p1.toNat (nB (gd p0.t p1.toNat) p2.toNat (min (gd (gd p0.t p1.toNat) p2.toNat) p3))) p2.toNat) p1.toNat) p4))),B2,B1] ba:=bD
 have bF:SW w [B1,inn 3 1 KL.encI ah p0.t] U U [inn 3 1 KL.encI ah (nB (nB p0.t p1.toNat (nB (gd p0.t p1.toNat) p2.toNat (min (gd (gd p0.t p1.toNat) p2.toNat) p3))) p2.toNat (nB (gd (nB p0.t p1.toNat (nB (gd p0.t p1.toNat) p2.toNat (min (gd (gd p0.t p1.toNat) p2.toNat) p3))) p2.toNat) p1.toNat (min (gd (gd (nB p0.t p1.toNat (nB (gd p0.t p1.toNat) p2.toNat (min (gd (gd p0.t p1.toNat) p2.toNat) p3))) p2.toNat) p1.toNat) p4))),.blk b4 188 [.slice ak ((nB (nB p0.t p1.toNat (nB (gd p0.t p1.toNat) p2.toNat (min (gd (gd p0.t p1.toNat) p2.toNat) p3))) p2.toNat (nB (gd (nB p0.t p1.toNat (nB (gd p0.t p1.toNat) p2.toNat (min (gd (gd p0.t p1.toNat) p2.toNat) p3))) p2.toNat) p1.toNat (min (gd (gd (nB p0.t p1.toNat (nB (gd p0.t p1.toNat) p2.toNat (min (gd (gd p0.t p1.toNat) p2.toNat) p3))) p2.toNat) p1.toNat) p4))).length) am],B1] ba:=by simpa only [B1,B2,nK] using bE
 cases bU
 exact ⟨rfl,_,(wSi),U,_,(bF.pick [2,0] _ (by decide) rfl),rfl,rfl⟩
theorem wCV (p0:wAJ) (be:Option Addr) (bg:Nat) (bf:Option Addr) (bh:Nat) (ba:Option Addr) (bb:Nat) (bo:Option Addr) (bp:Nat) (w:World) (U:PHeap) (hS:St0 w U []) (dq:Sl U 1 be bg p0.Starts.length (hH KL.encI p0.Starts)) (dr:Sl U 2 bf bh p0.Splits.length (hH wAB p0.Splits)) (dt:Sl U 3 ba bb p0.Clocks.length (hH wAF p0.Clocks)) (du:Sl U 4 bo bp p0.Readings.length (hH wAE p0.Readings)) {r:(List (List Int))} (hm:wAn p0=some r):Gv Tryz.prog 67 [.agg #[.slice be p0.Starts.length bg,.slice bf p0.Splits.length bh,.slice ba p0.Clocks.length bb,.slice bo p0.Readings.length bp]] w (wCq w [] U (fun U_ L_ v=>∃ (A0:Option Addr) (c0:Nat) (iY:List Hd),v=.slice A0 r.length c0/\L_=[.row A0 c0 22 1 (hH wEf iY),inn 3 1 KL.encI iY r])):=by
 unfold wAn at hm
 refine Gv.of Tryz.func67 Z Tryz.ntmps67 Tryz.results67 Z (sR gCk Z ?_)
 let B0:List Value:=[.slice be p0.Starts.length bg,.slice bf p0.Splits.length bh,.slice ba p0.Clocks.length bb,.slice bo p0.Readings.length bp]
 refine zy (cs:=B0) rfl rfl rfl rfl rfl rfl (by rfl) hS ?_
 intro W1 b2 gZ
 refine oA Z Z (eN (sR (.fl 0 gCf) Z (oL Z (gZ.ldBA (j:=0) Z Z Z ZS ZH (vs:=B0) Z Z) (bnK hm fun x5 h6 ry=>zG 0 Z Z Z Z (zH Z Z Tryz.call120 (zB Z zM) Z) gZ (fun hs=>wFO p0 be bg bf bh ba bb bo bp W1 U hs dq dr dt du h6) (.inr Z) ?_))))
 rintro U8 L9 tC fK bm m6 ⟨rfl,rfl⟩
 have n6:sW w U U8 [.blk b2 36 B0] fK:=m6
 refine oA Z Z (eN (sR fL1 Z (oA Z Z (eN (zJ (sR fL1 Z (oA Z Z (eN (zd (bnK ry fun fq pW qR=>?_))))))))))
 have q:=wCw pW
 obtain ⟨eY,pX⟩:=q
 replace eY:=zL eY
 refine CK.forN' (fun bT bj σ_ w_=>∃ (U_:PHeap) (cw:Option Addr) (cy:Nat) (aW:List Hd),σ_ 5=jV (↑bT:Int)/\σ_ 1=.pointer (some ⟨b2,0,none⟩)/\σ_ 3=jV x5/\σ_ 4=.slice cw bj.length cy/\PHeap.Le U8 U_/\sW w U U_ [.blk b2 36 B0,.row cw cy 22 1 (hH wEf aW),inn 3 1 KL.encI aW bj] w_) pX ?_ ?_ ?_
 have oH:=n6.nilrow 22 1
 have oI:=oH.innNil 3 1 KL.encI
 have oK:sW w U U8 [inn 3 1 KL.encI ([]:List Hd) ([]:List (List Int)),.row none 0 22 1 [],.blk b2 36 B0] fK:=oI
 exact ⟨U8,none,0,[],rfl,rfl,rfl,rfl,(zQ _),(oK.pick [2,1,0] _ (by decide) rfl)⟩
 rintro bT bj tS ue sN eS ⟨dS,cw,cy,aW,gH,jA,d8,jD,r9,o6⟩ rQ
 have gh:Hid ((↑bT:Int) < x5):=zL (wBm eS)
 replace eS:=zL eS
 have qD:Hid (w64 ((↑bT:Int) + 1)=(↑(bT + 1):Int)):=zL (by have h1:=eY.out;have h2:=gh.out;rw [wAZ] <;> omega)
 refine zJ (sR fL3 Z (oM Z gH (oM Z d8 (oR Z (zf Z Z Z) (eN (cT Z gh (kN (zJ (zd (sR (.fl 0 gCf) Z (oM Z d8 (bnK rQ fun x64 mI rk=>OKS.makeSlice (enc:=KL.encI) (z:=(0:Int)) (v:=jV 0) Z Z Z Z Z (wBn zD) wOq Z Z Z Z Z Z mI o6 ?_))))))))))))
 intro ji aT pg
 let B1:Res:=.row cw cy 22 1 (hH wEf aW)
 have pm:sW w U dS [.row (some ⟨aT,0,none⟩) x64.length 3 1 (hH KL.encI x64),.blk b2 36 B0,B1,inn 3 1 KL.encI aW bj] ji:=pg
 refine oA Z Z (eN (zJ (sR fL1 Z (oA Z Z (eN (zd (bnK rk fun aX qf rF=>?_)))))))
 have q:=wCw qf
 obtain ⟨fb,qh⟩:=q
 replace fb:=zL fb
 refine CK.forN' (fun bw bA σ_ w_=>∃ (U_:PHeap),σ_ 7=jV (↑bw:Int)/\σ_ 1=.pointer (some ⟨b2,0,none⟩)/\σ_ 3=jV x5/\σ_ 4=.slice cw bj.length cy/\σ_ 5=jV (↑bT:Int)/\σ_ 6=.slice (some ⟨aT,0,none⟩) bA.length x64.length/\PHeap.Le dS U_/\sW w U U_ [.blk b2 36 B0,B1,inn 3 1 KL.encI aW bj,.row (some ⟨aT,0,none⟩) x64.length 3 1 (hH KL.encI bA)] w_/\bA.length=x64.length) qh ?_ ?_ ?_
 exact ⟨dS,rfl,jA,d8,jD,gH,rfl,(zQ _),(pm.pick [1,2,3,0] _ (by decide) rfl),rfl⟩
 rintro bw bA tW uk sX eX ⟨dT,cC,gF,eg,gG,eh,ej,i6,ii,gT⟩ iZ
 have gb:Hid ((↑bw:Int) < x5):=zL (wBm eX)
 replace eX:=zL eX
 have iE:Hid (w64 ((↑bw:Int) + 1)=(↑(bw + 1):Int)):=zL (by have h1:=fb.out;have h2:=gb.out;rw [wAZ] <;> omega)
 refine zJ (sR fL3 Z (oM Z cC (oM Z eg (oR Z (zf Z Z Z) (eN (cT Z gb (kN (zJ (zd (sR fL3 Z (oM Z eh (oM Z cC (oR Z (Zo Z Z Z) (eN ?_))))))))))))))
 by_cases bD:(↑bT:Int)=(↑bw:Int)
 have iG:=iZ;rw [if_pos bD] at iG;replace bD:=zL bD
 refine zr (Za (fun h=>h bD.out)) (Zr (ZE (zK (rR fL3 Z (oM Z cC (oR Z (Zd (zj Z Z Z) (congrArg (jV) iE.out)) (oA Z Z (zw ?_))))))))
 cases iG
 exact zK ⟨Z,⟨dT,Z,gF,eg,gG,eh,ej,i6,ii,gT⟩⟩
 have iH:=iZ;rw [if_neg bD] at iH;replace bD:=zL bD
 refine cT Z bD (rR (wEF (.fx 3 .nil .stop)) Z (oM Z ej (oM Z cC (bnK iH fun _ en qF=>oR Z (ZP Z Z Z Z zD zC (wAW en)) ?_))))
 have qi:=wBL (xs:=bA) (wAW en)
 refine yp (j:=3) (vs:=[jV 1125899906842624]) (cs':=hH KL.encI (nB bA bw 1125899906842624)) rfl rfl rfl rfl ii rfl rfl rfl rfl rfl zC (by rw [wAI (f:=KL.encI) (sz:=1) (fun _=>rfl)];have hz:=wAW en;show _ + 1 <= _;first | omega | (simp only [nI];omega) | (simp only [nH,nE,nG];omega)) rfl (wDW (sz:=1) (fo:=0) (fun _=>rfl) _ _ _ _ qi (by first | omega | (simp only [nI];omega) | (simp only [nH,nE,nG];omega)) (zA rfl) rfl) rfl ?_
 intro jc mZ
 have m4:sW w U dT [.blk b2 36 B0,B1,inn 3 1 KL.encI aW bj,.row (some ⟨aT,0,none⟩) x64.length 3 1 (hH KL.encI (nB bA bw 1125899906842624))] jc:=mZ
 refine zw (ZE (zK (rR fL3 Z (oM Z cC (oR Z (Zd (zj Z Z Z) (congrArg (jV) iE.out)) (oA Z Z (zw ?_)))))))
 cases qF
 exact zK ⟨rfl,⟨dT,rfl,gF,eg,gG,eh,(nM (b:=(.slice (some ⟨aT,0,none⟩) bA.length x64.length:Value)) (c:=(.slice (some ⟨aT,0,none⟩) ((nB bA bw 1125899906842624).length) x64.length:Value)) ej (by simp only [nK])),i6,m4,(nK.trans gT)⟩⟩
 rintro t7 sI ⟨bC,lg,ju,gj,jv,jw,jx,rW,m5,tg⟩
 have jj:Hid (¬ ((↑((x5:Int) - 0).toNat:Int) < x5)):=zL (wBB)
 refine zJ (sR fL3 Z (oM Z lg (oM Z gj (oR Z (zf Z Z Z) (eN (cF Z jj (Zf (zo (zo (ZX (zK (rR (.fl 0 (.fl 1 (.fx 2 (.fx 3 (.fl 4 .nil) .stop) .stop))) Z (oM Z jv (oM Z jx ?_))))))))))))))
 let B2:List Value:=[.slice (some ⟨aT,0,none⟩) aX.length x64.length]
 refine Zk (pv:=[(0,.slice (some ⟨aT,0,none⟩) aX.length x64.length)]) (zs:=[.slice none 0 0]) (cs:=B2) Z Z Z Z Z (wAH Z wAU) zZ zW Tryz.zeroValue22 Z Z Z Z Z m5 ?_
 intro dU fZ m7
 let B3:Res:=.row (some ⟨aT,0,none⟩) x64.length 3 1 (hH KL.encI aX)
 let B4:Res:=.row (some ⟨fZ,0,none⟩) 1 22 1 B2
 have m8:sW w U bC [B4,.blk b2 36 B0,B1,inn 3 1 KL.encI aW bj,B3] dU:=m7
 have m9:sW w U bC [B3,B4,.blk b2 36 B0,B1,inn 3 1 KL.encI aW bj] dU:=m8.pick [4,0,1,2,3] _ (by decide) rfl
 have n5:=m9.innOne
 let B5:Res:=.row (some ⟨fZ,0,none⟩) 1 22 1 (hH wEf [(⟨(some ⟨aT,0,none⟩),aX.length,x64.length⟩:Hd)])
 have dk:sW w U bC [inn 3 1 KL.encI [(⟨(some ⟨aT,0,none⟩),aX.length,x64.length⟩:Hd)] [aX],B5,.blk b2 36 B0,B1,inn 3 1 KL.encI aW bj] dU:=n5
 refine bnK rF fun x140 ln qG=>?_
 have eP:=dk.innFit (j:=4) rfl
 have eQ:=dk.innFit (j:=0) rfl
 have q:=wTC ln eP eQ
 obtain ⟨pR,i4⟩:=q
 refine ye (j:=3) (enc:=wEf) (xs:=aW) (ys:=[(⟨(some ⟨aT,0,none⟩),aX.length,x64.length⟩:Hd)]) rfl rfl rfl rfl rfl Tryz.underlying49 wQn rfl rfl rfl rfl rfl rfl dk rfl (slen rfl eP) (slen rfl eQ) (dk.srcR (j:=1) rfl (by decide) (wAI (f:=wEf) (sz:=1) (fun _=>rfl) [(⟨(some ⟨aT,0,none⟩),aX.length,x64.length⟩:Hd)])) (fun _=>rfl) (fun _=>rfl) pR rfl ?_
 intro fu ge cZ n7
 have qE:(aW ++ [(⟨(some ⟨aT,0,none⟩),aX.length,x64.length⟩:Hd)]:List Hd).length=x140.length:=by rw [i4,nP,nP,eP.len,eQ.len]
 rw [qE]
 let B6:Res:=.row fu ge 22 1 (hH wEf (aW ++ [(⟨(some ⟨aT,0,none⟩),aX.length,x64.length⟩:Hd)]:List Hd))
 have n8:sW w U bC [inn 3 1 KL.encI [(⟨(some ⟨aT,0,none⟩),aX.length,x64.length⟩:Hd)] [aX],B5,.blk b2 36 B0,B6,inn 3 1 KL.encI aW bj] cZ:=n7
 have n9:sW w U bC [inn 3 1 KL.encI aW bj,inn 3 1 KL.encI [(⟨(some ⟨aT,0,none⟩),aX.length,x64.length⟩:Hd)] [aX],B5,.blk b2 36 B0,B6] cZ:=n8.pick [4,0,1,2,3] _ (by decide) rfl
 have gU:=n9.innApp
 rw [<- i4] at gU
 have oa:sW w U bC [inn 3 1 KL.encI (aW ++ [(⟨(some ⟨aT,0,none⟩),aX.length,x64.length⟩:Hd)]:List Hd) x140,B5,.blk b2 36 B0,B6] cZ:=gU
 have oc:=oa.drop 1
 have od:sW w U bC [inn 3 1 KL.encI (aW ++ [(⟨(some ⟨aT,0,none⟩),aX.length,x64.length⟩:Hd)]:List Hd) x140,.blk b2 36 B0,B6] cZ:=oc
 refine oA Z Z (zw (ZE (zK (rR fL3 Z (oM Z jw (oR Z (Zd (zj Z Z Z) (congrArg (jV) qD.out)) (oA Z Z (zw ?_))))))))
 cases qG
 exact zK ⟨rfl,⟨bC,fu,ge,(aW ++ [(⟨(some ⟨aT,0,none⟩),aX.length,x64.length⟩:Hd)]:List Hd),rfl,ju,gj,rfl,(r9.trans rW),(od.pick [1,2,0] _ (by decide) rfl)⟩⟩
 rintro t8 sJ ⟨dL,am,ap,aa,lh,jy,gk,gm,bn,oe⟩
 have jk:Hid (¬ ((↑((x5:Int) - 0).toNat:Int) < x5)):=zL (wBB)
 refine zJ (sR fL3 Z (oM Z lh (oM Z gk (oR Z (zf Z Z Z) (eN (cF Z jk (Zf (zo (zo (ZX (zK (sR gCt Z (oM Z gm ?_)))))))))))))
 let B7:List Value:=[.slice am fq.length ap]
 refine oR Z (ZC (pv:=[(0,.slice am fq.length ap)]) (z:=[.slice none 0 0]) (cs:=B7) Z (wAH Z wAU) Tryz.zeroValue188 wOp Z Z) (zV (cs:=[.slice none 0 0]) Z Z Z Z Z Tryz.zeroValue188 Z oe ?_)
 intro sK az og
 refine zY (j:=0) (vs:=B7) Z Z Z Z og Z Z Z Z Tryz.sizeOf188 (zA Z) Z Z Z ?_
 intro jd oh
 let B8:Res:=.row am ap 22 1 (hH wEf aa)
 have oi:sW w U dL [.blk az 188 B7,.blk b2 36 B0,B8,inn 3 1 KL.encI aa fq] jd:=oh
 refine eN (zJ (sR fL1 Z (oA Z Z (eN (zd (yt (fun (bL,bU) σ_ w_=>∃ (U_:PHeap),σ_ 1=.pointer (some ⟨b2,0,none⟩)/\σ_ 3=jV x5/\σ_ 4=.slice am bL.length ap/\σ_ 8=.pointer (some ⟨az,0,none⟩)/\σ_ 9=jV bU/\PHeap.Le dL U_/\sW w U U_ [B8,inn 3 1 KL.encI aa bL,.blk az 188 [.slice am bL.length ap],.blk b2 36 B0] w_) qR ?_ ?_))))))
 exact ⟨dL,jy,gk,gm,rfl,rfl,(zQ _),(oi.pick [2,3,0,1] _ (by decide) rfl)⟩
 rintro ⟨bL,bU⟩ tO t9 fL ⟨dM,bX,gp,gq,dZ,cz,bd,eE⟩ fd pS
 try dsimp only at fd
 refine zJ (sR fL5 Z (oM Z cz (oR Z (zE Z bX zR Z zW) (oL Z (eE.ldB (j:=3) Z Z Z zX (v:=.slice be p0.Starts.length bg) Z) (oR Z (zi Z Z zD) (oR Z (zf Z Z Z) (eN ?_)))))))
 by_cases bE:bU < (↑p0.Starts.length:Int)
 have iI:=fd;rw [if_pos bE] at iI;replace bE:=zL bE
 refine cT Z bE (kN (zJ (zd (zJ (zx zn [1,1,3,2,3,1,3,3,1,3,1,3,3,1,3,0] (wEF (wUR (.fx 3 (.fx 15 .nil .stop) .stop))) (by kernel_rfl) ?_)))))
 have bJ:=eE.drew
 generalize hw_W213:({ fL with drawn:=fL.drawn + 1 }:World)=je at bJ ⊢
 let B9:List Value:=[.slice am bL.length ap]
 refine oL Z (bJ.ldBA (j:=2) Z Z dZ Tryz.isAgg188 Tryz.sizeOf188 (vs:=B9) Z Z) (oL Z (bJ.ldBA (j:=3) Z Z bX ZS ZH (vs:=B0) Z Z) (oM Z cz (oR Z (zE Z bX zR Z zW) (oL Z (bJ.ldB (j:=3) Z Z Z zX (v:=.slice be p0.Starts.length bg) Z) (oM Z cz (bnK iI fun dz b9 qH=>?_))))))
 have lp:=dq.le bm
 have ls:=lp.le bn
 have dg:=ls.le bd
 have q:=dg.el (fun _=>rfl) (wAR b9)
 obtain ⟨sY,tq,mJ,mR⟩:=q
 refine oR Z (ZB Z Z mJ Z zD zC (wAv b9) (wAz b9)) (oL Z (bJ.ldC (f:=0) mR (v:=jV dz) Z Z zF Z) (oR Z (zE Z bX zR Z zW) (oL Z (bJ.ldB (j:=3) Z Z Z zX (v:=.slice be p0.Starts.length bg) Z) (oM Z cz ?_))))
 have q:=dg.el (fun _=>rfl) (wAR b9)
 obtain ⟨sZ,tr,mK,mS⟩:=q
 refine oR Z (ZB Z Z mK Z zD zC (wAv b9) (wAz b9)) (oL Z (bJ.ldC (f:=0) mS (v:=jV dz) Z Z zF Z) (oR Z (yo Z Z) ?_))
 have lu:=dr.le bm
 have lv:=lu.le bn
 have gL:=lv.le bd
 have lw:=dt.le bm
 have lx:=lw.le bn
 have gM:=lx.le bd
 have ly:=du.le bm
 have lz:=ly.le bn
 have gN:=lz.le bd
 refine bnK qH fun sk lA qI=>zG 0 Z Z Z Z (zH Z Z Tryz.call68 (zB Z (zB Z (zB Z zM))) Z) bJ (fun hs=>wAy p0 be bg bf bh ba bb bo bp bU 0 je dM hs dg gL gM gN lA) (.inr Z) ?_
 rintro fA su tD fM cG oj ⟨rfl,rfl⟩
 have gW:sW w U fA [B8,inn 3 1 KL.encI aa bL,.blk az 188 B9,.blk b2 36 B0] fM:=oj
 refine bnK qI fun dA lB qJ=>?_
 have ij:=gW.innFit (j:=1) rfl
 refine zG 2 Z Z Z Z (zH Z Z Tryz.call121 (zB Z (zB Z (zB Z (zB Z (zB Z zM))))) Z) gW (fun hs=>wBb (⟨bL⟩:wAS) am ap aa 0 sk dz (w64 (-dz)) fM fA hs lB) (.inl Z) ?_
 rintro cW sv tE fN cH om ⟨rfl,rfl⟩
 have gX:sW w U cW [B8,inn 3 1 KL.encI aa dA,.blk az 188 B9,.blk b2 36 B0] fN:=om
 have ik:=gX.innFit (j:=1) rfl
 have oq:sW w U cW [B8,inn 3 1 KL.encI aa dA,.blk az 188 [.slice am dA.length ap],.blk b2 36 B0] fN:=by rw [ik.len.symm.trans ij.len];exact gX
 refine eN (sR fL1 Z (oA Z Z (eN (zd (yt (fun (bz,cL) σ_ w_=>∃ (U_:PHeap),σ_ 1=.pointer (some ⟨b2,0,none⟩)/\σ_ 3=jV x5/\σ_ 4=.slice am bz.length ap/\σ_ 8=.pointer (some ⟨az,0,none⟩)/\σ_ 9=jV bU/\σ_ 10=jV cL/\PHeap.Le cW U_/\sW w U U_ [B8,inn 3 1 KL.encI aa bz,.blk az 188 [.slice am bz.length ap],.blk b2 36 B0] w_) qJ ?_ ?_)))))
 exact ⟨cW,bX,gp,(nM (b:=(.slice am bL.length ap:Value)) (c:=(.slice am dA.length ap:Value)) gq (by rw [ik.len.symm.trans ij.len])),dZ,cz,rfl,(zQ _),oq⟩
 rintro ⟨bz,cL⟩ tP ua fO ⟨fB,bO,gt,gu,d5,db,bY,cu,eF⟩ ff pT
 try dsimp only at ff
 refine zJ (sR fL5 Z (oM Z bY (oR Z (zE Z bO zR Z Zg) (oL Z (eF.ldB (j:=3) Z Z Z Zl (v:=.slice bf p0.Splits.length bh) Z) (oR Z (zi Z Z ZD) (oR Z (zf Z Z Z) (eN ?_)))))))
 by_cases bF:cL < (↑p0.Splits.length:Int)
 have iJ:=ff;rw [if_pos bF] at iJ;replace bF:=zL bF
 refine cT Z bF (kN (zJ (zd (zx zn [1,1,3,3,2,1,3,3,3,2,3,1,3,3,3,1,3,1,3,3,3,1,3,0] (wEu (fC5_8 (wSc (.fx 4 (.fx 9 (.fx 23 .nil .stop) .stop) .stop)))) (by kernel_rfl) ?_))))
 have bu:=eF.drew
 generalize hw_W287:({ fO with drawn:=fO.drawn + 1 }:World)=jf at bu ⊢
 let cR:List Value:=[.slice am bz.length ap]
 refine oL Z (bu.ldBA (j:=2) Z Z d5 Tryz.isAgg188 Tryz.sizeOf188 (vs:=cR) Z Z) (oL Z (bu.ldBA (j:=3) Z Z bO ZS ZH (vs:=B0) Z Z) (oM Z db (oM Z bY (oL Z (bu.ldBA (j:=3) Z Z bO ZS ZH (vs:=B0) Z Z) (oM Z db (oM Z bY (oR Z (zj Z Z Z) (oR Z (zE Z bO zR Z Zg) (oL Z (bu.ldB (j:=3) Z Z Z Zl (v:=.slice bf p0.Splits.length bh) Z) (oM Z bY (bnK iJ fun dB cb qK=>?_)))))))))))
 have lD:=gL.le cG
 have lE:=lD.le cH
 have dh:=lE.le cu
 have q:=dh.el (fun _=>rfl) (wAR cb)
 obtain ⟨s5,tu,mL,mT⟩:=q
 refine oR Z (ZB Z Z mL Z ZD zS (wAv cb) (wAz cb)) (oR Z (zE Z Z ZO Z zC) (oL Z (bu.ldC (f:=1) mT (v:=jV dB.Hi) Z Z zF Z) (oR Z (zE Z bO zR Z Zg) (oL Z (bu.ldB (j:=3) Z Z Z Zl (v:=.slice bf p0.Splits.length bh) Z) (oM Z bY ?_)))))
 have q:=dh.el (fun _=>rfl) (wAR cb)
 obtain ⟨s6,tv,mM,mU⟩:=q
 refine oR Z (ZB Z Z mM Z ZD zS (wAv cb) (wAz cb)) (oR Z (zE Z Z ZO Z zC) (oL Z (bu.ldC (f:=0) mU (v:=jV dB.Lo) Z Z zF Z) (oR Z (yo Z Z) ?_)))
 have lF:=dg.le cG
 have lG:=lF.le cH
 have gO:=lG.le cu
 have lH:=gM.le cG
 have lI:=lH.le cH
 have gP:=lI.le cu
 have lJ:=gN.le cG
 have lK:=lJ.le cH
 have gQ:=lK.le cu
 refine bnK qK fun sm lL qL=>zG 0 Z Z Z Z (zH Z Z Tryz.call68 (zB Z (zB Z (zB Z zM))) Z) bu (fun hs=>wAy p0 be bg bf bh ba bb bo bp bU cL jf fB hs gO dh gP gQ lL) (.inr Z) ?_
 rintro fC sw tF fP cI ot ⟨rfl,rfl⟩
 have ou:sW w U fC [B8,inn 3 1 KL.encI aa bz,.blk az 188 cR,.blk b2 36 B0] fP:=ot
 have lM:=gO.le cI
 have lN:=dh.le cI
 have lO:=gP.le cI
 have lP:=gQ.le cI
 refine bnK qL fun sn lQ qM=>zG 0 Z Z Z Z (zH Z Z Tryz.call68 (zB Z (zB Z (zB Z zM))) Z) ou (fun hs=>wAy p0 be bg bf bh ba bb bo bp bU (w64 (cL + 1)) fP fC hs lM lN lO lP lQ) (.inr Z) ?_
 rintro fD sA tG fQ rX ow ⟨rfl,rfl⟩
 have g7:sW w U fD [B8,inn 3 1 KL.encI aa bz,.blk az 188 cR,.blk b2 36 B0] fQ:=ow
 refine bnK qM fun dC lR qN=>?_
 have il:=g7.innFit (j:=1) rfl
 refine zG 2 Z Z Z Z (zH Z Z Tryz.call121 (zB Z (zB Z (zB Z (zB Z (zB Z zM))))) Z) g7 (fun hs=>wBb (⟨bz⟩:wAS) am ap aa sm sn dB.Hi (w64 (-dB.Lo)) fQ fD hs lR) (.inl Z) ?_
 rintro dN sB tH fR rY ox ⟨rfl,rfl⟩
 have g8:sW w U dN [B8,inn 3 1 KL.encI aa dC,.blk az 188 cR,.blk b2 36 B0] fR:=ox
 have im:=g8.innFit (j:=1) rfl
 have oy:sW w U dN [B8,inn 3 1 KL.encI aa dC,.blk az 188 [.slice am dC.length ap],.blk b2 36 B0] fR:=by rw [im.len.symm.trans il.len];exact g8
 refine zw (ZE (zK (rR fL3 Z (oM Z bY (oR Z (zj Z Z Z) (oA Z Z (zw ?_)))))))
 obtain rfl:=nJ qN
 exact zK ⟨rfl,_,rfl,⟨dN,bO,gt,(nM (b:=(.slice am bz.length ap:Value)) (c:=(.slice am dC.length ap:Value)) gu (by rw [im.len.symm.trans il.len])),d5,db,rfl,(((cu.trans cI).trans rX).trans rY),oy⟩⟩
 have iK:=ff;rw [if_neg bF] at iK;replace bF:=zL bF
 refine cF Z bF (Zf (zo ?_))
 have q:=wAa iK
 obtain ⟨sf,qO,jp⟩:=q
 obtain rfl:=pT sf jp
 refine zo (ZX (ZE (zK (rR fL3 Z (oM Z db (oR Z (zj Z Z Z) (oA Z Z (zw ?_))))))))
 obtain rfl:=nJ qO
 exact zK ⟨Z,_,Z,⟨fB,bO,gt,gu,d5,Z,(((bd.trans cG).trans cH).trans cu),eF⟩⟩
 have iL:=fd;rw [if_neg bE] at iL;replace bE:=zL bE
 refine cF Z bE (Zf (zo ?_))
 have q:=wAa iL
 obtain ⟨sg,qP,jq⟩:=q
 obtain rfl:=pS sg jq
 refine zo (ZX (zK (zJ (sR fL1 Z (oA Z Z (eN (zd (yt (fun (bM,dD) σ_ w_=>∃ (U_:PHeap),σ_ 1=.pointer (some ⟨b2,0,none⟩)/\σ_ 3=jV x5/\σ_ 4=.slice am bM.length ap/\σ_ 8=.pointer (some ⟨az,0,none⟩)/\σ_ 11=jV dD/\PHeap.Le dM U_/\sW w U U_ [B8,inn 3 1 KL.encI aa bM,.blk az 188 [.slice am bM.length ap],.blk b2 36 B0] w_) qP ?_ ?_))))))))
 exact ⟨dM,bX,gp,gq,dZ,Z,(zQ _),eE⟩
 rintro ⟨bM,dD⟩ tQ ub fS ⟨dO,bZ,gv,gw,d6,cA,bB,eG⟩ fg pU
 try dsimp only at fg
 refine zJ (sR fL5 Z (oM Z cA (oR Z (zE Z bZ zR Z Zt) (oL Z (eG.ldB (j:=3) Z Z Z yF (v:=.slice ba p0.Clocks.length bb) Z) (oR Z (zi Z Z Zi) (oR Z (zf Z Z Z) (eN ?_)))))))
 by_cases bG:dD < (↑p0.Clocks.length:Int)
 have iM:=fg;rw [if_pos bG] at iM;replace bG:=zL bG
 refine cT Z bG (kN (zJ (zd (zx zn [1,1,3,2,3,1,3,3,3,3,1,3,3,1,3,3,3,3,1,0] (wEF (wUS (.fx 3 (.fx 19 .nil .stop) .stop))) (by kernel_rfl) ?_))))
 have bK:=eG.drew
 generalize hw_W386:({ fS with drawn:=fS.drawn + 1 }:World)=jg at bK ⊢
 let dH:List Value:=[.slice am bM.length ap]
 refine oL Z (bK.ldBA (j:=2) Z Z d6 Tryz.isAgg188 Tryz.sizeOf188 (vs:=dH) Z Z) (oL Z (bK.ldBA (j:=3) Z Z bZ ZS ZH (vs:=B0) Z Z) (oM Z cA (oR Z (zE Z bZ zR Z Zt) (oL Z (bK.ldB (j:=3) Z Z Z yF (v:=.slice ba p0.Clocks.length bb) Z) (oM Z cA (bnK iM fun dE cd qQ=>?_))))))
 have lS:=dt.le bm
 have lT:=lS.le bn
 have lU:=lT.le bd
 have eu:=lU.le bB
 have q:=eu.el (fun _=>rfl) (wAR cd)
 obtain ⟨s7,tw,mN,mV⟩:=q
 refine oR Z (ZB Z Z mN Z Zi yZ (wAv cd) (wAz cd)) (oR Z (zE Z Z yJ Z zS) (oR Z (zE Z Z ZO Z zC) (oL Z (bK.ldC (f:=0) mV (v:=jV dE.Offset.Lo) Z Z zF Z) (oR Z (yo Z Z) (oR Z (zE Z bZ zR Z Zt) (oL Z (bK.ldB (j:=3) Z Z Z yF (v:=.slice ba p0.Clocks.length bb) Z) (oM Z cA ?_)))))))
 have q:=eu.el (fun _=>rfl) (wAR cd)
 obtain ⟨s8,tz,mO,mW⟩:=q
 refine oR Z (ZB Z Z mO Z Zi yZ (wAv cd) (wAz cd)) (oR Z (zE Z Z yJ Z zS) (oR Z (zE Z Z ZO Z zC) (oL Z (bK.ldC (f:=1) mW (v:=jV dE.Offset.Hi) Z Z zF Z) ?_)))
 have lV:=dq.le bm
 have lW:=lV.le bn
 have lX:=lW.le bd
 have lY:=lX.le bB
 have lZ:=dr.le bm
 have l5:=lZ.le bn
 have l6:=l5.le bd
 have l7:=l6.le bB
 have l8:=du.le bm
 have ma:=l8.le bn
 have mb:=ma.le bd
 have mc:=mb.le bB
 refine bnK qQ fun so md qS=>zG 0 Z Z Z Z (zH Z Z Tryz.call73 (zB Z (zB Z zM)) Z) bK (fun hs=>wBu p0 be bg bf bh ba bb bo bp dD jg dO hs lY l7 eu mc md) (.inr Z) ?_
 rintro fE sC tI fT rZ oz ⟨rfl,rfl⟩
 have g9:sW w U fE [B8,inn 3 1 KL.encI aa bM,.blk az 188 dH,.blk b2 36 B0] fT:=oz
 refine bnK qS fun dF me qT=>?_
 have io:=g9.innFit (j:=1) rfl
 refine zG 2 Z Z Z Z (zH Z Z Tryz.call121 (zB Z (zB Z (zB Z (zB Z (zB Z zM))))) Z) g9 (fun hs=>wBb (⟨bM⟩:wAS) am ap aa 0 so (w64 (-dE.Offset.Lo)) dE.Offset.Hi fT fE hs me) (.inl Z) ?_
 rintro dP sD tJ fU r6 oB ⟨rfl,rfl⟩
 have ib:sW w U dP [B8,inn 3 1 KL.encI aa dF,.blk az 188 dH,.blk b2 36 B0] fU:=oB
 have ip:=ib.innFit (j:=1) rfl
 have oG:sW w U dP [B8,inn 3 1 KL.encI aa dF,.blk az 188 [.slice am dF.length ap],.blk b2 36 B0] fU:=by rw [ip.len.symm.trans io.len];exact ib
 refine zw (ZE (zK (rR fL3 Z (oM Z cA (oR Z (zj Z Z Z) (oA Z Z (zw ?_)))))))
 obtain rfl:=nJ qT
 exact zK ⟨rfl,_,rfl,⟨dP,bZ,gv,(nM (b:=(.slice am bM.length ap:Value)) (c:=(.slice am dF.length ap:Value)) gw (by rw [ip.len.symm.trans io.len])),d6,rfl,((bB.trans rZ).trans r6),oG⟩⟩
 have iN:=fg;rw [if_neg bG] at iN;replace bG:=zL bG
 refine cF Z bG (Zf (zo ?_))
 have q:=wAa iN
 obtain ⟨sh,qU,jr⟩:=q
 obtain rfl:=pU sh jr
 refine zo (ZX (zK (zJ (sR fL1 Z (oA Z Z (eN (zd (yt (fun (bk,fj) σ_ w_=>∃ (U_:PHeap),σ_ 1=.pointer (some ⟨b2,0,none⟩)/\σ_ 3=jV x5/\σ_ 4=.slice am bk.length ap/\σ_ 8=.pointer (some ⟨az,0,none⟩)/\σ_ 12=jV fj/\PHeap.Le dO U_/\sW w U U_ [B8,inn 3 1 KL.encI aa bk,.blk az 188 [.slice am bk.length ap],.blk b2 36 B0] w_) qU ?_ ?_))))))))
 exact ⟨dO,bZ,gv,gw,d6,Z,(zQ _),eG⟩
 rintro ⟨bk,fj⟩ tR ud sL ⟨cX,b5,gx,gy,gz,d7,cJ,cE⟩ fh pV
 try dsimp only at fh
 refine zJ (sR fL5 Z (oM Z d7 (oR Z (zE Z b5 zR Z yN) (oL Z (cE.ldB (j:=3) Z Z Z yf (v:=.slice bo p0.Readings.length bp) Z) (oR Z (zi Z Z yD) (oR Z (zf Z Z Z) (eN ?_)))))))
 by_cases bH:fj < (↑p0.Readings.length:Int)
 have iO:=fh;rw [if_pos bH] at iO;replace bH:=zL bH
 refine cT Z bH (kN (zJ (zd (sR (wGG gCl) Z (oR Z (zE Z b5 zR Z yN) (oL Z (cE.ldB (j:=3) Z Z Z yf (v:=.slice bo p0.Readings.length bp) Z) (oM Z d7 (bnK iO fun aV ey qV=>?_))))))))
 have mf:=du.le bm
 have mg:=mf.le bn
 have mh:=mg.le bd
 have mi:=mh.le bB
 have eA:=mi.le cJ
 have q:=eA.el (fun _=>rfl) (wAR ey)
 obtain ⟨s9,tA,mP,mX⟩:=q
 refine oR Z (ZB Z Z mP Z yD yO (wAv ey) (wAz ey)) (oL Z (cE.ldCA (f:=0) mX Z Z Tryz.isAgg117 yO (us:=[jV aV.Skier,jV aV.Mat,jV aV.Clock,jV aV.Time]) Z Z) (zV (cs:=[jV 0,jV 0,jV 0,jV 0]) Z Z Z Z Z Tryz.zeroValue117 Z cE ?_))
 intro sM bW oO
 let bN:List Value:=[jV aV.Skier,jV aV.Mat,jV aV.Clock,jV aV.Time]
 refine zY (j:=0) (vs:=bN) Z Z Z Z oO Z Z Z Z yO (zA Z) Z Z Z ?_
 intro dV oP
 let cx:Res:=.blk az 188 [.slice am bk.length ap]
 have dl:sW w U cX [.blk bW 117 bN,B8,inn 3 1 KL.encI aa bk,cx,.blk b2 36 B0] dV:=oP
 refine eN (sR fL8 Z (oR Z (zE Z b5 zR Z Zt) (oL Z (dl.ldB (j:=4) Z Z Z yF (v:=.slice ba p0.Clocks.length bb) Z) (oR Z (zE Z Z Zj Z zC) (oL Z (dl.ldB (j:=0) Z Z Z zF (v:=jV aV.Clock) Z) (bnK qV fun fm eC qW=>?_))))))
 have mj:=dt.le bm
 have ml:=mj.le bn
 have mn:=ml.le bd
 have mo:=mn.le bB
 have eD:=mo.le cJ
 have q:=eD.el (fun _=>rfl) (wAR eC)
 obtain ⟨tc,tB,mQ,mY⟩:=q
 refine zq rfl rfl rfl rfl (fun _=>ZB rfl rfl mQ rfl Zi yZ (wAv eC) (wAz eC)) (zq rfl rfl rfl rfl (fun _=>zE rfl rfl yJ rfl zC) (ZI rfl rfl rfl rfl (dl.ldC (f:=2) mY (v:=jV fm.Error) rfl rfl zF rfl) rfl (yi rfl rfl rfl rfl rfl rfl (eN (zx zn [1,1,3,1,2,1,3,1,3,1,2,3,1,3,3,3,3,1,3,0] (wEu (wJj (wSe (.fx 4 (.fx 10 (.fx 19 .nil .stop) .stop) .stop)))) (by kernel_rfl) ?_)))))
 have br:=dl.drew
 generalize hw_W500:({ dV with drawn:=dV.drawn + 1 }:World)=jh at br ⊢
 refine oL Z (br.ldBA (j:=3) Z Z gz Tryz.isAgg188 Tryz.sizeOf188 (vs:=[.slice am bk.length ap]) Z Z) (oL Z (br.ldBA (j:=4) Z Z b5 ZS ZH (vs:=B0) Z Z) (oR Z (zE Z Z Zj Z zC) (oL Z (br.ldB (j:=0) Z Z Z zF (v:=jV aV.Clock) Z) (oL Z (br.ldBA (j:=4) Z Z b5 ZS ZH (vs:=B0) Z Z) (oR Z (zE Z Z Zj Z zC) (oL Z (br.ldB (j:=0) Z Z Z zF (v:=jV aV.Skier) Z) (oR Z (zE Z Z Zj Z zC) (oL Z (br.ldB (j:=0) Z Z Z zF (v:=jV aV.Mat) Z) (oR Z (zE Z Z Zj Z zC) (oL Z (br.ldB (j:=0) Z Z Z zF (v:=jV aV.Time) Z) (oM Z Z (oR Z (zj Z Z Z) (oM Z Z (oR Z (zE Z Z Zj Z zC) (oL Z (br.ldB (j:=0) Z Z Z zF (v:=jV aV.Time) Z) (oR Z (yV Z Z Z) ?_))))))))))))))))
 have mp:=dq.le bm
 have mq:=mp.le bn
 have mr:=mq.le bd
 have ms:=mr.le bB
 have gR:=ms.le cJ
 have mu:=dr.le bm
 have mw:=mu.le bn
 have my:=mw.le bd
 have mz:=my.le bB
 have gS:=mz.le cJ
 refine bnK qW fun sq mA qX=>zG 0 Z Z Z Z (zH Z Z Tryz.call73 (zB Z (zB Z zM)) Z) br (fun hs=>wBu p0 be bg bf bh ba bb bo bp aV.Clock jh cX hs gR gS eD eA mA) (.inr Z) ?_
 rintro fG sE tK fV cK oU ⟨rfl,rfl⟩
 have oW:sW w U fG [.blk bW 117 bN,B8,inn 3 1 KL.encI aa bk,cx,.blk b2 36 B0] fV:=oU
 have mB:=gR.le cK
 have mC:=gS.le cK
 have mD:=eD.le cK
 have mE:=eA.le cK
 refine bnK qX fun ss mF qY=>zG 0 Z Z Z Z (zH Z Z Tryz.call68 (zB Z (zB Z (zB Z zM))) Z) oW (fun hs=>wAy p0 be bg bf bh ba bb bo bp aV.Skier aV.Mat fV fG hs mB mC mD mE mF) (.inr Z) ?_
 rintro dQ sF tL dW r7 oX ⟨rfl,rfl⟩
 have ic:sW w U dQ [.blk bW 117 bN,B8,inn 3 1 KL.encI aa bk,cx,.blk b2 36 B0] dW:=oX
 refine bnK qY fun dG mG qZ=>?_
 have iq:=ic.innFit (j:=2) rfl
 have oY:sW w U dQ [B8,inn 3 1 KL.encI aa bk,.blk bW 117 bN,cx,.blk b2 36 B0] dW:=ic.pick [1,2,0,3,4] _ (by decide) rfl
 refine zG 2 Z Z Z Z (zH Z Z Tryz.call121 (zB Z (zB Z (zB Z (zB Z (zB Z zM))))) Z) oY (fun hs=>wBb (⟨bk⟩:wAS) am ap aa sq ss (w64 (aV.Time + fm.Error)) (w64 (fm.Error - aV.Time)) dW dQ hs mG) (.inl Z) ?_
 rintro dR sG tM fW r8 o0 ⟨rfl,rfl⟩
 have ie:sW w U dR [B8,inn 3 1 KL.encI aa dG,.blk bW 117 bN,cx,.blk b2 36 B0] fW:=o0
 have ir:=ie.innFit (j:=1) rfl
 have o3:sW w U dR [B8,inn 3 1 KL.encI aa dG,.blk bW 117 bN,.blk az 188 [.slice am dG.length ap],.blk b2 36 B0] fW:=by rw [ir.len.symm.trans iq.len];exact ie
 refine zw (ZE (zK (rR fL3 Z (oM Z d7 (oR Z (zj Z Z Z) (oA Z Z (zw ?_)))))))
 obtain rfl:=nJ qZ
 exact zK ⟨rfl,_,rfl,⟨dR,b5,gx,(nM (b:=(.slice am bk.length ap:Value)) (c:=(.slice am dG.length ap:Value)) gy (by rw [ir.len.symm.trans iq.len])),gz,rfl,(((cJ.trans cK).trans r7).trans r8),(o3.pick [0,1,3,4] _ (by decide) rfl)⟩⟩
 have iP:=fh;rw [if_neg bH] at iP;replace bH:=zL bH
 refine cF Z bH (Zf (zo ?_))
 have q:=wAa iP
 obtain ⟨sj,rc,jt⟩:=q
 obtain rfl:=pV sj jt
 refine zo (ZX (zK (zJ (sR fL1 Z (oA Z Z (eN (zd (bnK rc fun tX pY re=>?_))))))))
 have q:=wCw pY
 obtain ⟨eZ,pZ⟩:=q
 replace eZ:=zL eZ
 refine CK.forN' (fun ah dw σ_ w_=>∃ (U_:PHeap),σ_ 15=jV (↑ah:Int)/\σ_ 3=jV x5/\σ_ 4=.slice am dw.length ap/\PHeap.Le cX U_/\sW w U U_ [B8,inn 3 1 KL.encI aa dw,.blk az 188 [.slice am dw.length ap],.blk b2 36 B0] w_) pZ ?_ ?_ ?_
 exact ⟨cX,Z,gx,gy,(zQ _),cE⟩
 rintro ah dw tT uf sP eU ⟨fH,gI,gA,jz,sb,o5⟩ rS
 have gf:Hid ((↑ah:Int) < x5):=zL (wBm eU)
 replace eU:=zL eU
 have qB:Hid (w64 ((↑ah:Int) + 1)=(↑(ah + 1):Int)):=zL (by have h1:=eZ.out;have h2:=gf.out;rw [wAZ] <;> omega)
 refine zJ (sR fL3 Z (oM Z gI (oM Z gA (oR Z (zf Z Z Z) (eN (cT Z gf (kN (zJ (zd (sR fL1 Z (oA Z Z (eN (zd (bnK rS fun tY p6 ri=>?_))))))))))))))
 have q:=wCw p6
 obtain ⟨e8,p7⟩:=q
 replace e8:=zL e8
 refine CK.forN' (fun ab dx σ_ w_=>∃ (U_:PHeap),σ_ 16=jV (↑ab:Int)/\σ_ 3=jV x5/\σ_ 4=.slice am dx.length ap/\σ_ 15=jV (↑ah:Int)/\PHeap.Le fH U_/\sW w U U_ [B8,inn 3 1 KL.encI aa dx,.blk az 188 [.slice am dx.length ap],.blk b2 36 B0] w_) p7 ?_ ?_ ?_
 exact ⟨fH,Z,gA,jz,gI,(zQ _),o5⟩
 rintro ab dx tU ug sQ eV ⟨fJ,gJ,gB,jB,jC,sc,o7⟩ rT
 have gg:Hid ((↑ab:Int) < x5):=zL (wBm eV)
 replace eV:=zL eV
 have qC:Hid (w64 ((↑ab:Int) + 1)=(↑(ab + 1):Int)):=zL (by have h1:=e8.out;have h2:=gg.out;rw [wAZ] <;> omega)
 refine zJ (sR fL3 Z (oM Z gJ (oM Z gB (oR Z (zf Z Z Z) (eN (cT Z gg (kN (zJ (zd (sR fL1 Z (oA Z Z (eN (zd (bnK rT fun tZ p8 rj=>?_))))))))))))))
 have q:=wCw p8
 obtain ⟨e9,p9⟩:=q
 replace e9:=zL e9
 refine CK.forN' (fun aR ae σ_ w_=>∃ (U_:PHeap),σ_ 17=jV (↑aR:Int)/\σ_ 3=jV x5/\σ_ 4=.slice am ae.length ap/\σ_ 15=jV (↑ah:Int)/\σ_ 16=jV (↑ab:Int)/\PHeap.Le fJ U_/\sW w U U_ [B8,inn 3 1 KL.encI aa ae,.blk az 188 [.slice am ae.length ap],.blk b2 36 B0] w_) p9 ?_ ?_ ?_
 exact ⟨fJ,Z,gB,jB,jC,gJ,(zQ _),o7⟩
 rintro aR ae tV uh fY eW ⟨aQ,gK,gC,jE,jG,jH,dy,o8⟩ rV
 have gi:Hid ((↑aR:Int) < x5):=zL (wBm eW)
 replace eW:=zL eW
 have dv:Hid (w64 ((↑aR:Int) + 1)=(↑(aR + 1):Int)):=zL (by have h1:=e9.out;have h2:=gi.out;rw [wAZ] <;> omega)
 refine zJ (sR fL3 Z (oM Z gK (oM Z gC (oR Z (zf Z Z Z) (eN (cT Z gi (kN (zJ (zd (zJ (yj fun cM cn=>?_)))))))))))
 have de:cM 3=jV x5:=(cn 3).trans gC
 have bs:cM 4=.slice am ae.length ap:=(cn 4).trans jE
 have bI:cM 15=jV (↑ah:Int):=(cn 15).trans jG
 have bP:cM 16=jV (↑ab:Int):=(cn 16).trans jH
 have bQ:cM 17=jV (↑aR:Int):=(cn 17).trans gK
 clear cn
 refine zx zn [3,3,3,1,3,3,1,3,3,3,3,3,1,3,3,1,3,3,3,3,3,3,1,3,3,1,3,3,3,1,3,3,1,3,3,3,3,1,3,3,1,3,3] fL43 (by kernel_rfl) ?_
 have cg:=o8.drew
 generalize hw_W662:({ fY with drawn:=fY.drawn + 1 }:World)=a0 at cg ⊢
 refine oM Z bs (oM Z bP (bnK rV fun _ aY rn=>?_))
 obtain ⟨td,aZ⟩:=cg.rowSome (j:=0) rfl (by rw [wAI (f:=wEf) (sz:=1) (fun _=>rfl),(cg.innFit (j:=1) rfl).len];have hz:=wAW aY;omega)
 refine oR Z (ZP Z Z aZ Z zZ zW (wAW aY)) ?_
 have it:=cg.innFit (j:=1) rfl
 have qj:=wBL (xs:=aa) (k:=ab) (by rw [it.len];exact (wAW aY))
 have rI:nL (gd aa ab).A (gd aa ab).n (gd aa ab).c=.slice ((gd aa ab).A) ((gd ae ab).length) ((gd aa ab).c):=by rw [it.at_ (k:=ab) (wAW aY)]
 refine ZI rfl rfl rfl rfl (yr (cg.ldR (j:=0) rfl aZ rfl rfl zX (wAX (sz:=1) (fun _=>rfl) _ _ 0 _ qj (by first | omega | rfl | simp) rfl)) rI) rfl ?_
 let aS:Res:=.blk az 188 [.slice am ae.length ap]
 have o9:sW w U aQ [inn 3 1 KL.encI aa ae,B8,aS,.blk b2 36 B0] a0:=cg.pick [1,0,2,3] _ (by decide) rfl
 have pe:=o9.innTake (k:=ab) (wAW aY)
 let cS:Res:=.row ((gd aa ab).A) ((gd aa ab).c) 3 1 (hH KL.encI (gd ae ab))
 have cj:sW w U aQ [cS,wKB 3 1 KL.encI aa ae ab,B8,aS,.blk b2 36 B0] a0:=pe
 refine oM Z bI (bnK rn fun _ bR ro=>?_)
 obtain ⟨te,bq⟩:=cj.rowSome (j:=0) rfl (by rw [wAI (f:=KL.encI) (sz:=1) (fun _=>rfl) (gd ae ab)];have hz:=wAW bR;omega)
 refine oR Z (ZP Z Z bq Z zD zC (wAW bR)) ?_
 have qk:=wBL (xs:=(gd ae ab)) (wAW bR)
 refine ZI rfl rfl rfl rfl (cj.ldR (j:=0) rfl bq rfl rfl zF (wAX (sz:=1) (fun _=>rfl) _ _ 0 _ qk (by first | omega | rfl | simp) rfl)) rfl (zq rfl rfl rfl rfl (fun _=>zf rfl rfl rfl) (ZJ rfl rfl rfl rfl rfl rfl (ifc ro ?_ ?_)))
 intro aU rp
 refine ZJ Z Z Z (wT Z aU) Z bs (ZJ Z Z Z (wT Z aU) Z bI (bnK rp fun _ bi rq=>rU Z (wT Z aU) (ZP Z Z aZ Z zZ zW (wAW bi)) ?_))
 have th:=(cj.innHFit (j:=1) rfl).1
 have q:=cj.innHFit (j:=1) rfl
 obtain ⟨qa,iQ⟩:=q
 have iQ:(gd ae ab).length=(gd aa ab).n:=nM rfl (qa.at_ (k:=ab) iQ).symm
 have pf:=cj.innBack0
 have eH:sW w U aQ [inn 3 1 KL.encI aa ae,B8,aS,.blk b2 36 B0] a0:=pf
 have iu:=eH.innFit (j:=0) rfl
 have qm:=wBL (xs:=aa) (k:=ah) (by rw [iu.len];exact (wAW bi))
 have rJ:nL (gd aa ah).A (gd aa ah).n (gd aa ah).c=.slice ((gd aa ah).A) ((gd ae ah).length) ((gd aa ah).c):=by rw [iu.at_ (k:=ah) (wAW bi)]
 refine ZI rfl rfl rfl (zO rfl rfl (Zp aU.out)) (yr (eH.ldR (j:=1) rfl aZ rfl rfl zX (wAX (sz:=1) (fun _=>rfl) _ _ 0 _ qm (by first | omega | rfl | simp) rfl)) rJ) rfl ?_
 have ph:=eH.innTake (k:=ah) (wAW bi)
 let dI:Res:=.row ((gd aa ah).A) ((gd aa ah).c) 3 1 (hH KL.encI (gd ae ah))
 have cm:sW w U aQ [dI,wKB 3 1 KL.encI aa ae ah,B8,aS,.blk b2 36 B0] a0:=ph
 refine ZJ Z Z Z (wT Z aU) Z bQ (bnK rq fun _ bS rx=>?_)
 obtain ⟨tf,cf⟩:=cm.rowSome (j:=0) rfl (by rw [wAI (f:=KL.encI) (sz:=1) (fun _=>rfl) (gd ae ah)];have hz:=wAW bS;omega)
 refine rU Z (wT Z aU) (ZP Z Z cf Z zD zC (wAW bS)) ?_
 have qn:=wBL (xs:=(gd ae ah)) (wAW bS)
 refine ZI rfl rfl rfl (zO rfl rfl (Zp aU.out)) (cm.ldR (j:=0) rfl cf rfl rfl zF (wAX (sz:=1) (fun _=>rfl) _ _ 0 _ qn (by first | omega | rfl | simp) rfl)) rfl (zq rfl rfl rfl (zO rfl rfl (Zp aU.out)) (fun _=>zf rfl rfl rfl) (zq rfl rfl rfl rfl (fun _=>zm rfl (Zp aU.out) rfl) (ZJ rfl rfl rfl rfl rfl rfl (ifc rx ?_ ?_))))
 intro ak rA
 refine ZJ Z Z Z (wT Z ak) Z bs (ZJ Z Z Z (wT Z ak) Z bP (rU Z (wT Z ak) (ZP Z Z aZ Z zZ zW (wAW aY)) ?_))
 have tj:=(cm.innHFit (j:=1) rfl).1
 have q:=cm.innHFit (j:=1) rfl
 obtain ⟨qb,iR⟩:=q
 have iR:(gd ae ah).length=(gd aa ah).n:=nM rfl (qb.at_ (k:=ah) iR).symm
 have pj:=cm.innBack0
 have eI:sW w U aQ [inn 3 1 KL.encI aa ae,B8,aS,.blk b2 36 B0] a0:=pj
 have iv:=eI.innFit (j:=0) rfl
 have qo:=wBL (xs:=aa) (k:=ab) (by rw [iv.len];exact (wAW aY))
 have rK:nL (gd aa ab).A (gd aa ab).n (gd aa ab).c=.slice ((gd aa ab).A) ((gd ae ab).length) ((gd aa ab).c):=by rw [iv.at_ (k:=ab) (wAW aY)]
 refine ZI rfl rfl rfl (zO rfl rfl (Zp ak.out)) (yr (eI.ldR (j:=1) rfl aZ rfl rfl zX (wAX (sz:=1) (fun _=>rfl) _ _ 0 _ qo (by first | omega | rfl | simp) rfl)) rK) rfl ?_
 have pk:=eI.innTake (k:=ab) (wAW aY)
 have dm:sW w U aQ [cS,wKB 3 1 KL.encI aa ae ab,B8,aS,.blk b2 36 B0] a0:=pk
 refine ZJ Z Z Z (wT Z ak) Z bI (rU Z (wT Z ak) (ZP Z Z bq Z zD zC (wAW bR)) ?_)
 have qp:=wBL (xs:=(gd ae ab)) (wAW bR)
 refine ZI rfl rfl rfl (zO rfl rfl (Zp ak.out)) (dm.ldR (j:=0) rfl bq rfl rfl zF (wAX (sz:=1) (fun _=>rfl) _ _ 0 _ qp (by first | omega | rfl | simp) rfl)) rfl (ZJ rfl rfl rfl (zO rfl rfl (Zp ak.out)) rfl bs (ZJ rfl rfl rfl (zO rfl rfl (Zp ak.out)) rfl bI (zq rfl rfl rfl (zO rfl rfl (Zp ak.out)) (fun _=>ZP rfl rfl aZ rfl zZ zW (wAW bi)) ?_)))
 have tl:=(dm.innHFit (j:=1) rfl).1
 have q:=dm.innHFit (j:=1) rfl
 obtain ⟨qc,iT⟩:=q
 have iT:(gd ae ab).length=(gd aa ab).n:=nM rfl (qc.at_ (k:=ab) iT).symm
 have pn:=dm.innBack0
 have eJ:sW w U aQ [inn 3 1 KL.encI aa ae,B8,aS,.blk b2 36 B0] a0:=pn
 have iw:=eJ.innFit (j:=0) rfl
 have qq:=wBL (xs:=aa) (k:=ah) (by rw [iw.len];exact (wAW bi))
 have rL:nL (gd aa ah).A (gd aa ah).n (gd aa ah).c=.slice ((gd aa ah).A) ((gd ae ah).length) ((gd aa ah).c):=by rw [iw.at_ (k:=ah) (wAW bi)]
 refine ZI rfl rfl rfl (zO rfl rfl (Zp ak.out)) (yr (eJ.ldR (j:=1) rfl aZ rfl rfl zX (wAX (sz:=1) (fun _=>rfl) _ _ 0 _ qq (by first | omega | rfl | simp) rfl)) rL) rfl ?_
 have po:=eJ.innTake (k:=ah) (wAW bi)
 have dp:sW w U aQ [dI,wKB 3 1 KL.encI aa ae ah,B8,aS,.blk b2 36 B0] a0:=po
 refine ZJ Z Z Z (wT Z ak) Z bQ (rU Z (wT Z ak) (ZP Z Z cf Z zD zC (wAW bS)) ?_)
 have qr:=wBL (xs:=(gd ae ah)) (wAW bS)
 refine ZI rfl rfl rfl (zO rfl rfl (Zp ak.out)) (dp.ldR (j:=0) rfl cf rfl rfl zF (wAX (sz:=1) (fun _=>rfl) _ _ 0 _ qr (by first | omega | rfl | simp) rfl)) rfl (zq rfl rfl rfl (zO rfl rfl (Zp ak.out)) (fun _=>zj rfl rfl rfl) (ZJ rfl rfl rfl (zO rfl rfl (Zp ak.out)) rfl bs (ZJ rfl rfl rfl (zO rfl rfl (Zp ak.out)) rfl bP (zq rfl rfl rfl (zO rfl rfl (Zp ak.out)) (fun _=>ZP rfl rfl aZ rfl zZ zW (wAW aY)) ?_))))
 have tm:=(dp.innHFit (j:=1) rfl).1
 have q:=dp.innHFit (j:=1) rfl
 obtain ⟨qd,iU⟩:=q
 have iU:(gd ae ah).length=(gd aa ah).n:=nM rfl (qd.at_ (k:=ah) iU).symm
 have pp:=dp.innBack0
 have eK:sW w U aQ [inn 3 1 KL.encI aa ae,B8,aS,.blk b2 36 B0] a0:=pp
 have iy:=eK.innFit (j:=0) rfl
 have qt:=wBL (xs:=aa) (k:=ab) (by rw [iy.len];exact (wAW aY))
 have rM:nL (gd aa ab).A (gd aa ab).n (gd aa ab).c=.slice ((gd aa ab).A) ((gd ae ab).length) ((gd aa ab).c):=by rw [iy.at_ (k:=ab) (wAW aY)]
 refine ZI rfl rfl rfl (zO rfl rfl (Zp ak.out)) (yr (eK.ldR (j:=1) rfl aZ rfl rfl zX (wAX (sz:=1) (fun _=>rfl) _ _ 0 _ qt (by first | omega | rfl | simp) rfl)) rM) rfl ?_
 have pq:=eK.innTake (k:=ab) (wAW aY)
 have eL:sW w U aQ [cS,wKB 3 1 KL.encI aa ae ab,B8,aS,.blk b2 36 B0] a0:=pq
 refine ZJ Z Z Z (wT Z ak) Z bQ (bnK rA fun _ cD rC=>rU Z (wT Z ak) (ZP Z Z bq Z zD zC (wAW cD)) ?_)
 have qu:=wBL (xs:=(gd ae ab)) (wAW cD)
 refine ZI rfl rfl rfl (zO rfl rfl (Zp ak.out)) (eL.ldR (j:=0) rfl bq rfl rfl zF (wAX (sz:=1) (fun _=>rfl) _ _ 0 _ qu (by first | omega | rfl | simp) rfl)) rfl (zq rfl rfl rfl (zO rfl rfl (Zp ak.out)) (fun _=>zf rfl rfl rfl) (zq rfl rfl rfl rfl (fun _=>zm rfl (Zp ak.out) rfl) (eN (ifc rC ?_ ?_))))
 intro dY rD
 refine cT Z dY (yj fun cN cp=>?_)
 have jJ:cN 3=jV x5:=(cp 3).trans de
 have df:cN 4=.slice am ae.length ap:=(cp 4).trans bs
 have d9:cN 15=jV (↑ah:Int):=(cp 15).trans bI
 have ec:cN 16=jV (↑ab:Int):=(cp 16).trans bP
 have ef:cN 17=jV (↑aR:Int):=(cp 17).trans bQ
 clear cp
 refine zx zn [3,3,3,1,3,3,3,3,1,3,3,1,3,3,3,1,3,3,1,3,3,3,0] (wQu (.fx 22 .nil .stop)) (by kernel_rfl) ?_
 have bv:=eL.drew
 generalize hw_W749:({ a0 with drawn:=a0.drawn + 1 }:World)=da at bv ⊢
 refine oM Z df (oM Z ec (oR Z (ZP Z Z aZ Z zZ zW (wAW aY)) ?_))
 have q:=bv.innHFit (j:=1) rfl
 obtain ⟨iz,iV⟩:=q
 have qv:=wBL (xs:=aa) (k:=ab) (by rw [iz.len];exact iV)
 have rN:nL (gd aa ab).A (gd aa ab).n (gd aa ab).c=.slice ((gd aa ab).A) ((gd ae ab).length) ((gd aa ab).c):=congrArg (fun n_=>nL (gd aa ab).A n_ (gd aa ab).c) ((iz.at_ (k:=ab) iV).trans (Eq.symm rfl))
 refine ZI rfl rfl rfl rfl (yr (bv.ldR (j:=2) rfl aZ rfl rfl zX (wAX (sz:=1) (fun _=>rfl) _ _ 0 _ qv (by first | omega | rfl | simp) rfl)) rN) rfl (ZJ rfl rfl rfl rfl rfl ef (ZJ rfl rfl rfl rfl rfl df (ZJ rfl rfl rfl rfl rfl ec (zq rfl rfl rfl rfl (fun _=>ZP rfl rfl aZ rfl zZ zW (wAW aY)) ?_))))
 have q:=bv.innHFit (j:=1) rfl
 obtain ⟨iA,iW⟩:=q
 have qw:=wBL (xs:=aa) (k:=ab) (by rw [iA.len];exact iW)
 have rO:nL (gd aa ab).A (gd aa ab).n (gd aa ab).c=.slice ((gd aa ab).A) ((gd ae ab).length) ((gd aa ab).c):=congrArg (fun n_=>nL (gd aa ab).A n_ (gd aa ab).c) ((iA.at_ (k:=ab) iW).trans (Eq.symm rfl))
 refine ZI rfl rfl rfl rfl (yr (bv.ldR (j:=2) rfl aZ rfl rfl zX (wAX (sz:=1) (fun _=>rfl) _ _ 0 _ qw (by first | omega | rfl | simp) rfl)) rO) rfl (ZJ rfl rfl rfl rfl rfl d9 (zq rfl rfl rfl rfl (fun _=>ZP rfl rfl bq rfl zD zC (wAW bR)) ?_))
 have qx:=wBL (xs:=(gd ae ab)) (wAW bR)
 refine ZI rfl rfl rfl rfl (bv.ldR (j:=0) rfl bq rfl rfl zF (wAX (sz:=1) (fun _=>rfl) _ _ 0 _ qx (by first | omega | rfl | simp) rfl)) rfl (ZJ rfl rfl rfl rfl rfl df (ZJ rfl rfl rfl rfl rfl d9 (zq rfl rfl rfl rfl (fun _=>ZP rfl rfl aZ rfl zZ zW (wAW bi)) ?_)))
 have tn:=(bv.innHFit (j:=1) rfl).1
 have q:=bv.innHFit (j:=1) rfl
 obtain ⟨iB,fc⟩:=q
 have fc:(gd ae ab).length=(gd aa ab).n:=nM rfl (iB.at_ (k:=ab) fc).symm
 have pu:=bv.innBack0
 have eM:sW w U aQ [inn 3 1 KL.encI aa ae,B8,aS,.blk b2 36 B0] da:=pu
 have iC:=eM.innFit (j:=0) rfl
 have qy:=wBL (xs:=aa) (k:=ah) (by rw [iC.len];exact (wAW bi))
 have rP:nL (gd aa ah).A (gd aa ah).n (gd aa ah).c=.slice ((gd aa ah).A) ((gd ae ah).length) ((gd aa ah).c):=by rw [iC.at_ (k:=ah) (wAW bi)]
 refine ZI rfl rfl rfl rfl (yr (eM.ldR (j:=1) rfl aZ rfl rfl zX (wAX (sz:=1) (fun _=>rfl) _ _ 0 _ qy (by first | omega | rfl | simp) rfl)) rP) rfl ?_
 have py:=eM.innTake (k:=ah) (wAW bi)
 have eO:sW w U aQ [dI,wKB 3 1 KL.encI aa ae ah,B8,aS,.blk b2 36 B0] da:=py
 refine oM Z ef (oR Z (ZP Z Z cf Z zD zC (wAW bS)) ?_)
 have qz:=wBL (xs:=(gd ae ah)) (wAW bS)
 refine ZI rfl rfl rfl rfl (eO.ldR (j:=0) rfl cf rfl rfl zF (wAX (sz:=1) (fun _=>rfl) _ _ 0 _ qz (by first | omega | rfl | simp) rfl)) rfl (zq rfl rfl rfl rfl (fun _=>zj rfl rfl rfl) (zq rfl rfl rfl rfl (fun _=>Runs.max rfl rfl rfl) ?_))
 have q:=eO.innHFit (j:=1) rfl
 obtain ⟨qe,iX⟩:=q
 have iX:(gd ae ah).length=(gd aa ah).n:=nM rfl (qe.at_ (k:=ah) iX).symm
 have pz:=eO.innBack0
 have ig:sW w U aQ [inn 3 1 KL.encI aa ae,B8,aS,.blk b2 36 B0] da:=pz
 have iD:=ig.innFit (j:=0) rfl
 have iF:ab < ae.length:=nO (wAW aY) (iB.len.symm.trans iD.len)
 have pB:=ig.innTake (k:=ab) iF
 have pC:sW w U aQ [cS,wKB 3 1 KL.encI aa ae ab,B8,aS,.blk b2 36 B0] da:=pB
 refine oR Z (ZP Z (nM (b:=(.slice ((gd aa ab).A) ((gd aa ab).n) ((gd aa ab).c):Value)) (c:=(.slice ((gd aa ab).A) ((gd ae ab).length) ((gd aa ab).c):Value)) (nM (b:=(.slice ((gd aa ab).A) ((gd ae ab).length) ((gd aa ab).c):Value)) (c:=(.slice ((gd aa ab).A) ((gd aa ab).n) ((gd aa ab).c):Value)) Z (congrArg (fun n_=>nL ((gd aa ab).A) n_ ((gd aa ab).c)) fc)) (congrArg (fun n_=>nL ((gd aa ab).A) n_ ((gd aa ab).c)) (iD.at_ (k:=ab) iF))) bq Z zD zC (wAW cD)) ?_
 have qA:=wBL (xs:=(gd ae ab)) (wAW cD)
 refine yp (j:=0) (vs:=[jV (max (w64 ((gd (gd ae ab) ah) + (gd (gd ae ah) aR))) (-1125899906842624))]) (cs':=hH KL.encI (nB (gd ae ab) aR (max (w64 ((gd (gd ae ab) ah) + (gd (gd ae ah) aR))) (-1125899906842624)))) rfl rfl rfl rfl pC rfl bq rfl rfl rfl zC (by rw [wAI (f:=KL.encI) (sz:=1) (fun _=>rfl)];have hz:=wAW cD;show _ + 1 <= _;first | omega | (simp only [nI];omega) | (simp only [nH,nE,nG];omega)) rfl (wDW (sz:=1) (fo:=0) (fun _=>rfl) _ _ _ _ qA (by first | omega | (simp only [nI];omega) | (simp only [nH,nE,nG];omega)) (zA rfl) rfl) rfl ?_
 intro dX pD
 have pE:sW w U aQ [.row ((gd aa ab).A) ((gd aa ab).c) 3 1 (hH KL.encI (nB (gd ae ab) aR (max (w64 ((gd (gd ae ab) ah) + (gd (gd ae ah) aR))) (-1125899906842624)))),wKB 3 1 KL.encI aa ae ab,B8,aS,.blk b2 36 B0] dX:=pD
 refine zw (ZE (zK (rR fL3 Z (oM Z ef (oR Z (Zd (zj Z Z Z) (congrArg (jV) dv.out)) (oA Z Z (zw ?_)))))))
 have pF:=pE.innBack nK
 have pG:sW w U aQ [inn 3 1 KL.encI aa (nB ae ab (nB (gd ae ab) aR (max (w64 ((gd (gd ae ab) ah) + (gd (gd ae ah) aR))) (-1125899906842624)))),B8,aS,.blk b2 36 B0] dX:=pF
 have pH:sW w U aQ [inn 3 1 KL.encI aa (nB ae ab (nB (gd ae ab) aR (max (w64 ((gd (gd ae ab) ah) + (gd (gd ae ah) aR))) (-1125899906842624)))),B8,.blk az 188 [.slice am ((nB ae ab (nB (gd ae ab) aR (max (w64 ((gd (gd ae ab) ah) + (gd (gd ae ah) aR))) (-1125899906842624)))).length) ap],.blk b2 36 B0] dX:=by simpa only [B0,aS,B8,nK] using pG
 cases rD
 exact zK ⟨rfl,⟨aQ,rfl,jJ,(nM (b:=(.slice am ae.length ap:Value)) (c:=(.slice am ((nB ae ab (nB (gd ae ab) aR (max (w64 ((gd (gd ae ab) ah) + (gd (gd ae ah) aR))) (-1125899906842624)))).length) ap:Value)) df (by simp only [nK])),d9,ec,dy,(pH.pick [1,0,2,3] _ (by decide) rfl)⟩⟩
 intro dY rE
 refine cF Z dY (Zr (ZE (zK (yj fun cO cq=>?_))))
 have jK:cO 3=jV x5:=(cq 3).trans de
 have jL:cO 4=.slice am ae.length ap:=(cq 4).trans bs
 have jM:cO 15=jV (↑ah:Int):=(cq 15).trans bI
 have jN:cO 16=jV (↑ab:Int):=(cq 16).trans bP
 have jO:cO 17=jV (↑aR:Int):=(cq 17).trans bQ
 clear cq
 refine rR fL3 Z (oM Z jO (oR Z (Zd (zj Z Z Z) (congrArg (jV) dv.out)) (oA Z Z (zw ?_))))
 have pI:=eL.innBack0
 have pJ:sW w U aQ [inn 3 1 KL.encI aa ae,B8,aS,.blk b2 36 B0] a0:=pI
 cases rE
 exact zK ⟨rfl,⟨aQ,rfl,jK,jL,jM,jN,dy,(pJ.pick [1,0,2,3] _ (by decide) rfl)⟩⟩
 intro ak rG
 refine oF Z ak (oF Z ak (oF Z ak (oF Z ak (oF Z ak (oF Z ak (oF Z ak (oF Z ak (oF Z ak (oF Z ak (oF Z ak (oF Z ak (oF Z ak (oF Z ak (oF Z ak (oF Z ak (oF Z ak (oF Z ak (oF Z ak (oF Z ak (oF Z ak (oF Z ak (oF Z ak (oR Z (zz Z (Za ak.out) Z) (eN (zr Z (Zr (ZE (zK (yj fun cP cr=>?_)))))))))))))))))))))))))))))
 have jP:cP 3=jV x5:=(cr 3).trans de
 have jQ:cP 4=.slice am ae.length ap:=(cr 4).trans bs
 have jR:cP 15=jV (↑ah:Int):=(cr 15).trans bI
 have jS:cP 16=jV (↑ab:Int):=(cr 16).trans bP
 have jU:cP 17=jV (↑aR:Int):=(cr 17).trans bQ
 clear cr
 refine rR fL3 Z (oM Z jU (oR Z (Zd (zj Z Z Z) (congrArg (jV) dv.out)) (oA Z Z (zw ?_))))
 have pK:=cm.innBack0
 have pL:sW w U aQ [inn 3 1 KL.encI aa ae,B8,aS,.blk b2 36 B0] a0:=pK
 cases rG
 exact zK ⟨rfl,⟨aQ,rfl,jP,jQ,jR,jS,dy,(pL.pick [1,0,2,3] _ (by decide) rfl)⟩⟩
 intro aU rH
 refine oF Z aU (oF Z aU (oF Z aU (oF Z aU (oF Z aU (oF Z aU (oF Z aU (oF Z aU (oR Z (zz Z (Za aU.out) Z) (oM Z Z (oN Z (oN Z (oN Z (oN Z (oN Z (oN Z (oN Z (oN Z (oN Z (oN Z (oN Z (oN Z (oN Z (oN Z (oN Z (oN Z (oN Z (oN Z (oN Z (oN Z (oN Z (oN Z (oN Z (oR Z (zz Z Z Z) (eN (zr Z (Zr (ZE (zK (yj fun cQ ct=>?_)))))))))))))))))))))))))))))))))))))))
 have jW:cQ 3=jV x5:=(ct 3).trans de
 have jX:cQ 4=.slice am ae.length ap:=(ct 4).trans bs
 have jY:cQ 15=jV (↑ah:Int):=(ct 15).trans bI
 have jZ:cQ 16=jV (↑ab:Int):=(ct 16).trans bP
 have j0:cQ 17=jV (↑aR:Int):=(ct 17).trans bQ
 clear ct
 refine rR fL3 Z (oM Z j0 (oR Z (Zd (zj Z Z Z) (congrArg (jV) dv.out)) (oA Z Z (zw ?_))))
 have pM:=cj.innBack0
 have pN:sW w U aQ [inn 3 1 KL.encI aa ae,B8,aS,.blk b2 36 B0] a0:=pM
 cases rH
 exact zK ⟨rfl,⟨aQ,rfl,jW,jX,jY,jZ,dy,(pN.pick [1,0,2,3] _ (by decide) rfl)⟩⟩
 rintro ui sS ⟨i8,li,gD,j5,j6,j7,sd,pO⟩
 have jl:Hid (¬ ((↑((x5:Int) - 0).toNat:Int) < x5)):=zL (wBB)
 refine zJ (sR fL3 Z (oM Z li (oM Z gD (oR Z (zf Z Z Z) (eN (cF Z jl (Zf (zo (zo (ZX (ZE (zK (rR fL3 Z (oM Z j7 (oR Z (Zd (zj Z Z Z) (congrArg (jV) qC.out)) (oA Z Z (zw ?_)))))))))))))))))
 cases rj
 exact zK ⟨Z,⟨i8,Z,gD,j5,j6,(sc.trans sd),pO⟩⟩
 rintro uj sU ⟨i9,lj,gE,j8,j9,se,pP⟩
 have jm:Hid (¬ ((↑((x5:Int) - 0).toNat:Int) < x5)):=zL (wBB)
 refine zJ (sR fL3 Z (oM Z lj (oM Z gE (oR Z (zf Z Z Z) (eN (cF Z jm (Zf (zo (zo (ZX (ZE (zK (rR fL3 Z (oM Z j9 (oR Z (Zd (zj Z Z Z) (congrArg (jV) qB.out)) (oA Z Z (zw ?_)))))))))))))))))
 cases ri
 exact zK ⟨Z,⟨i9,Z,gE,j8,(sb.trans se),pP⟩⟩
 rintro ul sV ⟨ja,lm,k9,lf,tp,pQ⟩
 have jo:Hid (¬ ((↑((x5:Int) - 0).toNat:Int) < x5)):=zL (wBB)
 refine zJ (sR fL3 Z (oM Z lm (oM Z k9 (oR Z (zf Z Z Z) (eN (cF Z jo (Zf (zo (zo (ZX (zK (sR fL2 Z (oM Z lf (oA Z Z (eN (zP ?_))))))))))))))))
 have hE:=nJ re;first | subst r | cases hE
 exact ⟨rfl,_,(ZL rfl),ja,_,(pQ.pick [0,1] _ (by decide) rfl),am,ap,aa,rfl,rfl⟩
end Go.Proofs.YtlnfbjphfoipaaaGreat
