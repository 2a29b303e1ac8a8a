import Derived.Test.YtlnfbjphfoipaaaGreatU5
import Derived.Test.YtlnfbjphfoipaaaGreatU4
import Derived.Test.YtlnfbjphfoipaaaGreatU6
import Derived.Test.YtlnfbjphfoipaaaGreatU7
set_option linter.all false
open List renaming flatMap->hD,set->nD,getElem_cons_succ->nH,getElem_cons_zero->nI,getElem_toArray->nJ,length_set->nK,forall_mem_cons->nN,length_append->nP
open Go.Value renaming bool->hH,slice->nE
open Bool renaming eq_false_iff->nA
open Option.some renaming inj->nB
open Int renaming toNat_natCast->nL
open Eq renaming trans->nM
open Nat renaming lt_of_lt_of_eq->nO
namespace Go.Proofs.YtlnfbjphfoipaaaGreat
open Go.KL
def gEh:Sch:=.fx 1 (.fl 2 .nil) .stop
def gEi:Sch:=.fx 5 (.fl 6 .nil) .stop
def gEj:Sch:=.fx 0 (.fl 1 .nil) .stop
def gEk:Sch:=.fx 4 (.fl 5 .nil) .stop
def gEl:Sch:=.fx 3 (.fl 4 .nil) .stop
def gEm:Sch:=.fx 5 (.fx 6 .nil .stop) .stop
def gEn:Sch:=.fx 0 (.fx 1 .nil .stop) .stop
def gEo:Sch:=.fx 4 (.fx 6 .nil .stop) .stop
def gEp:Sch:=.fx 6 (.fx 8 .nil .stop) .stop
def gEq:Sch:=.fx 2 (.fl 3 .nil) .stop
def gEr:Sch:=.fx 10 (.fl 11 .nil) .stop
def gEs:Sch:=.fx 0 (.fl 1 (.fl 2 .nil)) .stop
def gEt:Sch:=.fl 0 gEh
def gEu:Sch:=.fx 6 (.fx 7 (.fl 8 .nil) .stop) .stop
def gEv:Sch:=.fx 3 gEk .stop
def gEw:Sch:=.fx 1 (.fl 2 (.fl 3 .nil)) .stop
def gEx:Sch:=.fx 3 gEo .stop
def gEy:Sch:=.fx 5 gEp .stop
def gEz:Sch:=.fx 0 gEh .stop
def gFa:Sch:=.fx 6 (.fl 7 (.fl 8 .nil)) .stop
def gFb:Sch:=.fx 0 gEw .stop
def gFc:Sch:=.fx 3 gEy .stop
def gFd:Sch:=.fx 0 (.fx 1 gEq .stop) .stop
def gFe:Sch:=.fl 0 (.fl 1 (.fx 2 gEl .stop))
def gFf:Sch:=.fl 0 (.fl 2 (.fx 1 (.fx 3 (.fx 4 gEm (.fx 5 gEo .stop)) (.fx 5 gEx .stop)) (.fx 5 (.fx 1 gEx .stop) .stop)))
set_option maxHeartbeats 4000000
theorem wFG (O:wAK) (aM:Option Addr) (aO:Nat) (aN:Option Addr) (aP:Nat) (aS:Option Addr) (aT:Nat) (av:Option Addr) (ax:Nat) (w:World) (U:PHeap) (hS:St0 w U []) (cb:Sl U 1 aM aO O.Starts.length (hD KL.encI O.Starts)) (cc:Sl U 2 aN aP O.Splits.length (hD wAC O.Splits)) (cd:Sl U 3 aS aT O.Clocks.length (hD wAM O.Clocks)) (bu:Sl U 4 av ax O.Readings.length (hD wAF O.Readings)) {r:(List wAR) × Int} (hm:wBr O=some r):Gv Tryz.prog 23 [.agg #[.slice aM O.Starts.length aO,.slice aN O.Splits.length aP,.slice aS O.Clocks.length aT,.slice av O.Readings.length ax]] w (wCF w [] U (fun U_ L_ v=>∃ (A0:Option Addr) (c0:Nat),v=.tuple #[.slice A0 r.1.length c0,jV r.2]/\L_=[.row A0 c0 44 2 (hD wAX r.1)])):=by
 unfold wBr at hm
 refine Gv.of Tryz.func23 Z Tryz.ntmps23 Tryz.results23 Z (sR gEs Z ?_)
 let B0:List Value:=[.slice aM O.Starts.length aO,.slice aN O.Splits.length aP,.slice aS O.Clocks.length aT,.slice av O.Readings.length ax]
 refine zq (cs:=B0) rfl rfl rfl rfl rfl rfl (by rfl) hS ?_
 intro W1 b2 bt
 refine oA Z Z (oA Z Z (eN (zJ (sR gEt Z (oL Z (bt.ldBA (j:=0) Z Z Z ZX ZO (vs:=B0) Z Z) (bnK hm fun x5 h6 cC=>zC 0 Z Z Z Z (zD Z Z Tryz.call34 (zB Z zL) Z) bt (fun hs=>wCN O aM aO aN aP aS aT av ax W1 U hs cb cc cd bu h6) (.inr Z) ?_))))))
 rintro U8 L9 cU bG cD bW ⟨rfl,rfl⟩
 have br:sW w U U8 [.blk b2 36 B0] bG:=bW
 refine oA Z Z (eN (sR fL2 Z (oM Z Z (oR Z (Zb Z Z Z) (eN (ifc cC ?_ ?_))))))
 intro aY cx
 refine zr (ZL (fun h=>h aY.out)) (kN (sR fL1 Z (oA Z Z (eN (zJ (sR fL1 Z (oA Z Z (eN (zX (ye (fun (a9,ae) J_ w_=>∃ (U_:PHeap) (aJ:Option Addr) (aK:Nat),J_ 1=.pointer (some ⟨b2,0,none⟩)/\J_ 5=.slice aJ a9.length aK/\J_ 6=jV ae/\PHeap.Le U8 U_/\sW w U U_ [.blk b2 36 B0,.row aJ aK 44 2 (hD wAX a9)] w_) cx ?_ ?_))))))))))
 have ca:=br.nilrow 44 2
 exact ⟨U8,none,0,rfl,rfl,rfl,(zQ _),(ca.pick [1,0] _ (by decide) rfl)⟩
 rintro ⟨a9,ae⟩ cW cI cM ⟨aV,aJ,aK,bj,bk,bm,bC,a0⟩ a6 cf
 try dsimp only at a6
 refine zJ (sR fL5 Z (oM Z bm (oR Z (zH Z bj zW Z zh) (oL Z (a0.ldB (j:=0) Z Z Z zk (v:=.slice aM O.Starts.length aO) Z) (oR Z (zi Z Z zG) (oR Z (ze Z Z Z) (eN ?_)))))))
 by_cases aj:ae < (↑O.Starts.length:Int)
 have bA:=a6;rw [if_pos aj] at bA;replace aj:=zM aj
 refine cT Z aj (kN (zJ (zX (sR fL1 Z (oA Z Z (eN (zX (ye (fun (aH,ag) J_ w_=>∃ (U_:PHeap) (an:Option Addr) (ap:Nat),J_ 1=.pointer (some ⟨b2,0,none⟩)/\J_ 5=.slice an aH.length ap/\J_ 6=jV ae/\J_ 7=jV ag/\PHeap.Le aV U_/\sW w U U_ [.blk b2 36 B0,.row an ap 44 2 (hD wAX aH)] w_) bA ?_ ?_))))))))
 exact ⟨aV,aJ,aK,bj,bk,bm,Z,(zQ _),a0⟩
 rintro ⟨aH,ag⟩ cX cJ cN ⟨aW,an,ap,aZ,bn,bo,bp,aR,a5⟩ a7 cg
 try dsimp only at a7
 refine zJ (sR fL5 Z (oM Z bp (oR Z (zH Z aZ zW Z Zf) (oL Z (a5.ldB (j:=0) Z Z Z Zl (v:=.slice aN O.Splits.length aP) Z) (oR Z (zi Z Z ZG) (oR Z (Runs.leq Z Z Z) (eN ?_)))))))
 by_cases ak:ag <= (↑O.Splits.length:Int)
 have bB:=a7;rw [if_pos ak] at bB;replace ak:=zM ak
 refine cT Z ak (kN (zJ (zX (sR fL1 Z (oA Z Z (eN (zJ (sR fL1 Z (oA Z Z (eN (zX ?_)))))))))))
 let B1:Res:=.row an ap 44 2 (hD wAX aH)
 refine ye (fun (bf,ba) J_ w_=>∃ (U_:PHeap),J_ 1=.pointer (some ⟨b2,0,none⟩)/\J_ 5=.slice an aH.length ap/\J_ 6=jV ae/\J_ 7=jV ag/\J_ 8=.bool bf/\J_ 9=jV ba/\PHeap.Le aW U_/\sW w U U_ [.blk b2 36 B0,B1] w_) bB ?_ ?_
 exact ⟨aW,aZ,bn,bo,bp,Z,Z,(zQ _),a5⟩
 rintro ⟨bf,ba⟩ cY cK cO ⟨ao,am,aL,aq,au,bi,ay,aI,ac⟩ a8 cj
 try dsimp only at a8
 refine zJ (sR fL5 Z (oM Z ay (oR Z (zH Z am zW Z Zq) (oL Z (ac.ldB (j:=0) Z Z Z Zy (v:=.slice av O.Readings.length ax) Z) (oR Z (zi Z Z ZV) (oR Z (ze Z Z Z) (eN ?_)))))))
 by_cases ai:ba < (↑O.Readings.length:Int)
 have bv:=a8;rw [if_pos ai] at bv;replace ai:=zM ai
 refine cT Z ai (kN (zJ (zX (rR fL22 Z (oM Z bi (oM Z Z (ifc bv ?_ ?_)))))))
 intro aa cm
 refine zw Z Z Z (zO Z Z (congrArg hH aa.out) Z) (zw Z Z Z (zO Z Z (congrArg hH aa.out) Z) (zw Z Z Z (zO Z Z (congrArg hH aa.out) Z) (zw Z Z Z (zO Z Z (congrArg hH aa.out) Z) (zw Z Z Z (zO Z Z (congrArg hH aa.out) Z) (zw Z Z Z (zO Z Z (congrArg hH aa.out) Z) (zw Z Z Z (zO Z Z (congrArg hH aa.out) Z) (zw Z Z Z (zO Z Z (congrArg hH aa.out) Z) (zw Z Z Z (zO Z Z (congrArg hH aa.out) Z) (zw Z Z Z (wEJ Z Z Z) (zw Z Z Z (wEJ Z Z Z) (zw Z Z Z (wEJ Z Z Z) (zw Z Z Z (wEJ Z Z Z) (zw Z Z Z (wEJ Z Z Z) (zw Z Z Z (wEJ Z Z Z) (zw Z Z Z (wEJ Z Z Z) (zw Z Z Z (wEJ Z Z Z) (zw Z Z Z (zO Z Z (congrArg hH aa.out) Z) (oR Z (zS Z (congrArg hH aa.out) Z) (oA Z Z (zb (zl (zF (rR fL3 Z (oM Z ay (oR Z (za Z Z Z) (oA Z Z (zb ?_)))))))))))))))))))))))))))
 have q:=nB cm
 obtain rfl:=q
 exact zF ⟨Z,_,Z,⟨ao,am,aL,aq,au,Z,Z,aI,ac⟩⟩
 intro aa cn
 refine zg Z Z Z (zN Z Z (congrArg hH (nA.2 aa.out))) (fun _=>zH Z am zW Z Zq) (zx Z Z Z (zN Z Z (congrArg hH (nA.2 aa.out))) (ac.ldB (j:=0) Z Z Z Zy (v:=.slice av O.Readings.length ax) Z) Z (ZE Z Z Z (zN Z Z (congrArg hH (nA.2 aa.out))) Z ay (bnK cn fun bD az co=>?_)))
 have bN:=bu.le cD
 have bO:=bN.le bC
 have bP:=bO.le aR
 have bq:=bP.le aI
 have q:=bq.el (fun _=>rfl) (wAb az)
 obtain ⟨cP,cR,bS,bU⟩:=q
 refine zg Z Z Z (zN Z Z (congrArg hH (nA.2 aa.out))) (fun _=>ZT Z Z bS Z ZV yA (wBp az) (wBx az)) (zg Z Z Z (zN Z Z (congrArg hH (nA.2 aa.out))) (fun _=>zH Z Z Zt Z zE) (zx Z Z Z (zN Z Z (congrArg hH (nA.2 aa.out))) (ac.ldC (f:=0) bU (v:=jV bD.Skier) Z Z zK Z) Z (ZE Z Z Z (zN Z Z (congrArg hH (nA.2 aa.out))) Z aq (zg Z Z Z (zN Z Z (congrArg hH (nA.2 aa.out))) (fun _=>yV Z Z Z) (ZE Z Z Z (zN Z Z (congrArg hH (nA.2 aa.out))) Z Z (ifc co ?_ ?_))))))
 intro ab cp
 refine rU Z (wT Z ab) (zH Z am zW Z Zq) (zx Z Z Z (wT Z ab) (ac.ldB (j:=0) Z Z Z Zy (v:=.slice av O.Readings.length ax) Z) Z (ZE Z Z Z (wT Z ab) Z ay ?_))
 have q:=bq.el (fun _=>rfl) (wAb az)
 obtain ⟨cQ,cS,bT,bV⟩:=q
 refine rU Z (wT Z ab) (ZT Z Z bT Z ZV yA (wBp az) (wBx az)) (rU Z (wT Z ab) (zH Z Z Zt Z zE) (zx Z Z Z (wT Z ab) (ac.ldC (f:=1) bV (v:=jV bD.Mat) Z Z zK Z) Z (ZE Z Z Z (wT Z ab) Z au (rU Z (wT Z ab) (yV Z Z Z) (zg Z Z Z (zN Z Z (congrArg hH (nA.2 aa.out))) (fun _=>zS Z (Zh ab.out) Z) (oR Z (zZ Z (congrArg hH (nA.2 aa.out)) Z) (oA Z Z (zb (zl (zF (rR fL3 Z (oM Z ay (oR Z (za Z Z Z) (oA Z Z (zb ?_)))))))))))))))
 have q:=nB cp
 obtain rfl:=q
 exact zF ⟨Z,_,Z,⟨ao,am,aL,aq,au,Z,Z,aI,ac⟩⟩
 intro ab cq
 refine oF Z ab (oF Z ab (oF Z ab (oF Z ab (oF Z ab (oF Z ab (oF Z ab (oF Z ab (zg Z Z Z (zN Z Z (congrArg hH (nA.2 aa.out))) (fun _=>zZ Z (ZL ab.out) Z) (oR Z (zZ Z (congrArg hH (nA.2 aa.out)) Z) (oA Z Z (zb (zl (zF (rR fL3 Z (oM Z ay (oR Z (za Z Z Z) (oA Z Z (zb ?_))))))))))))))))))
 have q:=nB cq
 obtain rfl:=q
 exact zF ⟨Z,_,Z,⟨ao,am,aL,aq,au,Z,Z,aI,ac⟩⟩
 have bw:=a8;rw [if_neg ai] at bw;replace ai:=zM ai
 refine cF Z ai (ZS (zf ?_))
 have q:=wAV bw
 obtain ⟨cE,cr,bK⟩:=q
 have q:=cj cE bK
 obtain rfl:=q
 refine zf (ZN (zF (sR fL2 Z (oM Z bi (oR Z (ZY Z Z) (eN (ifc cr ?_ ?_)))))))
 intro aX ct
 refine zr (nC aX.out) (Ze (zl (zF (rR fL3 Z (oM Z au (oR Z (za Z Z Z) (oA Z Z (zb ?_))))))))
 have q:=nB ct
 obtain rfl:=q
 exact zF ⟨Z,_,Z,⟨ao,an,ap,am,aL,aq,Z,(aR.trans aI),ac⟩⟩
 intro aX cu
 refine ZK (nF (aX.out)) (rR (wEN (.fx 4 gEi .stop)) Z (oM Z aL (oM Z aq (oM Z au ?_))))
 let B2:List Value:=[jV ae,jV ag]
 refine oR Z (zu (pv:=[(0,jV ae),(1,jV ag)]) (z:=[jV 0,jV 0]) (cs:=B2) Z (wAG Z (wAG Z wAP)) Tryz.zeroValue44 wME Z Z) (ZC (pv:=[(0,.agg B2.toArray)]) (zs:=[jV 0,jV 0]) (cs:=B2) Z Z Z Z Z (wAG Z wAP) Tryz.runUnderlying59 yl Tryz.zeroValue44 Z Z Z Z Z ac ?_)
 intro bH bJ bX
 let B3:Res:=.row (some ⟨bJ,0,none⟩) 1 44 2 (hD wAX [(⟨ae,ag⟩:wAR)])
 have bs:sW w U ao [B3,.blk b2 36 B0,B1] bH:=bX
 refine bnK cu fun bE bQ cw=>yG (j:=2) (enc:=wAX) (xs:=aH) (ys:=[(⟨ae,ag⟩:wAR)]) (zs:=bE) rfl rfl rfl rfl rfl Tryz.underlying59 wOY rfl rfl rfl rfl rfl rfl bs rfl rfl rfl (bs.srcR (j:=0) rfl (by decide) (wAD (f:=wAX) (sz:=2) (fun _=>rfl) [(⟨ae,ag⟩:wAR)])) (fun _=>rfl) (fun _=>rfl) bQ rfl ?_
 intro bc bh bI bY
 have bZ:sW w U ao [B3,.blk b2 36 B0,.row bc bh 44 2 (hD wAX bE)] bI:=bY
 refine oA Z Z (zb (zl (zF (rR fL3 Z (oM Z au (oR Z (za Z Z Z) (oA Z Z (zb ?_))))))))
 have q:=nB cw
 obtain rfl:=q
 exact zF ⟨rfl,_,rfl,⟨ao,bc,bh,am,rfl,aq,rfl,(aR.trans aI),(bZ.pick [1,2] _ (by decide) rfl)⟩⟩
 have bx:=a7;rw [if_neg ak] at bx;replace ak:=zM ak
 refine cF Z ak (ZS (zf ?_))
 have q:=wAV bx
 obtain ⟨cG,cy,bL⟩:=q
 have q:=cg cG bL
 obtain rfl:=q
 refine zf (ZN (zl (zF (rR fL3 Z (oM Z bo (oR Z (za Z Z Z) (oA Z Z (zb ?_))))))))
 have q:=nB cy
 obtain rfl:=q
 exact zF ⟨Z,_,Z,⟨aW,an,ap,aZ,bn,Z,(bC.trans aR),a5⟩⟩
 have bz:=a6;rw [if_neg aj] at bz;replace aj:=zM aj
 refine cF Z aj (ZS (zf ?_))
 have q:=wAV bz
 obtain ⟨cH,cz,bM⟩:=q
 have q:=cf cH bM
 obtain rfl:=q
 refine zf (ZN (zF (sR fL3 Z (oM Z bk (oA Z Z (oA Z Z (eN (zR ?_))))))))
 cases cz
 exact ⟨rfl,_,(wDk rfl rfl),aV,_,(a0.pick [1] _ (by decide) rfl),aJ,aK,rfl,rfl⟩
 intro aY cA
 refine cT Z aY (sR fL3 Z (oM Z Z (oA Z Z (oA Z Z (eN (zR (zT ?_)))))))
 have b5:=br.nilrow 44 2
 cases cA
 exact ⟨rfl,_,(wDk rfl rfl),U8,_,(b5.pick [0] _ (by decide) rfl),none,0,rfl,rfl⟩
theorem wBl (O:wAK) (ac:Option Addr) (ag:Nat) (aa:Option Addr) (ab:Nat) (ae:Option Addr) (ah:Nat) (af:Option Addr) (ai:Nat) (p1:Int) (p2:Int) (w:World) (U:PHeap) (hS:St0 w U []) (ap:Sl U 1 ac ag O.Starts.length (hD KL.encI O.Starts)) (aq:Sl U 2 aa ab O.Splits.length (hD wAC O.Splits)) (au:Sl U 3 ae ah O.Clocks.length (hD wAM O.Clocks)) (av:Sl U 4 af ai O.Readings.length (hD wAF O.Readings)) {r:Int} (hm:wAZ O p1 p2=some r):Gv Tryz.prog 68 [.agg #[.slice ac O.Starts.length ag,.slice aa O.Splits.length ab,.slice ae O.Clocks.length ah,.slice af O.Readings.length ai],jV p1,jV p2] w (wCF w [] U (fun U_ L_ v=>v=jV r/\L_=[])):=by
 unfold wAZ at hm
 refine Gv.of Tryz.func68 rfl Tryz.ntmps68 Tryz.results68 rfl (sR gEj rfl (zq (cs:=[.slice ac O.Starts.length ag,.slice aa O.Splits.length ab,.slice ae O.Clocks.length ah,.slice af O.Readings.length ai]) rfl rfl rfl rfl rfl rfl (by rfl) hS ?_))
 intro W1 b2 aj
 refine oA Z Z (eN (sR fL10 Z (oM Z Z (oR Z (zH Z Z zW Z Zf) (oL Z (aj.ldB (j:=0) Z Z Z Zl (v:=.slice aa O.Splits.length ab) Z) (oR Z (zi Z Z ZG) (oR Z (za Z Z Z) (oR Z (Runs.mulw Z Z Z) (oR Z (za Z Z Z) (oM Z Z (oR Z (za Z Z Z) (oA Z Z (eN (zR ?_))))))))))))))
 cases hm
 exact ⟨rfl,_,(ZH rfl),U,_,(aj.pick [] _ (by decide) rfl),rfl,rfl⟩
theorem wDa (O:wAK) (aa:Option Addr) (ab:Nat) (ac:Option Addr) (ag:Nat) (ae:Option Addr) (ah:Nat) (af:Option Addr) (ai:Nat) (p1:Int) (w:World) (U:PHeap) (hS:St0 w U []) (ay:Sl U 1 aa ab O.Starts.length (hD KL.encI O.Starts)) (az:Sl U 2 ac ag O.Splits.length (hD wAC O.Splits)) (aH:Sl U 3 ae ah O.Clocks.length (hD wAM O.Clocks)) (aI:Sl U 4 af ai O.Readings.length (hD wAF O.Readings)) {r:Int} (hm:wAo O p1=some r):Gv Tryz.prog 73 [.agg #[.slice aa O.Starts.length ab,.slice ac O.Splits.length ag,.slice ae O.Clocks.length ah,.slice af O.Readings.length ai],jV p1] w (wCF w [] U (fun U_ L_ v=>v=jV r/\L_=[])):=by
 unfold wAo at hm
 refine Gv.of Tryz.func73 Z Tryz.ntmps73 Tryz.results73 Z (sR gEj Z ?_)
 let B0:List Value:=[.slice aa O.Starts.length ab,.slice ac O.Splits.length ag,.slice ae O.Clocks.length ah,.slice af O.Readings.length ai]
 refine zq (cs:=B0) rfl rfl rfl rfl rfl rfl (by rfl) hS ?_
 intro W1 b2 ak
 refine oA Z Z (eN (sR (wEN (.fx 4 (wLu (.nil)) .stop)) Z (oL Z (ak.ldBA (j:=0) Z Z Z ZX ZO (vs:=B0) Z Z) (oR Z (zH Z Z zW Z zh) (oL Z (ak.ldB (j:=0) Z Z Z zk (v:=.slice aa O.Starts.length ab) Z) (oR Z (zi Z Z zG) (bnK hm fun x5 h6 aJ=>zC 0 Z Z Z Z (zD Z Z Tryz.call68 (zB Z (zB Z (zB Z zL))) Z) ak (fun hs=>wBl O aa ab ac ag ae ah af ai (↑O.Starts.length:Int) 0 W1 U hs ay az aH aI h6) (.inr Z) ?_)))))))
 rintro U8 L9 aM ap aL av ⟨rfl,rfl⟩
 have ax:sW w U U8 [.blk b2 36 B0] ap:=av
 refine oM Z Z (oR Z (za Z Z Z) (oA Z Z (eN (zR ?_))))
 cases aJ
 exact ⟨rfl,_,(ZH rfl),U8,_,(ax.pick [] _ (by decide) rfl),rfl,rfl⟩
theorem wFM (O:wAK) (ac:Option Addr) (ag:Nat) (ae:Option Addr) (ah:Nat) (aa:Option Addr) (ab:Nat) (af:Option Addr) (ai:Nat) (w:World) (U:PHeap) (hS:St0 w U []) (ax:Sl U 1 ac ag O.Starts.length (hD KL.encI O.Starts)) (ay:Sl U 2 ae ah O.Splits.length (hD wAC O.Splits)) (az:Sl U 3 aa ab O.Clocks.length (hD wAM O.Clocks)) (aH:Sl U 4 af ai O.Readings.length (hD wAF O.Readings)) {r:Int} (hm:wBd O=some r):Gv Tryz.prog 120 [.agg #[.slice ac O.Starts.length ag,.slice ae O.Splits.length ah,.slice aa O.Clocks.length ab,.slice af O.Readings.length ai]] w (wCF w [] U (fun U_ L_ v=>v=jV r/\L_=[])):=by
 unfold wBd at hm
 refine Gv.of Tryz.func120 Z Tryz.ntmps120 Tryz.results120 Z (sR gEj Z ?_)
 let B0:List Value:=[.slice ac O.Starts.length ag,.slice ae O.Splits.length ah,.slice aa O.Clocks.length ab,.slice af O.Readings.length ai]
 refine zq (cs:=B0) rfl rfl rfl rfl rfl rfl (by rfl) hS ?_
 intro W1 b2 ak
 refine oA Z Z (eN (sR (wEN gEk) Z (oL Z (ak.ldBA (j:=0) Z Z Z ZX ZO (vs:=B0) Z Z) (oR Z (zH Z Z zW Z yO) (oL Z (ak.ldB (j:=0) Z Z Z yd (v:=.slice aa O.Clocks.length ab) Z) (oR Z (zi Z Z yH) (bnK hm fun x5 h6 aI=>zC 0 Z Z Z Z (zD Z Z Tryz.call73 (zB Z (zB Z zL)) Z) ak (fun hs=>wDa O ac ag ae ah aa ab af ai (↑O.Clocks.length:Int) W1 U hs ax ay az aH h6) (.inr Z) ?_)))))))
 rintro U8 L9 aL ao aK au ⟨rfl,rfl⟩
 have av:sW w U U8 [.blk b2 36 B0] ao:=au
 refine oA Z Z (eN (zR ?_))
 have hE:=nB aI;first | subst r | cases hE
 exact ⟨rfl,_,(ZH rfl),U8,_,(av.pick [] _ (by decide) rfl),rfl,rfl⟩
theorem wBo (p0:wAU) (ag:Option Addr) (ah:Nat) (ac:List Hd) (O:Int) (p2:Int) (p3:Int) (p4:Int) (w:World) (U:PHeap) (hS:St0 w U [.row ag ah 22 1 (hD wFE ac),inn 3 1 KL.encI ac p0.t])  {r:(List (List Int))} (hm:wAQ p0 O p2 p3 p4=some r):Gv Tryz.prog 121 [.agg #[.slice ag p0.t.length ah],jV O,jV p2,jV p3,jV p4] w (wCF w [.row ag ah 22 1 (hD wFE ac),inn 3 1 KL.encI ac p0.t] U (fun U_ L_ v=>v=.tuple #[]/\L_=[.row ag ah 22 1 (hD wFE ac),inn 3 1 KL.encI ac r])):=by
 unfold wAQ at hm
 refine Gv.of Tryz.func121 Z Tryz.ntmps121 Tryz.results121 Z (sR (.fx 0 .nil .stop) Z ?_)
 let B0:List Value:=[.slice ag p0.t.length ah]
 refine zq (cs:=B0) rfl rfl rfl rfl rfl rfl (by rfl) hS ?_
 intro W3 b4 a9
 refine eN (zJ (ZI ZD [3,1,3,3,1,3,3,1,3,3,1,3,3,1,3,3,3,0] (wMv (.fx 17 .nil .stop)) (by kernel_rfl) ?_))
 have ao:=a9.drew
 generalize hw_W8:({ W3 with drawn:=W3.drawn + 1 }:World)=W8 at ao ⊢
 refine oR Z (zH Z Z Tryz.runUnderlying188 Z Tryz.sizeOf49) (oL Z (ao.ldB (j:=0) Z Z Z Tryz.isAgg49 (v:=.slice ag p0.t.length ah) Z) (oM Z Z (bnK hm fun _ h9 bq=>?_)))
 obtain ⟨bA,am⟩:=ao.rowSome (j:=1) rfl (by rw [wAD (f:=wFE) (sz:=1) (fun _=>rfl),(ao.innFit (j:=2) rfl).len];have hz:=wAS h9;omega)
 refine oR Z (ZT Z Z am Z Zd zh (wCH h9) (wCI h9)) ?_
 have aS:=ao.innFit (j:=2) rfl
 have bh:=wBJ (xs:=ac) (k:=O.toNat) (by rw [aS.len];exact (wAS h9))
 have bv:nE (gd ac O.toNat).A (gd ac O.toNat).n (gd ac O.toNat).c=.slice ((gd ac O.toNat).A) ((gd p0.t O.toNat).length) ((gd ac O.toNat).c):=by rw [aS.at_ (k:=O.toNat) (wAS h9)]
 refine zx rfl rfl rfl rfl (yv (ao.ldR (j:=1) rfl am rfl rfl zk (wAW (sz:=1) (fun _=>rfl) _ _ 0 _ bh (by first | omega | rfl | simp) rfl)) bv) rfl ?_
 let B1:Res:=.row ag ah 22 1 (hD wFE ac)
 have aY:SW w [B1,inn 3 1 KL.encI ac p0.t] U U [inn 3 1 KL.encI ac p0.t,.blk b4 188 B0,B1] W8:=ao.pick [2,0,1] _ (by decide) rfl
 have aZ:=aY.innTake (k:=O.toNat) (wAS h9)
 have av:SW w [B1,inn 3 1 KL.encI ac p0.t] U U [.row ((gd ac O.toNat).A) ((gd ac O.toNat).c) 3 1 (hD KL.encI (gd p0.t O.toNat)),wIw 3 1 KL.encI ac p0.t O.toNat,.blk b4 188 B0,B1] W8:=aZ
 refine oM Z Z (oR Z (zH Z Z Tryz.runUnderlying188 Z Tryz.sizeOf49) (oL Z (av.ldB (j:=2) Z Z Z Tryz.isAgg49 (v:=.slice ag p0.t.length ah) Z) (oM Z Z (oR Z (ZT Z Z am Z Zd zh (wCH h9) (wCI h9)) ?_))))
 have q:=av.innHFit (j:=1) rfl
 obtain ⟨aT,aV⟩:=q
 have bi:=wBJ (xs:=ac) (k:=O.toNat) (by rw [aT.len];exact aV)
 have bw:nE (gd ac O.toNat).A (gd ac O.toNat).n (gd ac O.toNat).c=.slice ((gd ac O.toNat).A) ((gd p0.t O.toNat).length) ((gd ac O.toNat).c):=congrArg (fun n_=>nE (gd ac O.toNat).A n_ (gd ac O.toNat).c) ((aT.at_ (k:=O.toNat) aV).trans (Eq.symm rfl))
 refine zx rfl rfl rfl rfl (yv (av.ldR (j:=3) rfl am rfl rfl zk (wAW (sz:=1) (fun _=>rfl) _ _ 0 _ bi (by first | omega | rfl | simp) rfl)) bw) rfl (ZE rfl rfl rfl rfl rfl rfl (bnK bq fun _ ai br=>?_))
 obtain ⟨bB,az⟩:=av.rowSome (j:=0) rfl (by rw [wAD (f:=KL.encI) (sz:=1) (fun _=>rfl) (gd p0.t O.toNat)];have hz:=wAS ai;omega)
 refine oR Z (ZT Z Z az Z zG zE (wCH ai) (wCI ai)) ?_
 have bj:=wBJ (xs:=(gd p0.t O.toNat)) (wAS ai)
 refine zx rfl rfl rfl rfl (av.ldR (j:=0) rfl az rfl rfl zK (wAW (sz:=1) (fun _=>rfl) _ _ 0 _ bj (by first | omega | rfl | simp) rfl)) rfl (ZE rfl rfl rfl rfl rfl rfl (zg rfl rfl rfl rfl (fun _=>Runs.min rfl rfl rfl) (zg rfl rfl rfl rfl (fun _=>ZT rfl rfl az rfl zG zE (wCH ai) (wCI ai)) ?_)))
 have bk:=wBJ (xs:=(gd p0.t O.toNat)) (wAS ai)
 refine yp (j:=0) (vs:=[jV (min (gd (gd p0.t O.toNat) p2.toNat) p3)]) (cs':=hD KL.encI (nD (gd p0.t O.toNat) p2.toNat (min (gd (gd p0.t O.toNat) p2.toNat) p3))) rfl rfl rfl rfl av rfl az rfl rfl rfl zE (by rw [wAD (f:=KL.encI) (sz:=1) (fun _=>rfl)];have hz:=wAS ai;show _ + 1 <= _;first | omega | (simp only [nL];omega) | (simp only [nJ,nH,nI];omega)) rfl (wDX (sz:=1) (fo:=0) (fun _=>rfl) _ _ _ _ bk (by first | omega | (simp only [nL];omega) | (simp only [nJ,nH,nI];omega)) (zA rfl) rfl) rfl ?_
 intro aI a0
 have a5:SW w [B1,inn 3 1 KL.encI ac p0.t] U U [.row ((gd ac O.toNat).A) ((gd ac O.toNat).c) 3 1 (hD KL.encI (nD (gd p0.t O.toNat) p2.toNat (min (gd (gd p0.t O.toNat) p2.toNat) p3))),wIw 3 1 KL.encI ac p0.t O.toNat,.blk b4 188 B0,B1] aI:=a0
 refine eN (ZI ZD [3,1,3,3,1,3,3,1,3,3,1,3,3,1,3,3,3,0] (wMv (.fx 17 .nil .stop)) (by kernel_rfl) ?_)
 have ay:=a5.drew
 generalize hw_W34:({ aI with drawn:=aI.drawn + 1 }:World)=aJ at ay ⊢
 refine oR Z (zH Z Z Tryz.runUnderlying188 Z Tryz.sizeOf49) (oL Z (ay.ldB (j:=2) Z Z Z Tryz.isAgg49 (v:=.slice ag p0.t.length ah) Z) (oM Z Z (bnK br fun _ aL bs=>oR Z (ZT Z Z am Z Zd zh (wCH aL) (wCI aL)) ?_)))
 have bf:=(ay.innHFit (j:=1) rfl).1
 have q:=ay.innHFit (j:=1) rfl
 obtain ⟨bg,aW⟩:=q
 have aW:(nD (gd p0.t O.toNat) p2.toNat (min (gd (gd p0.t O.toNat) p2.toNat) p3)).length=(gd ac O.toNat).n:=nM nK (bg.at_ (k:=O.toNat) aW).symm
 have a6:=ay.innBack nK
 have a7:SW w [B1,inn 3 1 KL.encI ac p0.t] U U [inn 3 1 KL.encI ac (nD p0.t O.toNat (nD (gd p0.t O.toNat) p2.toNat (min (gd (gd p0.t O.toNat) p2.toNat) p3))),.blk b4 188 B0,B1] aJ:=a6
 let B2:Res:=.blk b4 188 [.slice ag ((nD p0.t O.toNat (nD (gd p0.t O.toNat) p2.toNat (min (gd (gd p0.t O.toNat) p2.toNat) p3))).length) ah]
 have aM:SW w [B1,inn 3 1 KL.encI ac p0.t] U U [inn 3 1 KL.encI ac (nD p0.t O.toNat (nD (gd p0.t O.toNat) p2.toNat (min (gd (gd p0.t O.toNat) p2.toNat) p3))),B2,B1] aJ:=by simpa only [B0,B1,B2,nK] using a7
 have aN:=aM.innFit (j:=0) rfl
 have aO:p2.toNat < (nD p0.t O.toNat (nD (gd p0.t O.toNat) p2.toNat (min (gd (gd p0.t O.toNat) p2.toNat) p3))).length:=nO (wAS aL) (bf.len.symm.trans aN.len)
 have bm:=wBJ (xs:=ac) (k:=p2.toNat) (by rw [aN.len];exact aO)
 have bx:nE (gd ac p2.toNat).A (gd ac p2.toNat).n (gd ac p2.toNat).c=.slice ((gd ac p2.toNat).A) ((gd (nD p0.t O.toNat (nD (gd p0.t O.toNat) p2.toNat (min (gd (gd p0.t O.toNat) p2.toNat) p3))) p2.toNat).length) ((gd ac p2.toNat).c):=by rw [aN.at_ (k:=p2.toNat) aO]
 refine zx rfl rfl rfl rfl (yv (aM.ldR (j:=2) rfl am rfl rfl zk (wAW (sz:=1) (fun _=>rfl) _ _ 0 _ bm (by first | omega | rfl | simp) rfl)) bx) rfl ?_
 have a8:=aM.innTake (k:=p2.toNat) aO
 have ax:SW w [B1,inn 3 1 KL.encI ac p0.t] U U [.row ((gd ac p2.toNat).A) ((gd ac p2.toNat).c) 3 1 (hD KL.encI (gd (nD p0.t O.toNat (nD (gd p0.t O.toNat) p2.toNat (min (gd (gd p0.t O.toNat) p2.toNat) p3))) p2.toNat)),wIw 3 1 KL.encI ac (nD p0.t O.toNat (nD (gd p0.t O.toNat) p2.toNat (min (gd (gd p0.t O.toNat) p2.toNat) p3))) p2.toNat,B2,B1] aJ:=a8
 refine oM Z Z (oR Z (zH Z Z Tryz.runUnderlying188 Z Tryz.sizeOf49) (oL Z (ax.ldB (j:=2) Z Z Z Tryz.isAgg49 (v:=.slice ag ((nD p0.t O.toNat (nD (gd p0.t O.toNat) p2.toNat (min (gd (gd p0.t O.toNat) p2.toNat) p3))).length) ah) Z) (oM Z Z (bnK bs fun _ aR bt=>oR Z (ZT Z Z am Z Zd zh (wCH aR) (wCI aR)) ?_))))
 have q:=ax.innHFit (j:=1) rfl
 obtain ⟨aU,aX⟩:=q
 have bn:=wBJ (xs:=ac) (k:=p2.toNat) (by rw [aU.len];exact aX)
 have bz:nE (gd ac p2.toNat).A (gd ac p2.toNat).n (gd ac p2.toNat).c=.slice ((gd ac p2.toNat).A) ((gd (nD p0.t O.toNat (nD (gd p0.t O.toNat) p2.toNat (min (gd (gd p0.t O.toNat) p2.toNat) p3))) p2.toNat).length) ((gd ac p2.toNat).c):=congrArg (fun n_=>nE (gd ac p2.toNat).A n_ (gd ac p2.toNat).c) ((aU.at_ (k:=p2.toNat) aX).trans (Eq.symm rfl))
 refine zx rfl rfl rfl rfl (yv (ax.ldR (j:=3) rfl am rfl rfl zk (wAW (sz:=1) (fun _=>rfl) _ _ 0 _ bn (by first | omega | rfl | simp) rfl)) bz) rfl (ZE rfl rfl rfl rfl rfl rfl (bnK bt fun _ aj bu=>?_))
 obtain ⟨bC,aH⟩:=ax.rowSome (j:=0) rfl (by rw [wAD (f:=KL.encI) (sz:=1) (fun _=>rfl) (gd (nD p0.t O.toNat (nD (gd p0.t O.toNat) p2.toNat (min (gd (gd p0.t O.toNat) p2.toNat) p3))) p2.toNat)];have hz:=wAS aj;omega)
 refine oR Z (ZT Z Z aH Z zG zE (wCH aj) (wCI aj)) ?_
 have bo:=wBJ (xs:=(gd (nD p0.t O.toNat (nD (gd p0.t O.toNat) p2.toNat (min (gd (gd p0.t O.toNat) p2.toNat) p3))) p2.toNat)) (wAS aj)
 refine zx rfl rfl rfl rfl (ax.ldR (j:=0) rfl aH rfl rfl zK (wAW (sz:=1) (fun _=>rfl) _ _ 0 _ bo (by first | omega | rfl | simp) rfl)) rfl (ZE rfl rfl rfl rfl rfl rfl (zg rfl rfl rfl rfl (fun _=>Runs.min rfl rfl rfl) (zg rfl rfl rfl rfl (fun _=>ZT rfl rfl aH rfl zG zE (wCH aj) (wCI aj)) ?_)))
 have bp:=wBJ (xs:=(gd (nD p0.t O.toNat (nD (gd p0.t O.toNat) p2.toNat (min (gd (gd p0.t O.toNat) p2.toNat) p3))) p2.toNat)) (wAS aj)
 refine yp (j:=0) (vs:=[jV (min (gd (gd (nD p0.t O.toNat (nD (gd p0.t O.toNat) p2.toNat (min (gd (gd p0.t O.toNat) p2.toNat) p3))) p2.toNat) O.toNat) p4)]) (cs':=hD KL.encI (nD (gd (nD p0.t O.toNat (nD (gd p0.t O.toNat) p2.toNat (min (gd (gd p0.t O.toNat) p2.toNat) p3))) p2.toNat) O.toNat (min (gd (gd (nD p0.t O.toNat (nD (gd p0.t O.toNat) p2.toNat (min (gd (gd p0.t O.toNat) p2.toNat) p3))) p2.toNat) O.toNat) p4))) rfl rfl rfl rfl ax rfl aH rfl rfl rfl zE (by rw [wAD (f:=KL.encI) (sz:=1) (fun _=>rfl)];have hz:=wAS aj;show _ + 1 <= _;first | omega | (simp only [nL];omega) | (simp only [nJ,nH,nI];omega)) rfl (wDX (sz:=1) (fo:=0) (fun _=>rfl) _ _ _ _ bp (by first | omega | (simp only [nL];omega) | (simp only [nJ,nH,nI];omega)) (zA rfl) rfl) rfl ?_
 intro aK ba
 have bb:SW w [B1,inn 3 1 KL.encI ac p0.t] U U [.row ((gd ac p2.toNat).A) ((gd ac p2.toNat).c) 3 1 (hD KL.encI (nD (gd (nD p0.t O.toNat (nD (gd p0.t O.toNat) p2.toNat (min (gd (gd p0.t O.toNat) p2.toNat) p3))) p2.toNat) O.toNat (min (gd (gd (nD p0.t O.toNat (nD (gd p0.t O.toNat) p2.toNat (min (gd (gd p0.t O.toNat) p2.toNat) p3))) p2.toNat) O.toNat) p4))),wIw 3 1 KL.encI ac (nD p0.t O.toNat (nD (gd p0.t O.toNat) p2.toNat (min (gd (gd p0.t O.toNat) p2.toNat) p3))) p2.toNat,B2,B1] aK:=ba
 refine zb ?_
 have bc:=bb.innBack nK
 have bd:SW w [B1,inn 3 1 KL.encI ac p0.t] U U [inn 3 1 KL.encI ac (nD (nD p0.t O.toNat (nD (gd p0.t O.toNat) p2.toNat (min (gd (gd p0.t O.toNat) p2.toNat) p3))) p2.toNat (nD (gd (nD p0.t O.toNat (nD (gd p0.t O.toNat) p2.toNat (min (gd (gd p0.t O.toNat) p2.toNat) p3))) p2.toNat) O.toNat (min (gd (gd (nD p0.t O.toNat (nD (gd p0.t O.toNat) p2.toNat (min (gd (gd p0.t O.toNat) p2.toNat) p3))) p2.toNat) O.toNat) p4))),B2,B1] aK:=bc
 have be:SW w [B1,inn 3 1 KL.encI ac p0.t] U U [inn 3 1 KL.encI ac (nD (nD p0.t O.toNat (nD (gd p0.t O.toNat) p2.toNat (min (gd (gd p0.t O.toNat) p2.toNat) p3))) p2.toNat (nD (gd (nD p0.t O.toNat (nD (gd p0.t O.toNat) p2.toNat (min (gd (gd p0.t O.toNat) p2.toNat) p3))) p2.toNat) O.toNat (min (gd (gd (nD p0.t O.toNat (nD (gd p0.t O.toNat) p2.toNat (min (gd (gd p0.t O.toNat) p2.toNat) p3))) p2.toNat) O.toNat) p4))),.blk b4 188 [.slice ag ((nD (nD p0.t O.toNat (nD (gd p0.t O.toNat) p2.toNat (min (gd (gd p0.t O.toNat) p2.toNat) p3))) p2.toNat (nD (gd (nD p0.t O.toNat (nD (gd p0.t O.toNat) p2.toNat (min (gd (gd p0.t O.toNat) p2.toNat) p3))) p2.toNat) O.toNat (min (gd (gd (nD p0.t O.toNat (nD (gd p0.t O.toNat) p2.toNat (min (gd (gd p0.t O.toNat) p2.toNat) p3))) p2.toNat) O.toNat) p4))).length) ah],B1] aK:=by simpa only [B1,B2,nK] using bd
 cases bu
 exact ⟨rfl,_,(wNw),U,_,(be.pick [2,0] _ (by decide) rfl),rfl,rfl⟩
theorem wEP (p0:wAK) (aO:Option Addr) (aQ:Nat) (aP:Option Addr) (aR:Nat) (aL:Option Addr) (aM:Nat) (aX:Option Addr) (aY:Nat) (w:World) (U:PHeap) (hS:St0 w U []) (cJ:Sl U 1 aO aQ p0.Starts.length (hD KL.encI p0.Starts)) (cK:Sl U 2 aP aR p0.Splits.length (hD wAC p0.Splits)) (cL:Sl U 3 aL aM p0.Clocks.length (hD wAM p0.Clocks)) (cM:Sl U 4 aX aY p0.Readings.length (hD wAF p0.Readings)) {r:(List (List Int))} (hm:wBO p0=some r):Gv Tryz.prog 67 [.agg #[.slice aO p0.Starts.length aQ,.slice aP p0.Splits.length aR,.slice aL p0.Clocks.length aM,.slice aX p0.Readings.length aY]] w (wCF w [] U (fun U_ L_ v=>∃ (A0:Option Addr) (c0:Nat) (g8:List Hd),v=.slice A0 r.length c0/\L_=[.row A0 c0 22 1 (hD wFE g8),inn 3 1 KL.encI g8 r])):=by
 unfold wBO at hm
 refine Gv.of Tryz.func67 Z Tryz.ntmps67 Tryz.results67 Z (sR gEj Z ?_)
 let B0:List Value:=[.slice aO p0.Starts.length aQ,.slice aP p0.Splits.length aR,.slice aL p0.Clocks.length aM,.slice aX p0.Readings.length aY]
 refine zq (cs:=B0) rfl rfl rfl rfl rfl rfl (by rfl) hS ?_
 intro W1 b2 ga
 refine oA Z Z (eN (sR gEt Z (oL Z (ga.ldBA (j:=0) Z Z Z ZX ZO (vs:=B0) Z Z) (bnK hm fun x5 h6 pN=>zC 0 Z Z Z Z (zD Z Z Tryz.call120 (zB Z zL) Z) ga (fun hs=>wFM p0 aO aQ aP aR aL aM aX aY W1 U hs cJ cK cL cM h6) (.inr Z) ?_))))
 rintro U8 L9 rQ eM aV lV ⟨rfl,rfl⟩
 have l0:sW w U U8 [.blk b2 36 B0] eM:=lV
 refine oA Z Z (eN (sR fL1 Z (oA Z Z (eN (zJ (sR fL1 Z (oA Z Z (eN (zX (bnK pN fun ew oh pn=>?_))))))))))
 have q:=wBn oh
 obtain ⟨d7,oi⟩:=q
 replace d7:=zM d7
 refine CK.forN' (fun bu aT J_ w_=>∃ (U_:PHeap) (bQ:Option Addr) (bX:Nat) (az:List Hd),J_ 5=jV (↑bu:Int)/\J_ 1=.pointer (some ⟨b2,0,none⟩)/\J_ 3=jV x5/\J_ 4=.slice bQ aT.length bX/\PHeap.Le U8 U_/\sW w U U_ [.blk b2 36 B0,.row bQ bX 22 1 (hD wFE az),inn 3 1 KL.encI az aT] w_) oi ?_ ?_ ?_
 have mr:=l0.nilrow 22 1
 have ms:=mr.innNil 3 1 KL.encI
 have mu:sW w U U8 [inn 3 1 KL.encI ([]:List Hd) ([]:List (List Int)),.row none 0 22 1 [],.blk b2 36 B0] eM:=ms
 exact ⟨U8,none,0,[],rfl,rfl,rfl,rfl,(zQ _),(mu.pick [2,1,0] _ (by decide) rfl)⟩
 rintro bu aT sc qG q8 dZ ⟨dm,bQ,bX,az,fO,iI,dA,iL,qk,mG⟩ p8
 have fk:Hid ((↑bu:Int) < x5):=zM (wBQ dZ)
 replace dZ:=zM dZ
 have o3:Hid (w64 ((↑bu:Int) + 1)=(↑(bu + 1):Int)):=zM (by have h1:=d7.out;have h2:=fk.out;rw [wAY] <;> omega)
 refine zJ (sR fL3 Z (oM Z fO (oM Z dA (oR Z (ze Z Z Z) (eN (cT Z fk (kN (zJ (zX (sR gEt Z (oM Z dA (bnK p8 fun aq lB pH=>OKS.makeSlice (enc:=KL.encI) (z:=(0:Int)) (v:=jV 0) Z Z Z Z Z (wBy zG) wHd Z Z Z Z Z Z lB mG ?_))))))))))))
 intro ir av mM
 let B1:Res:=.row bQ bX 22 1 (hD wFE az)
 have mQ:sW w U dm [.row (some ⟨av,0,none⟩) aq.length 3 1 (hD KL.encI aq),.blk b2 36 B0,B1,inn 3 1 KL.encI az aT] ir:=mM
 refine oA Z Z (eN (zJ (sR fL1 Z (oA Z Z (eN (zX (bnK pH fun aH oz pS=>?_)))))))
 have q:=wBn oz
 obtain ⟨eg,oB⟩:=q
 replace eg:=zM eg
 refine CK.forN' (fun a8 ba J_ w_=>∃ (U_:PHeap),J_ 7=jV (↑a8:Int)/\J_ 1=.pointer (some ⟨b2,0,none⟩)/\J_ 3=jV x5/\J_ 4=.slice bQ aT.length bX/\J_ 5=jV (↑bu:Int)/\J_ 6=.slice (some ⟨av,0,none⟩) ba.length aq.length/\PHeap.Le dm U_/\sW w U U_ [.blk b2 36 B0,B1,inn 3 1 KL.encI az aT,.row (some ⟨av,0,none⟩) aq.length 3 1 (hD KL.encI ba)] w_/\ba.length=aq.length) oB ?_ ?_ ?_
 exact ⟨dm,rfl,iI,dA,iL,fO,rfl,(zQ _),(mQ.pick [1,2,3,0] _ (by decide) rfl),rfl⟩
 rintro a8 ba sg qM rh d6 ⟨dp,b5,fM,dE,fN,dF,dG,ic,gk,f6⟩ g9
 have ff:Hid ((↑a8:Int) < x5):=zM (wBQ d6)
 replace d6:=zM d6
 have gI:Hid (w64 ((↑a8:Int) + 1)=(↑(a8 + 1):Int)):=zM (by have h1:=eg.out;have h2:=ff.out;rw [wAY] <;> omega)
 refine zJ (sR fL3 Z (oM Z b5 (oM Z dE (oR Z (ze Z Z Z) (eN (cT Z ff (kN (zJ (zX (sR fL3 Z (oM Z dF (oM Z b5 (oR Z (Zb Z Z Z) (eN ?_))))))))))))))
 by_cases bd:(↑bu:Int)=(↑a8:Int)
 have gK:=g9;rw [if_pos bd] at gK;replace bd:=zM bd
 refine zr (ZL (fun h=>h bd.out)) (Ze (zl (zF (rR fL3 Z (oM Z b5 (oR Z (ZP (za Z Z Z) (congrArg (jV) gI.out)) (oA Z Z (zb ?_))))))))
 cases gK
 exact zF ⟨Z,⟨dp,Z,fM,dE,fN,dF,dG,ic,gk,f6⟩⟩
 have gL:=g9;rw [if_neg bd] at gL;replace bd:=zM bd
 refine cT Z bd (rR (wDd (.fx 3 .nil .stop)) Z (oM Z dG (oM Z b5 (bnK gL fun _ dH o6=>oR Z (ZZ Z Z Z Z zG zE (wAS dH)) ?_))))
 have oC:=wBJ (xs:=ba) (wAS dH)
 refine yp (j:=3) (vs:=[jV 1125899906842624]) (cs':=hD KL.encI (nD ba a8 1125899906842624)) rfl rfl rfl rfl gk rfl rfl rfl rfl rfl zE (by rw [wAD (f:=KL.encI) (sz:=1) (fun _=>rfl)];have hz:=wAS dH;show _ + 1 <= _;first | omega | (simp only [nL];omega) | (simp only [nJ,nH,nI];omega)) rfl (wDX (sz:=1) (fo:=0) (fun _=>rfl) _ _ _ _ oC (by first | omega | (simp only [nL];omega) | (simp only [nJ,nH,nI];omega)) (zA rfl) rfl) rfl ?_
 intro ik lS
 have lT:sW w U dp [.blk b2 36 B0,B1,inn 3 1 KL.encI az aT,.row (some ⟨av,0,none⟩) aq.length 3 1 (hD KL.encI (nD ba a8 1125899906842624))] ik:=lS
 refine zb (zl (zF (rR fL3 Z (oM Z b5 (oR Z (ZP (za Z Z Z) (congrArg (jV) gI.out)) (oA Z Z (zb ?_)))))))
 cases o6
 exact zF ⟨rfl,⟨dp,rfl,fM,dE,fN,dF,(nM (b:=(.slice (some ⟨av,0,none⟩) ba.length aq.length:Value)) (c:=(.slice (some ⟨av,0,none⟩) ((nD ba a8 1125899906842624).length) aq.length:Value)) dG (by simp only [nK])),ic,lT,(nK.trans f6)⟩⟩
 rintro qA qZ ⟨bc,jh,iC,fq,iD,iE,iF,qc,lU,rA⟩
 have it:Hid (¬ ((↑((x5:Int) - 0).toNat:Int) < x5)):=zM (wAq)
 refine zJ (sR fL3 Z (oM Z jh (oM Z fq (oR Z (ze Z Z Z) (eN (cF Z it (ZS (zf (zf (ZN (zF (rR gFe Z (oM Z iD (oM Z iF ?_))))))))))))))
 let B2:List Value:=[.slice (some ⟨av,0,none⟩) aH.length aq.length]
 refine ZC (pv:=[(0,.slice (some ⟨av,0,none⟩) aH.length aq.length)]) (zs:=[.slice none 0 0]) (cs:=B2) Z Z Z Z Z (wAG Z wAP) Zd zh Tryz.zeroValue22 Z Z Z Z Z lU ?_
 intro dq fc lW
 let B3:Res:=.row (some ⟨av,0,none⟩) aq.length 3 1 (hD KL.encI aH)
 let B4:Res:=.row (some ⟨fc,0,none⟩) 1 22 1 B2
 have lX:sW w U bc [B4,.blk b2 36 B0,B1,inn 3 1 KL.encI az aT,B3] dq:=lW
 have lY:sW w U bc [B3,B4,.blk b2 36 B0,B1,inn 3 1 KL.encI az aT] dq:=lX.pick [4,0,1,2,3] _ (by decide) rfl
 have lZ:=lY.innOne
 let B5:Res:=.row (some ⟨fc,0,none⟩) 1 22 1 (hD wFE [(⟨(some ⟨av,0,none⟩),aH.length,aq.length⟩:Hd)])
 have cE:sW w U bc [inn 3 1 KL.encI [(⟨(some ⟨av,0,none⟩),aH.length,aq.length⟩:Hd)] [aH],B5,.blk b2 36 B0,B1,inn 3 1 KL.encI az aT] dq:=lZ
 refine bnK pS fun ep jm o7=>?_
 have dX:=cE.innFit (j:=4) rfl
 have dY:=cE.innFit (j:=0) rfl
 have q:=wOL jm dX dY
 obtain ⟨oa,ib⟩:=q
 refine yG (j:=3) (enc:=wFE) (xs:=az) (ys:=[(⟨(some ⟨av,0,none⟩),aH.length,aq.length⟩:Hd)]) rfl rfl rfl rfl rfl Tryz.underlying49 wMk rfl rfl rfl rfl rfl rfl cE rfl (slen rfl dX) (slen rfl dY) (cE.srcR (j:=1) rfl (by decide) (wAD (f:=wFE) (sz:=1) (fun _=>rfl) [(⟨(some ⟨av,0,none⟩),aH.length,aq.length⟩:Hd)])) (fun _=>rfl) (fun _=>rfl) oa rfl ?_
 intro eA fg cw l3
 have o5:(az ++ [(⟨(some ⟨av,0,none⟩),aH.length,aq.length⟩:Hd)]:List Hd).length=ep.length:=by rw [ib,nP,nP,dX.len,dY.len]
 rw [o5]
 let B6:Res:=.row eA fg 22 1 (hD wFE (az ++ [(⟨(some ⟨av,0,none⟩),aH.length,aq.length⟩:Hd)]:List Hd))
 have l4:sW w U bc [inn 3 1 KL.encI [(⟨(some ⟨av,0,none⟩),aH.length,aq.length⟩:Hd)] [aH],B5,.blk b2 36 B0,B6,inn 3 1 KL.encI az aT] cw:=l3
 have l5:sW w U bc [inn 3 1 KL.encI az aT,inn 3 1 KL.encI [(⟨(some ⟨av,0,none⟩),aH.length,aq.length⟩:Hd)] [aH],B5,.blk b2 36 B0,B6] cw:=l4.pick [4,0,1,2,3] _ (by decide) rfl
 have f7:=l5.innApp
 rw [<- ib] at f7
 have l6:sW w U bc [inn 3 1 KL.encI (az ++ [(⟨(some ⟨av,0,none⟩),aH.length,aq.length⟩:Hd)]:List Hd) ep,B5,.blk b2 36 B0,B6] cw:=f7
 have l7:=l6.drop 1
 have l8:sW w U bc [inn 3 1 KL.encI (az ++ [(⟨(some ⟨av,0,none⟩),aH.length,aq.length⟩:Hd)]:List Hd) ep,.blk b2 36 B0,B6] cw:=l7
 refine oA Z Z (zb (zl (zF (rR fL3 Z (oM Z iE (oR Z (ZP (za Z Z Z) (congrArg (jV) o3.out)) (oA Z Z (zb ?_))))))))
 cases o7
 exact zF ⟨rfl,⟨bc,eA,fg,(az ++ [(⟨(some ⟨av,0,none⟩),aH.length,aq.length⟩:Hd)]:List Hd),rfl,iC,fq,rfl,(qk.trans qc),(l8.pick [1,2,0] _ (by decide) rfl)⟩⟩
 rintro qB q0 ⟨de,ah,ai,O,ji,iG,ft,fu,aW,ma⟩
 have iu:Hid (¬ ((↑((x5:Int) - 0).toNat:Int) < x5)):=zM (wAq)
 refine zJ (sR fL3 Z (oM Z ji (oM Z ft (oR Z (ze Z Z Z) (eN (cF Z iu (ZS (zf (zf (ZN (zF (sR (.fl 0 (.fl 1 (.fx 2 (.fx 3 .nil .stop) .stop))) Z (oM Z fu ?_)))))))))))))
 let B7:List Value:=[.slice ah ew.length ai]
 refine oR Z (zu (pv:=[(0,.slice ah ew.length ai)]) (z:=[.slice none 0 0]) (cs:=B7) Z (wAG Z wAP) Tryz.zeroValue188 wLR Z Z) (zU (cs:=[.slice none 0 0]) Z Z Z Z Z Tryz.zeroValue188 Z ma ?_)
 intro q5 an mb
 refine zY (j:=0) (vs:=B7) Z Z Z Z mb Z Z Z Z Tryz.sizeOf188 (zA Z) Z Z Z ?_
 intro il mc
 let B8:Res:=.row ah ai 22 1 (hD wFE O)
 have md:sW w U de [.blk an 188 B7,.blk b2 36 B0,B8,inn 3 1 KL.encI O ew] il:=mc
 refine eN (zJ (sR fL1 Z (oA Z Z (eN (zX (ye (fun (bm,bv) J_ w_=>∃ (U_:PHeap),J_ 1=.pointer (some ⟨b2,0,none⟩)/\J_ 3=jV x5/\J_ 4=.slice ah bm.length ai/\J_ 8=.pointer (some ⟨an,0,none⟩)/\J_ 9=jV bv/\PHeap.Le de U_/\sW w U U_ [B8,inn 3 1 KL.encI O bm,.blk an 188 [.slice ah bm.length ai],.blk b2 36 B0] w_) pn ?_ ?_))))))
 exact ⟨de,iG,ft,fu,rfl,rfl,(zQ _),(md.pick [2,3,0,1] _ (by decide) rfl)⟩
 rintro ⟨bm,bv⟩ r8 qC eO ⟨df,bz,fw,fy,dw,bY,aN,dN⟩ ej oc
 try dsimp only at ej
 refine zJ (sR fL5 Z (oM Z bY (oR Z (zH Z bz zW Z zh) (oL Z (dN.ldB (j:=3) Z Z Z zk (v:=.slice aO p0.Starts.length aQ) Z) (oR Z (zi Z Z zG) (oR Z (ze Z Z Z) (eN ?_)))))))
 by_cases be:bv < (↑p0.Starts.length:Int)
 have gM:=ej;rw [if_pos be] at gM;replace be:=zM be
 refine cT Z be (kN (zJ (zX (zJ (ZI ZD [1,1,3,2,3,1,3,3,1,3,1,3,3,1,3,0] (wDd (wPC (.fx 3 (.fx 15 .nil .stop) .stop))) (by kernel_rfl) ?_)))))
 have bj:=dN.drew
 generalize hw_W213:({ eO with drawn:=eO.drawn + 1 }:World)=im at bj ⊢
 let B9:List Value:=[.slice ah bm.length ai]
 refine oL Z (bj.ldBA (j:=2) Z Z dw Tryz.isAgg188 Tryz.sizeOf188 (vs:=B9) Z Z) (oL Z (bj.ldBA (j:=3) Z Z bz ZX ZO (vs:=B0) Z Z) (oM Z bY (oR Z (zH Z bz zW Z zh) (oL Z (bj.ldB (j:=3) Z Z Z zk (v:=.slice aO p0.Starts.length aQ) Z) (oM Z bY (bnK gM fun cR bD o8=>?_))))))
 have jo:=cJ.le aV
 have jp:=jo.le aW
 have cC:=jp.le aN
 have q:=cC.el (fun _=>rfl) (wAb bD)
 obtain ⟨ri,rI,lC,lK⟩:=q
 refine oR Z (ZT Z Z lC Z zG zE (wBp bD) (wBx bD)) (oL Z (bj.ldC (f:=0) lK (v:=jV cR) Z Z zK Z) (oR Z (zH Z bz zW Z zh) (oL Z (bj.ldB (j:=3) Z Z Z zk (v:=.slice aO p0.Starts.length aQ) Z) (oM Z bY ?_))))
 have q:=cC.el (fun _=>rfl) (wAb bD)
 obtain ⟨rj,rJ,lD,lL⟩:=q
 refine oR Z (ZT Z Z lD Z zG zE (wBp bD) (wBx bD)) (oL Z (bj.ldC (f:=0) lL (v:=jV cR) Z Z zK Z) (oR Z (Runs.negw Z Z) ?_))
 have jq:=cK.le aV
 have jr:=jq.le aW
 have fS:=jr.le aN
 have jt:=cL.le aV
 have ju:=jt.le aW
 have fT:=ju.le aN
 have jv:=cM.le aV
 have jw:=jv.le aW
 have fU:=jw.le aN
 refine bnK o8 fun qu jx o9=>zC 0 Z Z Z Z (zD Z Z Tryz.call68 (zB Z (zB Z (zB Z zL))) Z) bj (fun hs=>wBl p0 aO aQ aP aR aL aM aX aY bv 0 im df hs cC fS fT fU jx) (.inr Z) ?_
 rintro eE qO rS eP cc me ⟨rfl,rfl⟩
 have f8:sW w U eE [B8,inn 3 1 KL.encI O bm,.blk an 188 B9,.blk b2 36 B0] eP:=me
 refine bnK o9 fun cS jy pd=>?_
 have gm:=f8.innFit (j:=1) rfl
 refine zC 2 Z Z Z Z (zD Z Z Tryz.call121 (zB Z (zB Z (zB Z (zB Z (zB Z zL))))) Z) f8 (fun hs=>wBo (⟨bm⟩:wAU) ah ai O 0 qu cR (w64 (-cR)) eP eE hs jy) (.inl Z) ?_
 rintro cr qP rT eQ cd mf ⟨rfl,rfl⟩
 have f9:sW w U cr [B8,inn 3 1 KL.encI O cS,.blk an 188 B9,.blk b2 36 B0] eQ:=mf
 have gp:=f9.innFit (j:=1) rfl
 have mg:sW w U cr [B8,inn 3 1 KL.encI O cS,.blk an 188 [.slice ah cS.length ai],.blk b2 36 B0] eQ:=by rw [gp.len.symm.trans gm.len];exact f9
 refine eN (sR fL1 Z (oA Z Z (eN (zX (ye (fun (a9,cm) J_ w_=>∃ (U_:PHeap),J_ 1=.pointer (some ⟨b2,0,none⟩)/\J_ 3=jV x5/\J_ 4=.slice ah a9.length ai/\J_ 8=.pointer (some ⟨an,0,none⟩)/\J_ 9=jV bv/\J_ 10=jV cm/\PHeap.Le cr U_/\sW w U U_ [B8,inn 3 1 KL.encI O a9,.blk an 188 [.slice ah a9.length ai],.blk b2 36 B0] w_) pd ?_ ?_)))))
 exact ⟨cr,bz,fw,(nM (b:=(.slice ah bm.length ai:Value)) (c:=(.slice ah cS.length ai:Value)) fy (by rw [gp.len.symm.trans gm.len])),dw,bY,rfl,(zQ _),mg⟩
 rintro ⟨a9,cm⟩ r9 qD eR ⟨eF,bp,fz,fA,dx,cy,bA,bP,dO⟩ ek od
 try dsimp only at ek
 refine zJ (sR fL5 Z (oM Z bA (oR Z (zH Z bp zW Z Zf) (oL Z (dO.ldB (j:=3) Z Z Z Zl (v:=.slice aP p0.Splits.length aR) Z) (oR Z (zi Z Z ZG) (oR Z (ze Z Z Z) (eN ?_)))))))
 by_cases bf:cm < (↑p0.Splits.length:Int)
 have gN:=ek;rw [if_pos bf] at gN;replace bf:=zM bf
 refine cT Z bf (kN (zJ (zX (ZI ZD [1,1,3,3,2,1,3,3,3,2,3,1,3,3,3,1,3,1,3,3,3,1,3,0] (wEN (wIA (wNp (.fx 4 (.fx 9 (.fx 23 .nil .stop) .stop) .stop)))) (by kernel_rfl) ?_))))
 have a6:=dO.drew
 generalize hw_W287:({ eR with drawn:=eR.drawn + 1 }:World)=io at a6 ⊢
 let cn:List Value:=[.slice ah a9.length ai]
 refine oL Z (a6.ldBA (j:=2) Z Z dx Tryz.isAgg188 Tryz.sizeOf188 (vs:=cn) Z Z) (oL Z (a6.ldBA (j:=3) Z Z bp ZX ZO (vs:=B0) Z Z) (oM Z cy (oM Z bA (oL Z (a6.ldBA (j:=3) Z Z bp ZX ZO (vs:=B0) Z Z) (oM Z cy (oM Z bA (oR Z (za Z Z Z) (oR Z (zH Z bp zW Z Zf) (oL Z (a6.ldB (j:=3) Z Z Z Zl (v:=.slice aP p0.Splits.length aR) Z) (oM Z bA (bnK gN fun cU bE pe=>?_)))))))))))
 have jz:=fS.le cc
 have jA:=jz.le cd
 have cD:=jA.le bP
 have q:=cD.el (fun _=>rfl) (wAb bE)
 obtain ⟨rk,rK,lE,lM⟩:=q
 refine oR Z (ZT Z Z lE Z ZG zm (wBp bE) (wBx bE)) (oR Z (zH Z Z ZJ Z zE) (oL Z (a6.ldC (f:=1) lM (v:=jV cU.Hi) Z Z zK Z) (oR Z (zH Z bp zW Z Zf) (oL Z (a6.ldB (j:=3) Z Z Z Zl (v:=.slice aP p0.Splits.length aR) Z) (oM Z bA ?_)))))
 have q:=cD.el (fun _=>rfl) (wAb bE)
 obtain ⟨rn,rL,lF,lN⟩:=q
 refine oR Z (ZT Z Z lF Z ZG zm (wBp bE) (wBx bE)) (oR Z (zH Z Z ZJ Z zE) (oL Z (a6.ldC (f:=0) lN (v:=jV cU.Lo) Z Z zK Z) (oR Z (Runs.negw Z Z) ?_)))
 have jB:=cC.le cc
 have jC:=jB.le cd
 have fV:=jC.le bP
 have jD:=fT.le cc
 have jE:=jD.le cd
 have fW:=jE.le bP
 have jF:=fU.le cc
 have jG:=jF.le cd
 have fY:=jG.le bP
 refine bnK pe fun qv jH pf=>zC 0 Z Z Z Z (zD Z Z Tryz.call68 (zB Z (zB Z (zB Z zL))) Z) a6 (fun hs=>wBl p0 aO aQ aP aR aL aM aX aY bv cm io eF hs fV cD fW fY jH) (.inr Z) ?_
 rintro eG qQ rV eS cf mh ⟨rfl,rfl⟩
 have mi:sW w U eG [B8,inn 3 1 KL.encI O a9,.blk an 188 cn,.blk b2 36 B0] eS:=mh
 have jI:=fV.le cf
 have jJ:=cD.le cf
 have jK:=fW.le cf
 have jL:=fY.le cf
 refine bnK pf fun qw jM pg=>zC 0 Z Z Z Z (zD Z Z Tryz.call68 (zB Z (zB Z (zB Z zL))) Z) mi (fun hs=>wBl p0 aO aQ aP aR aL aM aX aY bv (w64 (cm + 1)) eS eG hs jI jJ jK jL jM) (.inr Z) ?_
 rintro eH qR rW eU qd mj ⟨rfl,rfl⟩
 have gb:sW w U eH [B8,inn 3 1 KL.encI O a9,.blk an 188 cn,.blk b2 36 B0] eU:=mj
 refine bnK pg fun cV jN ph=>?_
 have gq:=gb.innFit (j:=1) rfl
 refine zC 2 Z Z Z Z (zD Z Z Tryz.call121 (zB Z (zB Z (zB Z (zB Z (zB Z zL))))) Z) gb (fun hs=>wBo (⟨a9⟩:wAU) ah ai O qv qw cU.Hi (w64 (-cU.Lo)) eU eH hs jN) (.inl Z) ?_
 rintro dg qS rX eV qe mm ⟨rfl,rfl⟩
 have ge:sW w U dg [B8,inn 3 1 KL.encI O cV,.blk an 188 cn,.blk b2 36 B0] eV:=mm
 have gt:=ge.innFit (j:=1) rfl
 have mn:sW w U dg [B8,inn 3 1 KL.encI O cV,.blk an 188 [.slice ah cV.length ai],.blk b2 36 B0] eV:=by rw [gt.len.symm.trans gq.len];exact ge
 refine zb (zl (zF (rR fL3 Z (oM Z bA (oR Z (za Z Z Z) (oA Z Z (zb ?_)))))))
 have q:=nB ph
 obtain rfl:=q
 exact zF ⟨rfl,_,rfl,⟨dg,bp,fz,(nM (b:=(.slice ah a9.length ai:Value)) (c:=(.slice ah cV.length ai:Value)) fA (by rw [gt.len.symm.trans gq.len])),dx,cy,rfl,(((bP.trans cf).trans qd).trans qe),mn⟩⟩
 have gO:=ek;rw [if_neg bf] at gO;replace bf:=zM bf
 refine cF Z bf (ZS (zf ?_))
 have q:=wAV gO
 obtain ⟨qq,pj,iy⟩:=q
 have q:=od qq iy
 obtain rfl:=q
 refine zf (ZN (zl (zF (rR fL3 Z (oM Z cy (oR Z (za Z Z Z) (oA Z Z (zb ?_))))))))
 have q:=nB pj
 obtain rfl:=q
 exact zF ⟨Z,_,Z,⟨eF,bp,fz,fA,dx,Z,(((aN.trans cc).trans cd).trans bP),dO⟩⟩
 have gP:=ej;rw [if_neg be] at gP;replace be:=zM be
 refine cF Z be (ZS (zf ?_))
 have q:=wAV gP
 obtain ⟨qr,pk,iz⟩:=q
 have q:=oc qr iz
 obtain rfl:=q
 refine zf (ZN (zF (zJ (sR fL1 Z (oA Z Z (eN (zX (ye (fun (bn,cW) J_ w_=>∃ (U_:PHeap),J_ 1=.pointer (some ⟨b2,0,none⟩)/\J_ 3=jV x5/\J_ 4=.slice ah bn.length ai/\J_ 8=.pointer (some ⟨an,0,none⟩)/\J_ 11=jV cW/\PHeap.Le df U_/\sW w U U_ [B8,inn 3 1 KL.encI O bn,.blk an 188 [.slice ah bn.length ai],.blk b2 36 B0] w_) pk ?_ ?_))))))))
 exact ⟨df,bz,fw,fy,dw,Z,(zQ _),dN⟩
 rintro ⟨bn,cW⟩ sa qE eW ⟨dh,bB,fB,fC,dy,bZ,bb,dP⟩ en oe
 try dsimp only at en
 refine zJ (sR fL5 Z (oM Z bZ (oR Z (zH Z bB zW Z yO) (oL Z (dP.ldB (j:=3) Z Z Z yd (v:=.slice aL p0.Clocks.length aM) Z) (oR Z (zi Z Z yH) (oR Z (ze Z Z Z) (eN ?_)))))))
 by_cases bg:cW < (↑p0.Clocks.length:Int)
 have gQ:=en;rw [if_pos bg] at gQ;replace bg:=zM bg
 refine cT Z bg (kN (zJ (zX (ZI ZD [1,1,3,2,3,1,3,3,3,3,1,3,3,1,3,3,3,3,1,0] (wDd (wPD (.fx 3 (.fx 19 .nil .stop) .stop))) (by kernel_rfl) ?_))))
 have bk:=dP.drew
 generalize hw_W386:({ eW with drawn:=eW.drawn + 1 }:World)=ip at bk ⊢
 let c6:List Value:=[.slice ah bn.length ai]
 refine oL Z (bk.ldBA (j:=2) Z Z dy Tryz.isAgg188 Tryz.sizeOf188 (vs:=c6) Z Z) (oL Z (bk.ldBA (j:=3) Z Z bB ZX ZO (vs:=B0) Z Z) (oM Z bZ (oR Z (zH Z bB zW Z yO) (oL Z (bk.ldB (j:=3) Z Z Z yd (v:=.slice aL p0.Clocks.length aM) Z) (oM Z bZ (bnK gQ fun cX bF pm=>?_))))))
 have jO:=cL.le aV
 have jP:=jO.le aW
 have jQ:=jP.le aN
 have dI:=jQ.le bb
 have q:=dI.el (fun _=>rfl) (wAb bF)
 obtain ⟨ro,rM,lG,lO⟩:=q
 refine oR Z (ZT Z Z lG Z yH Tryz.sizeOf116 (wBp bF) (wBx bF)) (oR Z (zH Z Z yq Z zm) (oR Z (zH Z Z ZJ Z zE) (oL Z (bk.ldC (f:=0) lO (v:=jV cX.Offset.Lo) Z Z zK Z) (oR Z (Runs.negw Z Z) (oR Z (zH Z bB zW Z yO) (oL Z (bk.ldB (j:=3) Z Z Z yd (v:=.slice aL p0.Clocks.length aM) Z) (oM Z bZ ?_)))))))
 have q:=dI.el (fun _=>rfl) (wAb bF)
 obtain ⟨rp,rN,lH,lP⟩:=q
 refine oR Z (ZT Z Z lH Z yH Tryz.sizeOf116 (wBp bF) (wBx bF)) (oR Z (zH Z Z yq Z zm) (oR Z (zH Z Z ZJ Z zE) (oL Z (bk.ldC (f:=1) lP (v:=jV cX.Offset.Hi) Z Z zK Z) ?_)))
 have jR:=cJ.le aV
 have jS:=jR.le aW
 have jT:=jS.le aN
 have jU:=jT.le bb
 have jW:=cK.le aV
 have jX:=jW.le aW
 have jY:=jX.le aN
 have jZ:=jY.le bb
 have j0:=cM.le aV
 have j5:=j0.le aW
 have j6:=j5.le aN
 have j7:=j6.le bb
 refine bnK pm fun qx j8 po=>zC 0 Z Z Z Z (zD Z Z Tryz.call73 (zB Z (zB Z zL)) Z) bk (fun hs=>wDa p0 aO aQ aP aR aL aM aX aY cW ip dh hs jU jZ dI j7 j8) (.inr Z) ?_
 rintro eI qT rY eZ qf mo ⟨rfl,rfl⟩
 have gf:sW w U eI [B8,inn 3 1 KL.encI O bn,.blk an 188 c6,.blk b2 36 B0] eZ:=mo
 refine bnK po fun cY j9 pp=>?_
 have gu:=gf.innFit (j:=1) rfl
 refine zC 2 Z Z Z Z (zD Z Z Tryz.call121 (zB Z (zB Z (zB Z (zB Z (zB Z zL))))) Z) gf (fun hs=>wBo (⟨bn⟩:wAU) ah ai O 0 qx (w64 (-cX.Offset.Lo)) cX.Offset.Hi eZ eI hs j9) (.inl Z) ?_
 rintro di qU rZ e6 qh mp ⟨rfl,rfl⟩
 have gg:sW w U di [B8,inn 3 1 KL.encI O cY,.blk an 188 c6,.blk b2 36 B0] e6:=mp
 have gv:=gg.innFit (j:=1) rfl
 have mq:sW w U di [B8,inn 3 1 KL.encI O cY,.blk an 188 [.slice ah cY.length ai],.blk b2 36 B0] e6:=by rw [gv.len.symm.trans gu.len];exact gg
 refine zb (zl (zF (rR fL3 Z (oM Z bZ (oR Z (za Z Z Z) (oA Z Z (zb ?_)))))))
 have q:=nB pp
 obtain rfl:=q
 exact zF ⟨rfl,_,rfl,⟨di,bB,fB,(nM (b:=(.slice ah bn.length ai:Value)) (c:=(.slice ah cY.length ai:Value)) fC (by rw [gv.len.symm.trans gu.len])),dy,rfl,((bb.trans qf).trans qh),mq⟩⟩
 have gR:=en;rw [if_neg bg] at gR;replace bg:=zM bg
 refine cF Z bg (ZS (zf ?_))
 have q:=wAV gR
 obtain ⟨qs,pq,iA⟩:=q
 have q:=oe qs iA
 obtain rfl:=q
 refine zf (ZN (zF (zJ (sR fL1 Z (oA Z Z (eN (zX (ye (fun (aU,er) J_ w_=>∃ (U_:PHeap),J_ 1=.pointer (some ⟨b2,0,none⟩)/\J_ 3=jV x5/\J_ 4=.slice ah aU.length ai/\J_ 8=.pointer (some ⟨an,0,none⟩)/\J_ 12=jV er/\PHeap.Le dh U_/\sW w U U_ [B8,inn 3 1 KL.encI O aU,.blk an 188 [.slice ah aU.length ai],.blk b2 36 B0] w_) pq ?_ ?_))))))))
 exact ⟨dh,bB,fB,fC,dy,Z,(zQ _),dP⟩
 rintro ⟨aU,er⟩ sb qF q6 ⟨ct,bC,fD,fE,fG,dz,cg,cb⟩ eo og
 try dsimp only at eo
 refine zJ (sR fL5 Z (oM Z dz (oR Z (zH Z bC zW Z Zq) (oL Z (cb.ldB (j:=3) Z Z Z Zy (v:=.slice aX p0.Readings.length aY) Z) (oR Z (zi Z Z ZV) (oR Z (ze Z Z Z) (eN ?_)))))))
 by_cases bh:er < (↑p0.Readings.length:Int)
 have gS:=eo;rw [if_pos bh] at gS;replace bh:=zM bh
 refine cT Z bh (kN (zJ (zX (sR (wHD gEm) Z (oR Z (zH Z bC zW Z Zq) (oL Z (cb.ldB (j:=3) Z Z Z Zy (v:=.slice aX p0.Readings.length aY) Z) (oM Z dz (bnK gS fun ay dJ pu=>?_))))))))
 have k5:=cM.le aV
 have k6:=k5.le aW
 have k7:=k6.le aN
 have k8:=k7.le bb
 have dK:=k8.le cg
 have q:=dK.el (fun _=>rfl) (wAb dJ)
 obtain ⟨rq,rO,lI,lQ⟩:=q
 refine oR Z (ZT Z Z lI Z ZV yA (wBp dJ) (wBx dJ)) (oL Z (cb.ldCA (f:=0) lQ Z Z Tryz.isAgg117 yA (us:=[jV ay.Skier,jV ay.Mat,jV ay.Clock,jV ay.Time]) Z Z) (zU (cs:=[jV 0,jV 0,jV 0,jV 0]) Z Z Z Z Z Tryz.zeroValue117 Z cb ?_))
 intro q7 bx mw
 let bo:List Value:=[jV ay.Skier,jV ay.Mat,jV ay.Clock,jV ay.Time]
 refine zY (j:=0) (vs:=bo) Z Z Z Z mw Z Z Z Z yA (zA Z) Z Z Z ?_
 intro dr my
 let bR:Res:=.blk an 188 [.slice ah aU.length ai]
 have cG:sW w U ct [.blk bx 117 bo,B8,inn 3 1 KL.encI O aU,bR,.blk b2 36 B0] dr:=my
 refine eN (sR fL8 Z (oR Z (zH Z bC zW Z yO) (oL Z (cG.ldB (j:=4) Z Z Z yd (v:=.slice aL p0.Clocks.length aM) Z) (oR Z (zH Z Z Zt Z zE) (oL Z (cG.ldB (j:=0) Z Z Z zK (v:=jV ay.Clock) Z) (bnK pu fun eu dL py=>?_))))))
 have k9:=cL.le aV
 have lb:=k9.le aW
 have lf:=lb.le aN
 have lg:=lf.le bb
 have dM:=lg.le cg
 have q:=dM.el (fun _=>rfl) (wAb dL)
 obtain ⟨rv,rP,lJ,lR⟩:=q
 refine zg rfl rfl rfl rfl (fun _=>ZT rfl rfl lJ rfl yH Tryz.sizeOf116 (wBp dL) (wBx dL)) (zg rfl rfl rfl rfl (fun _=>zH rfl rfl yq rfl zE) (zx rfl rfl rfl rfl (cG.ldC (f:=2) lR (v:=jV eu.Error) rfl rfl zK rfl) rfl (yY rfl rfl rfl rfl rfl rfl (eN (ZI ZD [1,1,3,1,2,1,3,1,3,1,2,3,1,3,3,3,3,1,3,0] (wEN (wJz (wNr (.fx 4 (.fx 10 (.fx 19 .nil .stop) .stop) .stop)))) (by kernel_rfl) ?_)))))
 have a0:=cG.drew
 generalize hw_W500:({ dr with drawn:=dr.drawn + 1 }:World)=iq at a0 ⊢
 refine oL Z (a0.ldBA (j:=3) Z Z fG Tryz.isAgg188 Tryz.sizeOf188 (vs:=[.slice ah aU.length ai]) Z Z) (oL Z (a0.ldBA (j:=4) Z Z bC ZX ZO (vs:=B0) Z Z) (oR Z (zH Z Z Zt Z zE) (oL Z (a0.ldB (j:=0) Z Z Z zK (v:=jV ay.Clock) Z) (oL Z (a0.ldBA (j:=4) Z Z bC ZX ZO (vs:=B0) Z Z) (oR Z (zH Z Z Zt Z zE) (oL Z (a0.ldB (j:=0) Z Z Z zK (v:=jV ay.Skier) Z) (oR Z (zH Z Z Zt Z zE) (oL Z (a0.ldB (j:=0) Z Z Z zK (v:=jV ay.Mat) Z) (oR Z (zH Z Z Zt Z zE) (oL Z (a0.ldB (j:=0) Z Z Z zK (v:=jV ay.Time) Z) (oM Z Z (oR Z (za Z Z Z) (oM Z Z (oR Z (zH Z Z Zt Z zE) (oL Z (a0.ldB (j:=0) Z Z Z zK (v:=jV ay.Time) Z) (oR Z (yf Z Z Z) ?_))))))))))))))))
 have lh:=cJ.le aV
 have li:=lh.le aW
 have lj:=li.le aN
 have lk:=lj.le bb
 have fZ:=lk.le cg
 have ll:=cK.le aV
 have lm:=ll.le aW
 have ln:=lm.le aN
 have lp:=ln.le bb
 have f5:=lp.le cg
 refine bnK py fun qy ls pz=>zC 0 Z Z Z Z (zD Z Z Tryz.call73 (zB Z (zB Z zL)) Z) a0 (fun hs=>wDa p0 aO aQ aP aR aL aM aX aY ay.Clock iq ct hs fZ f5 dM dK ls) (.inr Z) ?_
 rintro eJ qV r0 e8 cj mz ⟨rfl,rfl⟩
 have mA:sW w U eJ [.blk bx 117 bo,B8,inn 3 1 KL.encI O aU,bR,.blk b2 36 B0] e8:=mz
 have lu:=fZ.le cj
 have lv:=f5.le cj
 have lw:=dM.le cj
 have lx:=dK.le cj
 refine bnK pz fun qz ly pB=>zC 0 Z Z Z Z (zD Z Z Tryz.call68 (zB Z (zB Z (zB Z zL))) Z) mA (fun hs=>wBl p0 aO aQ aP aR aL aM aX aY ay.Skier ay.Mat e8 eJ hs lu lv lw lx ly) (.inr Z) ?_
 rintro dk qW r6 dt qi mB ⟨rfl,rfl⟩
 have gh:sW w U dk [.blk bx 117 bo,B8,inn 3 1 KL.encI O aU,bR,.blk b2 36 B0] dt:=mB
 refine bnK pB fun cZ lz pC=>?_
 have gw:=gh.innFit (j:=2) rfl
 have mC:sW w U dk [B8,inn 3 1 KL.encI O aU,.blk bx 117 bo,bR,.blk b2 36 B0] dt:=gh.pick [1,2,0,3,4] _ (by decide) rfl
 refine zC 2 Z Z Z Z (zD Z Z Tryz.call121 (zB Z (zB Z (zB Z (zB Z (zB Z zL))))) Z) mC (fun hs=>wBo (⟨aU⟩:wAU) ah ai O qy qz (w64 (ay.Time + eu.Error)) (w64 (eu.Error - ay.Time)) dt dk hs lz) (.inl Z) ?_
 rintro dl qX r7 e9 qj mD ⟨rfl,rfl⟩
 have gi:sW w U dl [B8,inn 3 1 KL.encI O cZ,.blk bx 117 bo,bR,.blk b2 36 B0] e9:=mD
 have gx:=gi.innFit (j:=1) rfl
 have mE:sW w U dl [B8,inn 3 1 KL.encI O cZ,.blk bx 117 bo,.blk an 188 [.slice ah cZ.length ai],.blk b2 36 B0] e9:=by rw [gx.len.symm.trans gw.len];exact gi
 refine zb (zl (zF (rR fL3 Z (oM Z dz (oR Z (za Z Z Z) (oA Z Z (zb ?_)))))))
 have q:=nB pC
 obtain rfl:=q
 exact zF ⟨rfl,_,rfl,⟨dl,bC,fD,(nM (b:=(.slice ah aU.length ai:Value)) (c:=(.slice ah cZ.length ai:Value)) fE (by rw [gx.len.symm.trans gw.len])),fG,rfl,(((cg.trans cj).trans qi).trans qj),(mE.pick [0,1,3,4] _ (by decide) rfl)⟩⟩
 have gT:=eo;rw [if_neg bh] at gT;replace bh:=zM bh
 refine cF Z bh (ZS (zf ?_))
 have q:=wAV gT
 obtain ⟨qt,pD,iB⟩:=q
 have q:=og qt iB
 obtain rfl:=q
 refine zf (ZN (zF (zJ (sR fL1 Z (oA Z Z (eN (zX (bnK pD fun sh oj pE=>?_))))))))
 have q:=wBn oj
 obtain ⟨d8,ol⟩:=q
 replace d8:=zM d8
 refine CK.forN' (fun ac cO J_ w_=>∃ (U_:PHeap),J_ 15=jV (↑ac:Int)/\J_ 3=jV x5/\J_ 4=.slice ah cO.length ai/\PHeap.Le ct U_/\sW w U U_ [B8,inn 3 1 KL.encI O cO,.blk an 188 [.slice ah cO.length ai],.blk b2 36 B0] w_) ol ?_ ?_ ?_
 exact ⟨ct,Z,fD,fE,(zQ _),cb⟩
 rintro ac cO sd qH q9 d3 ⟨eK,fP,fH,iH,qm,mF⟩ p9
 have fh:Hid ((↑ac:Int) < x5):=zM (wBQ d3)
 replace d3:=zM d3
 have oZ:Hid (w64 ((↑ac:Int) + 1)=(↑(ac + 1):Int)):=zM (by have h1:=d8.out;have h2:=fh.out;rw [wAY] <;> omega)
 refine zJ (sR fL3 Z (oM Z fP (oM Z fH (oR Z (ze Z Z Z) (eN (cT Z fh (kN (zJ (zX (sR fL1 Z (oA Z Z (eN (zX (bnK p9 fun sj om pF=>?_))))))))))))))
 have q:=wBn om
 obtain ⟨d9,oo⟩:=q
 replace d9:=zM d9
 refine CK.forN' (fun aa cP J_ w_=>∃ (U_:PHeap),J_ 16=jV (↑aa:Int)/\J_ 3=jV x5/\J_ 4=.slice ah cP.length ai/\J_ 15=jV (↑ac:Int)/\PHeap.Le eK U_/\sW w U U_ [B8,inn 3 1 KL.encI O cP,.blk an 188 [.slice ah cP.length ai],.blk b2 36 B0] w_) oo ?_ ?_ ?_
 exact ⟨eK,Z,fH,iH,fP,(zQ _),mF⟩
 rintro aa cP se qI rc d4 ⟨eL,fQ,fI,iJ,iK,qn,mH⟩ qa
 have fj:Hid ((↑aa:Int) < x5):=zM (wBQ d4)
 replace d4:=zM d4
 have o0:Hid (w64 ((↑aa:Int) + 1)=(↑(aa + 1):Int)):=zM (by have h1:=d9.out;have h2:=fj.out;rw [wAY] <;> omega)
 refine zJ (sR fL3 Z (oM Z fQ (oM Z fI (oR Z (ze Z Z Z) (eN (cT Z fj (kN (zJ (zX (sR fL1 Z (oA Z Z (eN (zX (bnK qa fun sk oq pG=>?_))))))))))))))
 have q:=wBn oq
 obtain ⟨ef,ot⟩:=q
 replace ef:=zM ef
 refine CK.forN' (fun ap ab J_ w_=>∃ (U_:PHeap),J_ 17=jV (↑ap:Int)/\J_ 3=jV x5/\J_ 4=.slice ah ab.length ai/\J_ 15=jV (↑ac:Int)/\J_ 16=jV (↑aa:Int)/\PHeap.Le eL U_/\sW w U U_ [B8,inn 3 1 KL.encI O ab,.blk an 188 [.slice ah ab.length ai],.blk b2 36 B0] w_) ot ?_ ?_ ?_
 exact ⟨eL,Z,fI,iJ,iK,fQ,(zQ _),mH⟩
 rintro ap ab sf qJ fb d5 ⟨ao,fR,fJ,iM,iN,iO,cQ,mI⟩ qb
 have fm:Hid ((↑ap:Int) < x5):=zM (wBQ d5)
 replace d5:=zM d5
 have cN:Hid (w64 ((↑ap:Int) + 1)=(↑(ap + 1):Int)):=zM (by have h1:=ef.out;have h2:=fm.out;rw [wAY] <;> omega)
 refine zJ (sR fL3 Z (oM Z fR (oM Z fJ (oR Z (ze Z Z Z) (eN (cT Z fm (kN (zJ (zX (zJ (yt fun bS bH=>?_)))))))))))
 have cz:bS 3=jV x5:=(bH 3).trans fJ
 have a5:bS 4=.slice ah ab.length ai:=(bH 4).trans iM
 have bi:bS 15=jV (↑ac:Int):=(bH 15).trans iN
 have bq:bS 16=jV (↑aa:Int):=(bH 16).trans iO
 have br:bS 17=jV (↑ap:Int):=(bH 17).trans fR
 clear bH
 refine ZI ZD [3,3,3,1,3,3,1,3,3,3,3,3,1,3,3,1,3,3,3,3,3,3,1,3,3,1,3,3,3,1,3,3,1,3,3,3,3,1,3,3,1,3,3] fL43 (by kernel_rfl) ?_
 have bM:=mI.drew
 generalize hw_W662:({ fb with drawn:=fb.drawn + 1 }:World)=aK at bM ⊢
 refine oM Z a5 (oM Z bq (bnK qb fun _ aI pI=>?_))
 obtain ⟨rx,aJ⟩:=bM.rowSome (j:=0) rfl (by rw [wAD (f:=wFE) (sz:=1) (fun _=>rfl),(bM.innFit (j:=1) rfl).len];have hz:=wAS aI;omega)
 refine oR Z (ZZ Z Z aJ Z Zd zh (wAS aI)) ?_
 have gy:=bM.innFit (j:=1) rfl
 have oD:=wBJ (xs:=O) (k:=aa) (by rw [gy.len];exact (wAS aI))
 have pV:nE (gd O aa).A (gd O aa).n (gd O aa).c=.slice ((gd O aa).A) ((gd ab aa).length) ((gd O aa).c):=by rw [gy.at_ (k:=aa) (wAS aI)]
 refine zx rfl rfl rfl rfl (yv (bM.ldR (j:=0) rfl aJ rfl rfl zk (wAW (sz:=1) (fun _=>rfl) _ _ 0 _ oD (by first | omega | rfl | simp) rfl)) pV) rfl ?_
 let au:Res:=.blk an 188 [.slice ah ab.length ai]
 have mJ:sW w U ao [inn 3 1 KL.encI O ab,B8,au,.blk b2 36 B0] aK:=bM.pick [1,0,2,3] _ (by decide) rfl
 have mK:=mJ.innTake (k:=aa) (wAS aI)
 let co:Res:=.row ((gd O aa).A) ((gd O aa).c) 3 1 (hD KL.encI (gd ab aa))
 have bN:sW w U ao [co,wIw 3 1 KL.encI O ab aa,B8,au,.blk b2 36 B0] aK:=mK
 refine oM Z bi (bnK pI fun _ bs pJ=>?_)
 obtain ⟨ry,aZ⟩:=bN.rowSome (j:=0) rfl (by rw [wAD (f:=KL.encI) (sz:=1) (fun _=>rfl) (gd ab aa)];have hz:=wAS bs;omega)
 refine oR Z (ZZ Z Z aZ Z zG zE (wAS bs)) ?_
 have oE:=wBJ (xs:=(gd ab aa)) (wAS bs)
 refine zx rfl rfl rfl rfl (bN.ldR (j:=0) rfl aZ rfl rfl zK (wAW (sz:=1) (fun _=>rfl) _ _ 0 _ oE (by first | omega | rfl | simp) rfl)) rfl (zg rfl rfl rfl rfl (fun _=>ze rfl rfl rfl) (ZE rfl rfl rfl rfl rfl rfl (ifc pJ ?_ ?_)))
 intro ax pK
 refine ZE Z Z Z (wT Z ax) Z a5 (ZE Z Z Z (wT Z ax) Z bi (bnK pK fun _ aS pL=>rU Z (wT Z ax) (ZZ Z Z aJ Z Zd zh (wAS aS)) ?_))
 have rC:=(bN.innHFit (j:=1) rfl).1
 have q:=bN.innHFit (j:=1) rfl
 obtain ⟨ou,gU⟩:=q
 have gU:(gd ab aa).length=(gd O aa).n:=nM rfl (ou.at_ (k:=aa) gU).symm
 have mL:=bN.innBack0
 have dQ:sW w U ao [inn 3 1 KL.encI O ab,B8,au,.blk b2 36 B0] aK:=mL
 have gz:=dQ.innFit (j:=0) rfl
 have oG:=wBJ (xs:=O) (k:=ac) (by rw [gz.len];exact (wAS aS))
 have pW:nE (gd O ac).A (gd O ac).n (gd O ac).c=.slice ((gd O ac).A) ((gd ab ac).length) ((gd O ac).c):=by rw [gz.at_ (k:=ac) (wAS aS)]
 refine zx rfl rfl rfl (zN rfl rfl (Zh ax.out)) (yv (dQ.ldR (j:=1) rfl aJ rfl rfl zk (wAW (sz:=1) (fun _=>rfl) _ _ 0 _ oG (by first | omega | rfl | simp) rfl)) pW) rfl ?_
 have mN:=dQ.innTake (k:=ac) (wAS aS)
 let da:Res:=.row ((gd O ac).A) ((gd O ac).c) 3 1 (hD KL.encI (gd ab ac))
 have bO:sW w U ao [da,wIw 3 1 KL.encI O ab ac,B8,au,.blk b2 36 B0] aK:=mN
 refine ZE Z Z Z (wT Z ax) Z br (bnK pL fun _ bt pM=>?_)
 obtain ⟨rz,bG⟩:=bO.rowSome (j:=0) rfl (by rw [wAD (f:=KL.encI) (sz:=1) (fun _=>rfl) (gd ab ac)];have hz:=wAS bt;omega)
 refine rU Z (wT Z ax) (ZZ Z Z bG Z zG zE (wAS bt)) ?_
 have oH:=wBJ (xs:=(gd ab ac)) (wAS bt)
 refine zx rfl rfl rfl (zN rfl rfl (Zh ax.out)) (bO.ldR (j:=0) rfl bG rfl rfl zK (wAW (sz:=1) (fun _=>rfl) _ _ 0 _ oH (by first | omega | rfl | simp) rfl)) rfl (zg rfl rfl rfl (zN rfl rfl (Zh ax.out)) (fun _=>ze rfl rfl rfl) (zg rfl rfl rfl rfl (fun _=>zS rfl (Zh ax.out) rfl) (ZE rfl rfl rfl rfl rfl rfl (ifc pM ?_ ?_))))
 intro ag pO
 refine ZE Z Z Z (wT Z ag) Z a5 (ZE Z Z Z (wT Z ag) Z bq (rU Z (wT Z ag) (ZZ Z Z aJ Z Zd zh (wAS aI)) ?_))
 have rD:=(bO.innHFit (j:=1) rfl).1
 have q:=bO.innHFit (j:=1) rfl
 obtain ⟨ov,gV⟩:=q
 have gV:(gd ab ac).length=(gd O ac).n:=nM rfl (ov.at_ (k:=ac) gV).symm
 have mO:=bO.innBack0
 have dR:sW w U ao [inn 3 1 KL.encI O ab,B8,au,.blk b2 36 B0] aK:=mO
 have gA:=dR.innFit (j:=0) rfl
 have oI:=wBJ (xs:=O) (k:=aa) (by rw [gA.len];exact (wAS aI))
 have pX:nE (gd O aa).A (gd O aa).n (gd O aa).c=.slice ((gd O aa).A) ((gd ab aa).length) ((gd O aa).c):=by rw [gA.at_ (k:=aa) (wAS aI)]
 refine zx rfl rfl rfl (zN rfl rfl (Zh ag.out)) (yv (dR.ldR (j:=1) rfl aJ rfl rfl zk (wAW (sz:=1) (fun _=>rfl) _ _ 0 _ oI (by first | omega | rfl | simp) rfl)) pX) rfl ?_
 have mP:=dR.innTake (k:=aa) (wAS aI)
 have cH:sW w U ao [co,wIw 3 1 KL.encI O ab aa,B8,au,.blk b2 36 B0] aK:=mP
 refine ZE Z Z Z (wT Z ag) Z bi (rU Z (wT Z ag) (ZZ Z Z aZ Z zG zE (wAS bs)) ?_)
 have oJ:=wBJ (xs:=(gd ab aa)) (wAS bs)
 refine zx rfl rfl rfl (zN rfl rfl (Zh ag.out)) (cH.ldR (j:=0) rfl aZ rfl rfl zK (wAW (sz:=1) (fun _=>rfl) _ _ 0 _ oJ (by first | omega | rfl | simp) rfl)) rfl (ZE rfl rfl rfl (zN rfl rfl (Zh ag.out)) rfl a5 (ZE rfl rfl rfl (zN rfl rfl (Zh ag.out)) rfl bi (zg rfl rfl rfl (zN rfl rfl (Zh ag.out)) (fun _=>ZZ rfl rfl aJ rfl Zd zh (wAS aS)) ?_)))
 have rE:=(cH.innHFit (j:=1) rfl).1
 have q:=cH.innHFit (j:=1) rfl
 obtain ⟨ow,gW⟩:=q
 have gW:(gd ab aa).length=(gd O aa).n:=nM rfl (ow.at_ (k:=aa) gW).symm
 have mR:=cH.innBack0
 have dS:sW w U ao [inn 3 1 KL.encI O ab,B8,au,.blk b2 36 B0] aK:=mR
 have gB:=dS.innFit (j:=0) rfl
 have oK:=wBJ (xs:=O) (k:=ac) (by rw [gB.len];exact (wAS aS))
 have pY:nE (gd O ac).A (gd O ac).n (gd O ac).c=.slice ((gd O ac).A) ((gd ab ac).length) ((gd O ac).c):=by rw [gB.at_ (k:=ac) (wAS aS)]
 refine zx rfl rfl rfl (zN rfl rfl (Zh ag.out)) (yv (dS.ldR (j:=1) rfl aJ rfl rfl zk (wAW (sz:=1) (fun _=>rfl) _ _ 0 _ oK (by first | omega | rfl | simp) rfl)) pY) rfl ?_
 have mS:=dS.innTake (k:=ac) (wAS aS)
 have cI:sW w U ao [da,wIw 3 1 KL.encI O ab ac,B8,au,.blk b2 36 B0] aK:=mS
 refine ZE Z Z Z (wT Z ag) Z br (rU Z (wT Z ag) (ZZ Z Z bG Z zG zE (wAS bt)) ?_)
 have oO:=wBJ (xs:=(gd ab ac)) (wAS bt)
 refine zx rfl rfl rfl (zN rfl rfl (Zh ag.out)) (cI.ldR (j:=0) rfl bG rfl rfl zK (wAW (sz:=1) (fun _=>rfl) _ _ 0 _ oO (by first | omega | rfl | simp) rfl)) rfl (zg rfl rfl rfl (zN rfl rfl (Zh ag.out)) (fun _=>za rfl rfl rfl) (ZE rfl rfl rfl (zN rfl rfl (Zh ag.out)) rfl a5 (ZE rfl rfl rfl (zN rfl rfl (Zh ag.out)) rfl bq (zg rfl rfl rfl (zN rfl rfl (Zh ag.out)) (fun _=>ZZ rfl rfl aJ rfl Zd zh (wAS aI)) ?_))))
 have rF:=(cI.innHFit (j:=1) rfl).1
 have q:=cI.innHFit (j:=1) rfl
 obtain ⟨ox,gX⟩:=q
 have gX:(gd ab ac).length=(gd O ac).n:=nM rfl (ox.at_ (k:=ac) gX).symm
 have mT:=cI.innBack0
 have dT:sW w U ao [inn 3 1 KL.encI O ab,B8,au,.blk b2 36 B0] aK:=mT
 have gC:=dT.innFit (j:=0) rfl
 have oP:=wBJ (xs:=O) (k:=aa) (by rw [gC.len];exact (wAS aI))
 have pZ:nE (gd O aa).A (gd O aa).n (gd O aa).c=.slice ((gd O aa).A) ((gd ab aa).length) ((gd O aa).c):=by rw [gC.at_ (k:=aa) (wAS aI)]
 refine zx rfl rfl rfl (zN rfl rfl (Zh ag.out)) (yv (dT.ldR (j:=1) rfl aJ rfl rfl zk (wAW (sz:=1) (fun _=>rfl) _ _ 0 _ oP (by first | omega | rfl | simp) rfl)) pZ) rfl ?_
 have mU:=dT.innTake (k:=aa) (wAS aI)
 have dU:sW w U ao [co,wIw 3 1 KL.encI O ab aa,B8,au,.blk b2 36 B0] aK:=mU
 refine ZE Z Z Z (wT Z ag) Z br (bnK pO fun _ ca pP=>rU Z (wT Z ag) (ZZ Z Z aZ Z zG zE (wAS ca)) ?_)
 have oQ:=wBJ (xs:=(gd ab aa)) (wAS ca)
 refine zx rfl rfl rfl (zN rfl rfl (Zh ag.out)) (dU.ldR (j:=0) rfl aZ rfl rfl zK (wAW (sz:=1) (fun _=>rfl) _ _ 0 _ oQ (by first | omega | rfl | simp) rfl)) rfl (zg rfl rfl rfl (zN rfl rfl (Zh ag.out)) (fun _=>ze rfl rfl rfl) (zg rfl rfl rfl rfl (fun _=>zS rfl (Zh ag.out) rfl) (eN (ifc pP ?_ ?_))))
 intro dv pQ
 refine cT Z dv (yt fun bT bI=>?_)
 have iP:bT 3=jV x5:=(bI 3).trans cz
 have cA:bT 4=.slice ah ab.length ai:=(bI 4).trans a5
 have dB:bT 15=jV (↑ac:Int):=(bI 15).trans bi
 have dC:bT 16=jV (↑aa:Int):=(bI 16).trans bq
 have dD:bT 17=jV (↑ap:Int):=(bI 17).trans br
 clear bI
 refine ZI ZD [3,3,3,1,3,3,3,3,1,3,3,1,3,3,3,1,3,3,1,3,3,3,0] (wMw (.fx 22 .nil .stop)) (by kernel_rfl) ?_
 have a7:=dU.drew
 generalize hw_W749:({ aK with drawn:=aK.drawn + 1 }:World)=cx at a7 ⊢
 refine oM Z cA (oM Z dC (oR Z (ZZ Z Z aJ Z Zd zh (wAS aI)) ?_))
 have q:=a7.innHFit (j:=1) rfl
 obtain ⟨gD,gY⟩:=q
 have oS:=wBJ (xs:=O) (k:=aa) (by rw [gD.len];exact gY)
 have p5:nE (gd O aa).A (gd O aa).n (gd O aa).c=.slice ((gd O aa).A) ((gd ab aa).length) ((gd O aa).c):=congrArg (fun n_=>nE (gd O aa).A n_ (gd O aa).c) ((gD.at_ (k:=aa) gY).trans (Eq.symm rfl))
 refine zx rfl rfl rfl rfl (yv (a7.ldR (j:=2) rfl aJ rfl rfl zk (wAW (sz:=1) (fun _=>rfl) _ _ 0 _ oS (by first | omega | rfl | simp) rfl)) p5) rfl (ZE rfl rfl rfl rfl rfl dD (ZE rfl rfl rfl rfl rfl cA (ZE rfl rfl rfl rfl rfl dC (zg rfl rfl rfl rfl (fun _=>ZZ rfl rfl aJ rfl Zd zh (wAS aI)) ?_))))
 have q:=a7.innHFit (j:=1) rfl
 obtain ⟨gE,gZ⟩:=q
 have oU:=wBJ (xs:=O) (k:=aa) (by rw [gE.len];exact gZ)
 have p6:nE (gd O aa).A (gd O aa).n (gd O aa).c=.slice ((gd O aa).A) ((gd ab aa).length) ((gd O aa).c):=congrArg (fun n_=>nE (gd O aa).A n_ (gd O aa).c) ((gE.at_ (k:=aa) gZ).trans (Eq.symm rfl))
 refine zx rfl rfl rfl rfl (yv (a7.ldR (j:=2) rfl aJ rfl rfl zk (wAW (sz:=1) (fun _=>rfl) _ _ 0 _ oU (by first | omega | rfl | simp) rfl)) p6) rfl (ZE rfl rfl rfl rfl rfl dB (zg rfl rfl rfl rfl (fun _=>ZZ rfl rfl aZ rfl zG zE (wAS bs)) ?_))
 have oV:=wBJ (xs:=(gd ab aa)) (wAS bs)
 refine zx rfl rfl rfl rfl (a7.ldR (j:=0) rfl aZ rfl rfl zK (wAW (sz:=1) (fun _=>rfl) _ _ 0 _ oV (by first | omega | rfl | simp) rfl)) rfl (ZE rfl rfl rfl rfl rfl cA (ZE rfl rfl rfl rfl rfl dB (zg rfl rfl rfl rfl (fun _=>ZZ rfl rfl aJ rfl Zd zh (wAS aS)) ?_)))
 have rG:=(a7.innHFit (j:=1) rfl).1
 have q:=a7.innHFit (j:=1) rfl
 obtain ⟨gF,eh⟩:=q
 have eh:(gd ab aa).length=(gd O aa).n:=nM rfl (gF.at_ (k:=aa) eh).symm
 have mV:=a7.innBack0
 have dV:sW w U ao [inn 3 1 KL.encI O ab,B8,au,.blk b2 36 B0] cx:=mV
 have gG:=dV.innFit (j:=0) rfl
 have oW:=wBJ (xs:=O) (k:=ac) (by rw [gG.len];exact (wAS aS))
 have p7:nE (gd O ac).A (gd O ac).n (gd O ac).c=.slice ((gd O ac).A) ((gd ab ac).length) ((gd O ac).c):=by rw [gG.at_ (k:=ac) (wAS aS)]
 refine zx rfl rfl rfl rfl (yv (dV.ldR (j:=1) rfl aJ rfl rfl zk (wAW (sz:=1) (fun _=>rfl) _ _ 0 _ oW (by first | omega | rfl | simp) rfl)) p7) rfl ?_
 have mW:=dV.innTake (k:=ac) (wAS aS)
 have dW:sW w U ao [da,wIw 3 1 KL.encI O ab ac,B8,au,.blk b2 36 B0] cx:=mW
 refine oM Z dD (oR Z (ZZ Z Z bG Z zG zE (wAS bt)) ?_)
 have oX:=wBJ (xs:=(gd ab ac)) (wAS bt)
 refine zx rfl rfl rfl rfl (dW.ldR (j:=0) rfl bG rfl rfl zK (wAW (sz:=1) (fun _=>rfl) _ _ 0 _ oX (by first | omega | rfl | simp) rfl)) rfl (zg rfl rfl rfl rfl (fun _=>za rfl rfl rfl) (zg rfl rfl rfl rfl (fun _=>Runs.max rfl rfl rfl) ?_))
 have q:=dW.innHFit (j:=1) rfl
 obtain ⟨oy,g7⟩:=q
 have g7:(gd ab ac).length=(gd O ac).n:=nM rfl (oy.at_ (k:=ac) g7).symm
 have mX:=dW.innBack0
 have gj:sW w U ao [inn 3 1 KL.encI O ab,B8,au,.blk b2 36 B0] cx:=mX
 have gH:=gj.innFit (j:=0) rfl
 have gJ:aa < ab.length:=nO (wAS aI) (gF.len.symm.trans gH.len)
 have mY:=gj.innTake (k:=aa) gJ
 have mZ:sW w U ao [co,wIw 3 1 KL.encI O ab aa,B8,au,.blk b2 36 B0] cx:=mY
 refine oR Z (ZZ Z (nM (b:=(.slice ((gd O aa).A) ((gd O aa).n) ((gd O aa).c):Value)) (c:=(.slice ((gd O aa).A) ((gd ab aa).length) ((gd O aa).c):Value)) (nM (b:=(.slice ((gd O aa).A) ((gd ab aa).length) ((gd O aa).c):Value)) (c:=(.slice ((gd O aa).A) ((gd O aa).n) ((gd O aa).c):Value)) Z (congrArg (fun n_=>nE ((gd O aa).A) n_ ((gd O aa).c)) eh)) (congrArg (fun n_=>nE ((gd O aa).A) n_ ((gd O aa).c)) (gH.at_ (k:=aa) gJ))) aZ Z zG zE (wAS ca)) ?_
 have oY:=wBJ (xs:=(gd ab aa)) (wAS ca)
 refine yp (j:=0) (vs:=[jV (max (w64 ((gd (gd ab aa) ac) + (gd (gd ab ac) ap))) (-1125899906842624))]) (cs':=hD KL.encI (nD (gd ab aa) ap (max (w64 ((gd (gd ab aa) ac) + (gd (gd ab ac) ap))) (-1125899906842624)))) rfl rfl rfl rfl mZ rfl aZ rfl rfl rfl zE (by rw [wAD (f:=KL.encI) (sz:=1) (fun _=>rfl)];have hz:=wAS ca;show _ + 1 <= _;first | omega | (simp only [nL];omega) | (simp only [nJ,nH,nI];omega)) rfl (wDX (sz:=1) (fo:=0) (fun _=>rfl) _ _ _ _ oY (by first | omega | (simp only [nL];omega) | (simp only [nJ,nH,nI];omega)) (zA rfl) rfl) rfl ?_
 intro du m3
 have m4:sW w U ao [.row ((gd O aa).A) ((gd O aa).c) 3 1 (hD KL.encI (nD (gd ab aa) ap (max (w64 ((gd (gd ab aa) ac) + (gd (gd ab ac) ap))) (-1125899906842624)))),wIw 3 1 KL.encI O ab aa,B8,au,.blk b2 36 B0] du:=m3
 refine zb (zl (zF (rR fL3 Z (oM Z dD (oR Z (ZP (za Z Z Z) (congrArg (jV) cN.out)) (oA Z Z (zb ?_)))))))
 have m5:=m4.innBack nK
 have m6:sW w U ao [inn 3 1 KL.encI O (nD ab aa (nD (gd ab aa) ap (max (w64 ((gd (gd ab aa) ac) + (gd (gd ab ac) ap))) (-1125899906842624)))),B8,au,.blk b2 36 B0] du:=m5
 have m7:sW w U ao [inn 3 1 KL.encI O (nD ab aa (nD (gd ab aa) ap (max (w64 ((gd (gd ab aa) ac) + (gd (gd ab ac) ap))) (-1125899906842624)))),B8,.blk an 188 [.slice ah ((nD ab aa (nD (gd ab aa) ap (max (w64 ((gd (gd ab aa) ac) + (gd (gd ab ac) ap))) (-1125899906842624)))).length) ai],.blk b2 36 B0] du:=by simpa only [B0,au,B8,nK] using m6
 cases pQ
 exact zF ⟨rfl,⟨ao,rfl,iP,(nM (b:=(.slice ah ab.length ai:Value)) (c:=(.slice ah ((nD ab aa (nD (gd ab aa) ap (max (w64 ((gd (gd ab aa) ac) + (gd (gd ab ac) ap))) (-1125899906842624)))).length) ai:Value)) cA (by simp only [nK])),dB,dC,cQ,(m7.pick [1,0,2,3] _ (by decide) rfl)⟩⟩
 intro dv pR
 refine cF Z dv (Ze (zl (zF (yt fun bU bJ=>?_))))
 have iQ:bU 3=jV x5:=(bJ 3).trans cz
 have iR:bU 4=.slice ah ab.length ai:=(bJ 4).trans a5
 have iS:bU 15=jV (↑ac:Int):=(bJ 15).trans bi
 have iT:bU 16=jV (↑aa:Int):=(bJ 16).trans bq
 have iU:bU 17=jV (↑ap:Int):=(bJ 17).trans br
 clear bJ
 refine rR fL3 Z (oM Z iU (oR Z (ZP (za Z Z Z) (congrArg (jV) cN.out)) (oA Z Z (zb ?_))))
 have m8:=dU.innBack0
 have m9:sW w U ao [inn 3 1 KL.encI O ab,B8,au,.blk b2 36 B0] aK:=m8
 cases pR
 exact zF ⟨rfl,⟨ao,rfl,iQ,iR,iS,iT,cQ,(m9.pick [1,0,2,3] _ (by decide) rfl)⟩⟩
 intro ag pT
 refine oF Z ag (oF Z ag (oF Z ag (oF Z ag (oF Z ag (oF Z ag (oF Z ag (oF Z ag (oF Z ag (oF Z ag (oF Z ag (oF Z ag (oF Z ag (oF Z ag (oF Z ag (oF Z ag (oF Z ag (oF Z ag (oF Z ag (oF Z ag (oF Z ag (oF Z ag (oF Z ag (oR Z (zZ Z (ZL ag.out) Z) (eN (zr Z (Ze (zl (zF (yt fun bV bK=>?_)))))))))))))))))))))))))))))
 have iV:bV 3=jV x5:=(bK 3).trans cz
 have iW:bV 4=.slice ah ab.length ai:=(bK 4).trans a5
 have iX:bV 15=jV (↑ac:Int):=(bK 15).trans bi
 have iY:bV 16=jV (↑aa:Int):=(bK 16).trans bq
 have iZ:bV 17=jV (↑ap:Int):=(bK 17).trans br
 clear bK
 refine rR fL3 Z (oM Z iZ (oR Z (ZP (za Z Z Z) (congrArg (jV) cN.out)) (oA Z Z (zb ?_))))
 have n3:=bO.innBack0
 have n4:sW w U ao [inn 3 1 KL.encI O ab,B8,au,.blk b2 36 B0] aK:=n3
 cases pT
 exact zF ⟨rfl,⟨ao,rfl,iV,iW,iX,iY,cQ,(n4.pick [1,0,2,3] _ (by decide) rfl)⟩⟩
 intro ax pU
 refine oF Z ax (oF Z ax (oF Z ax (oF Z ax (oF Z ax (oF Z ax (oF Z ax (oF Z ax (oR Z (zZ Z (ZL ax.out) Z) (oM Z Z (oN Z (oN Z (oN Z (oN Z (oN Z (oN Z (oN Z (oN Z (oN Z (oN Z (oN Z (oN Z (oN Z (oN Z (oN Z (oN Z (oN Z (oN Z (oN Z (oN Z (oN Z (oN Z (oN Z (oR Z (zZ Z Z Z) (eN (zr Z (Ze (zl (zF (yt fun bW bL=>?_)))))))))))))))))))))))))))))))))))))))
 have i2:bW 3=jV x5:=(bL 3).trans cz
 have i4:bW 4=.slice ah ab.length ai:=(bL 4).trans a5
 have i6:bW 15=jV (↑ac:Int):=(bL 15).trans bi
 have i8:bW 16=jV (↑aa:Int):=(bL 16).trans bq
 have i9:bW 17=jV (↑ap:Int):=(bL 17).trans br
 clear bL
 refine rR fL3 Z (oM Z i9 (oR Z (ZP (za Z Z Z) (congrArg (jV) cN.out)) (oA Z Z (zb ?_))))
 have n5:=bN.innBack0
 have n6:sW w U ao [inn 3 1 KL.encI O ab,B8,au,.blk b2 36 B0] aK:=n5
 cases pU
 exact zF ⟨rfl,⟨ao,rfl,i2,i4,i6,i8,cQ,(n6.pick [1,0,2,3] _ (by decide) rfl)⟩⟩
 rintro qK rd ⟨ie,jj,fK,ja,jb,jc,qo,n7⟩
 have iv:Hid (¬ ((↑((x5:Int) - 0).toNat:Int) < x5)):=zM (wAq)
 refine zJ (sR fL3 Z (oM Z jj (oM Z fK (oR Z (ze Z Z Z) (eN (cF Z iv (ZS (zf (zf (ZN (zl (zF (rR fL3 Z (oM Z jc (oR Z (ZP (za Z Z Z) (congrArg (jV) o0.out)) (oA Z Z (zb ?_)))))))))))))))))
 cases pG
 exact zF ⟨Z,⟨ie,Z,fK,ja,jb,(qn.trans qo),n7⟩⟩
 rintro qL re ⟨ig,jk,fL,jd,je,qp,n8⟩
 have iw:Hid (¬ ((↑((x5:Int) - 0).toNat:Int) < x5)):=zM (wAq)
 refine zJ (sR fL3 Z (oM Z jk (oM Z fL (oR Z (ze Z Z Z) (eN (cF Z iw (ZS (zf (zf (ZN (zl (zF (rR fL3 Z (oM Z je (oR Z (ZP (za Z Z Z) (congrArg (jV) oZ.out)) (oA Z Z (zb ?_)))))))))))))))))
 cases pF
 exact zF ⟨Z,⟨ig,Z,fL,jd,(qm.trans qp),n8⟩⟩
 rintro qN rf ⟨ii,jl,jf,jg,rH,n9⟩
 have ix:Hid (¬ ((↑((x5:Int) - 0).toNat:Int) < x5)):=zM (wAq)
 refine zJ (sR fL3 Z (oM Z jl (oM Z jf (oR Z (ze Z Z Z) (eN (cF Z ix (ZS (zf (zf (ZN (zF (sR fL2 Z (oM Z jg (oA Z Z (eN (zR ?_))))))))))))))))
 have hE:=nB pE;first | subst r | cases hE
 exact ⟨rfl,_,(ZH rfl),ii,_,(n9.pick [0,1] _ (by decide) rfl),ah,ai,O,rfl,rfl⟩
end Go.Proofs.YtlnfbjphfoipaaaGreat
namespace Go.Proofs.YtlnfbjphfoipaaaGreat
open Go.KL
set_option maxHeartbeats 4000000
theorem wBm (O:wAK) (ag:Option Addr) (ak:Nat) (ah:Option Addr) (am:Nat) (ai:Option Addr) (an:Nat) (aj:Option Addr) (ao:Nat) (w:World) (U:PHeap) (hS:St0 w U []) (bm:Sl U 1 ag ak O.Starts.length (hD KL.encI O.Starts)) (bn:Sl U 2 ah am O.Splits.length (hD wAC O.Splits)) (bo:Sl U 3 ai an O.Clocks.length (hD wAM O.Clocks)) (bp:Sl U 4 aj ao O.Readings.length (hD wAF O.Readings)) {r:Bool} (hm:wAa O=some r):Gv Tryz.prog 72 [.agg #[.slice ag O.Starts.length ak,.slice ah O.Splits.length am,.slice ai O.Clocks.length an,.slice aj O.Readings.length ao]] w (wCF w [] U (fun U_ L_ v=>v=.bool r/\L_=[])):=by
 unfold wAa at hm
 refine Gv.of Tryz.func72 Z Tryz.ntmps72 Tryz.results72 Z (sR gEj Z ?_)
 let B0:List Value:=[.slice ag O.Starts.length ak,.slice ah O.Splits.length am,.slice ai O.Clocks.length an,.slice aj O.Readings.length ao]
 refine zq (cs:=B0) rfl rfl rfl rfl rfl rfl (by rfl) hS ?_
 intro W1 b2 aR
 refine oA Z Z (eN (sR gEt Z (oL Z (aR.ldBA (j:=0) Z Z Z ZX ZO (vs:=B0) Z Z) (bnK hm fun x5 h6 aJ=>zC 0 Z Z Z Z (zD Z Z Tryz.call67 (zB Z zL) Z) aR (fun hs=>wEP O ag ak ah am ai an aj ao W1 U hs bm bn bo bp h6) (.inr Z) ?_))))
 rintro U8 L9 bQ aL bL bg ⟨aK,aM,aO,rfl,rfl⟩
 have bh:sW w U U8 [.row aK aM 22 1 (hD wFE aO),inn 3 1 KL.encI aO x5,.blk b2 36 B0] aL:=bg
 have q:=St.freezeN (R:=wMj) bh (fun _ _ _ _ h=>⟨_,_,rfl,h⟩) (fun _=>rfl) (by decide) rfl
 obtain ⟨ap,bM,bB,bi⟩:=q
 have bj:sW w U ap [.blk b2 36 B0] aL:=bi
 refine oA Z Z (eN (zJ (sR fL1 Z (oA Z Z (eN (zX ?_))))))
 have q:=wCT aJ
 obtain ⟨bP,az⟩:=q
 have q:=wCS az
 obtain ⟨aI,bs⟩:=q
 replace aI:=zM aI
 refine ya (fun aa _ J_ w_=>∃ (U_:PHeap),J_ 4=jV (↑aa:Int)/\J_ 3=.slice aK x5.length aM/\PHeap.Le ap U_/\sW w U U_ [.blk b2 36 B0] w_) bs ?_ ?_ ?_
 exact ⟨ap,Z,Z,(zQ _),bj⟩
 rintro aa ⟨⟩ bS bF bI aH ⟨aq,ae,ax,aU,af⟩ aT bq
 try dsimp only at aT
 have aN:Hid ((↑aa:Int) < (↑x5.length:Int)):=zM (wBQ aH)
 replace aH:=zM aH
 have bt:Hid (w64 ((↑aa:Int) + 1)=(↑(aa + 1):Int)):=zM (by have h1:=aI.out;have h2:=aN.out;rw [wAY] <;> omega)
 refine zJ (sR fL4 Z (oM Z ae (oM Z ax (oR Z (zi Z Z Zd) (oR Z (ze Z Z Z) (eN (cT Z aN (kN (zJ (zX (sR fL8 Z (oM Z ax (oM Z ae (bnK aT fun aX aP bu=>?_))))))))))))))
 have ba:=bB.le aU
 have q:=ba.el (wAb aP)
 obtain ⟨a5,bC,bR,bd,ay,bA⟩:=q
 obtain ⟨aV,aW,rfl,bb⟩:=bA
 replace ay:Cl aq a5 (bC + aa * 1) [.slice aV aX.length aW]:=ay
 refine oR Z (ZZ Z Z bd Z Zd zh (wCc aP)) (oL Z (af.ldC (f:=0) ay (v:=.slice aV aX.length aW) Z Z zk Z) (oM Z ae (bnK bu fun bE aQ bv=>?_)))
 have q:=bb.el (fun _=>rfl) (wAb aQ)
 obtain ⟨bK,bO,be,bf⟩:=q
 refine oR Z (ZZ Z Z be Z zG zE (wCc aQ)) (oL Z (af.ldC (f:=0) bf (v:=jV bE) Z Z zK Z) (oR Z (ze Z Z Z) (eN (ifc bv ?_ ?_))))
 intro av bw
 refine cT Z av (sR fL1 Z (oA Z Z (eN (zR (zo (zT ?_))))))
 have q:=wAV bw
 obtain ⟨bD,bx,a7⟩:=q
 have q:=wCY aJ az (bq bD a7)
 obtain rfl:=q
 refine zT (zo (zT ?_))
 have hE:=nB bx;first | subst r | cases hE
 exact ⟨rfl,_,(ZH rfl),aq,_,(af.pick [] _ (by decide) rfl),rfl,rfl⟩
 intro av bz
 refine cF Z av (Ze (zl (zF (rR fL3 Z (oM Z ae (oR Z (ZP (za Z Z Z) (congrArg (jV) bt.out)) (oA Z Z (zb ?_))))))))
 have q:=nB bz
 obtain rfl:=q
 exact zF ⟨Z,_,Z,⟨aq,Z,ax,aU,af⟩⟩
 rintro ⟨⟩ bG bJ ⟨aY,a9,a8,bN,bk⟩ br
 have aS:=wDQ aJ az br
 try dsimp only at aS
 have a6:Hid (¬ ((↑(((↑x5.length:Int):Int) - 0).toNat:Int) < (↑x5.length:Int))):=zM (wAq)
 refine zJ (sR fL4 Z (oM Z a9 (oM Z a8 (oR Z (zi Z Z Zd) (oR Z (ze Z Z Z) (eN (cF Z a6 (ZS (zf (zf (ZN (zF (sR fL1 Z (oA Z Z (eN (zR ?_))))))))))))))))
 have hE:=nB aS;first | subst r | cases hE
 exact ⟨rfl,_,(ZH rfl),aY,_,(bk.pick [] _ (by decide) rfl),rfl,rfl⟩
theorem wCy (O:wAK) (an:Option Addr) (aq:Nat) (ao:Option Addr) (au:Nat) (ap:Option Addr) (av:Nat) (aK:Option Addr) (aL:Nat) (p1:Int) (p2:Int) (w:World) (U:PHeap) (hS:St0 w U []) (bB:Sl U 1 an aq O.Starts.length (hD KL.encI O.Starts)) (bC:Sl U 2 ao au O.Splits.length (hD wAC O.Splits)) (bD:Sl U 3 ap av O.Clocks.length (hD wAM O.Clocks)) (bE:Sl U 4 aK aL O.Readings.length (hD wAF O.Readings)) {r:wAK} (hm:wAl O p1 p2=some r):Gv Tryz.prog 85 [.agg #[.slice an O.Starts.length aq,.slice ao O.Splits.length au,.slice ap O.Clocks.length av,.slice aK O.Readings.length aL],jV p1,jV p2] w (wCF w [] U (fun U_ L_ v=>∃ (aV:Option Addr) (a6:Nat) (aW:Option Addr) (a7:Nat) (aX:Option Addr) (a8:Nat) (aY:Option Addr) (a9:Nat),v=.agg #[.slice aV r.Starts.length a6,.slice aW r.Splits.length a7,.slice aX r.Clocks.length a8,.slice aY r.Readings.length a9]/\L_=[.row aY a9 117 4 (hD wAF r.Readings)]/\Sl U_ 1 aV a6 r.Starts.length (hD KL.encI r.Starts)/\Sl U_ 2 aW a7 r.Splits.length (hD wAC r.Splits)/\Sl U_ 3 aX a8 r.Clocks.length (hD wAM r.Clocks))):=by
 unfold wAl at hm
 refine Gv.of Tryz.func85 Z Tryz.ntmps85 Tryz.results85 Z (sR gEn Z ?_)
 let B0:List Value:=[.slice an O.Starts.length aq,.slice ao O.Splits.length au,.slice ap O.Clocks.length av,.slice aK O.Readings.length aL]
 refine zq (cs:=B0) rfl rfl rfl rfl rfl rfl (by rfl) hS ?_
 intro W1 b2 bu
 let B1:List Value:=[.slice none 0 0,.slice none 0 0,.slice none 0 0,.slice none 0 0]
 refine zU (cs:=B1) Z Z Z Z Z yW Z bu ?_
 intro W5 b6 bv
 refine eN (sR fL1 Z (oA Z Z (eN (zJ (sR fL1 Z (oA Z Z (eN (zX (ye (fun (ai,aU) J_ w_=>∃ (U_:PHeap) (ab:Option Addr) (ac:Nat),J_ 1=jV p1/\J_ 2=jV p2/\J_ 3=.pointer (some ⟨b2,0,none⟩)/\J_ 6=.pointer (some ⟨b6,0,none⟩)/\J_ 7=.slice ab ai.length ac/\J_ 8=jV aU/\PHeap.Le U U_/\sW w U U_ [.blk b6 36 B1,.blk b2 36 B0,.row ab ac 117 4 (hD wAF ai)] w_) hm ?_ ?_)))))))))
 have bt:=bv.nilrow 117 4
 exact ⟨U,none,0,rfl,rfl,rfl,rfl,rfl,rfl,(zQ _),(bt.pick [1,2,0] _ (by decide) rfl)⟩
 rintro ⟨ai,aU⟩ bU bO bQ ⟨aj,ab,ac,aM,aN,ah,aJ,aO,ak,am,ae⟩ aR bF
 try dsimp only at aR
 refine zJ (sR fL5 Z (oM Z ak (oR Z (zH Z ah zW Z Zq) (oL Z (ae.ldB (j:=1) Z Z Z Zy (v:=.slice aK O.Readings.length aL) Z) (oR Z (zi Z Z ZV) (oR Z (ze Z Z Z) (eN ?_)))))))
 by_cases ag:aU < (↑O.Readings.length:Int)
 have bd:=aR;rw [if_pos ag] at bd;replace ag:=zM ag
 refine cT Z ag (kN (zJ (zX (sR fL8 Z (oM Z ak (oM Z aM (oR Z (Zb Z Z Z) (oM Z Z (ifc bd ?_ ?_)))))))))
 intro af bG
 refine zw Z Z Z (zO Z Z (ZL (fun h=>h af.out)) Z) (zw Z Z Z (zO Z Z (ZL (fun h=>h af.out)) Z) (zw Z Z Z (zO Z Z (ZL (fun h=>h af.out)) Z) (oR Z (zZ Z (ZL (fun h=>h af.out)) Z) (eN (zr Z (Ze (zl (zF (rR fL3 Z (oM Z ak (oR Z (za Z Z Z) (oA Z Z (zb ?_)))))))))))))
 have q:=nB bG
 obtain rfl:=q
 exact zF ⟨Z,_,Z,⟨aj,ab,ac,aM,aN,ah,aJ,aO,Z,am,ae⟩⟩
 intro af bH
 refine ZE Z Z Z (wT Z af) Z ak (ZE Z Z Z (wT Z af) Z aN (rU Z (wT Z af) (Zb Z Z Z) (oR Z (zS Z (Zh af.out) Z) (eN (ifc bH ?_ ?_)))))
 intro aP bI
 refine zr (ZL (fun h=>h aP.out)) (Ze (zl (zF (rR fL3 Z (oM Z ak (oR Z (za Z Z Z) (oA Z Z (zb ?_))))))))
 have q:=nB bI
 obtain rfl:=q
 exact zF ⟨Z,_,Z,⟨aj,ab,ac,aM,aN,ah,aJ,aO,Z,am,ae⟩⟩
 intro aP bJ
 refine cT Z aP (rR (wFh gEu) Z (oM Z aO (oR Z (zH Z ah zW Z Zq) (oL Z (ae.ldB (j:=1) Z Z Z Zy (v:=.slice aK O.Readings.length aL) Z) (oM Z ak (bnK bJ fun aa aQ bK=>?_))))))
 have bm:=bE.le am
 have q:=bm.el (fun _=>rfl) (wAb aQ)
 obtain ⟨bS,bT,br,bs⟩:=q
 refine oR Z (ZT Z Z br Z ZV yA (wBp aQ) (wBx aQ)) (oL Z (ae.ldCA (f:=0) bs Z Z Tryz.isAgg117 yA (us:=[jV aa.Skier,jV aa.Mat,jV aa.Clock,jV aa.Time]) Z Z) ?_)
 let B2:List Value:=[jV aa.Skier,jV aa.Mat,jV aa.Clock,jV aa.Time]
 refine ZC (pv:=[(0,.agg B2.toArray)]) (zs:=[jV 0,jV 0,jV 0,jV 0]) (cs:=B2) Z Z Z Z Z (wAG Z wAP) ZV yA Tryz.zeroValue117 Z Z Z Z Z ae ?_
 intro bg bj bw
 let B3:Res:=.row (some ⟨bj,0,none⟩) 1 117 4 (hD wAF [aa])
 have bb:sW w U aj [B3,.blk b6 36 B1,.blk b2 36 B0,.row ab ac 117 4 (hD wAF ai)] bg:=bw
 refine bnK bK fun bf bn bL=>yG (j:=3) (enc:=wAF) (xs:=ai) (ys:=[aa]) (zs:=bf) rfl rfl rfl rfl rfl Tryz.underlying34 wJm rfl rfl rfl rfl rfl rfl bb rfl rfl rfl (bb.srcR (j:=0) rfl (by decide) (wAD (f:=wAF) (sz:=4) (fun _=>rfl) [aa])) (fun _=>rfl) (fun _=>rfl) bn rfl ?_
 intro aZ ba bh bx
 have bz:sW w U aj [B3,.blk b6 36 B1,.blk b2 36 B0,.row aZ ba 117 4 (hD wAF bf)] bh:=bx
 refine oA Z Z (zb (zl (zF (rR fL3 Z (oM Z ak (oR Z (za Z Z Z) (oA Z Z (zb ?_))))))))
 have q:=nB bL
 obtain rfl:=q
 exact zF ⟨rfl,_,rfl,⟨aj,aZ,ba,aM,aN,ah,aJ,rfl,rfl,am,(bz.pick [1,2,3] _ (by decide) rfl)⟩⟩
 have be:=aR;rw [if_neg ag] at be;replace ag:=zM ag
 refine cF Z ag (ZS (zf ?_))
 have q:=wAV be
 obtain ⟨bN,bM,bk⟩:=q
 have q:=bF bN bk
 obtain rfl:=q
 refine zf (ZN (zF (sR (wNj (.fx 8 .nil .stop)) Z (oR Z (zH Z ah zW Z zh) (oL Z (ae.ldB (j:=1) Z Z Z zk (v:=.slice an O.Starts.length aq) Z) (oR Z (zH Z ah zW Z Zf) (oL Z (ae.ldB (j:=1) Z Z Z Zl (v:=.slice ao O.Splits.length au) Z) (oR Z (zH Z ah zW Z yO) (oL Z (ae.ldB (j:=1) Z Z Z yd (v:=.slice ap O.Clocks.length av) Z) (oM Z aO ?_))))))))))
 let B4:List Value:=[.slice an O.Starts.length aq,.slice ao O.Splits.length au,.slice ap O.Clocks.length av,.slice ab ai.length ac]
 refine oR Z (zu (pv:=[(0,.slice an O.Starts.length aq),(1,.slice ao O.Splits.length au),(2,.slice ap O.Clocks.length av),(3,.slice ab ai.length ac)]) (z:=B1) (cs:=B4) Z (wAG Z (wAG Z (wAG Z (wAG Z wAP)))) yW wGK Z Z) (zY (j:=0) (vs:=B4) Z Z Z Z ae Z aJ Z Z ZO (zA Z) Z Z Z ?_)
 intro bi bA
 have bc:sW w U aj [.blk b6 36 B4,.blk b2 36 B0,.row ab ac 117 4 (hD wAF ai)] bi:=bA
 refine eN (zR ?_)
 have bo:=bB.le am
 have bp:=bC.le am
 have bq:=bD.le am
 cases bM
 exact ⟨rfl,_,(wGy (v:=.agg B4.toArray) ⟨⟨_,aJ,(wBF ZX ZO (bc.blkAt (k:=0) rfl) (vs:=B4) rfl rfl)⟩,trivial⟩),aj,_,(bc.pick [2] _ (by decide) rfl),an,aq,ao,au,ap,av,ab,ac,rfl,rfl,bo,bp,bq⟩
theorem wFd (O:wAK) (an:Option Addr) (aq:Nat) (ao:Option Addr) (au:Nat) (ap:Option Addr) (av:Nat) (ac:Option Addr) (ae:Nat) (w:World) (U:PHeap) (hS:St0 w U []) (bz:Sl U 1 an aq O.Starts.length (hD KL.encI O.Starts)) (bA:Sl U 2 ao au O.Splits.length (hD wAC O.Splits)) (bB:Sl U 3 ap av O.Clocks.length (hD wAM O.Clocks)) (bC:Sl U 4 ac ae O.Readings.length (hD wAF O.Readings)) {r:(List Int) × Int} (hm:wBB O=some r):Gv Tryz.prog 25 [.agg #[.slice an O.Starts.length aq,.slice ao O.Splits.length au,.slice ap O.Clocks.length av,.slice ac O.Readings.length ae]] w (wCF w [] U (fun U_ L_ v=>∃ (A0:Option Addr) (c0:Nat),v=.tuple #[.slice A0 r.1.length c0,jV r.2]/\L_=[.row A0 c0 3 1 (hD KL.encI r.1)])):=by
 unfold wBB at hm
 refine Gv.of Tryz.func25 Z Tryz.ntmps25 Tryz.results25 Z (sR gEs Z ?_)
 let B0:List Value:=[.slice an O.Starts.length aq,.slice ao O.Splits.length au,.slice ap O.Clocks.length av,.slice ac O.Readings.length ae]
 refine zq (cs:=B0) rfl rfl rfl rfl rfl rfl (by rfl) hS ?_
 intro W1 b2 bv
 refine oA Z Z (oA Z Z (eN (zJ (sR gEt Z (oL Z (bv.ldBA (j:=0) Z Z Z ZX ZO (vs:=B0) Z Z) (bnK hm fun x5 h6 d8=>zC 0 Z Z Z Z (zD Z Z Tryz.call34 (zB Z zL) Z) bv (fun hs=>wCN O an aq ao au ap av ac ae W1 U hs bz bA bB bC h6) (.inr Z) ?_))))))
 rintro U8 L9 eK bn aR dw ⟨rfl,rfl⟩
 have bf:sW w U U8 [.blk b2 36 B0] bn:=dw
 refine oA Z Z (eN (sR fL2 Z (oM Z Z (oR Z (Zb Z Z Z) (eN (ifc d8 ?_ ?_))))))
 intro a5 dR
 refine zr (ZL (fun h=>h a5.out)) (kN (zJ (sR gEt Z (oL Z (bf.ldBA (j:=0) Z Z Z ZX ZO (vs:=B0) Z Z) ?_))))
 have ba:=bz.le aR
 have bb:=bA.le aR
 have bc:=bB.le aR
 have bd:=bC.le aR
 refine bnK dR fun eS cY dZ=>zC 0 Z Z Z Z (zD Z Z Tryz.call72 (zB Z zL) Z) bf (fun hs=>wBm O an aq ao au ap av ac ae bn U8 hs ba bb bc bd cY) (.inr Z) ?_
 rintro aJ eF eO cb aj dH ⟨rfl,rfl⟩
 have bw:sW w U aJ [.blk b2 36 B0] cb:=dH
 refine oR Z (ZY Z Z) (eN (ifc dZ ?_ ?_))
 intro a7 d6
 refine zr (nC a7.out) (kN (zJ (sR fL1 Z (oA Z Z (eN (zX (ye (fun am J_ w_=>∃ (U_:PHeap),J_ 1=.pointer (some ⟨b2,0,none⟩)/\J_ 5=jV am/\PHeap.Le aJ U_/\sW w U U_ [.blk b2 36 B0] w_) d6 ?_ ?_)))))))
 exact ⟨aJ,Z,Z,(zQ _),bw⟩
 rintro am e6 eC cc ⟨aX,aO,az,af,aQ⟩ bO bF
 refine zJ (sR fL5 Z (oM Z az (oR Z (zH Z aO zW Z Zq) (oL Z (aQ.ldB (j:=0) Z Z Z Zy (v:=.slice ac O.Readings.length ae) Z) (oR Z (zi Z Z ZV) (oR Z (ze Z Z Z) (eN ?_)))))))
 by_cases ai:am < (↑O.Readings.length:Int)
 have bL:=bO;rw [if_pos ai] at bL;replace ai:=zM ai
 refine cT Z ai (kN (zJ (zX (sR (wDd gEv) Z (oL Z (aQ.ldBA (j:=0) Z Z aO ZX ZO (vs:=B0) Z Z) (oM Z az (oM Z az ?_)))))))
 have cZ:=ba.le aj
 have c6:=cZ.le af
 have da:=bb.le aj
 have db:=da.le af
 have dd:=bc.le aj
 have de:=dd.le af
 have df:=bd.le aj
 have dg:=df.le af
 refine bnK bL fun aV di d7=>zC 0 Z Z Z Z (zD Z Z Tryz.call85 (zB Z (zB Z (zB Z zL))) Z) aQ (fun hs=>wCy O an aq ao au ap av ac ae am am cc aX hs c6 db de dg di) (.inr Z) ?_
 rintro bW eG eP a0 ek dI ⟨bS,cm,bT,cn,bU,co,bi,bs,rfl,rfl,dk,dl,dm⟩
 have dJ:sW w U bW [.row bi bs 117 4 (hD wAF aV.Readings),.blk b2 36 B0] a0:=dI
 have q:=dJ.freezeR (k:=0) (n:=aV.Readings.length) rfl (wAD (f:=wAF) (sz:=4) (fun _=>rfl) aV.Readings) (by decide)
 obtain ⟨bm,aT,eg,dK⟩:=q
 have dL:sW w U bm [.blk b2 36 B0] a0:=dK
 have dp:=dk.le aT
 have dq:=dl.le aT
 have dr:=dm.le aT
 refine bnK d7 fun eV dt d9=>zC 0 Z Z Z Z (zD Z Z Tryz.call72 (zB Z zL) Z) dL (fun hs=>wBm aV bS cm bT cn bU co bi bs a0 bm hs dp dq dr eg dt) (.inr Z) ?_
 rintro aK eI eQ cd en dM ⟨rfl,rfl⟩
 have bx:sW w U aK [.blk b2 36 B0] cd:=dM
 refine oR Z (ZY Z Z) (eN (ifc d9 ?_ ?_))
 intro a8 dN
 refine zr (nC a8.out) (Ze (zl (zF (rR fL3 Z (oM Z az (oR Z (za Z Z Z) (oA Z Z (zb ?_))))))))
 have q:=nB dN
 obtain rfl:=q
 exact zF ⟨Z,_,Z,⟨aK,aO,Z,(((af.trans ek).trans aT).trans en),bx⟩⟩
 intro a8 dO
 refine ZK (nF (a8.out)) (sR (.fl 0 gEw) Z (oM Z az (ZC (pv:=[(0,jV am)]) (zs:=[jV 0]) (cs:=[jV am]) Z Z Z Z Z (wAG Z wAP) zG zE zy Z Z Z Z Z bx ?_)))
 intro bY bo du
 have dv:sW w U aK [.row (some ⟨bo,0,none⟩) 1 3 1 (hD KL.encI [am]),.blk b2 36 B0] bY:=du
 refine oA Z Z (oA Z Z (eN (zR (zo (zT ?_)))))
 have q:=wAV dO
 obtain ⟨eo,dP,cp⟩:=q
 have q:=bF eo cp
 obtain rfl:=q
 refine zT (zo (zT ?_))
 cases dP
 exact ⟨rfl,_,(wDk rfl rfl),aK,_,(dv.pick [0] _ (by decide) rfl),(some ⟨bo,0,none⟩),1,rfl,rfl⟩
 have bG:=bO;rw [if_neg ai] at bG;replace ai:=zM ai
 refine cF Z ai (ZS (zf ?_))
 have q:=wAV bG
 obtain ⟨ep,dQ,cq⟩:=q
 have q:=bF ep cq
 obtain rfl:=q
 refine zf (ZN (zF (zJ (sR fL1 Z (oA Z Z (eN (zX (ye (fun ak J_ w_=>∃ (U_:PHeap),J_ 1=.pointer (some ⟨b2,0,none⟩)/\J_ 6=jV ak/\PHeap.Le aX U_/\sW w U U_ [.blk b2 36 B0] w_) dQ ?_ ?_))))))))
 exact ⟨aX,aO,Z,(zQ _),aQ⟩
 rintro ak eW eA eJ ⟨aW,bt,a9,aH,be⟩ bM bD
 refine zJ (sR fL5 Z (oM Z a9 (oR Z (zH Z bt zW Z Zq) (oL Z (be.ldB (j:=0) Z Z Z Zy (v:=.slice ac O.Readings.length ae) Z) (oR Z (zi Z Z ZV) (oR Z (ze Z Z Z) (eN ?_)))))))
 by_cases ag:ak < (↑O.Readings.length:Int)
 have bH:=bM;rw [if_pos ag] at bH;replace ag:=zM ag
 refine cT Z ag (kN (zJ (zX (sR fL3 Z (oM Z a9 (oR Z (za Z Z Z) (oA Z Z (eN (zX (ye (fun ax J_ w_=>∃ (U_:PHeap),J_ 1=.pointer (some ⟨b2,0,none⟩)/\J_ 6=jV ak/\J_ 7=jV ax/\PHeap.Le aW U_/\sW w U U_ [.blk b2 36 B0] w_) bH ?_ ?_))))))))))
 exact ⟨aW,bt,a9,Z,(zQ _),be⟩
 rintro ax eZ eB bZ ⟨bj,aL,aM,aN,ay,aP⟩ bN bE
 refine zJ (sR fL5 Z (oM Z aN (oR Z (zH Z aL zW Z Zq) (oL Z (aP.ldB (j:=0) Z Z Z Zy (v:=.slice ac O.Readings.length ae) Z) (oR Z (zi Z Z ZV) (oR Z (ze Z Z Z) (eN ?_)))))))
 by_cases ah:ax < (↑O.Readings.length:Int)
 have bI:=bN;rw [if_pos ah] at bI;replace ah:=zM ah
 refine cT Z ah (kN (zJ (zX (sR (wDd gEv) Z (oL Z (aP.ldBA (j:=0) Z Z aL ZX ZO (vs:=B0) Z Z) (oM Z aM (oM Z aN ?_)))))))
 have cx:=ba.le aj
 have cy:=cx.le af
 have cz:=cy.le aH
 have cA:=cz.le ay
 have cC:=bb.le aj
 have cD:=cC.le af
 have cE:=cD.le aH
 have cG:=cE.le ay
 have cH:=bc.le aj
 have cI:=cH.le af
 have cJ:=cI.le aH
 have cK:=cJ.le ay
 have cL:=bd.le aj
 have cM:=cL.le af
 have cN:=cM.le aH
 have cO:=cN.le ay
 refine bnK bI fun aU cP dS=>zC 0 Z Z Z Z (zD Z Z Tryz.call85 (zB Z (zB Z (zB Z zL))) Z) aP (fun hs=>wCy O an aq ao au ap av ac ae ak ax bZ bj hs cA cG cK cO cP) (.inr Z) ?_
 rintro bV eD eL aZ eh dx ⟨bP,cf,bQ,cg,bR,cj,bh,br,rfl,rfl,cQ,cR,cS⟩
 have dy:sW w U bV [.row bh br 117 4 (hD wAF aU.Readings),.blk b2 36 B0] aZ:=dx
 have q:=dy.freezeR (k:=0) (n:=aU.Readings.length) rfl (wAD (f:=wAF) (sz:=4) (fun _=>rfl) aU.Readings) (by decide)
 obtain ⟨bk,aS,ef,dz⟩:=q
 have dA:sW w U bk [.blk b2 36 B0] aZ:=dz
 have cU:=cQ.le aS
 have cV:=cR.le aS
 have cW:=cS.le aS
 refine bnK dS fun eR cX dT=>zC 0 Z Z Z Z (zD Z Z Tryz.call72 (zB Z zL) Z) dA (fun hs=>wBm aU bP cf bQ cg bR cj bh br aZ bk hs cU cV cW ef cX) (.inr Z) ?_
 rintro aI eE eM b5 ej dB ⟨rfl,rfl⟩
 have bu:sW w U aI [.blk b2 36 B0] b5:=dB
 refine oR Z (ZY Z Z) (eN (ifc dT ?_ ?_))
 intro a6 dU
 refine zr (nC a6.out) (Ze (zl (zF (rR fL3 Z (oM Z aN (oR Z (za Z Z Z) (oA Z Z (zb ?_))))))))
 have q:=nB dU
 obtain rfl:=q
 exact zF ⟨Z,_,Z,⟨aI,aL,aM,Z,(((ay.trans eh).trans aS).trans ej),bu⟩⟩
 intro a6 dV
 refine ZK (nF (a6.out)) (sR (.fl 0 (.fl 1 (.fx 2 (.fl 3 (.fl 4 .nil)) .stop))) Z (oM Z aM (oM Z aN (ZC (pv:=[(0,jV ak),(1,jV ax)]) (zs:=[jV 0,jV 0]) (cs:=[jV ak,jV ax]) Z Z Z Z Z (wAG Z (wAG Z wAP)) zG zE zy Z Z Z Z Z bu ?_))))
 intro ca bp dC
 have dD:sW w U aI [.row (some ⟨bp,0,none⟩) 2 3 1 (hD KL.encI [ak,ax]),.blk b2 36 B0] ca:=dC
 refine oA Z Z (oA Z Z (eN (zR (zo (zT ?_)))))
 have q:=wAV dV
 obtain ⟨er,dW,cr⟩:=q
 have q:=bE er cr
 obtain rfl:=q
 refine zT (zo (zo (zT ?_)))
 have q:=wAV dW
 obtain ⟨eu,dX,ct⟩:=q
 have q:=bD eu ct
 obtain rfl:=q
 refine zT (zo (zT ?_))
 cases dX
 exact ⟨rfl,_,(wDk rfl rfl),aI,_,(dD.pick [0] _ (by decide) rfl),(some ⟨bp,0,none⟩),2,rfl,rfl⟩
 have bJ:=bN;rw [if_neg ah] at bJ;replace ah:=zM ah
 refine cF Z ah (ZS (zf ?_))
 have q:=wAV bJ
 obtain ⟨ew,dY,cu⟩:=q
 have q:=bE ew cu
 obtain rfl:=q
 refine zf (ZN (zl (zF (rR fL3 Z (oM Z aM (oR Z (za Z Z Z) (oA Z Z (zb ?_))))))))
 have q:=nB dY
 obtain rfl:=q
 exact zF ⟨Z,_,Z,⟨bj,aL,Z,(aH.trans ay),aP⟩⟩
 have bK:=bM;rw [if_neg ag] at bK;replace ag:=zM ag
 refine cF Z ag (ZS (zf ?_))
 have q:=wAV bK
 obtain ⟨ey,d3,cw⟩:=q
 have q:=bD ey cw
 obtain rfl:=q
 refine zf (ZN (zF (sR fL2 Z (oA Z Z (oA Z Z (eN (zR ?_)))))))
 have dE:=be.nilrow 3 1
 cases d3
 exact ⟨rfl,_,(wDk rfl rfl),aW,_,(dE.pick [0] _ (by decide) rfl),none,0,rfl,rfl⟩
 intro a7 d4
 refine ZK (nF (a7.out)) (sR fL2 Z (oA Z Z (oA Z Z (eN (zR (zT ?_))))))
 have dF:=bw.nilrow 3 1
 cases d4
 exact ⟨rfl,_,(wDk rfl rfl),aJ,_,(dF.pick [0] _ (by decide) rfl),none,0,rfl,rfl⟩
 intro a5 d5
 refine cT Z a5 (sR fL3 Z (oM Z Z (oA Z Z (oA Z Z (eN (zR (zT ?_)))))))
 have dG:=bf.nilrow 3 1
 cases d5
 exact ⟨rfl,_,(wDk rfl rfl),U8,_,(dG.pick [0] _ (by decide) rfl),none,0,rfl,rfl⟩
theorem wFe (O:wAK) (ah:Option Addr) (ai:Nat) (aj:Option Addr) (am:Nat) (ak:Option Addr) (an:Nat) (ay:Option Addr) (az:Nat) (w:World) (U:PHeap) (hS:St0 w U []) (bD:Sl U 1 ah ai O.Starts.length (hD KL.encI O.Starts)) (bE:Sl U 2 aj am O.Splits.length (hD wAC O.Splits)) (bF:Sl U 3 ak an O.Clocks.length (hD wAM O.Clocks)) (bG:Sl U 4 ay az O.Readings.length (hD wAF O.Readings)) {r:(List Int) × Int} (hm:wBC O=some r):Gv Tryz.prog 28 [.agg #[.slice ah O.Starts.length ai,.slice aj O.Splits.length am,.slice ak O.Clocks.length an,.slice ay O.Readings.length az]] w (wCF w [] U (fun U_ L_ v=>∃ (A0:Option Addr) (c0:Nat),v=.tuple #[.slice A0 r.1.length c0,jV r.2]/\L_=[.row A0 c0 3 1 (hD KL.encI r.1)])):=by
 unfold wBC at hm
 refine Gv.of Tryz.func28 Z Tryz.ntmps28 Tryz.results28 Z (sR gEs Z ?_)
 let B0:List Value:=[.slice ah O.Starts.length ai,.slice aj O.Splits.length am,.slice ak O.Clocks.length an,.slice ay O.Readings.length az]
 refine zq (cs:=B0) rfl rfl rfl rfl rfl rfl (by rfl) hS ?_
 intro W1 b2 bB
 refine oA Z Z (oA Z Z (eN (zJ (sR gEt Z (oL Z (bB.ldBA (j:=0) Z Z Z ZX ZO (vs:=B0) Z Z) (bnK hm fun x5 h6 dm=>zC 0 Z Z Z Z (zD Z Z Tryz.call34 (zB Z zL) Z) bB (fun hs=>wCN O ah ai aj am ak an ay az W1 U hs bD bE bF bG h6) (.inr Z) ?_))))))
 rintro U8 L9 dD bj aU cD ⟨rfl,rfl⟩
 have a7:sW w U U8 [.blk b2 36 B0] bj:=cD
 refine oA Z Z (eN (sR fL2 Z (oM Z Z (oR Z (Zb Z Z Z) (eN (ifc dm ?_ ?_))))))
 intro aZ da
 refine zr (ZL (fun h=>h aZ.out)) (kN (zJ (sR gEt Z (oL Z (a7.ldBA (j:=0) Z Z Z ZX ZO (vs:=B0) Z Z) ?_))))
 have bt:=bD.le aU
 have bu:=bE.le aU
 have bv:=bF.le aU
 have bw:=bG.le aU
 refine bnK da fun dH cw dk=>zC 0 Z Z Z Z (zD Z Z Tryz.call72 (zB Z zL) Z) a7 (fun hs=>wBm O ah ai aj am ak an ay az bj U8 hs bt bu bv bw cw) (.inr Z) ?_
 rintro aR dw dF bU aV cQ ⟨rfl,rfl⟩
 have bC:sW w U aR [.blk b2 36 B0] bU:=cQ
 refine oR Z (ZY Z Z) (eN (ifc dk ?_ ?_))
 intro a5 dl
 refine zr (nC a5.out) (kN (sR fL1 Z (oA Z Z (eN (zJ (sR fL1 Z (oA Z Z (eN (zX (ye (fun (aM,ao) J_ w_=>∃ (U_:PHeap) (aH:Option Addr) (aI:Nat),J_ 1=.pointer (some ⟨b2,0,none⟩)/\J_ 5=.slice aH aM.length aI/\J_ 6=jV ao/\PHeap.Le aR U_/\sW w U U_ [.blk b2 36 B0,.row aH aI 3 1 (hD KL.encI aM)] w_) dl ?_ ?_))))))))))
 have cR:=bC.nilrow 3 1
 exact ⟨aR,none,0,rfl,rfl,rfl,(zQ _),(cR.pick [1,0] _ (by decide) rfl)⟩
 rintro ⟨aM,ao⟩ dJ dt dy ⟨aW,aH,aI,bp,bq,br,aN,a8⟩ a9 cU
 try dsimp only at a9
 refine zJ (sR fL5 Z (oM Z br (oR Z (zH Z bp zW Z zh) (oL Z (a8.ldB (j:=0) Z Z Z zk (v:=.slice ah O.Starts.length ai) Z) (oR Z (zi Z Z zG) (oR Z (ze Z Z Z) (eN ?_)))))))
 by_cases au:ao < (↑O.Starts.length:Int)
 have bK:=a9;rw [if_pos au] at bK;replace au:=zM au
 refine cT Z au (kN (zJ (zX (sR fL1 Z (oA Z Z (eN (zJ (sR fL1 Z (oA Z Z (eN (zX ?_)))))))))))
 let B1:Res:=.row aH aI 3 1 (hD KL.encI aM)
 refine ye (fun (ag,bb) J_ w_=>∃ (U_:PHeap) (ap:Option Addr) (av:Nat),J_ 1=.pointer (some ⟨b2,0,none⟩)/\J_ 5=.slice aH aM.length aI/\J_ 6=jV ao/\J_ 7=.slice ap ag.length av/\J_ 8=jV bb/\PHeap.Le aW U_/\sW w U U_ [.blk b2 36 B0,B1,.row ap av 117 4 (hD wAF ag)] w_) bK ?_ ?_
 have cS:=a8.nilrow 117 4
 exact ⟨aW,none,0,bp,bq,br,rfl,rfl,(zQ _),(cS.pick [1,2,0] _ (by decide) rfl)⟩
 rintro ⟨ag,bb⟩ dK du bk ⟨aS,ap,av,af,aT,aK,a6,aP,ax,ae⟩ ba cV
 try dsimp only at ba
 refine zJ (sR fL5 Z (oM Z aP (oR Z (zH Z af zW Z Zq) (oL Z (ae.ldB (j:=0) Z Z Z Zy (v:=.slice ay O.Readings.length az) Z) (oR Z (zi Z Z ZV) (oR Z (ze Z Z Z) (eN ?_)))))))
 by_cases aq:bb < (↑O.Readings.length:Int)
 have bH:=ba;rw [if_pos aq] at bH;replace aq:=zM aq
 refine cT Z aq (kN (zJ (zX (sR fL8 Z (oR Z (zH Z af zW Z Zq) (oL Z (ae.ldB (j:=0) Z Z Z Zy (v:=.slice ay O.Readings.length az) Z) (oM Z aP (bnK bH fun ac aL cW=>?_))))))))
 have bZ:=bw.le aV
 have b5:=bZ.le aN
 have bs:=b5.le ax
 have q:=bs.el (fun _=>rfl) (wAb aL)
 obtain ⟨dz,dB,cy,cA⟩:=q
 refine oR Z (ZT Z Z cy Z ZV yA (wBp aL) (wBx aL)) (oR Z (zH Z Z Zt Z zE) (oL Z (ae.ldC (f:=0) cA (v:=jV ac.Skier) Z Z zK Z) (oM Z aK (oR Z (Zb Z Z Z) (eN (ifc cW ?_ ?_))))))
 intro aY cX
 refine zr (ZL (fun h=>h aY.out)) (Ze (zl (zF (rR fL3 Z (oM Z aP (oR Z (za Z Z Z) (oA Z Z (zb ?_))))))))
 have q:=nB cX
 obtain rfl:=q
 exact zF ⟨Z,_,Z,⟨aS,ap,av,af,aT,aK,a6,Z,ax,ae⟩⟩
 intro aY cY
 refine cT Z aY (rR (wFh gEu) Z (oM Z a6 (oR Z (zH Z af zW Z Zq) (oL Z (ae.ldB (j:=0) Z Z Z Zy (v:=.slice ay O.Readings.length az) Z) (oM Z aP ?_)))))
 have q:=bs.el (fun _=>rfl) (wAb aL)
 obtain ⟨dA,dC,cz,cC⟩:=q
 refine oR Z (ZT Z Z cz Z ZV yA (wBp aL) (wBx aL)) (oL Z (ae.ldCA (f:=0) cC Z Z Tryz.isAgg117 yA (us:=[jV ac.Skier,jV ac.Mat,jV ac.Clock,jV ac.Time]) Z Z) ?_)
 let B2:List Value:=[jV ac.Skier,jV ac.Mat,jV ac.Clock,jV ac.Time]
 refine ZC (pv:=[(0,.agg B2.toArray)]) (zs:=[jV 0,jV 0,jV 0,jV 0]) (cs:=B2) Z Z Z Z Z (wAG Z wAP) ZV yA Tryz.zeroValue117 Z Z Z Z Z ae ?_
 intro bP bV cE
 let B3:Res:=.row (some ⟨bV,0,none⟩) 1 117 4 (hD wAF [ac])
 have bx:sW w U aS [B3,.blk b2 36 B0,B1,.row ap av 117 4 (hD wAF ag)] bP:=cE
 refine bnK cY fun bM ca cZ=>yG (j:=3) (enc:=wAF) (xs:=ag) (ys:=[ac]) (zs:=bM) rfl rfl rfl rfl rfl Tryz.underlying34 wJm rfl rfl rfl rfl rfl rfl bx rfl rfl rfl (bx.srcR (j:=0) rfl (by decide) (wAD (f:=wAF) (sz:=4) (fun _=>rfl) [ac])) (fun _=>rfl) (fun _=>rfl) ca rfl ?_
 intro bd bn bQ cG
 have cH:sW w U aS [B3,.blk b2 36 B0,B1,.row bd bn 117 4 (hD wAF bM)] bQ:=cG
 refine oA Z Z (zb (zl (zF (rR fL3 Z (oM Z aP (oR Z (za Z Z Z) (oA Z Z (zb ?_))))))))
 have q:=nB cZ
 obtain rfl:=q
 exact zF ⟨rfl,_,rfl,⟨aS,bd,bn,af,aT,aK,rfl,rfl,ax,(cH.pick [1,2,3] _ (by decide) rfl)⟩⟩
 have bI:=ba;rw [if_neg aq] at bI;replace aq:=zM aq
 refine cF Z aq (ZS (zf ?_))
 have q:=wAV bI
 obtain ⟨dq,c6,bX⟩:=q
 have q:=cV dq bX
 obtain rfl:=q
 refine zf (ZN (zF (sR (wNj (.fx 8 (.fl 9 .nil) .stop)) Z (oR Z (zH Z af zW Z zh) (oL Z (ae.ldB (j:=0) Z Z Z zk (v:=.slice ah O.Starts.length ai) Z) (oR Z (zH Z af zW Z Zf) (oL Z (ae.ldB (j:=0) Z Z Z Zl (v:=.slice aj O.Splits.length am) Z) (oR Z (zH Z af zW Z yO) (oL Z (ae.ldB (j:=0) Z Z Z yd (v:=.slice ak O.Clocks.length an) Z) (oM Z a6 (oR Z (zu (pv:=[(0,.slice ah O.Starts.length ai),(1,.slice aj O.Splits.length am),(2,.slice ak O.Clocks.length an),(3,.slice ap ag.length av)]) (z:=[.slice none 0 0,.slice none 0 0,.slice none 0 0,.slice none 0 0]) (cs:=[.slice ah O.Starts.length ai,.slice aj O.Splits.length am,.slice ak O.Clocks.length an,.slice ap ag.length av]) Z (wAG Z (wAG Z (wAG Z (wAG Z wAP)))) yW wGK Z Z) ?_)))))))))))
 have q:=ae.freezeR (k:=2) (n:=ag.length) rfl (wAD (f:=wAF) (sz:=4) (fun _=>rfl) ag) (by decide)
 obtain ⟨bi,aQ,dp,cI⟩:=q
 have cJ:sW w U bi [.blk b2 36 B0,B1] bk:=cI
 have cb:=bt.le aV
 have cc:=cb.le aN
 have cd:=cc.le ax
 have cf:=cd.le aQ
 have cg:=bu.le aV
 have cj:=cg.le aN
 have cm:=cj.le ax
 have cn:=cm.le aQ
 have co:=bv.le aV
 have cp:=co.le aN
 have cq:=cp.le ax
 have cr:=cq.le aQ
 refine bnK c6 fun dG ct db=>zC 0 Z Z Z Z (zD Z Z Tryz.call72 (zB Z zL) Z) cJ (fun hs=>wBm (⟨O.Starts,O.Splits,O.Clocks,ag⟩:wAK) ah ai aj am ak an ap av bk bi hs cf cn cr dp ct) (.inr Z) ?_
 rintro aO dv dE bR bL cK ⟨rfl,rfl⟩
 have bz:sW w U aO [.blk b2 36 B0,B1] bR:=cK
 refine oR Z (ZY Z Z) (eN (ifc db ?_ ?_))
 intro a0 dd
 refine zr (nC a0.out) (Ze (zl (zF (rR fL3 Z (oM Z aK (oR Z (za Z Z Z) (oA Z Z (zb ?_))))))))
 have q:=nB dd
 obtain rfl:=q
 exact zF ⟨Z,_,Z,⟨aO,aH,aI,af,aT,Z,(((aN.trans ax).trans aQ).trans bL),bz⟩⟩
 intro a0 de
 refine ZK (nF (a0.out)) (rR gFe Z (oM Z aT (oM Z aK (ZC (pv:=[(0,jV ao)]) (zs:=[jV 0]) (cs:=[jV ao]) Z Z Z Z Z (wAG Z wAP) zG zE zy Z Z Z Z Z bz ?_))))
 intro bS bW cL
 let B4:Res:=.row (some ⟨bW,0,none⟩) 1 3 1 (hD KL.encI [ao])
 have bA:sW w U aO [B4,.blk b2 36 B0,B1] bS:=cL
 refine bnK de fun bN cu df=>yG (j:=2) (enc:=KL.encI) (xs:=aM) (ys:=[ao]) (zs:=bN) rfl rfl rfl rfl rfl yg wHd rfl rfl rfl rfl rfl rfl bA rfl rfl rfl (bA.srcR (j:=0) rfl (by decide) (wAD (f:=KL.encI) (sz:=1) (fun _=>rfl) [ao])) (fun _=>rfl) (fun _=>rfl) cu rfl ?_
 intro be bo bT cM
 have cN:sW w U aO [B4,.blk b2 36 B0,.row be bo 3 1 (hD KL.encI bN)] bT:=cM
 refine oA Z Z (zb (zl (zF (rR fL3 Z (oM Z aK (oR Z (za Z Z Z) (oA Z Z (zb ?_))))))))
 have q:=nB df
 obtain rfl:=q
 exact zF ⟨rfl,_,rfl,⟨aO,be,bo,af,rfl,rfl,(((aN.trans ax).trans aQ).trans bL),(cN.pick [1,2] _ (by decide) rfl)⟩⟩
 have bJ:=a9;rw [if_neg au] at bJ;replace au:=zM au
 refine cF Z au (ZS (zf ?_))
 have q:=wAV bJ
 obtain ⟨dr,dg,bY⟩:=q
 have q:=cU dr bY
 obtain rfl:=q
 refine zf (ZN (zF (sR fL3 Z (oM Z bq (oA Z Z (oA Z Z (eN (zR ?_))))))))
 cases dg
 exact ⟨rfl,_,(wDk rfl rfl),aW,_,(a8.pick [1] _ (by decide) rfl),aH,aI,rfl,rfl⟩
 intro a5 dh
 refine ZK (nF (a5.out)) (sR fL2 Z (oA Z Z (oA Z Z (eN (zR (zT ?_))))))
 have cO:=bC.nilrow 3 1
 cases dh
 exact ⟨rfl,_,(wDk rfl rfl),aR,_,(cO.pick [0] _ (by decide) rfl),none,0,rfl,rfl⟩
 intro aZ di
 refine cT Z aZ (sR fL3 Z (oM Z Z (oA Z Z (oA Z Z (eN (zR (zT ?_)))))))
 have cP:=a7.nilrow 3 1
 cases di
 exact ⟨rfl,_,(wDk rfl rfl),U8,_,(cP.pick [0] _ (by decide) rfl),none,0,rfl,rfl⟩
end Go.Proofs.YtlnfbjphfoipaaaGreat
namespace Go.Proofs.YtlnfbjphfoipaaaGreat
open Go.KL
set_option maxHeartbeats 4000000
theorem wFN (p0:Int) (O:wAJ) (p2:Int) (ae:Nat) (w:World) (U:PHeap) (hS:St0 w U []) (af:Cl U ae 0 [jV p2]) {r:Bool} (hm:wCB p0 O p2=some r):Gv Tryz.prog 87 [jV p0,.agg #[jV O.Skier,jV O.Mat,jV O.Clock,jV O.Time],.pointer (some ⟨ae,0,none⟩)] w (wCF w [] U (fun U_ L_ v=>v=.bool r/\L_=[])):=by
 unfold wCB at hm
 refine Gv.of Tryz.func87 rfl Tryz.ntmps87 Tryz.results87 rfl (sR gEj rfl (zq (cs:=[jV O.Skier,jV O.Mat,jV O.Clock,jV O.Time]) rfl rfl rfl rfl rfl rfl (by rfl) hS ?_))
 intro W1 b2 ab
 refine oA Z Z (eN (sR fL4 Z (oM Z Z (oL Z (ab.ldC (f:=0) af (v:=jV p2) Z Z zK Z) (oR Z (yV Z Z Z) (oA Z Z (eN (zR ?_))))))))
 first | (obtain rfl:=nB hm) | cases hm
 exact ⟨rfl,_,(ZH rfl),U,_,(ab.pick [] _ (by decide) rfl),rfl,rfl⟩
theorem wFf (O:List Int) (ai:Option Addr) (aj:Nat) (w:World) (U:PHeap) (hS:St0 w U []) (ao:Sl U 1 ai aj O.length (hD KL.encI O)) {r:Int} (hm:wCm O=some r):Gv Tryz.prog 125 [.slice ai O.length aj] w (wCF w [] U (fun U_ L_ v=>v=jV r/\L_=[])):=by
 unfold wCm at hm
 refine Gv.of Tryz.func125 Z Tryz.ntmps125 Tryz.results125 Z (sR fL1 Z (oA Z Z (eN (zJ (sR fL3 Z (oM Z Z (oR Z (zi Z Z zG) (oR Z (ze Z Z Z) (eN ?_)))))))))
 by_cases c1:(↑O.length:Int) < 1
 have ap:=hm;rw [if_pos c1] at ap;replace c1:=zM c1
 refine cT Z c1 (rR gEn Z ?_)
 cases ap
 have aq:=hm;rw [if_neg c1] at aq;replace c1:=zM c1
 refine cF Z c1 (kN (sR fL4 Z (oM Z Z (bnK aq fun x4 h5 aW=>?_))))
 have q:=ao.el (fun _=>rfl) (wAb h5)
 obtain ⟨b7,bc,aN,aO⟩:=q
 refine oR Z (ZZ Z Z aN Z zG zE (wCc h5)) (oL Z (hS.ldC (f:=0) aO (v:=jV x4) Z Z zK Z) (oA Z Z (eN (zJ (sR fL1 Z (oA Z Z (eN (zX (bnK aW fun be aR aU=>?_)))))))))
 have q:=wBn aR
 obtain ⟨ah,aS⟩:=q
 replace ah:=zM ah
 refine CK.forN' (fun ab av J_ w_=>∃ (U_:PHeap),J_ 4=jV (1 + ↑ab:Int)/\J_ 0=.slice ai O.length aj/\J_ 3=jV av/\PHeap.Le U U_/\sW w U U_ [] w_) aS ?_ ?_ ?_
 exact ⟨U,Z,Z,Z,(zQ _),hS⟩
 rintro ab av bd a0 a6 ag ⟨ax,ae,ac,aH,au,an⟩ aX
 have ak:Hid ((1 + ↑ab:Int) < (↑O.length:Int)):=zM (lp_lt ag)
 replace ag:=zM ag
 have aT:Hid (w64 ((1 + ↑ab:Int) + 1)=(1 + ↑(ab + 1):Int)):=zM (by have h1:=ah.out;have h2:=ak.out;rw [wAY] <;> omega)
 refine zJ (sR fL4 Z (oM Z ae (oM Z ac (oR Z (zi Z Z zG) (oR Z (ze Z Z Z) (eN (cT Z ak (kN (zJ (zX (rR fL7 Z (oM Z aH (oM Z ac (oM Z ae (bnK aX fun aY af aV=>?_)))))))))))))))
 have aL:=ao.le au
 have q:=aL.el (fun _=>rfl) (wAb af)
 obtain ⟨a8,bb,aM,aP⟩:=q
 refine oR Z (ZT Z Z aM Z zG zE (wBp af) (wBx af)) (oL Z (an.ldC (f:=0) aP (v:=jV aY) Z Z zK Z) (oR Z (Runs.max Z Z Z) (oA Z Z (zb (zl (zF (rR fL3 Z (oM Z ae (oR Z (ZP (za Z Z Z) (congrArg (jV) aT.out)) (oA Z Z (zb ?_)))))))))))
 cases aV
 exact zF ⟨Z,⟨ax,Z,ac,Z,au,an⟩⟩
 rintro a5 a7 ⟨ay,aK,aI,aJ,ba,aQ⟩
 have az:Hid (¬ ((1 + ↑(((↑O.length:Int):Int) - 1).toNat:Int) < (↑O.length:Int))):=zM (wOG)
 refine zJ (sR fL4 Z (oM Z aK (oM Z aI (oR Z (zi Z Z zG) (oR Z (ze Z Z Z) (eN (cF Z az (ZS (zf (zf (ZN (zF (sR fL2 Z (oM Z aJ (oA Z Z (eN (zR ?_)))))))))))))))))
 have hE:=nB aU;first | subst r | cases hE
 exact ⟨Z,_,(ZH Z),ay,_,aQ,Z,Z⟩
theorem wJo (O:List Int) (aa:Option Addr) (ab:Nat) (w:World) (U:PHeap) (hS:St0 w U []) (ai:Sl U 1 aa ab O.length (hD KL.encI O)) {r:Int} (hm:wEX O=some r):Gv Tryz.prog 88 [.slice aa O.length ab] w (wCF w [] U (fun U_ L_ v=>v=jV r/\L_=[])):=by
 unfold wEX at hm
 refine Gv.of Tryz.func88 Z Tryz.ntmps88 Tryz.results88 Z (sR fL1 Z (oA Z Z (eN (sR gEt Z (oM Z Z (bnK hm fun x1 h2 aj=>zC 0 Z Z Z Z (zD Z Z Tryz.call125 (zB Z zL) Z) hS (fun hs=>wFf O aa ab w U hs ai h2) (.inr Z) ?_))))))
 rintro U4 L5 v6 W7 am ah ⟨rfl,rfl⟩
 have ag:sW w U U4 [] W7:=ah
 refine oA Z Z (eN (zR ?_))
 have hE:=nB aj;first | subst r | cases hE
 exact ⟨Z,_,(ZH Z),U4,_,ag,Z,Z⟩
theorem wIT (p0:wAA) (bI:Option Addr) (bL:Nat) (bJ:Option Addr) (bM:Nat) (bK:Option Addr) (bN:Nat) (a9:Option Addr) (ba:Nat) (p1:wAL) (w:World) (U:PHeap) (hS:St0 w U []) (pO:Sl U 1 bI bL p0.Starts.length (hD KL.encI p0.Starts)) (pP:Sl U 2 bJ bM p0.Splits.length (hD wAC p0.Splits)) (pQ:Sl U 3 bK bN p0.Clocks.length (hD wAE p0.Clocks)) (pR:Sl U 4 a9 ba p0.Readings.length (hD wAB p0.Readings)) {r:(List Int) × Int} (hm:wCi p0 p1=some r):Gv Tryz.prog 29 [.agg #[.slice bI p0.Starts.length bL,.slice bJ p0.Splits.length bM,.slice bK p0.Clocks.length bN,.slice a9 p0.Readings.length ba],.agg #[jV p1.Skier,jV p1.Mat]] w (wCF w [] U (fun U_ L_ v=>∃ (A0:Option Addr) (c0:Nat),v=.tuple #[.slice A0 r.1.length c0,jV r.2]/\L_=[.row A0 c0 3 1 (hD KL.encI r.1)])):=by
 unfold wCi at hm
 refine Gv.of Tryz.func29 Z Tryz.ntmps29 Tryz.results29 Z (sR gFb Z ?_)
 let B0:List Value:=[.slice bI p0.Starts.length bL,.slice bJ p0.Splits.length bM,.slice bK p0.Clocks.length bN,.slice a9 p0.Readings.length ba]
 refine zq (cs:=B0) rfl rfl rfl rfl rfl rfl (by rfl) hS ?_
 intro W1 b2 mZ
 let O:List Value:=[jV p1.Skier,jV p1.Mat]
 refine zq (cs:=O) rfl rfl rfl rfl rfl rfl (by rfl) mZ ?_
 intro W5 b6 d4
 refine oA Z Z (oA Z Z (eN (sR (.fl 0 (.fl 1 (.fx 2 (.fx 3 (wNm (.nil)) .stop) .stop))) Z (oL Z (d4.ldBA (j:=1) Z Z Z zn zc (vs:=B0) Z Z) (oL Z (d4.ldBA (j:=0) Z Z Z Zp ZR (vs:=O) Z Z) (ZC (pv:=[(0,.agg O.toArray)]) (zs:=[jV 0,jV 0]) (cs:=O) Z Z Z Z Z (wAG Z wAP) Zm ZR yC Z Z Z Z Z d4 ?_))))))
 intro W9 ff mz
 have mF:sW w U U [.row (some ⟨ff,0,none⟩) 1 29 2 (hD wAT [p1]),.blk b6 29 O,.blk b2 27 B0] W9:=mz
 have q:=mF.freezeR (k:=0) (n:=[p1].length) rfl (wAD (f:=wAT) (sz:=2) (fun _=>rfl) [p1]) (by decide)
 obtain ⟨eG,db,qe,mG⟩:=q
 have mH:sW w U eG [.blk b6 29 O,.blk b2 27 B0] W9:=mG
 have dT:=pO.le db
 have dU:=pP.le db
 have dV:=pQ.le db
 have dW:=pR.le db
 have q:=bnd hm
 obtain ⟨⟨qu,gg⟩,iB,cx⟩:=q
 try dsimp only at cx
 refine zC 0 Z Z Z Z (zD Z Z Tryz.call63 (zB Z (zB Z zL)) Z) mH (fun hs=>wEk p0 bI bL bJ bM bK bN a9 ba [p1] (some ⟨ff,0,none⟩) 1 W9 eG hs dT dU dV dW qe iB) (.inr Z) ?_
 rintro aO qG rN bj aR fQ fM
 rcases qu with _ | aP
 try dsimp only at cx
 obtain ⟨rfl,rfl⟩:=fM
 have fS:sW w U aO [.blk b6 29 O,.blk b2 27 B0] bj:=fQ
 refine oM Z Z (oR Z (zV Z Z (v:=.pointer none) Z) (oR Z (zV Z Z (v:=jV gg) Z) (oA Z Z (oA Z Z (eN (zJ (sR fL2 Z (oM Z Z (oR Z (Zb Z Z Z) (eN (ifc cx ?_ ?_)))))))))))
 intro dP pZ
 refine zr (ZL (fun h=>h dP.out)) (kN (zJ (bnK pZ fun sg fL p8=>bnK p8 fun sh dY da=>ZI ZD [3,2,1,2,0,2,0] gFf (by kernel_rfl) ?_)))
 have cZ:=fS.drew
 generalize hw_W75:({ bj with drawn:=bj.drawn + 1 }:World)=gT at cZ ⊢
 refine oM Z Z (oL Z (cZ.ldBA (j:=0) Z Z Z Zp ZR (vs:=O) Z Z) (ZB ?_ ?_))
 refine zC 0 Z Z Z Z (zD Z Z yF zL Z) cZ (fun hs=>wAw gT aO hs fL) (.inr Z) ?_
 rintro dD qW r9 fb rC pf ⟨rfl,rfl⟩
 have fW:sW w U dD [.blk b6 29 O,.blk b2 27 B0] fb:=pf
 refine ZB ?_ ?_
 refine zC 0 Z Z Z Z (zD Z Z yJ (zB Z zL) Z) fW (fun hs=>wBj p1 fb dD hs dY) (.inr Z) ?_
 rintro gt q0 sd gX rD pB ⟨rfl,rfl⟩
 have pC:sW w U gt [.blk b6 29 O,.blk b2 27 B0] gX:=pB
 refine ZB ?_ ?_
 cases da
 refine zU (cs:=[jV 0,jV 0]) Z Z Z Z Z zz Z pC ?_
 intro ri rk rx
 cases da
 refine zU (cs:=[jV 0,jV 0]) Z Z Z Z Z zz Z fW ?_
 intro ib ie pN
 refine zC 0 Z Z Z Z (zD Z Z yJ (zB Z zL) Z) pN (fun hs=>wBj p1 ib dD hs dY) (.inr Z) ?_
 rintro gj qz rF gx ry my ⟨rfl,rfl⟩
 have rq:sW w U gj [.blk ie 39 [jV 0,jV 0],.blk b6 29 O,.blk b2 27 B0] gx:=my
 cases da
 let B2:List Value:=[jV 0,jV 0]
 refine zU (cs:=B2) Z Z Z Z Z zz Z cZ ?_
 intro gy fg mA
 refine zC 0 Z Z Z Z (zD Z Z yF zL Z) mA (fun hs=>wAw gy aO hs fL) (.inr Z) ?_
 rintro eF qA rG eR rz mB ⟨rfl,rfl⟩
 have mC:sW w U eF [.blk fg 39 B2,.blk b6 29 O,.blk b2 27 B0] eR:=mB
 refine zC 0 Z Z Z Z (zD Z Z yJ (zB Z zL) Z) mC (fun hs=>wBj p1 eR eF hs dY) (.inr Z) ?_
 rintro gk qB rH gz rA mD ⟨rfl,rfl⟩
 have rv:sW w U gk [.blk fg 39 B2,.blk b6 29 O,.blk b2 27 B0] gz:=mD
 cases da
 intro dP pU
 refine cT Z dP (sR fL3 Z (oM Z Z (oA Z Z (oA Z Z (eN (zR (zT ?_)))))))
 have mE:=fS.nilrow 3 1
 cases pU
 exact ⟨rfl,_,(wDk rfl rfl),aO,_,(mE.pick [0] _ (by decide) rfl),none,0,rfl,rfl⟩
 try dsimp only at cx
 obtain ⟨bm,bO,cd,bP,cf,bQ,cg,bR,cj,ae,ag,af,bS,cm,rfl,rfl,cK,cL,cM,cN,cO,cP⟩:=fM
 let B3:Res:=.blk bm 139 [.slice bO aP.Race.Starts.length cd,.slice bP aP.Race.Splits.length cf,.slice bQ aP.Race.Clocks.length cg,.slice bR aP.Race.Readings.length cj,.map (some ae),.slice bS aP.edges.length cm]
 have fN:sW w U aO [B3,.obj ae (.map ag af),.blk b6 29 O,.blk b2 27 B0] bj:=fQ
 refine oM Z Z (oR Z (zV Z Z (v:=.pointer (some ⟨bm,0,none⟩)) Z) (oR Z (zV Z Z (v:=jV gg) Z) (oA Z Z (oA Z Z (eN (zJ (sR fL2 Z (oM Z Z (oR Z (Zb Z Z Z) (eN (ifc cx ?_ ?_)))))))))))
 intro dO pV
 refine zr (ZL (fun h=>h dO.out)) (kN ?_)
 have q:=bnd pV
 obtain ⟨⟨aV,aW⟩,qn,f5⟩:=q
 try dsimp only at f5
 let B4:List Value:=[jV aV,jV aW]
 refine yX (fun J_ w_=>∃ (U_:PHeap) (ai:Nat),J_ 2=.pointer (some ⟨b2,0,none⟩)/\J_ 3=.pointer (some ⟨b6,0,none⟩)/\J_ 8=.pointer (some ⟨ai,0,none⟩)/\PHeap.Le aO U_/\sW w U U_ [B3,.obj ae (.map ag af),.blk b6 29 O,.blk b2 27 B0,.blk ai 39 B4] w_) ?_ ?_
 refine bnK qn fun dd fJ pW=>bnK pW fun de dS pX=>bnK pX fun aX cQ c6=>ZI ZD [3,2,1,2,0,2,0] gFf (by kernel_rfl) ?_
 have cY:=fN.drew
 generalize hw_W200:({ bj with drawn:=bj.drawn + 1 }:World)=gA at cY ⊢
 refine oM Z Z (oL Z (cY.ldBA (j:=2) Z Z Z Zp ZR (vs:=O) Z Z) (ZB ?_ ?_))
 refine zC 0 Z Z Z Z (zD Z Z yF zL Z) cY (fun hs=>wAw gA aO hs fJ) (.inr Z) ?_
 rintro dl qC rI eS ay mI ⟨rfl,rfl⟩
 have fO:sW w U dl [B3,.obj ae (.map ag af),.blk b6 29 O,.blk b2 27 B0] eS:=mI
 refine ZB ?_ ?_
 refine zC 0 Z Z Z Z (zD Z Z yJ (zB Z zL) Z) fO (fun hs=>wBj p1 eS dl hs dS) (.inr Z) ?_
 rintro cE qD rJ eU aJ mJ ⟨rfl,rfl⟩
 have fP:sW w U cE [B3,.obj ae (.map ag af),.blk b6 29 O,.blk b2 27 B0] eU:=mJ
 refine ZB ?_ ?_
 have iq:=cK.le ay
 have ir:=iq.le aJ
 have it:=cL.le ay
 have iu:=it.le aJ
 have iv:=cM.le ay
 have iw:=iv.le aJ
 have ix:=cN.le ay
 have iy:=ix.le aJ
 have iz:=cP.le ay
 have iA:=iz.le aJ
 refine zC 2 Z Z Z Z (zD Z Z yk (zB Z (zB Z (zB Z zL))) Z) fP (fun hs=>wAm aP bm bO cd bP cf bQ cg bR cj ae ag af bS cm dd de eU cE hs ir iu iw iy cO iA cQ) (.inl Z) ?_
 rintro dm qE rK gB qq mK ⟨rfl,rfl⟩
 have mL:sW w U dm [B3,.obj ae (.map ag af),.blk b6 29 O,.blk b2 27 B0] gB:=mK
 refine zU (cs:=[jV 0,jV 0]) Z Z Z Z Z zz Z mL ?_
 intro q8 fh mM
 let B5:List Value:=[jV aX.Lo,jV aX.Hi]
 refine zY (j:=0) (vs:=B5) Z Z Z Z mM Z Z Z Z zm (zA Z) Z Z Z ?_
 intro gC mN
 have mO:sW w U dm [.blk fh 39 B5,B3,.obj ae (.map ag af),.blk b6 29 O,.blk b2 27 B0] gC:=mN
 refine zb ?_
 cases c6
 exact zF ⟨rfl,⟨dm,fh,rfl,rfl,rfl,((ay.trans aJ).trans qq),(mO.pick [1,2,3,4,0] _ (by decide) rfl)⟩⟩
 let B6:List Value:=[jV 0,jV 0]
 refine zU (cs:=B6) Z Z Z Z Z zz Z fP ?_
 intro eV cI mP
 have iC:=cK.le ay
 have iD:=iC.le aJ
 have iE:=cL.le ay
 have iF:=iE.le aJ
 have iG:=cM.le ay
 have iH:=iG.le aJ
 have iI:=cN.le ay
 have iJ:=iI.le aJ
 have iK:=cP.le ay
 have iL:=iK.le aJ
 have mQ:sW w U cE [B3,.obj ae (.map ag af),.blk cI 39 B6,.blk b6 29 O,.blk b2 27 B0] eV:=mP.pick [1,2,0,3,4] _ (by decide) rfl
 refine zC 2 Z Z Z Z (zD Z Z yk (zB Z (zB Z (zB Z zL))) Z) mQ (fun hs=>wAm aP bm bO cd bP cf bQ cg bR cj ae ag af bS cm dd de eV cE hs iD iF iH iJ cO iL cQ) (.inl Z) ?_
 rintro dp qF rL gD qr mR ⟨rfl,rfl⟩
 have mS:sW w U dp [B3,.obj ae (.map ag af),.blk cI 39 B6,.blk b6 29 O,.blk b2 27 B0] gD:=mR
 let B7:List Value:=[jV aX.Lo,jV aX.Hi]
 refine zY (j:=2) (vs:=B7) Z Z Z Z mS Z Z Z Z zm (zA Z) Z Z Z ?_
 intro gE mT
 have mU:sW w U dp [B3,.obj ae (.map ag af),.blk cI 39 B7,.blk b6 29 O,.blk b2 27 B0] gE:=mT
 refine zb ?_
 cases c6
 exact zF ⟨rfl,⟨dp,cI,rfl,rfl,rfl,((ay.trans aJ).trans qr),(mU.pick [0,1,3,4,2] _ (by decide) rfl)⟩⟩
 let B8:List Value:=[jV 0,jV 0]
 refine zU (cs:=B8) Z Z Z Z Z zz Z fO ?_
 intro gF ca mV
 refine zC 0 Z Z Z Z (zD Z Z yJ (zB Z zL) Z) mV (fun hs=>wBj p1 gF dl hs dS) (.inr Z) ?_
 rintro dq qH rM dG bu mW ⟨rfl,rfl⟩
 have mX:sW w U dq [.blk ca 39 B8,B3,.obj ae (.map ag af),.blk b6 29 O,.blk b2 27 B0] dG:=mW
 have iM:=cK.le ay
 have iN:=iM.le bu
 have iO:=cL.le ay
 have iP:=iO.le bu
 have iQ:=cM.le ay
 have iR:=iQ.le bu
 have iS:=cN.le ay
 have iT:=iS.le bu
 have iU:=cP.le ay
 have iV:=iU.le bu
 have mY:sW w U dq [B3,.obj ae (.map ag af),.blk ca 39 B8,.blk b6 29 O,.blk b2 27 B0] dG:=mX.pick [1,2,0,3,4] _ (by decide) rfl
 refine zC 2 Z Z Z Z (zD Z Z yk (zB Z (zB Z (zB Z zL))) Z) mY (fun hs=>wAm aP bm bO cd bP cf bQ cg bR cj ae ag af bS cm dd de dG dq hs iN iP iR iT cO iV cQ) (.inl Z) ?_
 rintro dr qI rO gG qs m3 ⟨rfl,rfl⟩
 have m4:sW w U dr [B3,.obj ae (.map ag af),.blk ca 39 B8,.blk b6 29 O,.blk b2 27 B0] gG:=m3
 let B9:List Value:=[jV aX.Lo,jV aX.Hi]
 refine zY (j:=2) (vs:=B9) Z Z Z Z m4 Z Z Z Z zm (zA Z) Z Z Z ?_
 intro gH m5
 have m6:sW w U dr [B3,.obj ae (.map ag af),.blk ca 39 B9,.blk b6 29 O,.blk b2 27 B0] gH:=m5
 refine zb ?_
 cases c6
 exact zF ⟨rfl,⟨dr,ca,rfl,rfl,rfl,((ay.trans bu).trans qs),(m6.pick [0,1,3,4,2] _ (by decide) rfl)⟩⟩
 let bX:List Value:=[jV 0,jV 0]
 refine zU (cs:=bX) Z Z Z Z Z zz Z cY ?_
 intro gI bk m7
 refine zC 0 Z Z Z Z (zD Z Z yF zL Z) m7 (fun hs=>wAw gI aO hs fJ) (.inr Z) ?_
 rintro eH qJ rP eW bv m8 ⟨rfl,rfl⟩
 have m9:sW w U eH [.blk bk 39 bX,B3,.obj ae (.map ag af),.blk b6 29 O,.blk b2 27 B0] eW:=m8
 refine zC 0 Z Z Z Z (zD Z Z yJ (zB Z zL) Z) m9 (fun hs=>wBj p1 eW eH hs dS) (.inr Z) ?_
 rintro dt qK rQ dH bw n3 ⟨rfl,rfl⟩
 have n4:sW w U dt [.blk bk 39 bX,B3,.obj ae (.map ag af),.blk b6 29 O,.blk b2 27 B0] dH:=n3
 have iW:=cK.le bv
 have iX:=iW.le bw
 have iY:=cL.le bv
 have iZ:=iY.le bw
 have i2:=cM.le bv
 have i4:=i2.le bw
 have i6:=cN.le bv
 have i8:=i6.le bw
 have i9:=cP.le bv
 have ja:=i9.le bw
 have n5:sW w U dt [B3,.obj ae (.map ag af),.blk bk 39 bX,.blk b6 29 O,.blk b2 27 B0] dH:=n4.pick [1,2,0,3,4] _ (by decide) rfl
 refine zC 2 Z Z Z Z (zD Z Z yk (zB Z (zB Z (zB Z zL))) Z) n5 (fun hs=>wAm aP bm bO cd bP cf bQ cg bR cj ae ag af bS cm dd de dH dt hs iX iZ i4 i8 cO ja cQ) (.inl Z) ?_
 rintro du qL rS gJ qt n6 ⟨rfl,rfl⟩
 have n7:sW w U du [B3,.obj ae (.map ag af),.blk bk 39 bX,.blk b6 29 O,.blk b2 27 B0] gJ:=n6
 let ep:List Value:=[jV aX.Lo,jV aX.Hi]
 refine zY (j:=2) (vs:=ep) Z Z Z Z n7 Z Z Z Z zm (zA Z) Z Z Z ?_
 intro gK n8
 have n9:sW w U du [B3,.obj ae (.map ag af),.blk bk 39 ep,.blk b6 29 O,.blk b2 27 B0] gK:=n8
 refine zb ?_
 cases c6
 exact zF ⟨rfl,⟨du,bk,rfl,rfl,rfl,((bv.trans bw).trans qt),(n9.pick [0,1,3,4,2] _ (by decide) rfl)⟩⟩
 rintro qv q9 ⟨eI,ai,fB,ij,ik,aS,fR⟩
 refine sR fL1 Z (oA Z Z (eN (zJ (sR fL4 Z (oR Z (zH Z fB zP Z Zk) (oL Z (fR.ldB (j:=3) Z Z Z Zr (v:=.slice a9 p0.Readings.length ba) Z) (oR Z (zi Z Z ZF) (oM Z Z (eN (zX (bnK f5 fun sl pS pY=>?_)))))))))))
 have q:=wBn pS
 obtain ⟨d7,pT⟩:=q
 replace d7:=zM d7
 refine CK.forN' (fun ax bt J_ w_=>∃ (U_:PHeap) (bb:Option Addr) (bo:Nat),J_ 30=jV (↑ax:Int)/\J_ 2=.pointer (some ⟨b2,0,none⟩)/\J_ 3=.pointer (some ⟨b6,0,none⟩)/\J_ 8=.pointer (some ⟨ai,0,none⟩)/\J_ 9=.slice bb bt.length bo/\J_ 29=jV (↑p0.Readings.length:Int)/\PHeap.Le eI U_/\sW w U U_ [B3,.obj ae (.map ag af),.blk b6 29 O,.blk b2 27 B0,.blk ai 39 B4,.row bb bo 3 1 (hD KL.encI bt)] w_) pT ?_ ?_ ?_
 have oa:=fR.nilrow 3 1
 exact ⟨eI,none,0,rfl,fB,ij,ik,rfl,rfl,(zQ _),(oa.pick [1,2,3,4,5,0] _ (by decide) rfl)⟩
 rintro ax bt sk qw rc d6 ⟨eJ,bb,bo,a8,bq,br,cr,ct,bs,aM,oc⟩ qo
 have ft:Hid ((↑ax:Int) < (↑p0.Readings.length:Int)):=zM (wBQ d6)
 replace d6:=zM d6
 have fZ:Hid (w64 ((↑ax:Int) + 1)=(↑(ax + 1):Int)):=zM (by have h1:=d7.out;have h2:=ft.out;rw [wAY] <;> omega)
 refine sR fL1 Z (oR Z (ze Z a8 bs) (eN (zJ (cT Z ft (kN (zJ (zX (sR (.fl 0 (.fx 1 (.fx 2 .nil .stop) .stop)) Z (oM Z a8 (zU (cs:=[jV 0]) Z Z Z Z Z zy Z oc ?_))))))))))
 intro rd aI od
 let bY:List Value:=[jV (↑ax:Int)]
 refine zY (j:=0) (vs:=bY) Z Z Z Z od Z Z Z Z zE (zA Z) Z Z Z ?_
 intro dI oe
 let ak:Res:=.row bb bo 3 1 (hD KL.encI bt)
 have og:sW w U eJ [.blk aI 3 bY,B3,.obj ae (.map ag af),.blk b6 29 O,.blk b2 27 B0,.blk ai 39 B4,ak] dI:=oe
 refine eN ?_
 have q:=bnd qo
 obtain ⟨⟨aY,aZ⟩,qp,f6⟩:=q
 try dsimp only at f6
 let bd:List Value:=[jV aY,jV aZ]
 refine yX (fun J_ w_=>∃ (U_:PHeap) (aQ:Nat),J_ 2=.pointer (some ⟨b2,0,none⟩)/\J_ 3=.pointer (some ⟨b6,0,none⟩)/\J_ 8=.pointer (some ⟨ai,0,none⟩)/\J_ 9=.slice bb bt.length bo/\J_ 10=.pointer (some ⟨aI,0,none⟩)/\J_ 11=.pointer (some ⟨aQ,0,none⟩)/\J_ 29=jV (↑p0.Readings.length:Int)/\J_ 30=jV (↑ax:Int)/\PHeap.Le eJ U_/\sW w U U_ [B3,.obj ae (.map ag af),.blk b6 29 O,.blk b2 27 B0,.blk ai 39 B4,ak,.blk aQ 39 bd] w_/\Cl U_ aI 0 bY) ?_ ?_
 refine bnK qp fun am fK p5=>bnK p5 fun cz dX p6=>bnK p6 fun cA cR p7=>bnK p7 fun aN cu cy=>ZI ZD [1,3,2,2,1,2,0,2,0] (.fl 0 (.fl 1 (.fl 4 (.fx 2 (.fx 3 (.fx 5 (.fx 6 (.fx 7 (.fx 8 .nil .stop) .stop) (.fx 7 gEp .stop)) (.fx 7 gEy .stop)) (.fx 7 gFc .stop)) (.fx 7 (.fx 2 gFc .stop) .stop))))) (by kernel_rfl) ?_
 have dZ:=og.drew
 generalize hw_W537:({ dI with drawn:=dI.drawn + 1 }:World)=eZ at dZ ⊢
 refine oL Z (dZ.ldBA (j:=4) Z Z bq zn zc (vs:=B0) Z Z) ?_
 have q:=dZ.freeze (k:=0) rfl
 obtain ⟨bi,aH,aL,oh⟩:=q
 replace aL:=Cl.of aL
 have d3:sW w U bi [B3,.obj ae (.map ag af),.blk b6 29 O,.blk b2 27 B0,.blk ai 39 B4,ak] eZ:=oh
 replace aL:Cl bi aI 0 bY:=aL
 refine oR Z (Runs.mkf Z zL (zB Z zL)) (oL Z (d3.ldBA (j:=2) Z Z br Zp ZR (vs:=O) Z Z) (ZB ?_ ?_))
 have jb:=dT.le aR
 have jc:=jb.le aS
 have jd:=jc.le aM
 have je:=jd.le aH
 have jf:=dU.le aR
 have jg:=jf.le aS
 have jh:=jg.le aM
 have ji:=jh.le aH
 have jj:=dV.le aR
 have jk:=jj.le aS
 have jl:=jk.le aM
 have jm:=jl.le aH
 have jo:=dW.le aR
 have jp:=jo.le aS
 have jq:=jp.le aM
 have jr:=jq.le aH
 have mu:FnOK Tryz.prog bi (.func (.func 87) #[] #[.pointer (some ⟨aI,0,none⟩)]) wKi wKj (fun x=>wCB x.1 x.2 (↑ax:Int)):=⟨87,[],[.pointer (some ⟨aI,0,none⟩)],rfl,Tryz.call87,fun U1 w1 x y vs le hs ha hm=>by obtain rfl:=ha;exact wFN x.1 x.2 (↑ax:Int) aI w1 U1 hs (aL.le le) hm⟩
 refine zC 0 Z Z Z Z (zD Z Z Tryz.call82 (zB Z (zB Z zL)) Z) d3 (fun hs=>wCX p0 bI bL bJ bM bK bN a9 ba (fun x=>wCB x.1 x.2 (↑ax:Int)) (.func (.func 87) #[] #[.pointer (some ⟨aI,0,none⟩)]) eZ bi hs je ji jm jr mu fK) (.inr Z) ?_
 rintro dv qM rT e6 aT oi ⟨cb,bT,cn,bU,co,bV,cp,bW,cq,an,aq,ap,bc,bp,rfl,rfl,cS,cU,cV,cW,cX⟩
 let au:Res:=.blk cb 139 [.slice bT am.Race.Starts.length cn,.slice bU am.Race.Splits.length co,.slice bV am.Race.Clocks.length cp,.slice bW am.Race.Readings.length cq,.map (some an),.slice bc am.edges.length bp]
 let be:Res:=.row bc bp 184 7 (hD wAO am.edges)
 have fT:sW w U dv [au,.obj an (.map aq ap),be,B3,.obj ae (.map ag af),.blk b6 29 O,.blk b2 27 B0,.blk ai 39 B4,ak] e6:=oi
 refine ZB ?_ ?_
 refine zC 0 Z Z Z Z (zD Z Z yF zL Z) fT (fun hs=>wAw e6 dv hs dX) (.inr Z) ?_
 rintro dw qN rV e8 az oj ⟨rfl,rfl⟩
 have fU:sW w U dw [au,.obj an (.map aq ap),be,B3,.obj ae (.map ag af),.blk b6 29 O,.blk b2 27 B0,.blk ai 39 B4,ak] e8:=oj
 refine ZB ?_ ?_
 refine zC 0 Z Z Z Z (zD Z Z yJ (zB Z zL) Z) fU (fun hs=>wBj p1 e8 dw hs cR) (.inr Z) ?_
 rintro gm qO rW dJ aK ol ⟨rfl,rfl⟩
 have fV:sW w U gm [au,.obj an (.map aq ap),be,B3,.obj ae (.map ag af),.blk b6 29 O,.blk b2 27 B0,.blk ai 39 B4,ak] dJ:=ol
 refine ZB ?_ ?_
 have q:=fV.freezeR (k:=2) (n:=am.edges.length) rfl (wAD (f:=wAO) (sz:=7) (fun _=>rfl) am.edges) (by decide)
 obtain ⟨eK,bx,qf,om⟩:=q
 have oo:sW w U eK [au,.obj an (.map aq ap),B3,.obj ae (.map ag af),.blk b6 29 O,.blk b2 27 B0,.blk ai 39 B4,ak] dJ:=om
 have jt:=cS.le az
 have ju:=jt.le aK
 have jv:=ju.le bx
 have jw:=cU.le az
 have jx:=jw.le aK
 have jy:=jx.le bx
 have jz:=cV.le az
 have jA:=jz.le aK
 have jB:=jA.le bx
 have jC:=cW.le az
 have jD:=jC.le aK
 have jE:=jD.le bx
 refine zC 2 Z Z Z Z (zD Z Z yk (zB Z (zB Z (zB Z zL))) Z) oo (fun hs=>wAm am cb bT cn bU co bV cp bW cq an aq ap bc bp cz cA dJ eK hs jv jy jB jE cX qf cu) (.inl Z) ?_
 rintro dx qP rX gL f7 oq ⟨rfl,rfl⟩
 have ot:sW w U dx [au,.obj an (.map aq ap),B3,.obj ae (.map ag af),.blk b6 29 O,.blk b2 27 B0,.blk ai 39 B4,ak] gL:=oq
 refine zU (cs:=[jV 0,jV 0]) Z Z Z Z Z zz Z ot ?_
 intro rf fj ou
 let er:List Value:=[jV aN.Lo,jV aN.Hi]
 refine zY (j:=0) (vs:=er) Z Z Z Z ou Z Z Z Z zm (zA Z) Z Z Z ?_
 intro gM ov
 have ow:sW w U dx [.blk fj 39 er,au,.obj an (.map aq ap),B3,.obj ae (.map ag af),.blk b6 29 O,.blk b2 27 B0,.blk ai 39 B4,ak] gM:=ov
 refine zb ?_
 cases cy
 have jF:=aL.le aT
 have jG:=jF.le az
 have jH:=jG.le aK
 have jI:=jH.le bx
 have jJ:=jI.le f7
 exact zF ⟨rfl,⟨dx,fj,bq,br,cr,ct,rfl,rfl,bs,a8,(((((aH.trans aT).trans az).trans aK).trans bx).trans f7),(ow.pick [3,4,5,6,7,8,0] _ (by decide) rfl),jJ⟩⟩
 let cC:List Value:=[jV 0,jV 0]
 refine zU (cs:=cC) Z Z Z Z Z zz Z fV ?_
 intro dK cc ox
 have q:=ox.freezeR (k:=3) (n:=am.edges.length) rfl (wAD (f:=wAO) (sz:=7) (fun _=>rfl) am.edges) (by decide)
 obtain ⟨dy,bz,qh,oy⟩:=q
 have oz:sW w U dy [.blk cc 39 cC,au,.obj an (.map aq ap),B3,.obj ae (.map ag af),.blk b6 29 O,.blk b2 27 B0,.blk ai 39 B4,ak] dK:=oy
 have jK:=cS.le az
 have jL:=jK.le aK
 have jM:=jL.le bz
 have jN:=cU.le az
 have jO:=jN.le aK
 have jP:=jO.le bz
 have jQ:=cV.le az
 have jR:=jQ.le aK
 have jS:=jR.le bz
 have jT:=cW.le az
 have jU:=jT.le aK
 have jW:=jU.le bz
 have oB:sW w U dy [au,.obj an (.map aq ap),.blk cc 39 cC,B3,.obj ae (.map ag af),.blk b6 29 O,.blk b2 27 B0,.blk ai 39 B4,ak] dK:=oz.pick [1,2,0,3,4,5,6,7,8] _ (by decide) rfl
 refine zC 2 Z Z Z Z (zD Z Z yk (zB Z (zB Z (zB Z zL))) Z) oB (fun hs=>wAm am cb bT cn bU co bV cp bW cq an aq ap bc bp cz cA dK dy hs jM jP jS jW cX qh cu) (.inl Z) ?_
 rintro dz qQ rY gN f8 oC ⟨rfl,rfl⟩
 have oD:sW w U dz [au,.obj an (.map aq ap),.blk cc 39 cC,B3,.obj ae (.map ag af),.blk b6 29 O,.blk b2 27 B0,.blk ai 39 B4,ak] gN:=oC
 let eu:List Value:=[jV aN.Lo,jV aN.Hi]
 refine zY (j:=2) (vs:=eu) Z Z Z Z oD Z Z Z Z zm (zA Z) Z Z Z ?_
 intro gO oE
 have oG:sW w U dz [au,.obj an (.map aq ap),.blk cc 39 eu,B3,.obj ae (.map ag af),.blk b6 29 O,.blk b2 27 B0,.blk ai 39 B4,ak] gO:=oE
 refine zb ?_
 cases cy
 have jX:=aL.le aT
 have jY:=jX.le az
 have jZ:=jY.le aK
 have j0:=jZ.le bz
 have j5:=j0.le f8
 exact zF ⟨rfl,⟨dz,cc,bq,br,cr,ct,rfl,rfl,bs,a8,(((((aH.trans aT).trans az).trans aK).trans bz).trans f8),(oG.pick [3,4,5,6,7,8,2] _ (by decide) rfl),j5⟩⟩
 let bZ:List Value:=[jV 0,jV 0]
 refine zU (cs:=bZ) Z Z Z Z Z zz Z fU ?_
 intro gP bn oH
 refine zC 0 Z Z Z Z (zD Z Z yJ (zB Z zL) Z) oH (fun hs=>wBj p1 gP dw hs cR) (.inr Z) ?_
 rintro gp qR rZ cG bA oI ⟨rfl,rfl⟩
 have oJ:sW w U gp [.blk bn 39 bZ,au,.obj an (.map aq ap),be,B3,.obj ae (.map ag af),.blk b6 29 O,.blk b2 27 B0,.blk ai 39 B4,ak] cG:=oI
 have q:=oJ.freezeR (k:=3) (n:=am.edges.length) rfl (wAD (f:=wAO) (sz:=7) (fun _=>rfl) am.edges) (by decide)
 obtain ⟨dA,bB,qi,oK⟩:=q
 have oO:sW w U dA [.blk bn 39 bZ,au,.obj an (.map aq ap),B3,.obj ae (.map ag af),.blk b6 29 O,.blk b2 27 B0,.blk ai 39 B4,ak] cG:=oK
 have j6:=cS.le az
 have j7:=j6.le bA
 have j8:=j7.le bB
 have j9:=cU.le az
 have k5:=j9.le bA
 have k6:=k5.le bB
 have k7:=cV.le az
 have k8:=k7.le bA
 have k9:=k8.le bB
 have lb:=cW.le az
 have lf:=lb.le bA
 have lg:=lf.le bB
 have oP:sW w U dA [au,.obj an (.map aq ap),.blk bn 39 bZ,B3,.obj ae (.map ag af),.blk b6 29 O,.blk b2 27 B0,.blk ai 39 B4,ak] cG:=oO.pick [1,2,0,3,4,5,6,7,8] _ (by decide) rfl
 refine zC 2 Z Z Z Z (zD Z Z yk (zB Z (zB Z (zB Z zL))) Z) oP (fun hs=>wAm am cb bT cn bU co bV cp bW cq an aq ap bc bp cz cA cG dA hs j8 k6 k9 lg cX qi cu) (.inl Z) ?_
 rintro dB qS r0 gQ f9 oQ ⟨rfl,rfl⟩
 have oS:sW w U dB [au,.obj an (.map aq ap),.blk bn 39 bZ,B3,.obj ae (.map ag af),.blk b6 29 O,.blk b2 27 B0,.blk ai 39 B4,ak] gQ:=oQ
 let ew:List Value:=[jV aN.Lo,jV aN.Hi]
 refine zY (j:=2) (vs:=ew) Z Z Z Z oS Z Z Z Z zm (zA Z) Z Z Z ?_
 intro gR oU
 have oV:sW w U dB [au,.obj an (.map aq ap),.blk bn 39 ew,B3,.obj ae (.map ag af),.blk b6 29 O,.blk b2 27 B0,.blk ai 39 B4,ak] gR:=oU
 refine zb ?_
 cases cy
 have lh:=aL.le aT
 have li:=lh.le az
 have lj:=li.le bA
 have lk:=lj.le bB
 have ll:=lk.le f9
 exact zF ⟨rfl,⟨dB,bn,bq,br,cr,ct,rfl,rfl,bs,a8,(((((aH.trans aT).trans az).trans bA).trans bB).trans f9),(oV.pick [3,4,5,6,7,8,2] _ (by decide) rfl),ll⟩⟩
 let bf:List Value:=[jV 0,jV 0]
 refine zU (cs:=bf) Z Z Z Z Z zz Z fT ?_
 intro gS a0 oW
 refine zC 0 Z Z Z Z (zD Z Z yF zL Z) oW (fun hs=>wAw gS dv hs dX) (.inr Z) ?_
 rintro eL qT r6 e9 bC oX ⟨rfl,rfl⟩
 have oY:sW w U eL [.blk a0 39 bf,au,.obj an (.map aq ap),be,B3,.obj ae (.map ag af),.blk b6 29 O,.blk b2 27 B0,.blk ai 39 B4,ak] e9:=oX
 refine zC 0 Z Z Z Z (zD Z Z yJ (zB Z zL) Z) oY (fun hs=>wBj p1 e9 eL hs cR) (.inr Z) ?_
 rintro gq qU r7 cH bD oZ ⟨rfl,rfl⟩
 have o0:sW w U gq [.blk a0 39 bf,au,.obj an (.map aq ap),be,B3,.obj ae (.map ag af),.blk b6 29 O,.blk b2 27 B0,.blk ai 39 B4,ak] cH:=oZ
 have q:=o0.freezeR (k:=3) (n:=am.edges.length) rfl (wAD (f:=wAO) (sz:=7) (fun _=>rfl) am.edges) (by decide)
 obtain ⟨dC,bE,qj,o3⟩:=q
 have o5:sW w U dC [.blk a0 39 bf,au,.obj an (.map aq ap),B3,.obj ae (.map ag af),.blk b6 29 O,.blk b2 27 B0,.blk ai 39 B4,ak] cH:=o3
 have lm:=cS.le bC
 have ln:=lm.le bD
 have lp:=ln.le bE
 have ls:=cU.le bC
 have lu:=ls.le bD
 have lv:=lu.le bE
 have lw:=cV.le bC
 have lx:=lw.le bD
 have ly:=lx.le bE
 have lz:=cW.le bC
 have lA:=lz.le bD
 have lB:=lA.le bE
 have o6:sW w U dC [au,.obj an (.map aq ap),.blk a0 39 bf,B3,.obj ae (.map ag af),.blk b6 29 O,.blk b2 27 B0,.blk ai 39 B4,ak] cH:=o5.pick [1,2,0,3,4,5,6,7,8] _ (by decide) rfl
 refine zC 2 Z Z Z Z (zD Z Z yk (zB Z (zB Z (zB Z zL))) Z) o6 (fun hs=>wAm am cb bT cn bU co bV cp bW cq an aq ap bc bp cz cA cH dC hs lp lv ly lB cX qj cu) (.inl Z) ?_
 rintro dE qV r8 gU ga o7 ⟨rfl,rfl⟩
 have o8:sW w U dE [au,.obj an (.map aq ap),.blk a0 39 bf,B3,.obj ae (.map ag af),.blk b6 29 O,.blk b2 27 B0,.blk ai 39 B4,ak] gU:=o7
 let ey:List Value:=[jV aN.Lo,jV aN.Hi]
 refine zY (j:=2) (vs:=ey) Z Z Z Z o8 Z Z Z Z zm (zA Z) Z Z Z ?_
 intro gV o9
 have pd:sW w U dE [au,.obj an (.map aq ap),.blk a0 39 ey,B3,.obj ae (.map ag af),.blk b6 29 O,.blk b2 27 B0,.blk ai 39 B4,ak] gV:=o9
 refine zb ?_
 cases cy
 have lC:=aL.le aT
 have lD:=lC.le bC
 have lE:=lD.le bD
 have lF:=lE.le bE
 have lG:=lF.le ga
 exact zF ⟨rfl,⟨dE,a0,bq,br,cr,ct,rfl,rfl,bs,a8,(((((aH.trans aT).trans bC).trans bD).trans bE).trans ga),(pd.pick [3,4,5,6,7,8,2] _ (by decide) rfl),lG⟩⟩
 let bg:List Value:=[jV 0,jV 0]
 refine zU (cs:=bg) Z Z Z Z Z zz Z d3 ?_
 intro gW a5 pe
 have lH:=dT.le aR
 have lI:=lH.le aS
 have lJ:=lI.le aM
 have lK:=lJ.le aH
 have lL:=dU.le aR
 have lM:=lL.le aS
 have lN:=lM.le aM
 have lO:=lN.le aH
 have lP:=dV.le aR
 have lQ:=lP.le aS
 have lR:=lQ.le aM
 have lS:=lR.le aH
 have lT:=dW.le aR
 have lU:=lT.le aS
 have lV:=lU.le aM
 have lW:=lV.le aH
 have mw:FnOK Tryz.prog bi (.func (.func 87) #[] #[.pointer (some ⟨aI,0,none⟩)]) wKi wKj (fun x=>wCB x.1 x.2 (↑ax:Int)):=⟨87,[],[.pointer (some ⟨aI,0,none⟩)],rfl,Tryz.call87,fun U1 w1 x y vs le hs ha hm=>by obtain rfl:=ha;exact wFN x.1 x.2 (↑ax:Int) aI w1 U1 hs (aL.le le) hm⟩
 refine zC 0 Z Z Z Z (zD Z Z Tryz.call82 (zB Z (zB Z zL)) Z) pe (fun hs=>wCX p0 bI bL bJ bM bK bN a9 ba (fun x=>wCB x.1 x.2 (↑ax:Int)) (.func (.func 87) #[] #[.pointer (some ⟨aI,0,none⟩)]) gW bi hs lK lO lS lW mw fK) (.inr Z) ?_
 rintro eM qX sa fc gb pg ⟨fk,eh,fu,ej,fw,ek,fy,en,fz,aU,a7,a6,df,dQ,rfl,rfl,lX,lY,lZ,l0,l3⟩
 let bh:Res:=.blk fk 139 [.slice eh am.Race.Starts.length fu,.slice ej am.Race.Splits.length fw,.slice ek am.Race.Clocks.length fy,.slice en am.Race.Readings.length fz,.map (some aU),.slice df am.edges.length dQ]
 let dh:Res:=.row df dQ 184 7 (hD wAO am.edges)
 have ph:sW w U eM [bh,.obj aU (.map a7 a6),dh,.blk a5 39 bg,B3,.obj ae (.map ag af),.blk b6 29 O,.blk b2 27 B0,.blk ai 39 B4,ak] fc:=pg
 refine zC 0 Z Z Z Z (zD Z Z yF zL Z) ph (fun hs=>wAw fc eM hs dX) (.inr Z) ?_
 rintro eO qY sb fd bF pj ⟨rfl,rfl⟩
 have pk:sW w U eO [bh,.obj aU (.map a7 a6),dh,.blk a5 39 bg,B3,.obj ae (.map ag af),.blk b6 29 O,.blk b2 27 B0,.blk ai 39 B4,ak] fd:=pj
 refine zC 0 Z Z Z Z (zD Z Z yJ (zB Z zL) Z) pk (fun hs=>wBj p1 fd eO hs cR) (.inr Z) ?_
 rintro gu qZ sc dL bG pm ⟨rfl,rfl⟩
 have pn:sW w U gu [bh,.obj aU (.map a7 a6),dh,.blk a5 39 bg,B3,.obj ae (.map ag af),.blk b6 29 O,.blk b2 27 B0,.blk ai 39 B4,ak] dL:=pm
 have q:=pn.freezeR (k:=2) (n:=am.edges.length) rfl (wAD (f:=wAO) (sz:=7) (fun _=>rfl) am.edges) (by decide)
 obtain ⟨eP,bH,qk,po⟩:=q
 have pp:sW w U eP [bh,.obj aU (.map a7 a6),.blk a5 39 bg,B3,.obj ae (.map ag af),.blk b6 29 O,.blk b2 27 B0,.blk ai 39 B4,ak] dL:=po
 have l4:=lX.le bF
 have l5:=l4.le bG
 have l6:=l5.le bH
 have l7:=lY.le bF
 have l8:=l7.le bG
 have ma:=l8.le bH
 have mb:=lZ.le bF
 have mc:=mb.le bG
 have md:=mc.le bH
 have me:=l0.le bF
 have mf:=me.le bG
 have mg:=mf.le bH
 refine zC 2 Z Z Z Z (zD Z Z yk (zB Z (zB Z (zB Z zL))) Z) pp (fun hs=>wAm am fk eh fu ej fw ek fy en fz aU a7 a6 df dQ cz cA dL eP hs l6 ma md mg l3 qk cu) (.inl Z) ?_
 rintro dF q5 se gY ge pq ⟨rfl,rfl⟩
 have pu:sW w U dF [bh,.obj aU (.map a7 a6),.blk a5 39 bg,B3,.obj ae (.map ag af),.blk b6 29 O,.blk b2 27 B0,.blk ai 39 B4,ak] gY:=pq
 let eA:List Value:=[jV aN.Lo,jV aN.Hi]
 refine zY (j:=2) (vs:=eA) Z Z Z Z pu Z Z Z Z zm (zA Z) Z Z Z ?_
 intro gZ py
 have pz:sW w U dF [bh,.obj aU (.map a7 a6),.blk a5 39 eA,B3,.obj ae (.map ag af),.blk b6 29 O,.blk b2 27 B0,.blk ai 39 B4,ak] gZ:=py
 refine zb ?_
 cases cy
 have mh:=aL.le gb
 have mi:=mh.le bF
 have mj:=mi.le bG
 have mm:=mj.le bH
 have mn:=mm.le ge
 exact zF ⟨rfl,⟨dF,a5,bq,br,cr,ct,rfl,rfl,bs,a8,(((((aH.trans gb).trans bF).trans bG).trans bH).trans ge),(pz.pick [3,4,5,6,7,8,2] _ (by decide) rfl),mn⟩⟩
 rintro qx rh ⟨gv,aQ,fC,fD,cJ,fE,il,fG,fH,fI,gf,cw,mo⟩
 refine sR (wMY (.fx 10 (.fx 11 (.fl 12 .nil) .stop) .stop)) Z (oR Z (zH Z cJ ZJ Z zE) (oL Z (cw.ldB (j:=4) Z Z Z zK (v:=jV aV) Z) (oR Z (zH Z fG ZJ Z zE) (oL Z (cw.ldB (j:=6) Z Z Z zK (v:=jV aY) Z) (oR Z (yf Z Z Z) (oR Z (zH Z fG ZJ Z zE) (oL Z (cw.ldB (j:=6) Z Z Z zK (v:=jV aZ) Z) (oR Z (zH Z cJ ZJ Z zE) (oL Z (cw.ldB (j:=4) Z Z Z zK (v:=jV aW) Z) (oR Z (yf Z Z Z) (ZC (pv:=[(0,jV (w64 (aV - aY))),(1,jV (w64 (aZ - aW)))]) (zs:=[jV 0,jV 0]) (cs:=[jV (w64 (aV - aY)),jV (w64 (aZ - aW))]) Z Z Z Z Z (wAG Z (wAG Z wAP)) zG zE zy Z Z Z Z Z cw ?_)))))))))))
 intro dN fm pD
 have pE:sW w U gv [.row (some ⟨fm,0,none⟩) 2 3 1 (hD KL.encI [w64 (aV - aY),w64 (aZ - aW)]),B3,.obj ae (.map ag af),.blk b6 29 O,.blk b2 27 B0,.blk ai 39 B4,ak,.blk aQ 39 bd] dN:=pD
 have q:=pE.freezeR (k:=0) (n:=[w64 (aV - aY),w64 (aZ - aW)].length) rfl (wAD (f:=KL.encI) (sz:=1) (fun _=>rfl) [w64 (aV - aY),w64 (aZ - aW)]) (by decide)
 obtain ⟨eQ,d8,qm,pF⟩:=q
 have pG:sW w U eQ [B3,.obj ae (.map ag af),.blk b6 29 O,.blk b2 27 B0,.blk ai 39 B4,ak,.blk aQ 39 bd] dN:=pF
 refine bnK f6 fun sj mp p9=>zC 0 Z Z Z Z (zD Z Z Tryz.call88 (zB Z zL) Z) pG (fun hs=>wJo [w64 (aV - aY),w64 (aZ - aW)] (some ⟨fm,0,none⟩) 2 dN eQ hs qm mp) (.inr Z) ?_
 rintro b5 q6 sf g7 d9 pH ⟨rfl,rfl⟩
 have d5:sW w U b5 [B3,.obj ae (.map ag af),.blk b6 29 O,.blk b2 27 B0,.blk ai 39 B4,ak,.blk aQ 39 bd] g7:=pH
 refine oR Z (yQ Z Z Z) (eN (ifc p9 ?_ ?_))
 intro dR qa
 refine cT Z dR (rR gFe Z (oM Z fE ?_))
 have mq:=mo.le d8
 have mr:=mq.le d9
 refine oL Z (d5.ldC (f:=0) mr (v:=jV (↑ax:Int)) Z il zK Z) (ZC (pv:=[(0,jV (↑ax:Int))]) (zs:=[jV 0]) (cs:=bY) Z Z Z Z Z (wAG Z wAP) zG zE zy Z Z Z Z Z d5 ?_)
 intro g8 ic pI
 let eB:Res:=.row (some ⟨ic,0,none⟩) 1 3 1 (hD KL.encI [(↑ax:Int)])
 have fY:sW w U b5 [eB,B3,.obj ae (.map ag af),.blk b6 29 O,.blk b2 27 B0,.blk ai 39 B4,ak,.blk aQ 39 bd] g8:=pI
 refine bnK qa fun gh ms qb=>yG (j:=6) (enc:=KL.encI) (xs:=bt) (ys:=[(↑ax:Int)]) (zs:=gh) rfl rfl rfl rfl rfl yg wHd rfl rfl rfl rfl rfl rfl fY rfl rfl rfl (fY.srcR (j:=0) rfl (by decide) (wAD (f:=KL.encI) (sz:=1) (fun _=>rfl) [(↑ax:Int)])) (fun _=>rfl) (fun _=>rfl) ms rfl ?_
 intro eo fA g9 pJ
 have pK:sW w U b5 [eB,B3,.obj ae (.map ag af),.blk b6 29 O,.blk b2 27 B0,.blk ai 39 B4,.row eo fA 3 1 (hD KL.encI gh),.blk aQ 39 bd] g9:=pJ
 refine oA Z Z (zb (zl (zF (rR fL2 Z (oR Z (ZP (za Z fI Z) (congrArg (jV) fZ.out)) (oM Z Z (zb ?_)))))))
 cases qb
 exact zF ⟨rfl,⟨b5,eo,fA,rfl,fC,fD,cJ,rfl,fH,(((aM.trans gf).trans d8).trans d9),(pK.pick [1,2,3,4,5,6] _ (by decide) rfl)⟩⟩
 intro dR qc
 refine cF Z dR (Ze (zl (zF (rR fL2 Z (oR Z (ZP (za Z fI Z) (congrArg (jV) fZ.out)) (oM Z Z (zb ?_)))))))
 cases qc
 exact zF ⟨rfl,⟨b5,bb,bo,rfl,fC,fD,cJ,fE,fH,(((aM.trans gf).trans d8).trans d9),(d5.pick [0,1,2,3,4,5] _ (by decide) rfl)⟩⟩
 rintro qy rj ⟨gw,gi,ig,ip,rn,ro,rp,im,io,rE,pL⟩
 have ii:Hid (¬ ((↑(((↑p0.Readings.length:Int):Int) - 0).toNat:Int) < (↑p0.Readings.length:Int))):=zM (wAq)
 refine sR fL1 Z (oR Z (ze Z ip io) (eN (zJ (cF Z ii (ZS (zf (zf (ZN (zF (sR fL3 Z (oM Z im (oA Z Z (oA Z Z (eN (zR ?_)))))))))))))))
 cases pY
 exact ⟨rfl,_,(wDk rfl rfl),gw,_,(pL.pick [5] _ (by decide) rfl),gi,ig,rfl,rfl⟩
 intro dO qd
 refine cT Z dO (sR fL3 Z (oM Z Z (oA Z Z (oA Z Z (eN (zR (zT ?_)))))))
 have pM:=fN.nilrow 3 1
 cases qd
 exact ⟨rfl,_,(wDk rfl rfl),aO,_,(pM.pick [0] _ (by decide) rfl),none,0,rfl,rfl⟩
end Go.Proofs.YtlnfbjphfoipaaaGreat
namespace Go.Proofs.YtlnfbjphfoipaaaGreat
open Go.KL
set_option maxHeartbeats 4000000
theorem wEa (O:wAK) (ae:Option Addr) (ag:Nat) (af:Option Addr) (ah:Nat) (an:Option Addr) (ap:Nat) (ao:Option Addr) (aq:Nat) (p1:wAR) (w:World) (U:PHeap) (hS:St0 w U []) (aV:Sl U 1 ae ag O.Starts.length (hD KL.encI O.Starts)) (aW:Sl U 2 af ah O.Splits.length (hD wAC O.Splits)) (aX:Sl U 3 an ap O.Clocks.length (hD wAM O.Clocks)) (aY:Sl U 4 ao aq O.Readings.length (hD wAF O.Readings)) {r:Bool} (hm:wBv O p1=some r):Gv Tryz.prog 110 [.agg #[.slice ae O.Starts.length ag,.slice af O.Splits.length ah,.slice an O.Clocks.length ap,.slice ao O.Readings.length aq],.agg #[jV p1.Skier,jV p1.Mat]] w (wCF w [] U (fun U_ L_ v=>v=.bool r/\L_=[])):=by
 unfold wBv at hm
 refine Gv.of Tryz.func110 Z Tryz.ntmps110 Tryz.results110 Z (sR gEz Z ?_)
 let B0:List Value:=[.slice ae O.Starts.length ag,.slice af O.Splits.length ah,.slice an O.Clocks.length ap,.slice ao O.Readings.length aq]
 refine zq (cs:=B0) rfl rfl rfl rfl rfl rfl (by rfl) hS ?_
 intro W1 b2 aL
 let B1:List Value:=[jV p1.Skier,jV p1.Mat]
 refine zq (cs:=B1) rfl rfl rfl rfl rfl rfl (by rfl) aL ?_
 intro W5 b6 am
 refine oA Z Z (eN (sR (wFh (.fx 6 (wKb (.fx 13 (.fl 14 (.fl 15 .nil)) .stop)) .stop)) Z (oR Z (zH Z Z Tryz.runUnderlying44 Z zE) (oL Z (am.ldB (j:=0) Z Z Z zK (v:=jV p1.Skier) Z) (oR Z (zH Z Z zW Z zh) (oL Z (am.ldB (j:=1) Z Z Z zk (v:=.slice ae O.Starts.length ag) Z) (oR Z (zi Z Z zG) (oR Z (yf Z Z Z) (bnK hm fun x9 aI aO=>zC 0 Z Z Z Z (zD Z Z yr (zB Z (zB Z (zB Z zL))) Z) am (fun hs=>wBE p1.Skier 0 (w64 ((↑O.Starts.length:Int) - 1)) W5 U hs aI) (.inr Z) ?_)))))))))
 rintro ak aS a5 av aZ aK ⟨rfl,rfl⟩
 have ac:sW w U ak [.blk b6 44 B1,.blk b2 36 B0] av:=aK
 refine oM Z Z (ifc aO ?_ ?_)
 intro aa aP
 refine zw Z Z Z (zO Z Z (congrArg hH aa.out) Z) (zw Z Z Z (zO Z Z (congrArg hH aa.out) Z) (zw Z Z Z (zO Z Z (congrArg hH aa.out) Z) (zw Z Z Z (zO Z Z (congrArg hH aa.out) Z) (zw Z Z Z (zO Z Z (congrArg hH aa.out) Z) (ZA Z Z Z (zO Z Z (congrArg hH aa.out) Z) (oR Z (zS Z (congrArg hH aa.out) Z) (oA Z Z (eN (zR ?_)))))))))
 have hE:=nB aP;first | subst r | cases hE
 exact ⟨rfl,_,(ZH rfl),ak,_,(ac.pick [] _ (by decide) rfl),rfl,rfl⟩
 intro aa aQ
 refine zg Z Z Z (zN Z Z (congrArg hH (nA.2 aa.out))) (fun _=>zH Z Z Tryz.runUnderlying44 Z zE) (zx Z Z Z (zN Z Z (congrArg hH (nA.2 aa.out))) (ac.ldB (j:=0) Z Z Z zK (v:=jV p1.Mat) Z) Z (zg Z Z Z (zN Z Z (congrArg hH (nA.2 aa.out))) (fun _=>zH Z Z zW Z Zf) (zx Z Z Z (zN Z Z (congrArg hH (nA.2 aa.out))) (ac.ldB (j:=1) Z Z Z Zl (v:=.slice af O.Splits.length ah) Z) Z (zg Z Z Z (zN Z Z (congrArg hH (nA.2 aa.out))) (fun _=>zi Z Z ZG) (bnK aQ fun a7 aJ aR=>zC 0 Z Z Z (zN Z Z (congrArg hH (nA.2 aa.out))) (zD Z Z yr (zB Z (zB Z (zB Z zL))) Z) ac (fun hs=>wBE p1.Mat 0 (↑O.Splits.length:Int) av ak hs aJ) (.inr Z) ?_)))))
 rintro au aT a6 az a0 aM ⟨rfl,rfl⟩
 have aN:sW w U au [.blk b6 44 B1,.blk b2 36 B0] az:=aM
 refine oR Z (zZ Z (congrArg hH (nA.2 aa.out)) Z) (oA Z Z (eN (zR ?_)))
 have hE:=nB aR;first | subst r | cases hE
 exact ⟨rfl,_,(ZH rfl),au,_,(aN.pick [] _ (by decide) rfl),rfl,rfl⟩
theorem wFO (O:wAK) (ab:Option Addr) (ag:Nat) (ac:Option Addr) (ah:Nat) (ae:Option Addr) (ai:Nat) (af:Option Addr) (aj:Nat) (w:World) (U:PHeap) (hS:St0 w U []) (az:Sl U 1 ab ag O.Starts.length (hD KL.encI O.Starts)) (aH:Sl U 2 ac ah O.Splits.length (hD wAC O.Splits)) (aI:Sl U 3 ae ai O.Clocks.length (hD wAM O.Clocks)) (aJ:Sl U 4 af aj O.Readings.length (hD wAF O.Readings)) {r:Int} (hm:wCC O=some r):Gv Tryz.prog 38 [.agg #[.slice ab O.Starts.length ag,.slice ac O.Splits.length ah,.slice ae O.Clocks.length ai,.slice af O.Readings.length aj]] w (wCF w [] U (fun U_ L_ v=>v=jV r/\L_=[])):=by
 unfold wCC at hm
 refine Gv.of Tryz.func38 Z Tryz.ntmps38 Tryz.results38 Z (sR gEj Z ?_)
 let B0:List Value:=[.slice ab O.Starts.length ag,.slice ac O.Splits.length ah,.slice ae O.Clocks.length ai,.slice af O.Readings.length aj]
 refine zq (cs:=B0) rfl rfl rfl rfl rfl rfl (by rfl) hS ?_
 intro W1 b2 ax
 refine oA Z Z (eN (zJ (sR gEt Z (oL Z (ax.ldBA (j:=0) Z Z Z ZX ZO (vs:=B0) Z Z) (bnK hm fun x5 h6 aZ=>zC 0 Z Z Z Z (zD Z Z Tryz.call34 (zB Z zL) Z) ax (fun hs=>wCN O ab ag ac ah ae ai af aj W1 U hs az aH aI aJ h6) (.inr Z) ?_)))))
 rintro U8 L9 a7 au ak aS ⟨rfl,rfl⟩
 have aq:sW w U U8 [.blk b2 36 B0] au:=aS
 refine oA Z Z (eN (sR fL2 Z (oM Z Z (oR Z (Zb Z Z Z) (eN (ifc aZ ?_ ?_))))))
 intro ao aU
 refine zr (ZL (fun h=>h ao.out)) (kN (zJ (sR (.fl 0 (.fx 1 .nil .stop)) Z (oL Z (aq.ldBA (j:=0) Z Z Z ZX ZO (vs:=B0) Z Z) ?_))))
 have aM:=az.le ak
 have aN:=aH.le ak
 have aO:=aI.le ak
 have aP:=aJ.le ak
 refine bnK aU fun a9 aQ aV=>zC 0 Z Z Z Z (zD Z Z Tryz.call72 (zB Z zL) Z) aq (fun hs=>wBm O ab ag ac ah ae ai af aj au U8 hs aM aN aO aP aQ) (.inr Z) ?_
 rintro am a0 a8 aL a6 aT ⟨rfl,rfl⟩
 have ay:sW w U am [.blk b2 36 B0] aL:=aT
 refine eN (ifc aV ?_ ?_)
 intro ap aW
 refine ZK (congrArg hH ap.out) (sR fL1 Z (oA Z Z (eN (zR (zT ?_)))))
 cases aW
 exact ⟨rfl,_,(ZH rfl),am,_,(ay.pick [] _ (by decide) rfl),rfl,rfl⟩
 intro ap aX
 refine zr (congrArg hH (nA.2 ap.out)) (kN (sR fL1 Z (oA Z Z (eN (zR ?_)))))
 cases aX
 exact ⟨rfl,_,(ZH rfl),am,_,(ay.pick [] _ (by decide) rfl),rfl,rfl⟩
 intro ao aY
 refine cT Z ao (sR fL2 Z (oM Z Z (oA Z Z (eN (zR (zT ?_))))))
 have hE:=nB aY;first | subst r | cases hE
 exact ⟨rfl,_,(ZH rfl),U8,_,(aq.pick [] _ (by decide) rfl),rfl,rfl⟩
theorem wFg (O:wAK) (ac:Option Addr) (ah:Nat) (ae:Option Addr) (ai:Nat) (af:Option Addr) (aj:Nat) (ag:Option Addr) (ak:Nat) (p1:wAR) (p2:wAR) (w:World) (U:PHeap) (hS:St0 w U []) (a6:Sl U 1 ac ah O.Starts.length (hD KL.encI O.Starts)) (a7:Sl U 2 ae ai O.Splits.length (hD wAC O.Splits)) (a8:Sl U 3 af aj O.Clocks.length (hD wAM O.Clocks)) (a9:Sl U 4 ag ak O.Readings.length (hD wAF O.Readings)) {r:Int} (hm:wCM O p1 p2=some r):Gv Tryz.prog 46 [.agg #[.slice ac O.Starts.length ah,.slice ae O.Splits.length ai,.slice af O.Clocks.length aj,.slice ag O.Readings.length ak],.agg #[jV p1.Skier,jV p1.Mat],.agg #[jV p2.Skier,jV p2.Mat]] w (wCF w [] U (fun U_ L_ v=>v=jV r/\L_=[])):=by
 unfold wCM at hm
 refine Gv.of Tryz.func46 Z Tryz.ntmps46 Tryz.results46 Z (sR gFd Z ?_)
 let B0:List Value:=[.slice ac O.Starts.length ah,.slice ae O.Splits.length ai,.slice af O.Clocks.length aj,.slice ag O.Readings.length ak]
 refine zq (cs:=B0) rfl rfl rfl rfl rfl rfl (by rfl) hS ?_
 intro W1 b2 bm
 let B1:List Value:=[jV p1.Skier,jV p1.Mat]
 refine zq (cs:=B1) rfl rfl rfl rfl rfl rfl (by rfl) bm ?_
 intro W5 b6 bp
 let B2:List Value:=[jV p2.Skier,jV p2.Mat]
 refine zq (cs:=B2) rfl rfl rfl rfl rfl rfl (by rfl) bp ?_
 intro W9 aq a5
 refine oA Z Z (eN (zJ (sR gEt Z (oL Z (a5.ldBA (j:=2) Z Z Z ZX ZO (vs:=B0) Z Z) (bnK hm fun bO bc bs=>zC 0 Z Z Z Z (zD Z Z Tryz.call34 (zB Z zL) Z) a5 (fun hs=>wCN O ac ah ae ai af aj ag ak W9 U hs a6 a7 a8 a9 bc) (.inr Z) ?_)))))
 rintro aJ bD bK aQ az bk ⟨rfl,rfl⟩
 have ax:sW w U aJ [.blk aq 44 B2,.blk b6 44 B1,.blk b2 36 B0] aQ:=bk
 refine oA Z Z (eN (sR fL2 Z (oM Z Z (oR Z (Zb Z Z Z) (eN (ifc bs ?_ ?_))))))
 intro aM bt
 refine zr (ZL (fun h=>h aM.out)) (kN (zJ (sR (.fl 0 (.fl 1 (.fx 2 (wLt (.fx 6 (.fl 7 .nil) .stop)) .stop))) Z (oL Z (ax.ldBA (j:=2) Z Z Z ZX ZO (vs:=B0) Z Z) (oL Z (ax.ldBA (j:=1) Z Z Z Tryz.isAgg44 yl (vs:=B1) Z Z) ?_)))))
 have aT:=a6.le az
 have aU:=a7.le az
 have aV:=a8.le az
 have aW:=a9.le az
 refine bnK bt fun bP bd bu=>zC 0 Z Z Z Z (zD Z Z Tryz.call110 (zB Z (zB Z zL)) Z) ax (fun hs=>wEa O ac ah ae ai af aj ag ak p1 aQ aJ hs aT aU aV aW bd) (.inr Z) ?_
 rintro aK bE bL aR aH bn ⟨rfl,rfl⟩
 have ay:sW w U aK [.blk aq 44 B2,.blk b6 44 B1,.blk b2 36 B0] aR:=bn
 refine oM Z Z (ifc bu ?_ ?_)
 intro ab bv
 refine zw Z Z Z (zO Z Z (congrArg hH ab.out) Z) (zw Z Z Z (zO Z Z (congrArg hH ab.out) Z) (ZA Z Z Z (zO Z Z (congrArg hH ab.out) Z) (oR Z (zS Z (congrArg hH ab.out) Z) (eN (ZK Z (sR fL1 Z (oA Z Z (eN (zR (zT ?_))))))))))
 cases bv
 exact ⟨rfl,_,(ZH rfl),aK,_,(ay.pick [] _ (by decide) rfl),rfl,rfl⟩
 intro ab bw
 refine zx Z Z Z (zN Z Z (congrArg hH (nA.2 ab.out))) (ay.ldBA (j:=2) Z Z Z ZX ZO (vs:=B0) Z Z) Z (zx Z Z Z (zN Z Z (congrArg hH (nA.2 ab.out))) (ay.ldBA (j:=0) Z Z Z Tryz.isAgg44 yl (vs:=B2) Z Z) Z ?_)
 have aX:=aT.le aH
 have aY:=aU.le aH
 have aZ:=aV.le aH
 have a0:=aW.le aH
 refine bnK bw fun bQ be bx=>zC 0 Z Z Z (zN Z Z (congrArg hH (nA.2 ab.out))) (zD Z Z Tryz.call110 (zB Z (zB Z zL)) Z) ay (fun hs=>wEa O ac ah ae ai af aj ag ak p2 aR aK hs aX aY aZ a0 be) (.inr Z) ?_
 rintro aL bF bM aS aI bo ⟨rfl,rfl⟩
 have aO:sW w U aL [.blk aq 44 B2,.blk b6 44 B1,.blk b2 36 B0] aS:=bo
 refine oR Z (zZ Z (congrArg hH (nA.2 ab.out)) Z) (eN (ifc bx ?_ ?_))
 intro aN bz
 refine ZK (congrArg hH aN.out) (sR fL1 Z (oA Z Z (eN (zR (zT ?_)))))
 cases bz
 exact ⟨rfl,_,(ZH rfl),aL,_,(aO.pick [] _ (by decide) rfl),rfl,rfl⟩
 intro aN bA
 refine zr (congrArg hH (nA.2 aN.out)) (kN (sR gEt Z (oL Z (aO.ldBA (j:=2) Z Z Z ZX ZO (vs:=B0) Z Z) ?_)))
 have bf:=aX.le aI
 have bg:=aY.le aI
 have bh:=aZ.le aI
 have bi:=a0.le aI
 refine bnK bA fun bR bj bB=>zC 0 Z Z Z Z (zD Z Z Tryz.call38 (zB Z zL) Z) aO (fun hs=>wFO O ac ah ae ai af aj ag ak aS aL hs bf bg bh bi bj) (.inr Z) ?_
 rintro aP bG bN ba bJ bq ⟨rfl,rfl⟩
 have br:sW w U aP [.blk aq 44 B2,.blk b6 44 B1,.blk b2 36 B0] ba:=bq
 refine oA Z Z (eN (zR ?_))
 have hE:=nB bB;first | subst r | cases hE
 exact ⟨rfl,_,(ZH rfl),aP,_,(br.pick [] _ (by decide) rfl),rfl,rfl⟩
 intro aM bC
 refine cT Z aM (sR fL2 Z (oM Z Z (oA Z Z (eN (zR (zT ?_))))))
 have hE:=nB bC;first | subst r | cases hE
 exact ⟨rfl,_,(ZH rfl),aJ,_,(ax.pick [] _ (by decide) rfl),rfl,rfl⟩
theorem wCo (O:wAK) (aj:Option Addr) (ao:Nat) (ak:Option Addr) (ap:Nat) (am:Option Addr) (aq:Nat) (an:Option Addr) (au:Nat) (p1:wAR) (w:World) (U:PHeap) (hS:St0 w U []) (bb:Sl U 1 aj ao O.Starts.length (hD KL.encI O.Starts)) (bc:Sl U 2 ak ap O.Splits.length (hD wAC O.Splits)) (bd:Sl U 3 am aq O.Clocks.length (hD wAM O.Clocks)) (be:Sl U 4 an au O.Readings.length (hD wAF O.Readings)) {r:wAN × Int} (hm:wBP O p1=some r):Gv Tryz.prog 13 [.agg #[.slice aj O.Starts.length ao,.slice ak O.Splits.length ap,.slice am O.Clocks.length aq,.slice an O.Readings.length au],.agg #[jV p1.Skier,jV p1.Mat]] w (wCF w [] U (fun U_ L_ v=>v=.tuple #[.agg #[jV r.1.Lo,jV r.1.Hi],jV r.2]/\L_=[])):=by
 unfold wBP at hm
 refine Gv.of Tryz.func13 Z Tryz.ntmps13 Tryz.results13 Z (sR gFd Z ?_)
 let B0:List Value:=[.slice aj O.Starts.length ao,.slice ak O.Splits.length ap,.slice am O.Clocks.length aq,.slice an O.Readings.length au]
 refine zq (cs:=B0) rfl rfl rfl rfl rfl rfl (by rfl) hS ?_
 intro W1 b2 bR
 let B1:List Value:=[jV p1.Skier,jV p1.Mat]
 refine zq (cs:=B1) rfl rfl rfl rfl rfl rfl (by rfl) bR ?_
 intro W5 b6 bX
 let B2:List Value:=[jV 0,jV 0]
 refine zU (cs:=B2) Z Z Z Z Z zz Z bX ?_
 intro W9 af az
 refine oA Z Z (eN (zJ (sR (wDd gEl) Z (oL Z (az.ldBA (j:=2) Z Z Z ZX ZO (vs:=B0) Z Z) (oL Z (az.ldBA (j:=1) Z Z Z Tryz.isAgg44 yl (vs:=B1) Z Z) (oL Z (az.ldBA (j:=1) Z Z Z Tryz.isAgg44 yl (vs:=B1) Z Z) (bnK hm fun cr bv b5=>zC 0 Z Z Z Z (zD Z Z Tryz.call46 (zB Z (zB Z (zB Z zL))) Z) az (fun hs=>wFg O aj ao ak ap am aq an au p1 p1 W9 U hs bb bc bd be bv) (.inr Z) ?_)))))))
 rintro ay cw cI aW aI bQ ⟨rfl,rfl⟩
 have aS:sW w U ay [.blk af 39 B2,.blk b6 44 B1,.blk b2 36 B0] aW:=bQ
 refine oA Z Z (eN (sR fL2 Z (oM Z Z (oR Z (Zb Z Z Z) (eN (ifc b5 ?_ ?_))))))
 intro aN ca
 refine zr (ZL (fun h=>h aN.out)) (kN (sR gEt Z (oL Z (aS.ldBA (j:=2) Z Z Z ZX ZO (vs:=B0) Z Z) ?_)))
 have aX:=bb.le aI
 have aY:=bc.le aI
 have aZ:=bd.le aI
 have a0:=be.le aI
 refine bnK ca fun ct bw cb=>zC 0 Z Z Z Z (zD Z Z Tryz.call67 (zB Z zL) Z) aS (fun hs=>wEP O aj ao ak ap am aq an au aW ay hs aX aY aZ a0 bw) (.inr Z) ?_
 rintro bn cx cJ aL aJ bS ⟨bm,bt,a5,rfl,rfl⟩
 have bT:sW w U bn [.row bm bt 22 1 (hD wFE a5),inn 3 1 KL.encI a5 ct,.blk af 39 B2,.blk b6 44 B1,.blk b2 36 B0] aL:=bS
 have q:=St.freezeN (R:=wMj) bT (fun _ _ _ _ h=>⟨_,_,rfl,h⟩) (fun _=>rfl) (by decide) rfl
 obtain ⟨aV,aK,cn,bU⟩:=q
 have aH:sW w U aV [.blk af 39 B2,.blk b6 44 B1,.blk b2 36 B0] aL:=bU
 refine oA Z Z (eN (sR (wHD gEi) Z (oL Z (aH.ldBA (j:=2) Z Z Z ZX ZO (vs:=B0) Z Z) (oR Z (zH Z Z Tryz.runUnderlying44 Z zE) (oL Z (aH.ldB (j:=1) Z Z Z zK (v:=jV p1.Skier) Z) (oR Z (zH Z Z Tryz.runUnderlying44 Z zE) (oL Z (aH.ldB (j:=1) Z Z Z zK (v:=jV p1.Mat) Z) ?_)))))))
 have bx:=aX.le aJ
 have bz:=bx.le aK
 have bA:=aY.le aJ
 have bB:=bA.le aK
 have bC:=aZ.le aJ
 have bD:=bC.le aK
 have bE:=a0.le aJ
 have bF:=bE.le aK
 refine bnK cb fun cu bG cc=>zC 0 Z Z Z Z (zD Z Z Tryz.call68 (zB Z (zB Z (zB Z zL))) Z) aH (fun hs=>wBl O aj ao ak ap am aq an au p1.Skier p1.Mat aL aV hs bz bB bD bF bG) (.inr Z) ?_
 rintro ax cy cK aM co bV ⟨rfl,rfl⟩
 have bW:sW w U ax [.blk af 39 B2,.blk b6 44 B1,.blk b2 36 B0] aM:=bV
 refine yY rfl rfl rfl rfl rfl rfl (eN (zJ (ZI ZD [3,3,3,1,3,1,3,3,3,1,3,3,1,3,0,3] (wMu (.fx 14 (.fl 15 .nil) .stop)) (by kernel_rfl) ?_)))
 have ai:=bW.drew
 generalize hw_W68:({ aM with drawn:=aM.drawn + 1 }:World)=cC at ai ⊢
 refine oM Z Z (oM Z Z (bnK cc fun bj aP cd=>?_))
 have a6:=cn.le co
 have q:=a6.el (wAb aP)
 obtain ⟨br,cp,cL,bJ,aQ,cj⟩:=q
 obtain ⟨bf,bh,rfl,bH⟩:=cj
 replace aQ:Cl ax br (cp + cu.toNat * 1) [.slice bf bj.length bh]:=aQ
 refine oR Z (ZT Z Z bJ Z Zd zh (wBp aP) (wBx aP)) (oL Z (ai.ldC (f:=0) aQ (v:=.slice bf bj.length bh) Z Z zk Z) (bnK cd fun aU a7 cf=>?_))
 have q:=bH.el (fun _=>rfl) (wAb a7)
 obtain ⟨cE,cH,bK,bN⟩:=q
 refine oR Z (ZZ Z Z bK Z zG zE (wCc a7)) (oL Z (ai.ldC (f:=0) bN (v:=jV aU) Z Z zK Z) (oR Z (Runs.negw Z Z) (oM Z Z (bnK cf fun bk a8 cg=>?_))))
 have q:=a6.el (wAb a8)
 obtain ⟨bs,cq,cM,bL,aR,cm⟩:=q
 obtain ⟨bg,bi,rfl,bu⟩:=cm
 replace aR:Cl ax bs (cq + 0 * 1) [.slice bg bk.length bi]:=aR
 refine oR Z (ZZ Z Z bL Z Zd zh (wCc a8)) (oL Z (ai.ldC (f:=0) aR (v:=.slice bg bk.length bi) Z Z zk Z) (oM Z Z (bnK cg fun aT aO bY=>?_)))
 have q:=bu.el (fun _=>rfl) (wAb aO)
 obtain ⟨cD,cG,bI,bM⟩:=q
 refine oR Z (ZT Z Z bI Z zG zE (wBp aO) (wBx aO)) (oL Z (ai.ldC (f:=0) bM (v:=jV aT) Z Z zK Z) ?_)
 let B3:List Value:=[jV (w64 (-aU)),jV aT]
 refine oR Z (zu (pv:=[(0,jV (w64 (-aU))),(1,jV aT)]) (z:=B2) (cs:=B3) Z (wAG Z (wAG Z wAP)) zz wCn Z Z) (zY (j:=0) (vs:=B3) Z Z Z Z ai Z Z Z Z zm (zA Z) Z Z Z ?_)
 intro bo bO
 have a9:sW w U ax [.blk af 39 B3,.blk b6 44 B1,.blk b2 36 B0] bo:=bO
 refine oA Z Z (eN (zR ?_))
 cases bY
 exact ⟨rfl,_,(wER (rs:=[.cell 4 39,.tmp 5]) (vs:=[.agg B3.toArray,jV 0]) ⟨⟨_,rfl,(wBF Zu zm (a9.blkAt (k:=0) rfl) (vs:=B3) rfl rfl)⟩,⟨rfl,trivial⟩⟩ rfl),ax,_,(a9.pick [] _ (by decide) rfl),rfl,rfl⟩
 intro aN bZ
 refine cT Z aN (sR (.fl 0 (.fl 1 gEq)) Z (oR Z (zu (pv:=[]) (z:=B2) (cs:=B2) Z wAP zz wCn Z Z) (oM Z Z (zY (j:=0) (vs:=B2) Z Z Z Z aS Z Z Z Z zm (zA Z) Z Z Z ?_))))
 intro bp bP
 have ba:sW w U ay [.blk af 39 B2,.blk b6 44 B1,.blk b2 36 B0] bp:=bP
 refine oA Z Z (eN (zR (zT ?_)))
 cases bZ
 exact ⟨rfl,_,(wER (rs:=[.cell 4 39,.tmp 5]) (vs:=[.agg B2.toArray,jV cr]) ⟨⟨_,rfl,(wBF Zu zm (ba.blkAt (k:=0) rfl) (vs:=B2) rfl rfl)⟩,⟨rfl,trivial⟩⟩ rfl),ay,_,(ba.pick [] _ (by decide) rfl),rfl,rfl⟩
theorem wFP (p0:wAK) (aM:Option Addr) (aP:Nat) (aN:Option Addr) (aQ:Nat) (aO:Option Addr) (aR:Nat) (aJ:Option Addr) (aK:Nat) (p1:wAR) (w:World) (U:PHeap) (hS:St0 w U []) (bt:Sl U 1 aM aP p0.Starts.length (hD KL.encI p0.Starts)) (bu:Sl U 2 aN aQ p0.Splits.length (hD wAC p0.Splits)) (bv:Sl U 3 aO aR p0.Clocks.length (hD wAM p0.Clocks)) (bw:Sl U 4 aJ aK p0.Readings.length (hD wAF p0.Readings)) {r:(List Int) × Int} (hm:wAx p0 p1=some r):Gv Tryz.prog 30 [.agg #[.slice aM p0.Starts.length aP,.slice aN p0.Splits.length aQ,.slice aO p0.Clocks.length aR,.slice aJ p0.Readings.length aK],.agg #[jV p1.Skier,jV p1.Mat]] w (wCF w [] U (fun U_ L_ v=>∃ (A0:Option Addr) (c0:Nat),v=.tuple #[.slice A0 r.1.length c0,jV r.2]/\L_=[.row A0 c0 3 1 (hD KL.encI r.1)])):=by
 unfold wAx at hm
 refine Gv.of Tryz.func30 Z Tryz.ntmps30 Tryz.results30 Z (sR gFb Z ?_)
 let O:List Value:=[.slice aM p0.Starts.length aP,.slice aN p0.Splits.length aQ,.slice aO p0.Clocks.length aR,.slice aJ p0.Readings.length aK]
 refine zq (cs:=O) rfl rfl rfl rfl rfl rfl (by rfl) hS ?_
 intro W1 b2 er
 let B1:List Value:=[jV p1.Skier,jV p1.Mat]
 refine zq (cs:=B1) rfl rfl rfl rfl rfl rfl (by rfl) er ?_
 intro W5 b6 bs
 refine oA Z Z (oA Z Z (eN (sR (.fl 0 (.fl 1 (.fx 2 (wLt gEu) .stop))) Z (oL Z (bs.ldBA (j:=1) Z Z Z ZX ZO (vs:=O) Z Z) (oL Z (bs.ldBA (j:=0) Z Z Z Tryz.isAgg44 yl (vs:=B1) Z Z) ?_)))))
 have q:=bnd hm
 obtain ⟨⟨x9,e6⟩,da,cn⟩:=q
 try dsimp only at cn
 refine zC 0 Z Z Z Z (zD Z Z Tryz.call13 (zB Z (zB Z zL)) Z) bs (fun hs=>wCo p0 aM aP aN aQ aO aR aJ aK p1 W5 U hs bt bu bv bw da) (.inr Z) ?_
 rintro aU fb fu cG au dP ⟨rfl,rfl⟩
 have dT:sW w U aU [.blk b6 44 B1,.blk b2 36 O] cG:=dP
 refine oM Z Z (oR Z (zV Z Z (v:=.agg #[jV x9.Lo,jV x9.Hi]) Z) (oR Z (zV Z Z (v:=jV e6) Z) ?_))
 let B2:List Value:=[jV 0,jV 0]
 refine zU (cs:=B2) Z Z Z Z Z zz Z dT ?_
 intro fm af d4
 let B3:List Value:=[jV x9.Lo,jV x9.Hi]
 refine zY (j:=0) (vs:=B3) Z Z Z Z d4 Z Z Z Z zm (zA Z) Z Z Z ?_
 intro cM d8
 have cg:sW w U aU [.blk af 39 B3,.blk b6 44 B1,.blk b2 36 O] cM:=d8
 refine oA Z Z (eN (zJ (sR fL2 Z (oM Z Z (oR Z (Zb Z Z Z) (eN (ifc cn ?_ ?_)))))))
 intro bj eE
 refine zr (ZL (fun h=>h bj.out)) (kN (sR fL1 Z (oA Z Z (eN (zJ (sR fL1 Z (oA Z Z (eN (zX (ye (fun (aI,ah) J_ w_=>∃ (U_:PHeap) (av:Option Addr) (az:Nat),J_ 2=.pointer (some ⟨b2,0,none⟩)/\J_ 3=.pointer (some ⟨b6,0,none⟩)/\J_ 6=.pointer (some ⟨af,0,none⟩)/\J_ 8=.slice av aI.length az/\J_ 9=jV ah/\PHeap.Le aU U_/\sW w U U_ [.blk af 39 B3,.blk b6 44 B1,.blk b2 36 O,.row av az 3 1 (hD KL.encI aI)] w_) eE ?_ ?_))))))))))
 have eB:=cg.nilrow 3 1
 exact ⟨aU,none,0,rfl,rfl,rfl,rfl,rfl,(zQ _),(eB.pick [1,2,3,0] _ (by decide) rfl)⟩
 rintro ⟨aI,ah⟩ fB e9 bR ⟨a0,av,az,aY,a6,bp,a7,aL,am,br⟩ bx eC
 try dsimp only at bx
 refine zJ (sR fL5 Z (oM Z aL (oR Z (zH Z aY zW Z Zq) (oL Z (br.ldB (j:=2) Z Z Z Zy (v:=.slice aJ p0.Readings.length aK) Z) (oR Z (zi Z Z ZV) (oR Z (ze Z Z Z) (eN ?_)))))))
 by_cases aq:ah < (↑p0.Readings.length:Int)
 have cp:=bx;rw [if_pos aq] at cp;replace aq:=zM aq
 refine cT Z aq (kN (zJ (zX ?_)))
 have q:=bnd cp
 obtain ⟨⟨cw,cx⟩,eR,cq⟩:=q
 try dsimp only at cq
 let B4:Res:=.row av az 3 1 (hD KL.encI aI)
 let B5:List Value:=[jV cw,jV cx]
 refine yX (fun J_ w_=>∃ (U_:PHeap) (ay:Nat),J_ 2=.pointer (some ⟨b2,0,none⟩)/\J_ 3=.pointer (some ⟨b6,0,none⟩)/\J_ 6=.pointer (some ⟨af,0,none⟩)/\J_ 8=.slice av aI.length az/\J_ 9=jV ah/\J_ 10=.pointer (some ⟨ay,0,none⟩)/\PHeap.Le a0 U_/\sW w U U_ [.blk af 39 B3,.blk b6 44 B1,.blk b2 36 O,B4,.blk ay 39 B5] w_) ?_ ?_
 refine bnK eR fun an cd eD=>?_
 have q:=bnd eD
 obtain ⟨⟨ak,bA⟩,bq,a8⟩:=q
 try dsimp only at a8
 refine ZI ZD [1,3,3,2,1,2,3,3,3,2,0,3] (wDd (.fl 4 (.fx 3 (.fx 5 (wNn (.fx 9 gEr .stop)) (.fx 9 (.fx 5 (wNn gEr) (.stop)) (.stop))) (.fx 9 (.fx 3 (.fx 5 (wNn gEr) (.stop)) (.stop)) (.stop))))) (by kernel_rfl) ?_
 have aZ:=br.drew
 generalize hw_W133:({ bR with drawn:=bR.drawn + 1 }:World)=cE at aZ ⊢
 refine oL Z (aZ.ldBA (j:=2) Z Z aY ZX ZO (vs:=O) Z Z) (oM Z aL (oM Z aL (oL Z (aZ.ldBA (j:=1) Z Z a6 Tryz.isAgg44 yl (vs:=B1) Z Z) (ZB ?_ ?_))))
 have db:=bt.le au
 have dd:=db.le am
 have de:=bu.le au
 have df:=de.le am
 have dg:=bv.le au
 have dh:=dg.le am
 have di:=bw.le au
 have dk:=di.le am
 refine zC 0 Z Z Z Z (zD Z Z Tryz.call85 (zB Z (zB Z (zB Z zL))) Z) aZ (fun hs=>wCy p0 aM aP aN aQ aO aR aJ aK ah ah cE a0 hs dd df dh dk cd) (.inr Z) ?_
 rintro cC fc ft bg cr dK ⟨bC,bU,bD,bV,bE,bW,bc,bi,rfl,rfl,ca,cb,cc⟩
 have cf:sW w U cC [.row bc bi 117 4 (hD wAF an.Readings),.blk af 39 B3,.blk b6 44 B1,.blk b2 36 O,B4] bg:=dK
 refine ZB ?_ ?_
 have q:=cf.freezeR (k:=0) (n:=an.Readings.length) rfl (wAD (f:=wAF) (sz:=4) (fun _=>rfl) an.Readings) (by decide)
 obtain ⟨bN,a9,eO,dL⟩:=q
 have dM:sW w U bN [.blk af 39 B3,.blk b6 44 B1,.blk b2 36 O,B4] bg:=dL
 have dl:=ca.le a9
 have dm:=cb.le a9
 have dp:=cc.le a9
 refine zC 0 Z Z Z Z (zD Z Z Tryz.call13 (zB Z (zB Z zL)) Z) dM (fun hs=>wCo an bC bU bD bV bE bW bc bi p1 bg bN hs dl dm dp eO bq) (.inr Z) ?_
 rintro bd fd fw cH eS dN ⟨rfl,rfl⟩
 have dO:sW w U bd [.blk af 39 B3,.blk b6 44 B1,.blk b2 36 O,B4] cH:=dN
 refine oM Z Z (oR Z (zV Z Z (v:=.agg #[jV ak.Lo,jV ak.Hi]) Z) (oR Z (zV Z Z (v:=jV bA) Z) (zU (cs:=B2) Z Z Z Z Z zz Z dO ?_)))
 intro fk bS dQ
 let B6:List Value:=[jV ak.Lo,jV ak.Hi]
 refine zY (j:=0) (vs:=B6) Z Z Z Z dQ Z Z Z Z zm (zA Z) Z Z Z ?_
 intro cI dR
 have dS:sW w U bd [.blk bS 39 B6,.blk af 39 B3,.blk b6 44 B1,.blk b2 36 O,B4] cI:=dR
 refine oA Z Z (zb ?_)
 cases a8
 exact zF ⟨rfl,⟨bd,bS,aY,a6,bp,a7,aL,rfl,((cr.trans a9).trans eS),(dS.pick [1,2,3,4,0] _ (by decide) rfl)⟩⟩
 refine zU (cs:=B2) Z Z Z Z Z zz Z cf ?_
 intro bQ a5 dU
 have q:=dU.freezeR (k:=1) (n:=an.Readings.length) rfl (wAD (f:=wAF) (sz:=4) (fun _=>rfl) an.Readings) (by decide)
 obtain ⟨bO,ba,eP,dV⟩:=q
 have dW:sW w U bO [.blk a5 39 B2,.blk af 39 B3,.blk b6 44 B1,.blk b2 36 O,B4] bQ:=dV
 have dq:=ca.le ba
 have dr:=cb.le ba
 have dt:=cc.le ba
 refine zC 0 Z Z Z Z (zD Z Z Tryz.call13 (zB Z (zB Z zL)) Z) dW (fun hs=>wCo an bC bU bD bV bE bW bc bi p1 bQ bO hs dq dr dt eP bq) (.inr Z) ?_
 rintro be ff fy cJ eU dX ⟨rfl,rfl⟩
 have dY:sW w U be [.blk a5 39 B2,.blk af 39 B3,.blk b6 44 B1,.blk b2 36 O,B4] cJ:=dX
 refine oM Z Z (oR Z (zV Z Z (v:=.agg #[jV ak.Lo,jV ak.Hi]) Z) (oR Z (zV Z Z (v:=jV bA) Z) ?_))
 let B7:List Value:=[jV ak.Lo,jV ak.Hi]
 refine zY (j:=0) (vs:=B7) Z Z Z Z dY Z Z Z Z zm (zA Z) Z Z Z ?_
 intro cK dZ
 have d3:sW w U be [.blk a5 39 B7,.blk af 39 B3,.blk b6 44 B1,.blk b2 36 O,B4] cK:=dZ
 refine oA Z Z (zb ?_)
 cases a8
 exact zF ⟨rfl,⟨be,a5,aY,a6,bp,a7,aL,rfl,((cr.trans ba).trans eU),(d3.pick [1,2,3,4,0] _ (by decide) rfl)⟩⟩
 refine zU (cs:=B2) Z Z Z Z Z zz Z aZ ?_
 intro cL aV d5
 have du:=bt.le au
 have dv:=du.le am
 have dw:=bu.le au
 have dx:=dw.le am
 have dy:=bv.le au
 have dz:=dy.le am
 have dA:=bw.le au
 have dB:=dA.le am
 refine zC 0 Z Z Z Z (zD Z Z Tryz.call85 (zB Z (zB Z (zB Z zL))) Z) d5 (fun hs=>wCy p0 aM aP aN aQ aO aR aJ aK ah ah cL a0 hs dv dx dz dB cd) (.inr Z) ?_
 rintro cD fg fz bh eV d6 ⟨cy,cX,cz,cY,cA,cZ,bF,bX,rfl,rfl,dC,dD,dE⟩
 have d7:sW w U cD [.row bF bX 117 4 (hD wAF an.Readings),.blk aV 39 B2,.blk af 39 B3,.blk b6 44 B1,.blk b2 36 O,B4] bh:=d6
 have q:=d7.freezeR (k:=0) (n:=an.Readings.length) rfl (wAD (f:=wAF) (sz:=4) (fun _=>rfl) an.Readings) (by decide)
 obtain ⟨bP,bb,eQ,d9⟩:=q
 have ef:sW w U bP [.blk aV 39 B2,.blk af 39 B3,.blk b6 44 B1,.blk b2 36 O,B4] bh:=d9
 have dF:=dC.le bb
 have dG:=dD.le bb
 have dH:=dE.le bb
 refine zC 0 Z Z Z Z (zD Z Z Tryz.call13 (zB Z (zB Z zL)) Z) ef (fun hs=>wCo an cy cX cz cY cA cZ bF bX p1 bh bP hs dF dG dH eQ bq) (.inr Z) ?_
 rintro bf fh fA cN eW eg ⟨rfl,rfl⟩
 have eh:sW w U bf [.blk aV 39 B2,.blk af 39 B3,.blk b6 44 B1,.blk b2 36 O,B4] cN:=eg
 refine oM Z Z (oR Z (zV Z Z (v:=.agg #[jV ak.Lo,jV ak.Hi]) Z) (oR Z (zV Z Z (v:=jV bA) Z) ?_))
 let B8:List Value:=[jV ak.Lo,jV ak.Hi]
 refine zY (j:=0) (vs:=B8) Z Z Z Z eh Z Z Z Z zm (zA Z) Z Z Z ?_
 intro cO ej
 have ek:sW w U bf [.blk aV 39 B8,.blk af 39 B3,.blk b6 44 B1,.blk b2 36 O,B4] cO:=ej
 refine oA Z Z (zb ?_)
 cases a8
 exact zF ⟨rfl,⟨bf,aV,aY,a6,bp,a7,aL,rfl,((eV.trans bb).trans eW),(ek.pick [1,2,3,4,0] _ (by decide) rfl)⟩⟩
 rintro e8 fq ⟨ax,ay,bm,bn,aW,bo,aX,b5,bz,aH⟩
 refine sR fL12 Z (oR Z (zH Z b5 ZJ Z zE) (oL Z (aH.ldB (j:=4) Z Z Z zK (v:=jV cw) Z) (oR Z (zH Z aW ZJ Z zE) (oL Z (aH.ldB (j:=0) Z Z Z zK (v:=jV x9.Lo) Z) (oR Z (ze Z Z Z) (oM Z Z (ifc cq ?_ ?_)))))))
 intro aj eF
 refine oT Z aj (oT Z aj (oT Z aj (oT Z aj (oT Z aj (oR Z (zS Z (Zh aj.out) Z) (eN (ZK Z (rR gFe Z (oM Z bo (oM Z aX (ZC (pv:=[(0,jV ah)]) (zs:=[jV 0]) (cs:=[jV ah]) Z Z Z Z Z (wAG Z wAP) zG zE zy Z Z Z Z Z aH ?_)))))))))))
 intro cP cV en
 let B9:Res:=.row (some ⟨cV,0,none⟩) 1 3 1 (hD KL.encI [ah])
 have cj:sW w U ax [B9,.blk af 39 B3,.blk b6 44 B1,.blk b2 36 O,B4,.blk ay 39 B5] cP:=en
 refine bnK eF fun ct dI eG=>yG (j:=4) (enc:=KL.encI) (xs:=aI) (ys:=[ah]) (zs:=ct) rfl rfl rfl rfl rfl yg wHd rfl rfl rfl rfl rfl rfl cj rfl rfl rfl (cj.srcR (j:=0) rfl (by decide) (wAD (f:=KL.encI) (sz:=1) (fun _=>rfl) [ah])) (fun _=>rfl) (fun _=>rfl) dI rfl ?_
 intro bG bY cQ eo
 have ep:sW w U ax [B9,.blk af 39 B3,.blk b6 44 B1,.blk b2 36 O,.row bG bY 3 1 (hD KL.encI ct),.blk ay 39 B5] cQ:=eo
 refine oA Z Z (zb (zl (zF (rR fL3 Z (oM Z aX (oR Z (za Z Z Z) (oA Z Z (zb ?_))))))))
 have q:=nB eG
 obtain rfl:=q
 exact zF ⟨rfl,_,rfl,⟨ax,bG,bY,bm,bn,aW,rfl,rfl,(am.trans bz),(ep.pick [1,2,3,4] _ (by decide) rfl)⟩⟩
 intro aj eH
 refine rU Z (wF Z aj) (zH Z b5 ZJ Z zE) (zx Z Z Z (wF Z aj) (aH.ldB (j:=4) Z Z Z zK (v:=jV cx) Z) Z (rU Z (wF Z aj) (zH Z aW ZJ Z zE) (zx Z Z Z (wF Z aj) (aH.ldB (j:=0) Z Z Z zK (v:=jV x9.Hi) Z) Z (rU Z (wF Z aj) (yQ Z Z Z) (oR Z (zZ Z (ZL aj.out) Z) (eN (ifc eH ?_ ?_)))))))
 intro bk eI
 refine cT Z bk (rR gFe Z (oM Z bo (oM Z aX (ZC (pv:=[(0,jV ah)]) (zs:=[jV 0]) (cs:=[jV ah]) Z Z Z Z Z (wAG Z wAP) zG zE zy Z Z Z Z Z aH ?_))))
 intro cR cW eu
 let bI:Res:=.row (some ⟨cW,0,none⟩) 1 3 1 (hD KL.encI [ah])
 have cm:sW w U ax [bI,.blk af 39 B3,.blk b6 44 B1,.blk b2 36 O,B4,.blk ay 39 B5] cR:=eu
 refine bnK eI fun cu dJ eJ=>yG (j:=4) (enc:=KL.encI) (xs:=aI) (ys:=[ah]) (zs:=cu) rfl rfl rfl rfl rfl yg wHd rfl rfl rfl rfl rfl rfl cm rfl rfl rfl (cm.srcR (j:=0) rfl (by decide) (wAD (f:=KL.encI) (sz:=1) (fun _=>rfl) [ah])) (fun _=>rfl) (fun _=>rfl) dJ rfl ?_
 intro bH bZ cS ew
 have ey:sW w U ax [bI,.blk af 39 B3,.blk b6 44 B1,.blk b2 36 O,.row bH bZ 3 1 (hD KL.encI cu),.blk ay 39 B5] cS:=ew
 refine oA Z Z (zb (zl (zF (rR fL3 Z (oM Z aX (oR Z (za Z Z Z) (oA Z Z (zb ?_))))))))
 have q:=nB eJ
 obtain rfl:=q
 exact zF ⟨rfl,_,rfl,⟨ax,bH,bZ,bm,bn,aW,rfl,rfl,(am.trans bz),(ey.pick [1,2,3,4] _ (by decide) rfl)⟩⟩
 intro bk eK
 refine cF Z bk (Ze (zl (zF (rR fL3 Z (oM Z aX (oR Z (za Z Z Z) (oA Z Z (zb ?_))))))))
 have q:=nB eK
 obtain rfl:=q
 exact zF ⟨rfl,_,rfl,⟨ax,av,az,bm,bn,aW,bo,rfl,(am.trans bz),(aH.pick [0,1,2,3] _ (by decide) rfl)⟩⟩
 have co:=bx;rw [if_neg aq] at co;replace aq:=zM aq
 refine cF Z aq (ZS (zf ?_))
 have q:=wAV co
 obtain ⟨eZ,eL,c6⟩:=q
 have q:=eC eZ c6
 obtain rfl:=q
 refine zf (ZN (zF (sR fL3 Z (oM Z a7 (oA Z Z (oA Z Z (eN (zR ?_))))))))
 cases eL
 exact ⟨rfl,_,(wDk rfl rfl),a0,_,(br.pick [3] _ (by decide) rfl),av,az,rfl,rfl⟩
 intro bj eM
 refine cT Z bj (sR fL3 Z (oM Z Z (oA Z Z (oA Z Z (eN (zR (zT ?_)))))))
 have eA:=cg.nilrow 3 1
 cases eM
 exact ⟨rfl,_,(wDk rfl rfl),aU,_,(eA.pick [0] _ (by decide) rfl),none,0,rfl,rfl⟩
end Go.Proofs.YtlnfbjphfoipaaaGreat
namespace Go.Proofs.YtlnfbjphfoipaaaGreat
open Go.KL
set_option maxHeartbeats 4000000
theorem wEM (O:List wAd) (ap:Option Addr) (au:Nat) (p1:List wAd) (aq:Option Addr) (av:Nat) (w:World) (U:PHeap) (hS:St0 w U []) (a6:Sl U 3 ap au O.length (hD wAE O)) (a7:Sl U 3 aq av p1.length (hD wAE p1)) {r:Bool} (hm:wBV O p1=some r):Gv Tryz.prog 76 [.slice ap O.length au,.slice aq p1.length av] w (wCF w [] U (fun U_ L_ v=>v=.bool r/\L_=[])):=by
 unfold wBV at hm
 refine Gv.of Tryz.func76 Z Tryz.ntmps76 Tryz.results76 Z (sR fL1 Z (oA Z Z (eN (zJ (sR fL5 Z (oM Z Z (oR Z (zi Z Z Za) (oM Z Z (oR Z (zi Z Z Za) (oR Z (Zb Z Z Z) (eN ?_)))))))))))
 by_cases c1:(↑O.length:Int)=(↑p1.length:Int)
 have af:=hm;rw [if_pos c1] at af;replace c1:=zM c1
 refine zr (ZL (fun h=>h c1.out)) (kN (zJ (sR fL3 Z (oM Z Z (oR Z (zi Z Z Za) (oM Z Z (eN (zX ?_))))))))
 have q:=wCT af
 obtain ⟨r5,ak⟩:=q
 have q:=wCS ak
 obtain ⟨an,ba⟩:=q
 replace an:=zM an
 refine ya (fun k4 _ J_ w_=>∃ (U_:PHeap),J_ 13=jV (↑k4:Int)/\J_ 0=.slice ap O.length au/\J_ 1=.slice aq p1.length av/\J_ 12=jV (↑O.length:Int)/\PHeap.Le U U_/\sW w U U_ [] w_) ba ?_ ?_ ?_
 exact ⟨U,Z,Z,Z,Z,(zQ _),hS⟩
 rintro k4 ⟨⟩ bv J9 ay am ⟨ax,aj,aH,aI,aJ,ao,a0⟩ aO a8
 try dsimp only at aO
 have az:Hid ((↑k4:Int) < (↑O.length:Int)):=zM (wBQ am)
 replace am:=zM am
 have bb:Hid (w64 ((↑k4:Int) + 1)=(↑(k4 + 1):Int)):=zM (by have h1:=an.out;have h2:=az.out;rw [wAY] <;> omega)
 refine sR fL1 rfl (zg rfl rfl rfl rfl (fun _=>ze rfl aj aJ) (eN (zJ (cT Z az (kN (zJ (zX (sR fL2 rfl (ZE rfl rfl rfl rfl rfl aj (yY rfl rfl rfl rfl rfl rfl (eN (zJ (ZI ZD [3,3,3,1,3,3,3,1,3] fL9 (by kernel_rfl) ?_)))))))))))))
 have ac:=a0.drew
 generalize hw_W25:({ ay with drawn:=ay.drawn + 1 }:World)=bk at ac ⊢
 refine oM Z aH (oM Z Z (bnK aO fun ag aK bc=>?_))
 have aU:=a6.le ao
 have q:=aU.el (fun _=>rfl) (wAb aK)
 obtain ⟨bn,bs,aW,aY⟩:=q
 refine oR Z (ZZ Z Z aW Z Za Zz (wCc aK)) (oL Z (ac.ldCA (f:=0) aY Z Z Tryz.isAgg112 Zz (us:=[jV ag.Offset.Lo,jV ag.Offset.Hi,jV ag.Error]) Z Z) (oM Z aI (oM Z Z (bnK bc fun ah aL bd=>?_))))
 have aV:=a7.le ao
 have q:=aV.el (fun _=>rfl) (wAb aL)
 obtain ⟨bo,bt,aX,aZ⟩:=q
 refine oR Z (ZZ Z Z aX Z Za Zz (wCc aL)) (oL Z (ac.ldCA (f:=0) aZ Z Z Tryz.isAgg112 Zz (us:=[jV ah.Offset.Lo,jV ah.Offset.Hi,jV ah.Error]) Z Z) (oR Z (ZP (Runs.neS (enc:=wAE) (a:=ag) (b:=ah) Z Z Z wOe wOd) (congrArg hH (decide_not).symm)) (eN (ifc bd ?_ ?_))))
 intro ai be
 refine zr (ZL (fun h=>h ai.out)) (Ze (zl (zF (rR fL2 Z (oR Z (ZP (za Z aj Z) (congrArg (jV) bb.out)) (oM Z Z (zb ?_)))))))
 have q:=nB be
 obtain rfl:=q
 exact zF ⟨Z,_,Z,⟨ax,Z,aH,aI,aJ,ao,ac⟩⟩
 intro ai bf
 refine cT Z ai (sR fL1 Z (oA Z Z (eN (zR (zo (zT ?_))))))
 have q:=wAV bf
 obtain ⟨bh,bg,aR⟩:=q
 have q:=wCY af ak (a8 bh aR)
 obtain rfl:=q
 refine zT (zo (zT ?_))
 have hE:=nB bg;first | subst r | cases hE
 exact ⟨Z,_,(ZH Z),ax,_,ac,Z,Z⟩
 rintro ⟨⟩ bi bm ⟨aP,aT,bp,bq,aS,br,a5⟩ a9
 have aM:=wDQ af ak a9
 try dsimp only at aM
 have aQ:Hid (¬ ((↑(((↑O.length:Int):Int) - 0).toNat:Int) < (↑O.length:Int))):=zM (wAq)
 refine sR fL1 Z (oR Z (ze Z aT aS) (eN (zJ (cF Z aQ (ZS (zf (zf (ZN (zF (sR fL1 Z (oA Z Z (eN (zR ?_)))))))))))))
 have hE:=nB aM;first | subst r | cases hE
 exact ⟨Z,_,(ZH Z),aP,_,a5,Z,Z⟩
 have aN:=hm;rw [if_neg c1] at aN;replace c1:=zM c1
 refine cT Z c1 (sR fL1 Z (oA Z Z (eN (zR (zT ?_)))))
 have hE:=nB aN;first | subst r | cases hE
 exact ⟨Z,_,(ZH Z),U,_,hS,Z,Z⟩
theorem wDu (O:List wAJ) (ap:Option Addr) (au:Nat) (p1:List wAJ) (aq:Option Addr) (av:Nat) (w:World) (U:PHeap) (hS:St0 w U []) (a6:Sl U 4 ap au O.length (hD wAB O)) (a7:Sl U 4 aq av p1.length (hD wAB p1)) {r:Bool} (hm:wBN O p1=some r):Gv Tryz.prog 77 [.slice ap O.length au,.slice aq p1.length av] w (wCF w [] U (fun U_ L_ v=>v=.bool r/\L_=[])):=by
 unfold wBN at hm
 refine Gv.of Tryz.func77 Z Tryz.ntmps77 Tryz.results77 Z (sR fL1 Z (oA Z Z (eN (zJ (sR fL5 Z (oM Z Z (oR Z (zi Z Z ZF) (oM Z Z (oR Z (zi Z Z ZF) (oR Z (Zb Z Z Z) (eN ?_)))))))))))
 by_cases c1:(↑O.length:Int)=(↑p1.length:Int)
 have ah:=hm;rw [if_pos c1] at ah;replace c1:=zM c1
 refine zr (ZL (fun h=>h c1.out)) (kN (zJ (sR fL3 Z (oM Z Z (oR Z (zi Z Z ZF) (oM Z Z (eN (zX ?_))))))))
 have q:=wCT ah
 obtain ⟨r5,ak⟩:=q
 have q:=wCS ak
 obtain ⟨an,ba⟩:=q
 replace an:=zM an
 refine ya (fun k4 _ J_ w_=>∃ (U_:PHeap),J_ 13=jV (↑k4:Int)/\J_ 0=.slice ap O.length au/\J_ 1=.slice aq p1.length av/\J_ 12=jV (↑O.length:Int)/\PHeap.Le U U_/\sW w U U_ [] w_) ba ?_ ?_ ?_
 exact ⟨U,Z,Z,Z,Z,(zQ _),hS⟩
 rintro k4 ⟨⟩ bv J9 ay am ⟨ax,aj,aH,aI,aJ,ao,a0⟩ aO a8
 try dsimp only at aO
 have az:Hid ((↑k4:Int) < (↑O.length:Int)):=zM (wBQ am)
 replace am:=zM am
 have bb:Hid (w64 ((↑k4:Int) + 1)=(↑(k4 + 1):Int)):=zM (by have h1:=an.out;have h2:=az.out;rw [wAY] <;> omega)
 refine sR fL1 rfl (zg rfl rfl rfl rfl (fun _=>ze rfl aj aJ) (eN (zJ (cT Z az (kN (zJ (zX (sR fL2 rfl (ZE rfl rfl rfl rfl rfl aj (yY rfl rfl rfl rfl rfl rfl (eN (zJ (ZI ZD [3,3,3,1,3,3,3,1,3] fL9 (by kernel_rfl) ?_)))))))))))))
 have ac:=a0.drew
 generalize hw_W25:({ ay with drawn:=ay.drawn + 1 }:World)=bk at ac ⊢
 refine oM Z aH (oM Z Z (bnK aO fun af aK bc=>?_))
 have aU:=a6.le ao
 have q:=aU.el (fun _=>rfl) (wAb aK)
 obtain ⟨bn,bs,aW,aY⟩:=q
 refine oR Z (ZZ Z Z aW Z ZF ZW (wCc aK)) (oL Z (ac.ldCA (f:=0) aY Z Z yb ZW (us:=[jV af.Skier,jV af.Mat,jV af.Clock,jV af.Time]) Z Z) (oM Z aI (oM Z Z (bnK bc fun ag aL bd=>?_))))
 have aV:=a7.le ao
 have q:=aV.el (fun _=>rfl) (wAb aL)
 obtain ⟨bo,bt,aX,aZ⟩:=q
 refine oR Z (ZZ Z Z aX Z ZF ZW (wCc aL)) (oL Z (ac.ldCA (f:=0) aZ Z Z yb ZW (us:=[jV ag.Skier,jV ag.Mat,jV ag.Clock,jV ag.Time]) Z Z) (oR Z (ZP (Runs.neS (enc:=wAB) (a:=af) (b:=ag) Z Z Z wOh wOg) (congrArg hH (decide_not).symm)) (eN (ifc bd ?_ ?_))))
 intro ai be
 refine zr (ZL (fun h=>h ai.out)) (Ze (zl (zF (rR fL2 Z (oR Z (ZP (za Z aj Z) (congrArg (jV) bb.out)) (oM Z Z (zb ?_)))))))
 have q:=nB be
 obtain rfl:=q
 exact zF ⟨Z,_,Z,⟨ax,Z,aH,aI,aJ,ao,ac⟩⟩
 intro ai bf
 refine cT Z ai (sR fL1 Z (oA Z Z (eN (zR (zo (zT ?_))))))
 have q:=wAV bf
 obtain ⟨bh,bg,aR⟩:=q
 have q:=wCY ah ak (a8 bh aR)
 obtain rfl:=q
 refine zT (zo (zT ?_))
 have hE:=nB bg;first | subst r | cases hE
 exact ⟨Z,_,(ZH Z),ax,_,ac,Z,Z⟩
 rintro ⟨⟩ bi bm ⟨aP,aT,bp,bq,aS,br,a5⟩ a9
 have aM:=wDQ ah ak a9
 try dsimp only at aM
 have aQ:Hid (¬ ((↑(((↑O.length:Int):Int) - 0).toNat:Int) < (↑O.length:Int))):=zM (wAq)
 refine sR fL1 Z (oR Z (ze Z aT aS) (eN (zJ (cF Z aQ (ZS (zf (zf (ZN (zF (sR fL1 Z (oA Z Z (eN (zR ?_)))))))))))))
 have hE:=nB aM;first | subst r | cases hE
 exact ⟨Z,_,(ZH Z),aP,_,a5,Z,Z⟩
 have aN:=hm;rw [if_neg c1] at aN;replace c1:=zM c1
 refine cT Z c1 (sR fL1 Z (oA Z Z (eN (zR (zT ?_)))))
 have hE:=nB aN;first | subst r | cases hE
 exact ⟨Z,_,(ZH Z),U,_,hS,Z,Z⟩
theorem wFw (O:wAA) (ai:Option Addr) (au:Nat) (aj:Option Addr) (av:Nat) (ak:Option Addr) (ax:Nat) (am:Option Addr) (ay:Nat) (p1:wAA) (an:Option Addr) (az:Nat) (ao:Option Addr) (aH:Nat) (ap:Option Addr) (aI:Nat) (aq:Option Addr) (aJ:Nat) (w:World) (U:PHeap) (hS:St0 w U []) (bs:Sl U 1 ai au O.Starts.length (hD KL.encI O.Starts)) (bt:Sl U 2 aj av O.Splits.length (hD wAC O.Splits)) (bu:Sl U 3 ak ax O.Clocks.length (hD wAE O.Clocks)) (bv:Sl U 4 am ay O.Readings.length (hD wAB O.Readings)) (bw:Sl U 1 an az p1.Starts.length (hD KL.encI p1.Starts)) (bx:Sl U 2 ao aH p1.Splits.length (hD wAC p1.Splits)) (bz:Sl U 3 ap aI p1.Clocks.length (hD wAE p1.Clocks)) (bA:Sl U 4 aq aJ p1.Readings.length (hD wAB p1.Readings)) {r:Bool} (hm:wCW O p1=some r):Gv Tryz.prog 21 [.agg #[.slice ai O.Starts.length au,.slice aj O.Splits.length av,.slice ak O.Clocks.length ax,.slice am O.Readings.length ay],.agg #[.slice an p1.Starts.length az,.slice ao p1.Splits.length aH,.slice ap p1.Clocks.length aI,.slice aq p1.Readings.length aJ]] w (wCF w [] U (fun U_ L_ v=>v=.bool r/\L_=[])):=by
 unfold wCW at hm
 refine Gv.of Tryz.func21 Z Tryz.ntmps21 Tryz.results21 Z (sR gEz Z ?_)
 let B0:List Value:=[.slice ai O.Starts.length au,.slice aj O.Splits.length av,.slice ak O.Clocks.length ax,.slice am O.Readings.length ay]
 refine zq (cs:=B0) rfl rfl rfl rfl rfl rfl (by rfl) hS ?_
 intro W1 b2 bn
 let B1:List Value:=[.slice an p1.Starts.length az,.slice ao p1.Splits.length aH,.slice ap p1.Clocks.length aI,.slice aq p1.Readings.length aJ]
 refine zq (cs:=B1) rfl rfl rfl rfl rfl rfl (by rfl) bn ?_
 intro W5 b6 aT
 refine oA Z Z (eN (sR (wEN (.fx 4 (wJz (.fx 10 (wNq (.fx 17 (wNt (.fx 24 (.fl 25 (.fl 26 .nil)) .stop)) .stop)) .stop)) .stop)) Z (oR Z (zH Z Z zP Z zh) (oL Z (aT.ldB (j:=1) Z Z Z zk (v:=.slice ai O.Starts.length au) Z) (oR Z (zH Z Z zP Z zh) (oL Z (aT.ldB (j:=0) Z Z Z zk (v:=.slice an p1.Starts.length az) Z) (bnK hm fun x9 a5 bB=>zC 0 Z Z Z Z (zD Z Z Tryz.call26 (zB Z (zB Z zL)) Z) aT (fun hs=>wBS O.Starts ai au p1.Starts an az W5 U hs bs bw a5) (.inr Z) ?_)))))))
 rintro aQ bL bR aV af bm ⟨rfl,rfl⟩
 have aM:sW w U aQ [.blk b6 27 B1,.blk b2 27 B0] aV:=bm
 refine oM Z Z (ifc bB ?_ ?_)
 intro ab bC
 refine zg Z Z Z (zN Z Z (congrArg hH ab.out)) (fun _=>zH Z Z zP Z Zf) (zx Z Z Z (zN Z Z (congrArg hH ab.out)) (aM.ldB (j:=1) Z Z Z Zl (v:=.slice aj O.Splits.length av) Z) Z (zg Z Z Z (zN Z Z (congrArg hH ab.out)) (fun _=>zH Z Z zP Z Zf) (zx Z Z Z (zN Z Z (congrArg hH ab.out)) (aM.ldB (j:=0) Z Z Z Zl (v:=.slice ao p1.Splits.length aH) Z) Z ?_)))
 have a6:=bt.le af
 have a7:=bx.le af
 refine bnK bC fun bV a8 bD=>zC 0 Z Z Z (zN Z Z (congrArg hH ab.out)) (zD Z Z Tryz.call44 (zB Z (zB Z zL)) Z) aM (fun hs=>wDS O.Splits aj av p1.Splits ao aH aV aQ hs a6 a7 a8) (.inr Z) ?_
 rintro aR bM bS aW aP bo ⟨rfl,rfl⟩
 have aN:sW w U aR [.blk b6 27 B1,.blk b2 27 B0] aW:=bo
 refine oR Z (zS Z (congrArg hH ab.out) Z) (oM Z Z (ifc bD ?_ ?_))
 intro ac bE
 refine zg Z Z Z (zN Z Z (congrArg hH ac.out)) (fun _=>zH Z Z zP Z yM) (zx Z Z Z (zN Z Z (congrArg hH ac.out)) (aN.ldB (j:=1) Z Z Z yR (v:=.slice ak O.Clocks.length ax) Z) Z (zg Z Z Z (zN Z Z (congrArg hH ac.out)) (fun _=>zH Z Z zP Z yM) (zx Z Z Z (zN Z Z (congrArg hH ac.out)) (aN.ldB (j:=0) Z Z Z yR (v:=.slice ap p1.Clocks.length aI) Z) Z ?_)))
 have a9:=bu.le af
 have ba:=a9.le aP
 have bb:=bz.le af
 have bc:=bb.le aP
 refine bnK bE fun bW bd bF=>zC 0 Z Z Z (zN Z Z (congrArg hH ac.out)) (zD Z Z Tryz.call76 (zB Z (zB Z zL)) Z) aN (fun hs=>wEM O.Clocks ak ax p1.Clocks ap aI aW aR hs ba bc bd) (.inr Z) ?_
 rintro aS bN bT aX aY bp ⟨rfl,rfl⟩
 have aO:sW w U aS [.blk b6 27 B1,.blk b2 27 B0] aX:=bp
 refine oR Z (zS Z (congrArg hH ac.out) Z) (oM Z Z (ifc bF ?_ ?_))
 intro ae bG
 refine zg Z Z Z (zN Z Z (congrArg hH ae.out)) (fun _=>zH Z Z zP Z Zk) (zx Z Z Z (zN Z Z (congrArg hH ae.out)) (aO.ldB (j:=1) Z Z Z Zr (v:=.slice am O.Readings.length ay) Z) Z (zg Z Z Z (zN Z Z (congrArg hH ae.out)) (fun _=>zH Z Z zP Z Zk) (zx Z Z Z (zN Z Z (congrArg hH ae.out)) (aO.ldB (j:=0) Z Z Z Zr (v:=.slice aq p1.Readings.length aJ) Z) Z ?_)))
 have be:=bv.le af
 have bf:=be.le aP
 have bg:=bf.le aY
 have bh:=bA.le af
 have bi:=bh.le aP
 have bj:=bi.le aY
 refine bnK bG fun bX bk bH=>zC 0 Z Z Z (zN Z Z (congrArg hH ae.out)) (zD Z Z Tryz.call77 (zB Z (zB Z zL)) Z) aO (fun hs=>wDu O.Readings am ay p1.Readings aq aJ aX aS hs bg bj bk) (.inr Z) ?_
 rintro aU bO bU a0 bQ bq ⟨rfl,rfl⟩
 have br:sW w U aU [.blk b6 27 B1,.blk b2 27 B0] a0:=bq
 refine oR Z (zS Z (congrArg hH ae.out) Z) (oA Z Z (eN (zR ?_)))
 have hE:=nB bH;first | subst r | cases hE
 exact ⟨rfl,_,(ZH rfl),aU,_,(br.pick [] _ (by decide) rfl),rfl,rfl⟩
 intro ae bI
 refine zw Z Z Z (zO Z Z (congrArg hH (nA.2 ae.out)) Z) (zw Z Z Z (zO Z Z (congrArg hH (nA.2 ae.out)) Z) (zw Z Z Z (zO Z Z (congrArg hH (nA.2 ae.out)) Z) (zw Z Z Z (zO Z Z (congrArg hH (nA.2 ae.out)) Z) (ZA Z Z Z (zO Z Z (congrArg hH (nA.2 ae.out)) Z) (oR Z (zZ Z (congrArg hH (nA.2 ae.out)) Z) (oA Z Z (eN (zR ?_))))))))
 have hE:=nB bI;first | subst r | cases hE
 exact ⟨rfl,_,(ZH rfl),aS,_,(aO.pick [] _ (by decide) rfl),rfl,rfl⟩
 intro ac bJ
 refine zw Z Z Z (zO Z Z (congrArg hH (nA.2 ac.out)) Z) (zw Z Z Z (zO Z Z (congrArg hH (nA.2 ac.out)) Z) (zw Z Z Z (zO Z Z (congrArg hH (nA.2 ac.out)) Z) (zw Z Z Z (zO Z Z (congrArg hH (nA.2 ac.out)) Z) (ZA Z Z Z (zO Z Z (congrArg hH (nA.2 ac.out)) Z) (oR Z (zZ Z (congrArg hH (nA.2 ac.out)) Z) (oM Z Z (oN Z (oN Z (oN Z (oN Z (ZA Z Z Z (zO Z Z Z Z) (oR Z (zZ Z Z Z) (oA Z Z (eN (zR ?_)))))))))))))))
 have hE:=nB bJ;first | subst r | cases hE
 exact ⟨rfl,_,(ZH rfl),aR,_,(aN.pick [] _ (by decide) rfl),rfl,rfl⟩
 intro ab bK
 refine zw Z Z Z (zO Z Z (congrArg hH (nA.2 ab.out)) Z) (zw Z Z Z (zO Z Z (congrArg hH (nA.2 ab.out)) Z) (zw Z Z Z (zO Z Z (congrArg hH (nA.2 ab.out)) Z) (zw Z Z Z (zO Z Z (congrArg hH (nA.2 ab.out)) Z) (ZA Z Z Z (zO Z Z (congrArg hH (nA.2 ab.out)) Z) (oR Z (zZ Z (congrArg hH (nA.2 ab.out)) Z) (oM Z Z (oN Z (oN Z (oN Z (oN Z (ZA Z Z Z (zO Z Z Z Z) (oR Z (zZ Z Z Z) (oM Z Z (oN Z (oN Z (oN Z (oN Z (ZA Z Z Z (zO Z Z Z Z) (oR Z (zZ Z Z Z) (oA Z Z (eN (zR ?_))))))))))))))))))))))
 have hE:=nB bK;first | subst r | cases hE
 exact ⟨rfl,_,(ZH rfl),aQ,_,(aM.pick [] _ (by decide) rfl),rfl,rfl⟩
theorem wEb (p0:wAA) (bw:Option Addr) (bA:Nat) (bx:Option Addr) (bB:Nat) (bQ:Option Addr) (bR:Nat) (bz:Option Addr) (bC:Nat) (p1:wAL) (w:World) (U:PHeap) (hS:St0 w U []) (cA:Sl U 1 bw bA p0.Starts.length (hD KL.encI p0.Starts)) (cC:Sl U 2 bx bB p0.Splits.length (hD wAC p0.Splits)) (cD:Sl U 3 bQ bR p0.Clocks.length (hD wAE p0.Clocks)) (cE:Sl U 4 bz bC p0.Readings.length (hD wAB p0.Readings)) {r:Bool} (hm:wBf p0 p1=some r):Gv Tryz.prog 4 [.agg #[.slice bw p0.Starts.length bA,.slice bx p0.Splits.length bB,.slice bQ p0.Clocks.length bR,.slice bz p0.Readings.length bC],.agg #[jV p1.Skier,jV p1.Mat]] w (wCF w [] U (fun U_ L_ v=>v=.bool r/\L_=[])):=by
 unfold wBf at hm
 refine Gv.of Tryz.func4 Z Tryz.ntmps4 Tryz.results4 Z (sR gEz Z ?_)
 let O:List Value:=[.slice bw p0.Starts.length bA,.slice bx p0.Splits.length bB,.slice bQ p0.Clocks.length bR,.slice bz p0.Readings.length bC]
 refine zq (cs:=O) rfl rfl rfl rfl rfl rfl (by rfl) hS ?_
 intro W1 b2 qH
 let B1:List Value:=[jV p1.Skier,jV p1.Mat]
 refine zq (cs:=B1) rfl rfl rfl rfl rfl rfl (by rfl) qH ?_
 intro W5 b6 gF
 refine oA Z Z (eN (zJ (bnK hm fun b9 s9 sf=>yX (fun J_ w_=>∃ (U_:PHeap),J_ 2=.pointer (some ⟨b2,0,none⟩)/\J_ 3=.pointer (some ⟨b6,0,none⟩)/\J_ 38=.bool b9/\PHeap.Le U U_/\sW w U U_ [.blk b6 29 B1,.blk b2 27 O] w_) ?_ ?_)))
 refine rR (.fl 0 (.fx 1 (wPB (.nil)) .stop)) Z (oL Z (gF.ldBA (j:=1) Z Z Z zn zc (vs:=O) Z Z) (bnK s9 fun va jh sg=>zC 0 Z Z Z Z (zD Z Z Tryz.call8 (zB Z zL) Z) gF (fun hs=>wFt p0 bw bA bx bB bQ bR bz bC W5 U hs cA cC cD cE jh) (.inr Z) ?_))
 rintro bY tG uK ix cG qA ⟨rfl,rfl⟩
 have a9:sW w U bY [.blk b6 29 B1,.blk b2 27 O] ix:=qA
 refine oM Z Z (ifc sg ?_ ?_)
 intro ap sk
 refine zw Z Z Z (zO Z Z (congrArg hH ap.out) Z) (zw Z Z Z (zO Z Z (congrArg hH ap.out) Z) (zw Z Z Z (zO Z Z (congrArg hH ap.out) Z) (zw Z Z Z (zO Z Z (congrArg hH ap.out) Z) (zw Z Z Z (zO Z Z (congrArg hH ap.out) Z) (zw Z Z Z (wEJ Z Z Z) (zw Z Z Z (wEJ Z Z Z) (zw Z Z Z (wEJ Z Z Z) (zw Z Z Z (wEJ Z Z Z) (zw Z Z Z (zO Z Z (congrArg hH ap.out) Z) (oR Z (zS Z (congrArg hH ap.out) Z) (oM Z Z (oN Z (oN Z (oN Z (oN Z (oN Z (oN Z (oN Z (oN Z (oN Z (oR Z (zS Z Z Z) (zb ?_))))))))))))))))))))))
 cases sk
 exact zF ⟨Z,⟨bY,Z,Z,Z,cG,a9⟩⟩
 intro ap sl
 refine zg Z Z Z (zN Z Z (congrArg hH (nA.2 ap.out))) (fun _=>zH Z Z zP Z Zk) (zx Z Z Z (zN Z Z (congrArg hH (nA.2 ap.out))) (a9.ldB (j:=1) Z Z Z Zr (v:=.slice bz p0.Readings.length bC) Z) Z (zg Z Z Z (zN Z Z (congrArg hH (nA.2 ap.out))) (fun _=>zi Z Z ZF) (zg Z Z Z (zN Z Z (congrArg hH (nA.2 ap.out))) (fun _=>yQ Z Z Z) (ZE Z Z Z (zN Z Z (congrArg hH (nA.2 ap.out))) Z Z (ifc sl ?_ ?_)))))
 intro aS sn
 refine rU Z (wT Z aS) (zH Z Z zP Z Zk) (zx Z Z Z (wT Z aS) (a9.ldB (j:=1) Z Z Z Zr (v:=.slice bz p0.Readings.length bC) Z) Z (rU Z (wT Z aS) (zi Z Z ZF) (rU Z (wT Z aS) (Runs.leq Z Z Z) (zg Z Z Z (zN Z Z (congrArg hH (nA.2 ap.out))) (fun _=>zS Z (Zh aS.out) Z) (oR Z (zZ Z (congrArg hH (nA.2 ap.out)) Z) (oM Z Z (ifc sn ?_ ?_)))))))
 intro ak so
 refine oT Z ak (oT Z ak (oT Z ak (oT Z ak (oT Z ak (oT Z ak (oT Z ak (oT Z ak (oT Z ak (oR Z (zS Z (Zh ak.out) Z) (zb ?_))))))))))
 cases so
 exact zF ⟨Z,⟨bY,Z,Z,Z,cG,a9⟩⟩
 intro ak sq
 refine rU Z (wF Z ak) (zH Z Z zP Z zh) (zx Z Z Z (wF Z ak) (a9.ldB (j:=1) Z Z Z zk (v:=.slice bw p0.Starts.length bA) Z) Z (rU Z (wF Z ak) (zi Z Z zG) (rU Z (wF Z ak) (zH Z Z zP Z Zf) (zx Z Z Z (wF Z ak) (a9.ldB (j:=1) Z Z Z Zl (v:=.slice bx p0.Splits.length bB) Z) Z (rU Z (wF Z ak) (zi Z Z ZG) (rU Z (wF Z ak) (za Z Z Z) (rU Z (wF Z ak) (Runs.mulw Z Z Z) (rU Z (wF Z ak) (yQ Z Z Z) (oR Z (zZ Z (ZL ak.out) Z) (zb ?_))))))))))
 have q:=nB sq
 obtain rfl:=q
 exact zF ⟨Z,⟨bY,Z,Z,Z,cG,a9⟩⟩
 intro aS sr
 refine oF Z aS (oF Z aS (oF Z aS (oF Z aS (zg Z Z Z (zN Z Z (congrArg hH (nA.2 ap.out))) (fun _=>zZ Z (ZL aS.out) Z) (oR Z (zZ Z (congrArg hH (nA.2 ap.out)) Z) (oM Z Z (zg Z Z Z (zN Z Z Z) (fun _=>zH Z Z zP Z zh) (zx Z Z Z (zN Z Z Z) (a9.ldB (j:=1) Z Z Z zk (v:=.slice bw p0.Starts.length bA) Z) Z (zg Z Z Z (zN Z Z Z) (fun _=>zi Z Z zG) (zg Z Z Z (zN Z Z Z) (fun _=>zH Z Z zP Z Zf) (zx Z Z Z (zN Z Z Z) (a9.ldB (j:=1) Z Z Z Zl (v:=.slice bx p0.Splits.length bB) Z) Z (zg Z Z Z (zN Z Z Z) (fun _=>zi Z Z ZG) (zg Z Z Z (zN Z Z Z) (fun _=>za Z Z Z) (zg Z Z Z (zN Z Z Z) (fun _=>Runs.mulw Z Z Z) (zg Z Z Z (zN Z Z Z) (fun _=>yQ Z Z Z) (oR Z (zZ Z Z Z) (zb ?_)))))))))))))))))
 have q:=nB sr
 obtain rfl:=q
 exact zF ⟨Z,⟨bY,Z,Z,Z,cG,a9⟩⟩
 rintro tA dt ⟨dl,dN,iW,fN,az,gy⟩
 refine ifc sf ?_ ?_
 intro dC ss
 refine ZK (fN.trans (congrArg hH dC.out)) (sR gEj Z (bnK ss fun vb jI su=>zC 0 Z Z Z Z (zD Z Z Tryz.call9 zL Z) gy (fun hs=>wEO dt dl hs jI) (.inr Z) ?_))
 rintro eH tN uT iH uG ri ⟨rfl,rfl⟩
 have rj:sW w U eH [.blk b6 29 B1,.blk b2 27 O] iH:=ri
 refine oA Z Z (eN (zR (zT ?_)))
 have hE:=nB su;first | subst r | cases hE
 exact ⟨rfl,_,(ZH rfl),eH,_,(rj.pick [] _ (by decide) rfl),rfl,rfl⟩
 intro dC sE
 refine zr (fN.trans (congrArg hH (nA.2 dC.out))) (kN ?_)
 have q:=bnd sE
 obtain ⟨⟨ba,aV,aW,aX,bb,bc,bd,be⟩,ta,gS⟩:=q
 try dsimp only at gS
 refine yX (fun J_ w_=>∃ (U_:PHeap) (af:Nat) (bg:Option Addr) (bm:Nat) (aZ:Option Addr) (a6:Nat) (a0:Option Addr) (a7:Nat) (a5:Option Addr) (a8:Nat) (ag:Nat) (bh:Option Addr) (bn:Nat) (bi:Option Addr) (bo:Nat) (bj:Option Addr) (bp:Nat) (bk:Option Addr) (br:Nat),J_ 2=.pointer (some ⟨b2,0,none⟩)/\J_ 3=.pointer (some ⟨b6,0,none⟩)/\J_ 5=.pointer (some ⟨af,0,none⟩)/\J_ 6=.pointer (some ⟨ag,0,none⟩)/\PHeap.Le dl U_/\sW w U U_ [.blk b6 29 B1,.blk b2 27 O,.blk af 27 [.slice bg ba.length bm,.slice aZ aV.length a6,.slice a0 aW.length a7,.slice a5 aX.length a8],.row bg bm 3 1 (hD KL.encI ba),.row aZ a6 39 2 (hD wAC aV),.row a0 a7 112 3 (hD wAE aW),.row a5 a8 115 4 (hD wAB aX),.blk ag 36 [.slice bh bb.length bn,.slice bi bc.length bo,.slice bj bd.length bp,.slice bk be.length br],.row bh bn 3 1 (hD KL.encI bb),.row bi bo 39 2 (hD wAC bc),.row bj bp 116 3 (hD wAM bd),.row bk br 117 4 (hD wAF be)] w_) ?_ ?_
 refine bnK ta fun an pp sh=>bnK sh fun am jg sj=>ZI ZD [1,2,1,2,2,2,0,0] (.fl 0 (.fl 2 (adT [(1,[0]),(3,[1,2]),(4,[]),(5,[])] (.fx 6 (.fx 7 .nil .stop) .stop) 5 [1,3,4,5] [0,2]))) (by kernel_rfl) ?_
 have cx:=gy.drew
 generalize hw_W157:({ dt with drawn:=dt.drawn + 1 }:World)=ua at cx ⊢
 refine oL Z (cx.ldBA (j:=1) Z Z dN zn zc (vs:=O) Z Z) (oL Z (cx.ldBA (j:=1) Z Z dN zn zc (vs:=O) Z Z) ?_)
 let B2:List Value:=[.slice none 0 0,.slice none 0 0,.slice none 0 0,.slice none 0 0]
 refine OKS.adders (U0:=dl) (L0:=[.blk b6 29 B1,.blk b2 27 O]) [(1,[0]),(3,[1,2]),(4,[]),(5,[])] [⟨1,41,fun v R=>∃ (d3:Option Addr) (fj:Nat) (d4:Option Addr) (fk:Nat) (d5:Option Addr) (fm:Nat) (d6:Option Addr) (fq:Nat),v=.agg #[.slice d3 an.Starts.length fj,.slice d4 an.Splits.length fk,.slice d5 an.Clocks.length fm,.slice d6 an.Readings.length fq]/\R=[.row d3 fj 3 1 (hD KL.encI an.Starts),.row d4 fk 39 2 (hD wAC an.Splits),.row d5 fm 112 3 (hD wAE an.Clocks),.row d6 fq 115 4 (hD wAB an.Readings)]⟩,⟨3,43,fun v R=>∃ (d7:Option Addr) (ft:Nat) (d8:Option Addr) (fu:Nat) (d9:Option Addr) (fw:Nat) (ef:Option Addr) (fy:Nat),v=.agg #[.slice d7 am.Starts.length ft,.slice d8 am.Splits.length fu,.slice d9 am.Clocks.length fw,.slice ef am.Readings.length fy]/\R=[.row d7 ft 3 1 (hD KL.encI am.Starts),.row d8 fu 39 2 (hD wAC am.Splits),.row d9 fw 116 3 (hD wAM am.Clocks),.row ef fy 117 4 (hD wAF am.Readings)]⟩,⟨4,5,fun v R=>∃ (fg:Nat),v=.pointer (some ⟨fg,0,none⟩)/\R=[.blk fg 27 B2]⟩,⟨5,6,fun v R=>∃ (fh:Nat),v=.pointer (some ⟨fh,0,none⟩)/\R=[.blk fh 36 B2]⟩] [(2,.pointer (some ⟨b2,0,none⟩)),(3,.pointer (some ⟨b6,0,none⟩)),(40,.agg O.toArray),(42,.agg O.toArray)] [0,2] (by rfl) (nN.2 ⟨?_,nN.2 ⟨?_,nN.2 ⟨?_,nN.2 ⟨?_,fun _ h=>nomatch h⟩⟩⟩⟩) ?_ ⟨dN,iW,rfl,rfl,trivial⟩ cx
 intro tm gY eV ic g9 rW cH qB tb
 obtain ⟨uh,ui,iO,uj,_⟩:=rW
 show OKS _ _ _ _ _ _ (.fx 1 tm .stop) gY eV
 have ji:=cA.le az
 have jj:=ji.le cH
 have jk:=cC.le az
 have jl:=jk.le cH
 have jm:=cD.le az
 have jo:=jm.le cH
 have jp:=cE.le az
 have jq:=jp.le cH
 refine zC 0 Z Z Z Z (zD Z Z Tryz.call10 (zB iO zL) Z) qB (fun hs=>wFc p0 bw bA bx bB bQ bR bz bC eV ic hs jj jl jo jq pp) (.inr Z) ?_
 rintro ie tH uL iy tg qC ⟨eg,fz,eh,fA,ej,fB,ek,fC,rfl,rfl⟩
 have qD:sW w U ie (.row eg fz 3 1 (hD KL.encI an.Starts) :: .row eh fA 39 2 (hD wAC an.Splits) :: .row ej fB 112 3 (hD wAE an.Clocks) :: .row ek fC 115 4 (hD wAB an.Readings) :: (g9 ++ [.blk b6 29 B1,.blk b2 27 O])) iy:=qC
 exact tb _ _ _ _ tg qD ⟨eg,fz,eh,fA,ej,fB,ek,fC,Z,Z⟩
 intro tn gZ eW ig ib rX cI qE tc
 obtain ⟨uk,ul,um,iP,_⟩:=rX
 show OKS _ _ _ _ _ _ (.fx 3 tn .stop) gZ eW
 have jr:=cA.le az
 have jt:=jr.le cI
 have ju:=cC.le az
 have jv:=ju.le cI
 have jw:=cD.le az
 have jx:=jw.le cI
 have jy:=cE.le az
 have jz:=jy.le cI
 refine zC 0 Z Z Z Z (zD Z Z Tryz.call11 (zB iP zL) Z) qE (fun hs=>wFv p0 bw bA bx bB bQ bR bz bC eW ig hs jt jv jx jz jg) (.inr Z) ?_
 rintro ii tI uM iz th qF ⟨en,fD,eo,fE,ep,fG,er,fH,rfl,rfl⟩
 have qG:sW w U ii (.row en fD 3 1 (hD KL.encI am.Starts) :: .row eo fE 39 2 (hD wAC am.Splits) :: .row ep fG 116 3 (hD wAM am.Clocks) :: .row er fH 117 4 (hD wAF am.Readings) :: (ib ++ [.blk b6 29 B1,.blk b2 27 O])) iz:=qF
 exact tc _ _ _ _ th qG ⟨en,fD,eo,fE,ep,fG,er,fH,Z,Z⟩
 intro tp g7 iA t6 tJ rY uE qI te
 obtain ⟨uo,uq,ur,uu,_⟩:=rY
 show OKS _ _ _ _ _ _ (.fx 4 tp .stop) g7 iA
 refine zU (cs:=B2) Z Z Z Z Z ym Z qI ?_
 intro ub iJ qJ
 exact te _ _ _ _ (zQ _) qJ ⟨iJ,Z,Z⟩
 intro tq g8 iB t7 tK rZ uF qK tf
 obtain ⟨uv,uw,ux,uy,_⟩:=rZ
 show OKS _ _ _ _ _ _ (.fx 5 tq .stop) g8 iB
 refine zU (cs:=B2) Z Z Z Z Z yW Z qK ?_
 intro ud iK qL
 exact tf _ _ _ _ (zQ _) qL ⟨iK,Z,Z⟩
 refine fun uN tY jA uO tZ jB uP t4 jC uQ t5 jD=>?_
 obtain ⟨cL,du,cM,dv,cN,dw,cO,dx,rfl,rfl⟩:=jA
 obtain ⟨cP,dy,cQ,dz,cR,dA,cS,dB,rfl,rfl⟩:=jB
 obtain ⟨cr,rfl,rfl⟩:=jC
 obtain ⟨ct,rfl,rfl⟩:=jD
 intro tB iC cn r0 s8 tj qM
 obtain ⟨iQ,iR,uz,uA,_⟩:=r0
 obtain ⟨iS,iT,fJ,fK,_⟩:=s8
 let B3:Res:=.row cS dB 117 4 (hD wAF am.Readings)
 let B4:Res:=.row cR dA 116 3 (hD wAM am.Clocks)
 let B5:Res:=.row cO dx 115 4 (hD wAB an.Readings)
 let B6:Res:=.row cN dw 112 3 (hD wAE an.Clocks)
 let B7:Res:=.row cQ dz 39 2 (hD wAC am.Splits)
 let B8:Res:=.row cM dv 39 2 (hD wAC an.Splits)
 let B9:Res:=.row cP dy 3 1 (hD KL.encI am.Starts)
 let c6:Res:=.row cL du 3 1 (hD KL.encI an.Starts)
 have qN:sW w U cn [c6,B8,B6,B5,B9,B7,B4,B3,.blk cr 27 B2,.blk ct 36 B2,.blk b6 29 B1,.blk b2 27 O] iC:=qM
 let da:List Value:=[.slice cL an.Starts.length du,.slice cM an.Splits.length dv,.slice cN an.Clocks.length dw,.slice cO an.Readings.length dx]
 refine zY (j:=8) (vs:=da) Z Z Z Z qN Z fJ iS Z zc (zA Z) Z Z Z ?_
 intro iD qO
 have qP:sW w U cn [c6,B8,B6,B5,B9,B7,B4,B3,.blk cr 27 da,.blk ct 36 B2,.blk b6 29 B1,.blk b2 27 O] iD:=qO
 let eu:List Value:=[.slice cP am.Starts.length dy,.slice cQ am.Splits.length dz,.slice cR am.Clocks.length dA,.slice cS am.Readings.length dB]
 refine zY (j:=9) (vs:=eu) Z Z Z Z qP Z fK iT Z ZO (zA Z) Z Z Z ?_
 intro iE qQ
 have qR:sW w U cn [c6,B8,B6,B5,B9,B7,B4,B3,.blk cr 27 da,.blk ct 36 eu,.blk b6 29 B1,.blk b2 27 O] iE:=qQ
 refine zb ?_
 cases sj
 exact zF ⟨rfl,⟨cn,cr,cL,du,cM,dv,cN,dw,cO,dx,ct,cP,dy,cQ,dz,cR,dA,cS,dB,iQ,iR,fJ,fK,tj,(qR.pick [10,11,8,0,1,2,3,9,4,5,6,7] _ (by decide) rfl)⟩⟩
 rintro tC b5 ⟨t8,af,bg,bm,aZ,a6,a0,a7,a5,a8,ag,bh,bn,bi,bo,bj,bp,bk,br,iU,iV,fL,fM,cJ,gz⟩
 refine sR (.fl 0 (.fx 1 (wFy (.nil)) .stop)) Z ?_
 let ae:List Value:=[.slice bg ba.length bm,.slice aZ aV.length a6,.slice a0 aW.length a7,.slice a5 aX.length a8]
 refine oL Z (gz.ldBA (j:=2) Z Z fL zn zc (vs:=ae) Z Z) ?_
 have q:=gz.freezeR (k:=3) (n:=ba.length) rfl (wAD (f:=KL.encI) (sz:=1) (fun _=>rfl) ba) (by decide)
 obtain ⟨ij,cK,sS,qS⟩:=q
 let ah:List Value:=[.slice bh bb.length bn,.slice bi bc.length bo,.slice bj bd.length bp,.slice bk be.length br]
 let bD:Res:=.row bk br 117 4 (hD wAF be)
 let bM:Res:=.row bj bp 116 3 (hD wAM bd)
 let bS:Res:=.row bi bo 39 2 (hD wAC bc)
 let bX:Res:=.row bh bn 3 1 (hD KL.encI bb)
 let db:Res:=.row a5 a8 115 4 (hD wAB aX)
 let ew:Res:=.row a0 a7 112 3 (hD wAE aW)
 have qT:sW w U ij [.blk b6 29 B1,.blk b2 27 O,.blk af 27 ae,.row aZ a6 39 2 (hD wAC aV),ew,db,.blk ag 36 ah,bX,bS,bM,bD] b5:=qS
 have q:=qT.freezeR (k:=3) (n:=aV.length) rfl (wAD (f:=wAC) (sz:=2) (fun _=>rfl) aV) (by decide)
 obtain ⟨ik,cb,sT,qU⟩:=q
 have qV:sW w U ik [.blk b6 29 B1,.blk b2 27 O,.blk af 27 ae,ew,db,.blk ag 36 ah,bX,bS,bM,bD] b5:=qU
 have q:=qV.freezeR (k:=3) (n:=aW.length) rfl (wAD (f:=wAE) (sz:=3) (fun _=>rfl) aW) (by decide)
 obtain ⟨il,bU,sU,qW⟩:=q
 have qX:sW w U il [.blk b6 29 B1,.blk b2 27 O,.blk af 27 ae,db,.blk ag 36 ah,bX,bS,bM,bD] b5:=qW
 have q:=qX.freezeR (k:=3) (n:=aX.length) rfl (wAD (f:=wAB) (sz:=4) (fun _=>rfl) aX) (by decide)
 obtain ⟨eF,bP,gT,qY⟩:=q
 have qZ:sW w U eF [.blk b6 29 B1,.blk b2 27 O,.blk af 27 ae,.blk ag 36 ah,bX,bS,bM,bD] b5:=qY
 have jE:=sS.le cb
 have jF:=jE.le bU
 have fT:=jF.le bP
 have jG:=sT.le bU
 have fU:=jG.le bP
 have fV:=sU.le bP
 have q:=bnd gS
 obtain ⟨⟨ax,tt⟩,jH,gJ⟩:=q
 try dsimp only at gJ
 refine zC 0 Z Z Z Z (zD Z Z Tryz.call22 (zB Z zL) Z) qZ (fun hs=>wFk (⟨ba,aV,aW,aX⟩:wAA) bg bm aZ a6 a0 a7 a5 a8 b5 eF hs fT fU fV gT jH) (.inr Z) ?_
 rintro im tL uR bT bF q0 ⟨cU,dD,rfl,rfl⟩
 let aj:Res:=.row cU dD 29 2 (hD wAT ax)
 have gA:sW w U im [aj,.blk b6 29 B1,.blk b2 27 O,.blk af 27 ae,.blk ag 36 ah,bX,bS,bM,bD] bT:=q0
 refine oM Z Z (oR Z (zV Z Z (v:=.slice cU ax.length dD) Z) (oR Z (zV Z Z (v:=jV tt) Z) (oA Z Z (oA Z Z (eN (sR (.fl 0 (.fx 1 (wFy (.nil)) .stop)) Z (oL Z (gA.ldBA (j:=4) Z Z fM ZX ZO (vs:=ah) Z Z) ?_)))))))
 have q:=gA.freezeR (k:=5) (n:=bb.length) rfl (wAD (f:=KL.encI) (sz:=1) (fun _=>rfl) bb) (by decide)
 obtain ⟨io,bG,sV,q5⟩:=q
 have q6:sW w U io [aj,.blk b6 29 B1,.blk b2 27 O,.blk af 27 ae,.blk ag 36 ah,bS,bM,bD] bT:=q5
 have q:=q6.freezeR (k:=5) (n:=bc.length) rfl (wAD (f:=wAC) (sz:=2) (fun _=>rfl) bc) (by decide)
 obtain ⟨ip,bu,sX,q7⟩:=q
 have q8:sW w U ip [aj,.blk b6 29 B1,.blk b2 27 O,.blk af 27 ae,.blk ag 36 ah,bM,bD] bT:=q7
 have q:=q8.freezeR (k:=5) (n:=bd.length) rfl (wAD (f:=wAM) (sz:=3) (fun _=>rfl) bd) (by decide)
 obtain ⟨iq,bf,sY,q9⟩:=q
 have rc:sW w U iq [aj,.blk b6 29 B1,.blk b2 27 O,.blk af 27 ae,.blk ag 36 ah,bD] bT:=q9
 have q:=rc.freezeR (k:=5) (n:=be.length) rfl (wAD (f:=wAF) (sz:=4) (fun _=>rfl) be) (by decide)
 obtain ⟨eG,aY,gU,rd⟩:=q
 have re:sW w U eG [aj,.blk b6 29 B1,.blk b2 27 O,.blk af 27 ae,.blk ag 36 ah] bT:=rd
 have jJ:=sV.le bu
 have jK:=jJ.le bf
 have fW:=jK.le aY
 have jL:=sX.le bf
 have fY:=jL.le aY
 have fZ:=sY.le aY
 have q:=bnd gJ
 obtain ⟨⟨bL,tu⟩,jM,gK⟩:=q
 try dsimp only at gK
 refine zC 0 Z Z Z Z (zD Z Z Tryz.call23 (zB Z zL) Z) re (fun hs=>wFG (⟨bb,bc,bd,be⟩:wAK) bh bn bi bo bj bp bk br bT eG hs fW fY fZ gU jM) (.inr Z) ?_
 rintro bZ tM uS iF aH rf ⟨cV,dE,rfl,rfl⟩
 let ao:Res:=.row cV dE 44 2 (hD wAX bL)
 have dT:sW w U bZ [ao,aj,.blk b6 29 B1,.blk b2 27 O,.blk af 27 ae,.blk ag 36 ah] iF:=rf
 refine oM Z Z (oR Z (zV Z Z (v:=.slice cV bL.length dE) Z) (oR Z (zV Z Z (v:=jV tu) Z) (oA Z Z (oA Z Z (eN (zJ (sR fL10 Z (oM Z Z (oM Z Z (oR Z (Zb Z Z Z) (oM Z Z (ifc gK ?_ ?_))))))))))))
 intro aq sv
 refine ZE Z Z Z (zN Z Z (ZL (fun h=>h aq.out))) Z Z (zg Z Z Z (zN Z Z (ZL (fun h=>h aq.out))) (fun _=>zi Z Z Zm) (ZE Z Z Z (zN Z Z (ZL (fun h=>h aq.out))) Z Z (zg Z Z Z (zN Z Z (ZL (fun h=>h aq.out))) (fun _=>zi Z Z Tryz.runUnderlying59) (zg Z Z Z (zN Z Z (ZL (fun h=>h aq.out))) (fun _=>Zb Z Z Z) (oR Z (zZ Z (ZL (fun h=>h aq.out)) Z) (eN (ifc sv ?_ ?_)))))))
 intro dF dZ
 refine zr (ZL (fun h=>h dF.out)) (kN (zJ (sR fL3 Z (oM Z Z (oR Z (zi Z Z Zm) (oM Z Z (eN (zX ?_))))))))
 have q:=wCT dZ
 obtain ⟨uI,dW⟩:=q
 have q:=wCS dW
 obtain ⟨dY,rQ⟩:=q
 replace dY:=zM dY
 refine ya (fun ay _ J_ w_=>∃ (U_:PHeap),J_ 66=jV (↑ay:Int)/\J_ 2=.pointer (some ⟨b2,0,none⟩)/\J_ 3=.pointer (some ⟨b6,0,none⟩)/\J_ 5=.pointer (some ⟨af,0,none⟩)/\J_ 6=.pointer (some ⟨ag,0,none⟩)/\J_ 7=.slice cU ax.length dD/\J_ 9=.slice cV bL.length dE/\J_ 65=jV (↑ax.length:Int)/\PHeap.Le bZ U_/\sW w U U_ [.blk b6 29 B1,.blk b2 27 O,.blk af 27 ae,.blk ag 36 ah,aj,ao] w_) rQ ?_ ?_ ?_
 exact ⟨bZ,rfl,iU,iV,fL,fM,rfl,rfl,rfl,(zQ _),(dT.pick [2,3,4,5,1,0] _ (by decide) rfl)⟩
 rintro ay ⟨⟩ vh tD eZ dX ⟨eI,dQ,iX,iY,iZ,i2,fO,fP,fQ,tl,rh⟩ gV rO
 try dsimp only at gV
 have fI:Hid ((↑ay:Int) < (↑ax.length:Int)):=zM (wBQ dX)
 replace dX:=zM dX
 have rV:Hid (w64 ((↑ay:Int) + 1)=(↑(ay + 1):Int)):=zM (by have h1:=dY.out;have h2:=fI.out;rw [wAY] <;> omega)
 refine sR fL1 rfl (zg rfl rfl rfl rfl (fun _=>ze rfl dQ fQ) (eN (zJ (cT Z fI (kN (zJ (zX (sR fL2 rfl (ZE rfl rfl rfl rfl rfl dQ (yY rfl rfl rfl rfl rfl rfl (eN (zJ (ZI ZD [3,3,3,1,3,3,3,1,3] fL9 (by kernel_rfl) ?_)))))))))))))
 have bO:=rh.drew
 generalize hw_W530:({ eZ with drawn:=eZ.drawn + 1 }:World)=ue at bO ⊢
 refine oM Z fO (oM Z Z (bnK gV fun _ dR sw=>?_))
 obtain ⟨uf,gw⟩:=bO.rowSome (j:=4) rfl (by rw [wAD (f:=wAT) (sz:=2) (fun _=>rfl) ax];have hz:=wAS dR;omega)
 refine oR Z (ZZ Z Z gw Z Zm ZR (wAS dR)) ?_
 have rS:=wBJ (xs:=ax) (wAS dR)
 refine zx rfl rfl rfl rfl (bO.ldRA (j:=4) rfl gw rfl rfl Zp ZR (vs:=[jV ((gd ax ay).Skier),jV ((gd ax ay).Mat)]) (wFr (sz:=2) (fun _=>rfl) _ _ _ rS (by first | omega | rfl | simp) rfl) rfl) rfl (ZE rfl rfl rfl rfl rfl fP (ZE rfl rfl rfl rfl rfl rfl (bnK sw fun _ dS sA=>?_)))
 obtain ⟨ug,gx⟩:=bO.rowSome (j:=5) rfl (by rw [wAD (f:=wAX) (sz:=2) (fun _=>rfl) bL];have hz:=wAS dS;omega)
 refine oR Z (ZZ Z Z gx Z Tryz.runUnderlying59 yl (wAS dS)) ?_
 have rT:=wBJ (xs:=bL) (wAS dS)
 refine zx rfl rfl rfl rfl (bO.ldRA (j:=5) rfl gx rfl rfl Tryz.isAgg44 yl (vs:=[jV ((gd bL ay).Skier),jV ((gd bL ay).Mat)]) (wFr (sz:=2) (fun _=>rfl) _ _ _ rT (by first | omega | rfl | simp) rfl) rfl) rfl (zg rfl rfl rfl rfl (fun _=>ZP (Runs.neS (enc:=wAX) (a:=(⟨(gd ax ay).Skier,(gd ax ay).Mat⟩:wAR)) (b:=(gd bL ay)) rfl rfl rfl eqT44 eqG44) (congrArg hH (decide_not).symm)) (eN (ifc sA ?_ ?_)))
 intro dG sB
 refine zr (ZL (fun h=>h dG.out)) (Ze (zl (zF (rR fL2 Z (oR Z (ZP (za Z dQ Z) (congrArg (jV) rV.out)) (oM Z Z (zb ?_)))))))
 have q:=nB sB
 obtain rfl:=q
 exact zF ⟨Z,_,Z,⟨eI,Z,iX,iY,iZ,i2,fO,fP,fQ,tl,bO⟩⟩
 intro dG sC
 refine cT Z dG (sR fL1 Z (oA Z Z (eN (zR (zo (zT ?_))))))
 have q:=wAV sC
 obtain ⟨tr,sD,iN⟩:=q
 have q:=wCY dZ dW (rO tr iN)
 obtain rfl:=q
 refine zT (zo (zT ?_))
 have hE:=nB sD;first | subst r | cases hE
 exact ⟨rfl,_,(ZH rfl),eI,_,(bO.pick [] _ (by decide) rfl),rfl,rfl⟩
 rintro ⟨⟩ tE iI ⟨ir,jf,i4,i6,dO,dP,uB,uC,i8,aI,gB⟩ rP
 have gL:=wDQ dZ dW rP
 try dsimp only at gL
 have iM:Hid (¬ ((↑(((↑ax.length:Int):Int) - 0).toNat:Int) < (↑ax.length:Int))):=zM (wAq)
 refine sR fL1 Z (oR Z (ze Z jf i8) (eN (zJ (cF Z iM (ZS (zf (zf (ZN (zF (sR (.fl 0 (.fx 1 (wFy (.nil)) .stop)) Z (oL Z (gB.ldBA (j:=2) Z Z dO zn zc (vs:=ae) Z Z) ?_)))))))))))
 have jN:=fT.le bF
 have jO:=jN.le bG
 have jP:=jO.le bu
 have jQ:=jP.le bf
 have jR:=jQ.le aY
 have jS:=jR.le aH
 have f5:=jS.le aI
 have jT:=fU.le bF
 have jU:=jT.le bG
 have jW:=jU.le bu
 have jX:=jW.le bf
 have jY:=jX.le aY
 have jZ:=jY.le aH
 have f6:=jZ.le aI
 have j0:=fV.le bF
 have j5:=j0.le bG
 have j6:=j5.le bu
 have j7:=j6.le bf
 have j8:=j7.le aY
 have j9:=j8.le aH
 have f7:=j9.le aI
 have k5:=gT.le bF
 have k6:=k5.le bG
 have k7:=k6.le bu
 have k8:=k7.le bf
 have k9:=k8.le aY
 have lb:=k9.le aH
 have f8:=lb.le aI
 have q:=bnd gL
 obtain ⟨⟨cc,tv⟩,lf,gM⟩:=q
 try dsimp only at gM
 refine zC 0 Z Z Z Z (zD Z Z Tryz.call24 (zB Z zL) Z) gB (fun hs=>wGv (⟨ba,aV,aW,aX⟩:wAA) bg bm aZ a6 a0 a7 a5 a8 iI ir hs f5 f6 f7 f8 lf) (.inr Z) ?_
 rintro eJ tO uU e6 aJ rk ⟨cW,dH,rfl,rfl⟩
 let ey:Res:=.row cW dH 3 1 (hD KL.encI cc)
 have gC:sW w U eJ [ey,.blk b6 29 B1,.blk b2 27 O,.blk af 27 ae,.blk ag 36 ah,aj,ao] e6:=rk
 refine oM Z Z (oR Z (zV Z Z (v:=.slice cW cc.length dH) Z) (oR Z (zV Z Z (v:=jV tv) Z) (oA Z Z (oA Z Z (eN (sR (.fl 0 (.fx 1 (wFy (.nil)) .stop)) Z (oL Z (gC.ldBA (j:=4) Z Z dP ZX ZO (vs:=ah) Z Z) ?_)))))))
 have lg:=fW.le aH
 have lh:=lg.le aI
 have f9:=lh.le aJ
 have li:=fY.le aH
 have lj:=li.le aI
 have ga:=lj.le aJ
 have lk:=fZ.le aH
 have ll:=lk.le aI
 have gb:=ll.le aJ
 have lm:=gU.le aH
 have ln:=lm.le aI
 have ge:=ln.le aJ
 have q:=bnd gM
 obtain ⟨⟨cd,tw⟩,lp,gN⟩:=q
 try dsimp only at gN
 refine zC 0 Z Z Z Z (zD Z Z Tryz.call25 (zB Z zL) Z) gC (fun hs=>wFd (⟨bb,bc,bd,be⟩:wAK) bh bn bi bo bj bp bk br e6 eJ hs f9 ga gb ge lp) (.inr Z) ?_
 rintro eK tP uV co aK rn ⟨cX,dI,rfl,rfl⟩
 let eA:Res:=.row cX dI 3 1 (hD KL.encI cd)
 have gD:sW w U eK [eA,ey,.blk b6 29 B1,.blk b2 27 O,.blk af 27 ae,.blk ag 36 ah,aj,ao] co:=rn
 refine oM Z Z (oR Z (zV Z Z (v:=.slice cX cd.length dI) Z) (oR Z (zV Z Z (v:=jV tw) Z) (oA Z Z (oA Z Z (eN (zJ (sR (wFh gFa) Z (oM Z Z (oM Z Z (oR Z (Zb Z Z Z) (oM Z Z (ifc gN ?_ ?_))))))))))))
 intro aT sF
 refine ZE Z Z Z (zN Z Z (ZL (fun h=>h aT.out))) Z Z (ZE Z Z Z (zN Z Z (ZL (fun h=>h aT.out))) Z Z ?_)
 have q:=gD.freezeR (k:=1) (n:=cc.length) rfl (wAD (f:=KL.encI) (sz:=1) (fun _=>rfl) cc) (by decide)
 obtain ⟨it,aL,sZ,ro⟩:=q
 have rp:sW w U it [eA,.blk b6 29 B1,.blk b2 27 O,.blk af 27 ae,.blk ag 36 ah,aj,ao] co:=ro
 have q:=rp.freezeR (k:=0) (n:=cd.length) rfl (wAD (f:=KL.encI) (sz:=1) (fun _=>rfl) cd) (by decide)
 obtain ⟨eL,au,s3,rq⟩:=q
 have rv:sW w U eL [.blk b6 29 B1,.blk b2 27 O,.blk af 27 ae,.blk ag 36 ah,aj,ao] co:=rq
 have ls:=sZ.le au
 refine bnK sF fun vc lu sG=>zC 0 Z Z Z (zN Z Z (ZL (fun h=>h aT.out))) (zD Z Z Tryz.call26 (zB Z (zB Z zL)) Z) rv (fun hs=>wBS cc cW dH cd cX dI co eL hs ls s3 lu) (.inr Z) ?_
 rintro dm tQ uW e8 aM rx ⟨rfl,rfl⟩
 have dU:sW w U dm [.blk b6 29 B1,.blk b2 27 O,.blk af 27 ae,.blk ag 36 ah,aj,ao] e8:=rx
 refine zg Z Z Z (zN Z Z (ZL (fun h=>h aT.out))) (fun _=>ZY Z Z) (oR Z (zZ Z (ZL (fun h=>h aT.out)) Z) (eN (ifc sG ?_ ?_)))
 intro dJ sH
 refine zr (nC dJ.out) (kN (sR (.fl 0 (.fx 1 (wFy (.nil)) .stop)) Z (oL Z (dU.ldBA (j:=2) Z Z dO zn zc (vs:=ae) Z Z) ?_)))
 have lv:=f5.le aJ
 have lw:=lv.le aK
 have lx:=lw.le aL
 have ly:=lx.le au
 have gf:=ly.le aM
 have lz:=f6.le aJ
 have lA:=lz.le aK
 have lB:=lA.le aL
 have lC:=lB.le au
 have gg:=lC.le aM
 have lD:=f7.le aJ
 have lE:=lD.le aK
 have lF:=lE.le aL
 have lG:=lF.le au
 have gh:=lG.le aM
 have lH:=f8.le aJ
 have lI:=lH.le aK
 have lJ:=lI.le aL
 have lK:=lJ.le au
 have gi:=lK.le aM
 have q:=bnd sH
 obtain ⟨⟨bV,gW⟩,lL,gO⟩:=q
 try dsimp only at gO
 refine zC 0 Z Z Z Z (zD Z Z Tryz.call27 (zB Z zL) Z) dU (fun hs=>wGw (⟨ba,aV,aW,aX⟩:wAA) bg bm aZ a6 a0 a7 a5 a8 e8 dm hs gf gg gh gi lL) (.inr Z) ?_
 rintro eM tR uX e9 aN ry ⟨cj,cu,rfl,rfl⟩
 let eB:Res:=.row cj cu 3 1 (hD KL.encI bV)
 have gE:sW w U eM [eB,.blk b6 29 B1,.blk b2 27 O,.blk af 27 ae,.blk ag 36 ah,aj,ao] e9:=ry
 refine oM Z Z (oR Z (zV Z Z (v:=.slice cj bV.length cu) Z) (oR Z (zV Z Z (v:=jV gW) Z) (oA Z Z (oA Z Z (eN (sR (.fl 0 (.fx 1 (wFy (.nil)) .stop)) Z (oL Z (gE.ldBA (j:=4) Z Z dP ZX ZO (vs:=ah) Z Z) ?_)))))))
 have lM:=f9.le aK
 have lN:=lM.le aL
 have lO:=lN.le au
 have lP:=lO.le aM
 have gj:=lP.le aN
 have lQ:=ga.le aK
 have lR:=lQ.le aL
 have lS:=lR.le au
 have lT:=lS.le aM
 have gk:=lT.le aN
 have lU:=gb.le aK
 have lV:=lU.le aL
 have lW:=lV.le au
 have lX:=lW.le aM
 have gm:=lX.le aN
 have lY:=ge.le aK
 have lZ:=lY.le aL
 have l0:=lZ.le au
 have l3:=l0.le aM
 have gp:=l3.le aN
 have q:=bnd gO
 obtain ⟨⟨bW,gX⟩,l4,gP⟩:=q
 try dsimp only at gP
 refine zC 0 Z Z Z Z (zD Z Z Tryz.call28 (zB Z zL) Z) gE (fun hs=>wFe (⟨bb,bc,bd,be⟩:wAK) bh bn bi bo bj bp bk br e9 eM hs gj gk gm gp l4) (.inr Z) ?_
 rintro eO tS uY cp aO rz ⟨cm,cw,rfl,rfl⟩
 let eC:Res:=.row cm cw 3 1 (hD KL.encI bW)
 have gG:sW w U eO [eC,eB,.blk b6 29 B1,.blk b2 27 O,.blk af 27 ae,.blk ag 36 ah,aj,ao] cp:=rz
 refine oM Z Z (oR Z (zV Z Z (v:=.slice cm bW.length cw) Z) (oR Z (zV Z Z (v:=jV gX) Z) (oA Z Z (oA Z Z (eN (zJ (zJ (yt fun bE bt=>?_))))))))
 have i9:bE 2=.pointer (some ⟨b2,0,none⟩):=(bt 2).trans i4
 have fR:bE 3=.pointer (some ⟨b6,0,none⟩):=(bt 3).trans i6
 have fS:bE 5=.pointer (some ⟨af,0,none⟩):=(bt 5).trans dO
 have ja:bE 6=.pointer (some ⟨ag,0,none⟩):=(bt 6).trans dP
 have jb:bE 8=jV gW:=(bt 8).trans rfl
 have jc:bE 10=jV gX:=(bt 10).trans rfl
 have jd:bE 12=.slice cj bV.length cu:=(bt 12).trans rfl
 have je:bE 13=.slice cm bW.length cw:=(bt 13).trans rfl
 clear bt
 refine rR (wFh gFa) Z (oM Z jb (oM Z jc (oR Z (Zb Z Z Z) (oM Z Z (ifc gP ?_ ?_)))))
 intro aU sI
 refine ZE Z Z Z (zN Z Z (ZL (fun h=>h aU.out))) Z jd (ZE Z Z Z (zN Z Z (ZL (fun h=>h aU.out))) Z je ?_)
 have q:=gG.freezeR (k:=1) (n:=bV.length) rfl (wAD (f:=KL.encI) (sz:=1) (fun _=>rfl) bV) (by decide)
 obtain ⟨iu,aP,s4,rA⟩:=q
 have rC:sW w U iu [eC,.blk b6 29 B1,.blk b2 27 O,.blk af 27 ae,.blk ag 36 ah,aj,ao] cp:=rA
 have q:=rC.freezeR (k:=0) (n:=bW.length) rfl (wAD (f:=KL.encI) (sz:=1) (fun _=>rfl) bW) (by decide)
 obtain ⟨eP,av,s5,rD⟩:=q
 have rE:sW w U eP [.blk b6 29 B1,.blk b2 27 O,.blk af 27 ae,.blk ag 36 ah,aj,ao] cp:=rD
 have l5:=s4.le av
 refine bnK sI fun vd l6 sJ=>zC 0 Z Z Z (zN Z Z (ZL (fun h=>h aU.out))) (zD Z Z Tryz.call26 (zB Z (zB Z zL)) Z) rE (fun hs=>wBS bV cj cu bW cm cw cp eP hs l5 s5 l6) (.inr Z) ?_
 rintro dp tT uZ fb aQ rF ⟨rfl,rfl⟩
 have cy:sW w U dp [.blk b6 29 B1,.blk b2 27 O,.blk af 27 ae,.blk ag 36 ah,aj,ao] fb:=rF
 refine zg Z Z Z (zN Z Z (ZL (fun h=>h aU.out))) (fun _=>ZY Z Z) (oR Z (zZ Z (ZL (fun h=>h aU.out)) Z) (eN (ifc sJ ?_ ?_)))
 intro dK sK
 refine zr (nC dK.out) (kN (sR (.fl 0 (.fl 1 (.fx 2 (wNl (.nil)) .stop))) Z (oL Z (cy.ldBA (j:=2) Z Z fS zn zc (vs:=ae) Z Z) (oL Z (cy.ldBA (j:=0) Z Z fR Zp ZR (vs:=B1) Z Z) ?_))))
 have l7:=gf.le aN
 have l8:=l7.le aO
 have ma:=l8.le aP
 have mb:=ma.le av
 have gq:=mb.le aQ
 have mc:=gg.le aN
 have md:=mc.le aO
 have me:=md.le aP
 have mf:=me.le av
 have gt:=mf.le aQ
 have mg:=gh.le aN
 have mh:=mg.le aO
 have mi:=mh.le aP
 have mj:=mi.le av
 have gu:=mj.le aQ
 have mm:=gi.le aN
 have mn:=mm.le aO
 have mo:=mn.le aP
 have mp:=mo.le av
 have gv:=mp.le aQ
 have q:=bnd sK
 obtain ⟨⟨cf,tx⟩,mq,gQ⟩:=q
 try dsimp only at gQ
 refine zC 0 Z Z Z Z (zD Z Z Tryz.call29 (zB Z (zB Z zL)) Z) cy (fun hs=>wIT (⟨ba,aV,aW,aX⟩:wAA) bg bm aZ a6 a0 a7 a5 a8 p1 fb dp hs gq gt gu gv mq) (.inr Z) ?_
 rintro eQ tU u0 fc aR rG ⟨cY,dL,rfl,rfl⟩
 let eD:Res:=.row cY dL 3 1 (hD KL.encI cf)
 have dV:sW w U eQ [eD,.blk b6 29 B1,.blk b2 27 O,.blk af 27 ae,.blk ag 36 ah,aj,ao] fc:=rG
 refine oM Z Z (oR Z (zV Z Z (v:=.slice cY cf.length dL) Z) (oR Z (zV Z Z (v:=jV tx) Z) (oA Z Z (oA Z Z (eN (sR (.fl 0 (.fl 1 (.fx 2 (wNl (.nil)) .stop))) Z (oL Z (dV.ldBA (j:=4) Z Z ja ZX ZO (vs:=ah) Z Z) (oL Z (dV.ldBA (j:=1) Z Z fR Zp ZR (vs:=B1) Z Z) ?_))))))))
 have mr:=gj.le aO
 have ms:=mr.le aP
 have mu:=ms.le av
 have mw:=mu.le aQ
 have my:=mw.le aR
 have mz:=gk.le aO
 have mA:=mz.le aP
 have mB:=mA.le av
 have mC:=mB.le aQ
 have mD:=mC.le aR
 have mE:=gm.le aO
 have mF:=mE.le aP
 have mG:=mF.le av
 have mH:=mG.le aQ
 have mI:=mH.le aR
 have mJ:=gp.le aO
 have mK:=mJ.le aP
 have mL:=mK.le av
 have mM:=mL.le aQ
 have mN:=mM.le aR
 have q:=bnd gQ
 obtain ⟨⟨cg,tz⟩,mO,gR⟩:=q
 try dsimp only at gR
 refine zC 0 Z Z Z Z (zD Z Z Tryz.call30 (zB Z (zB Z zL)) Z) dV (fun hs=>wFP (⟨bb,bc,bd,be⟩:wAK) bh bn bi bo bj bp bk br (⟨p1.Skier,p1.Mat⟩:wAR) fc eQ hs my mD mI mN mO) (.inr Z) ?_
 rintro eR tV u7 cq bH rH ⟨cZ,dM,rfl,rfl⟩
 let eE:Res:=.row cZ dM 3 1 (hD KL.encI cg)
 have gH:sW w U eR [eE,eD,.blk b6 29 B1,.blk b2 27 O,.blk af 27 ae,.blk ag 36 ah,aj,ao] cq:=rH
 refine oM Z Z (oR Z (zV Z Z (v:=.slice cZ cg.length dM) Z) (oR Z (zV Z Z (v:=jV tz) Z) (oA Z Z (oA Z Z (eN (sR (wFh (.fx 6 (wPH (.fx 11 (.fl 12 (.fl 13 (.fx 14 (.fl 15 (.fl 16 .nil)) .stop))) .stop)) .stop)) Z (oM Z Z (oM Z Z (oR Z (yV Z Z Z) (oM Z Z (ifc gR ?_ ?_)))))))))))
 intro bq sL
 refine ZE Z Z Z (wT Z bq) Z Z (ZE Z Z Z (wT Z bq) Z Z ?_)
 have q:=gH.freezeR (k:=1) (n:=cf.length) rfl (wAD (f:=KL.encI) (sz:=1) (fun _=>rfl) cf) (by decide)
 obtain ⟨iv,bI,s6,rI⟩:=q
 have rJ:sW w U iv [eE,.blk b6 29 B1,.blk b2 27 O,.blk af 27 ae,.blk ag 36 ah,aj,ao] cq:=rI
 have q:=rJ.freezeR (k:=0) (n:=cg.length) rfl (wAD (f:=KL.encI) (sz:=1) (fun _=>rfl) cg) (by decide)
 obtain ⟨eS,bv,s7,rK⟩:=q
 have rL:sW w U eS [.blk b6 29 B1,.blk b2 27 O,.blk af 27 ae,.blk ag 36 ah,aj,ao] cq:=rK
 have mP:=s6.le bv
 refine bnK sL fun ve mQ sM=>zC 0 Z Z Z (wT Z bq) (zD Z Z Tryz.call26 (zB Z (zB Z zL)) Z) rL (fun hs=>wBS cf cY dL cg cZ dM cq eS hs mP s7 mQ) (.inr Z) ?_
 rintro dq tW u8 fd bJ rM ⟨rfl,rfl⟩
 have cz:sW w U dq [.blk b6 29 B1,.blk b2 27 O,.blk af 27 ae,.blk ag 36 ah,aj,ao] fd:=rM
 refine oR Z (zS Z (Zh bq.out) Z) (oM Z Z (ifc sM ?_ ?_))
 intro bs sN
 refine zx Z Z Z (zN Z Z (congrArg hH bs.out)) (cz.ldBA (j:=2) Z Z fS zn zc (vs:=ae) Z Z) Z (zx Z Z Z (zN Z Z (congrArg hH bs.out)) (cz.ldBA (j:=1) Z Z i9 zn zc (vs:=O) Z Z) Z ?_)
 have mR:=gq.le aR
 have mS:=mR.le bH
 have mT:=mS.le bI
 have mU:=mT.le bv
 have mV:=mU.le bJ
 have mW:=gt.le aR
 have mX:=mW.le bH
 have mY:=mX.le bI
 have mZ:=mY.le bv
 have m3:=mZ.le bJ
 have m4:=gu.le aR
 have m5:=m4.le bH
 have m6:=m5.le bI
 have m7:=m6.le bv
 have m8:=m7.le bJ
 have m9:=gv.le aR
 have n3:=m9.le bH
 have n4:=n3.le bI
 have n5:=n4.le bv
 have n6:=n5.le bJ
 have n7:=cA.le az
 have n8:=n7.le cJ
 have n9:=n8.le cK
 have oa:=n9.le cb
 have oc:=oa.le bU
 have od:=oc.le bP
 have oe:=od.le bF
 have og:=oe.le bG
 have oh:=og.le bu
 have oi:=oh.le bf
 have oj:=oi.le aY
 have ol:=oj.le aH
 have om:=ol.le aI
 have oo:=om.le aJ
 have oq:=oo.le aK
 have ot:=oq.le aL
 have ou:=ot.le au
 have ov:=ou.le aM
 have ow:=ov.le aN
 have ox:=ow.le aO
 have oy:=ox.le aP
 have oz:=oy.le av
 have oB:=oz.le aQ
 have oC:=oB.le aR
 have oD:=oC.le bH
 have oE:=oD.le bI
 have oG:=oE.le bv
 have oH:=oG.le bJ
 have oI:=cC.le az
 have oJ:=oI.le cJ
 have oK:=oJ.le cK
 have oO:=oK.le cb
 have oP:=oO.le bU
 have oQ:=oP.le bP
 have oS:=oQ.le bF
 have oU:=oS.le bG
 have oV:=oU.le bu
 have oW:=oV.le bf
 have oX:=oW.le aY
 have oY:=oX.le aH
 have oZ:=oY.le aI
 have o0:=oZ.le aJ
 have o3:=o0.le aK
 have o5:=o3.le aL
 have o6:=o5.le au
 have o7:=o6.le aM
 have o8:=o7.le aN
 have o9:=o8.le aO
 have pd:=o9.le aP
 have pe:=pd.le av
 have pf:=pe.le aQ
 have pg:=pf.le aR
 have ph:=pg.le bH
 have pj:=ph.le bI
 have pk:=pj.le bv
 have pm:=pk.le bJ
 have pn:=cD.le az
 have po:=pn.le cJ
 have pq:=po.le cK
 have pu:=pq.le cb
 have py:=pu.le bU
 have pz:=py.le bP
 have pB:=pz.le bF
 have pC:=pB.le bG
 have pD:=pC.le bu
 have pE:=pD.le bf
 have pF:=pE.le aY
 have pG:=pF.le aH
 have pH:=pG.le aI
 have pI:=pH.le aJ
 have pJ:=pI.le aK
 have pK:=pJ.le aL
 have pL:=pK.le au
 have pM:=pL.le aM
 have pN:=pM.le aN
 have pO:=pN.le aO
 have pP:=pO.le aP
 have pQ:=pP.le av
 have pR:=pQ.le aQ
 have pS:=pR.le aR
 have pT:=pS.le bH
 have pU:=pT.le bI
 have pV:=pU.le bv
 have pW:=pV.le bJ
 have pX:=cE.le az
 have pY:=pX.le cJ
 have pZ:=pY.le cK
 have p5:=pZ.le cb
 have p6:=p5.le bU
 have p7:=p6.le bP
 have p8:=p7.le bF
 have p9:=p8.le bG
 have qa:=p9.le bu
 have qb:=qa.le bf
 have qc:=qb.le aY
 have qd:=qc.le aH
 have qe:=qd.le aI
 have qf:=qe.le aJ
 have qh:=qf.le aK
 have qi:=qh.le aL
 have qj:=qi.le au
 have qk:=qj.le aM
 have qm:=qk.le aN
 have qn:=qm.le aO
 have qo:=qn.le aP
 have qp:=qo.le av
 have qq:=qp.le aQ
 have qr:=qq.le aR
 have qs:=qr.le bH
 have qt:=qs.le bI
 have qu:=qt.le bv
 have qv:=qu.le bJ
 refine bnK sN fun vf qw sO=>zC 0 Z Z Z (zN Z Z (congrArg hH bs.out)) (zD Z Z Tryz.call21 (zB Z (zB Z zL)) Z) cz (fun hs=>wFw (⟨ba,aV,aW,aX⟩:wAA) bg bm aZ a6 a0 a7 a5 a8 p0 bw bA bx bB bQ bR bz bC fd dq hs mV m3 m8 n6 oH pm pW qv qw) (.inr Z) ?_
 rintro dr tX u9 ff uH rN ⟨rfl,rfl⟩
 have gI:sW w U dr [.blk b6 29 B1,.blk b2 27 O,.blk af 27 ae,.blk ag 36 ah,aj,ao] ff:=rN
 refine oR Z (zS Z (congrArg hH bs.out) Z) (oM Z Z (ifc sO ?_ ?_))
 intro ca sP
 refine bnK sP fun vg qx sQ=>zC 0 Z Z Z (zN Z Z (congrArg hH ca.out)) (zD Z Z Tryz.call9 zL Z) gI (fun hs=>wEO ff dr hs qx) (.inr Z) ?_
 rintro eU tF uJ iw uD qy ⟨rfl,rfl⟩
 have qz:sW w U eU [.blk b6 29 B1,.blk b2 27 O,.blk af 27 ae,.blk ag 36 ah,aj,ao] iw:=qy
 refine oR Z (zS Z (congrArg hH ca.out) Z) (oA Z Z (eN (zR ?_)))
 have hE:=nB sQ;first | subst r | cases hE
 exact ⟨rfl,_,(ZH rfl),eU,_,(qz.pick [] _ (by decide) rfl),rfl,rfl⟩
 intro ca r6
 refine ZA Z Z Z (zO Z Z (congrArg hH (nA.2 ca.out)) Z) (oR Z (zZ Z (congrArg hH (nA.2 ca.out)) Z) (oA Z Z (eN (zR ?_))))
 have hE:=nB r6;first | subst r | cases hE
 exact ⟨rfl,_,(ZH rfl),dr,_,(gI.pick [] _ (by decide) rfl),rfl,rfl⟩
 intro bs r7
 refine zw Z Z Z (zO Z Z (congrArg hH (nA.2 bs.out)) Z) (zw Z Z Z (zO Z Z (congrArg hH (nA.2 bs.out)) Z) (ZA Z Z Z (zO Z Z (congrArg hH (nA.2 bs.out)) Z) (oR Z (zZ Z (congrArg hH (nA.2 bs.out)) Z) (oM Z Z (ZA Z Z Z (zO Z Z Z Z) (oR Z (zZ Z Z Z) (oA Z Z (eN (zR ?_)))))))))
 have hE:=nB r7;first | subst r | cases hE
 exact ⟨rfl,_,(ZH rfl),dq,_,(cz.pick [] _ (by decide) rfl),rfl,rfl⟩
 intro bq r8
 refine oF Z bq (oF Z bq (ZA Z Z Z (zO Z Z (ZL bq.out) Z) (oR Z (zZ Z (ZL bq.out) Z) (oM Z Z (oN Z (oN Z (ZA Z Z Z (zO Z Z Z Z) (oR Z (zZ Z Z Z) (oM Z Z (ZA Z Z Z (zO Z Z Z Z) (oR Z (zZ Z Z Z) (oA Z Z (eN (zR ?_))))))))))))))
 have hE:=nB r8;first | subst r | cases hE
 exact ⟨rfl,_,(ZH rfl),eR,_,(gH.pick [] _ (by decide) rfl),rfl,rfl⟩
 intro dK r9
 refine ZK (nF (dK.out)) (sR fL1 Z (oA Z Z (eN (zR (zT ?_)))))
 have hE:=nB r9;first | subst r | cases hE
 exact ⟨rfl,_,(ZH rfl),dp,_,(cy.pick [] _ (by decide) rfl),rfl,rfl⟩
 intro aU sa
 refine oT Z aU (oT Z aU (ZA Z Z Z (zO Z Z (Zh aU.out) Z) (oT Z aU (oR Z (zS Z (Zh aU.out) Z) (eN (ZK Z (sR fL1 Z (oA Z Z (eN (zR (zT ?_)))))))))))
 have hE:=nB sa;first | subst r | cases hE
 exact ⟨rfl,_,(ZH rfl),eO,_,(gG.pick [] _ (by decide) rfl),rfl,rfl⟩
 intro dJ sb
 refine ZK (nF (dJ.out)) (sR fL1 Z (oA Z Z (eN (zR (zT ?_)))))
 have hE:=nB sb;first | subst r | cases hE
 exact ⟨rfl,_,(ZH rfl),dm,_,(dU.pick [] _ (by decide) rfl),rfl,rfl⟩
 intro aT sc
 refine oT Z aT (oT Z aT (ZA Z Z Z (zO Z Z (Zh aT.out) Z) (oT Z aT (oR Z (zS Z (Zh aT.out) Z) (eN (ZK Z (sR fL1 Z (oA Z Z (eN (zR (zT ?_)))))))))))
 have hE:=nB sc;first | subst r | cases hE
 exact ⟨rfl,_,(ZH rfl),eK,_,(gD.pick [] _ (by decide) rfl),rfl,rfl⟩
 intro dF sd
 refine cT Z dF (sR fL1 Z (oA Z Z (eN (zR (zT ?_)))))
 have hE:=nB sd;first | subst r | cases hE
 exact ⟨rfl,_,(ZH rfl),bZ,_,(dT.pick [] _ (by decide) rfl),rfl,rfl⟩
 intro aq se
 refine oT Z aq (oT Z aq (oT Z aq (oT Z aq (oT Z aq (oR Z (zS Z (Zh aq.out) Z) (eN (ZK Z (sR fL1 Z (oA Z Z (eN (zR (zT ?_))))))))))))
 have hE:=nB se;first | subst r | cases hE
 exact ⟨rfl,_,(ZH rfl),bZ,_,(dT.pick [] _ (by decide) rfl),rfl,rfl⟩
end Go.Proofs.YtlnfbjphfoipaaaGreat
