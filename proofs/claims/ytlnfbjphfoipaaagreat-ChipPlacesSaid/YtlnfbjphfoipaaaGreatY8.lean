import Derived.Test.YtlnfbjphfoipaaaGreatY7
import Derived.Test.YtlnfbjphfoipaaaGreatY6
set_option linter.all false
open List renaming flatMap->hH,set->nB,getElem_cons_succ->nE,getElem_cons_zero->nG,getElem_toArray->nH,length_set->nK,length_append->nN
open Go.Value renaming bool->nA,slice->nL
open Bool renaming eq_false_iff->nD
open Int renaming toNat_natCast->nI,eq_ofNat_of_zero_le->nO
open Option.some renaming inj->nJ
open Eq renaming trans->nM
open Nat renaming lt_of_lt_of_eq->nP
namespace Go.Proofs.YtlnfbjphfoipaaaGreat
open Go.KL
def gCf:Sch:=.fx 1 (.fl 2 .nil) .stop
def gCg:Sch:=.fx 0 (.fx 1 .nil .stop) .stop
def gCh:Sch:=.fl 14 (.fx 16 .nil .stop)
def gCi:Sch:=.fl 17 (.fx 18 .nil .stop)
def gCj:Sch:=.fx 0 (.fl 1 .nil) .stop
def gCk:Sch:=.fx 5 (.fx 6 .nil .stop) .stop
def gCl:Sch:=.fx 0 (.fl 1 (.fl 2 .nil)) .stop
def gCm:Sch:=.fx 7 (.fl 8 (.fl 9 .nil)) .stop
def gCn:Sch:=.fl 14 (.fx 15 (.fx 16 .nil .stop) .stop)
def gCo:Sch:=.fx 13 gCh .stop
def gCp:Sch:=.fx 3 (.fl 4 (.fl 5 .nil)) .stop
def gCq:Sch:=.fl 0 (.fx 1 (.fl 2 (.fl 3 .nil)) .stop)
def gCr:Sch:=.fl 0 (.fl 1 (.fx 2 (.fx 3 .nil .stop) .stop))
def gCs:Sch:=.fl 0 (.fl 1 (.fx 2 (.fl 3 .nil) .stop))
def gCt:Sch:=.fx 7 gCo .stop
def gCu:Sch:=.fx 13 gCn (.fx 15 gCo .stop)
def gCv:Sch:=.fx 6 (.fl 12 gCo) .stop
def gCw:Sch:=.fx 4 (.fx 16 gCi .stop) (.fx 16 (.fx 4 gCi .stop) .stop)
def gCx:Sch:=.fl 0 (.fl 1 (.fx 2 (.fx 3 (.fx 4 .nil .stop) .stop) .stop))
def gCy:Sch:=.fl 0 (.fl 1 (.fx 2 (.fx 3 (.fl 4 .nil) .stop) .stop))
def gCz:Sch:=.fx 0 gCv .stop
def gDa:Sch:=.fx 6 (.fl 12 gCu) (.fx 15 gCv .stop)
def gDb:Sch:=.fx 6 (.fl 12 gCt) (.fx 7 gCv .stop)
set_option maxHeartbeats 4000000
theorem wKX (p0:wAA) (ah:Option Addr) (am:Nat) (ai:Option Addr) (ap:Nat) (aj:Option Addr) (aq:Nat) (ak:Option Addr) (au:Nat) (w:World) (U:PHeap) (hS:St0 w U []) (br:Sl U 1 ah am p0.Starts.length (hH KL.encI p0.Starts)) (bs:Sl U 2 ai ap p0.Splits.length (hH wAB p0.Splits)) (bt:Sl U 3 aj aq p0.Clocks.length (hH wAD p0.Clocks)) (bu:Sl U 4 ak au p0.Readings.length (hH wAC p0.Readings)) {r:(Option wAf) × Int} (hm:wDU p0=some r):Gv Tryz.prog 80 [.agg #[.slice ah p0.Starts.length am,.slice ai p0.Splits.length ap,.slice aj p0.Clocks.length aq,.slice ak p0.Readings.length au]] w (wCp w [] U (fun U_ L_ v=>match r.1 with | none=>v=.tuple #[.pointer none,jV r.2]/\L_=[] | some d=>∃ (b0:Nat) (A0p00:Option Addr) (c0p00:Nat) (A0p01:Option Addr) (c0p01:Nat) (A0p02:Option Addr) (c0p02:Nat) (A0p03:Option Addr) (c0p03:Nat) (m0p1:Nat) (es0p1:Array MapEntry) (ck0p1:Nat) (A0p2:Option Addr) (c0p2:Nat),v=.tuple #[.pointer (some ⟨b0,0,none⟩),jV r.2]/\L_=[.blk b0 139 [.slice A0p00 d.Race.Starts.length c0p00,.slice A0p01 d.Race.Splits.length c0p01,.slice A0p02 d.Race.Clocks.length c0p02,.slice A0p03 d.Race.Readings.length c0p03,.map (some m0p1),.slice A0p2 d.edges.length c0p2],.obj m0p1 (.map es0p1 ck0p1),.row A0p2 c0p2 184 7 (hH wAa d.edges)]/\Sl U_ 1 A0p00 c0p00 d.Race.Starts.length (hH KL.encI d.Race.Starts)/\Sl U_ 2 A0p01 c0p01 d.Race.Splits.length (hH wAB d.Race.Splits)/\Sl U_ 3 A0p02 c0p02 d.Race.Clocks.length (hH wAD d.Race.Clocks)/\Sl U_ 4 A0p03 c0p03 d.Race.Readings.length (hH wAC d.Race.Readings)/\MpR es0p1 wBW wBb d.number)):=by
 unfold wDU at hm
 refine Gv.of Tryz.func80 Z Tryz.ntmps80 Tryz.results80 Z (sR gCl Z ?_)
 let B0:List Value:=[.slice ah p0.Starts.length am,.slice ai p0.Splits.length ap,.slice aj p0.Clocks.length aq,.slice ak p0.Readings.length au]
 refine ZE (cs:=B0) rfl rfl rfl rfl rfl rfl (by rfl) hS ?_
 intro W1 b2 bq
 refine oA Z Z (oA Z Z (eN (zH (sR (.fl 0 gCf) Z (oL Z (bq.ldBA (j:=0) Z Z Z ZB zo (vs:=B0) Z Z) (bnK hm fun x5 h6 bQ=>zK 0 Z Z Z Z (zL Z Z Tryz.call33 (zD Z zQ) Z) bq (fun hs=>wKW p0 ah am ai ap aj aq ak au W1 U hs br bs bt bu h6) (.inr Z) ?_))))))
 rintro U8 L9 bU bf av bK ⟨rfl,rfl⟩
 have aY:sW w U U8 [.blk b2 27 B0] bf:=bK
 refine oA Z Z (eN (sR fL2 Z (oM Z Z (oR Z (Zo Z Z Z) (eN (ifc bQ ?_ ?_))))))
 intro aW bN
 refine zx (Ze (fun h=>h aW.out)) (kN (sR gCq Z (oL Z (aY.ldBA (j:=0) Z Z Z ZB zo (vs:=B0) Z Z) ?_)))
 have bz:=br.le av
 have bA:=bs.le av
 have bB:=bt.le av
 have bC:=bu.le av
 refine bnK bN fun ab bD bO=>zK 0 Z Z Z Z (zL Z Z Tryz.call124 (zD Z zQ) Z) aY (fun hs=>wJo p0 ah am ai ap aj aq ak au bf U8 hs bz bA bB bC bD) (.inr Z) ?_
 rintro be bR bV bw bT bL ⟨bi,a0,bj,ba,bk,bb,bm,bd,bn,aZ,bp,bo,az,aX,rfl,rfl,bE,bF,bG,bH,bI⟩
 have bM:sW w U be [.blk bi 139 [.slice a0 ab.Race.Starts.length bj,.slice ba ab.Race.Splits.length bk,.slice bb ab.Race.Clocks.length bm,.slice bd ab.Race.Readings.length bn,.map (some aZ),.slice az ab.edges.length aX],.obj aZ (.map bp bo),.row az aX 184 7 (hH wAa ab.edges),.blk b2 27 B0] bw:=bL
 refine oA Z Z (oA Z Z (eN (zP ?_)))
 cases bO
 exact ⟨rfl,_,(wFJ rfl rfl),be,_,(bM.pick [0,1,2] _ (by decide) rfl),bi,a0,bj,ba,bk,bb,bm,bd,bn,aZ,bp,bo,az,aX,rfl,rfl,bE,bF,bG,bH,bI⟩
 intro aW bP
 refine cT Z aW (sR fL3 Z (oM Z Z (oA Z Z (oA Z Z (eN (zP (zN ?_)))))))
 cases bP
 exact ⟨rfl,_,(wFJ rfl rfl),U8,_,(aY.pick [] _ (by decide) rfl),rfl,rfl⟩
theorem wDg (p0:List wAM) (au:Option Addr) (av:Nat) (p1:(wAM->Option Bool)) (az:Value) (w:World) (U:PHeap) (hS:St0 w U []) (bB:Sl U 2 au av p0.length (hH wCm p0)) (bC:FnOK Tryz.prog U az wSW wSX p1) {r:Bool} (hm:wBG p0 p1=some r):Gv Tryz.prog 119 [.slice au p0.length av,az] w (wCp w [] U (fun U_ L_ v=>v=.bool r/\L_=[])):=by
 unfold wBG at hm
 refine Gv.of Tryz.func119 Z Tryz.ntmps119 Tryz.results119 Z (sR fL1 Z (oA Z Z (eN (zH (sR fL3 Z (oM Z Z (oR Z (zd Z Z Tryz.runUnderlying56) (oM Z Z (eN (zW ?_))))))))))
 have q:=wCH hm
 obtain ⟨r3,ak⟩:=q
 have q:=wCG ak
 obtain ⟨ap,bF⟩:=q
 replace ap:=zI ap
 refine yG (fun k2 _ σ_ w_=>∃ (U_:PHeap),σ_ 9=jV (↑k2:Int)/\σ_ 1=az/\σ_ 7=.slice au p0.length av/\σ_ 8=jV (↑p0.length:Int)/\PHeap.Le U U_/\sW w U U_ [] w_) bF ?_ ?_ ?_
 exact ⟨U,Z,Z,Z,Z,(zM _),hS⟩
 rintro k2 ⟨⟩ bZ cb W8 am ⟨bh,aj,aX,aY,aZ,aq,ba⟩ bf bD
 try dsimp only at bf
 have aW:Hid ((↑k2:Int) < (↑p0.length:Int)):=zI (wBJ am)
 replace am:=zI am
 have bG:Hid (w64 ((↑k2:Int) + 1)=(↑(k2 + 1):Int)):=zI (by have h1:=ap.out;have h2:=aW.out;rw [wAX] <;> omega)
 refine sR fL1 Z (oR Z (zX Z aj aZ) (eN (zH (cT Z aW (kN (zH (zW (sR gCr Z (bnK bf fun x22 a0 bH=>?_)))))))))
 have bq:=bB.le aq
 have q:=bq.el (fun _=>rfl) (wAS a0)
 obtain ⟨bS,bW,bt,bu⟩:=q
 refine oR Z (ZL Z aY bt aj Tryz.runUnderlying56 yK (wBk a0)) (oL Z (ba.ldCA (f:=0) bu Z Z yq yK (us:=[jV x22.Skier,jV x22.Mat]) Z Z) (ze (cs:=[jV 0,jV 0]) Z Z Z Z Z Tryz.zeroValue29 Z ba ?_))
 intro bP aV bv
 let B0:List Value:=[jV x22.Skier,jV x22.Mat]
 refine zm (j:=0) (vs:=B0) Z Z Z Z bv Z Z Z Z yK (zA Z) Z Z Z ?_
 intro bj bw
 have bb:sW w U bh [.blk aV 29 B0] bj:=bw
 refine eN (sR gCs Z (oM Z aX (oL Z (bb.ldBA (j:=0) Z Z Z yq yK (vs:=B0) Z Z) (bnK bH fun x37 br bI=>?_))))
 have bs:=bC.le aq
 refine OKS.callV (a:=x22) Z Z Z Z Z Z (zD Z zQ) bb bs Z br ?_
 rintro ah bO bY bk bM bz ⟨rfl,rfl⟩
 have bd:sW w U ah [.blk aV 29 B0] bk:=bz
 refine oR Z (Zf Z Z) (eN (ifc bI ?_ ?_))
 intro ai bJ
 refine zx (nC ai.out) (Zh (zq (zG (rR fL2 Z (oR Z (ZP (zZ Z aj Z) (congrArg (jV) bG.out)) (oM Z Z (zh ?_)))))))
 obtain rfl:=nJ bJ
 exact zG ⟨rfl,_,rfl,⟨ah,rfl,aX,aY,aZ,(aq.trans bM),(bd.pick [] _ (by decide) rfl)⟩⟩
 intro ai bK
 refine ZG (nF (ai.out)) (sR fL1 Z (oA Z Z (eN (zP (zg (zN ?_))))))
 have q:=wAZ bK
 obtain ⟨bN,bL,bn⟩:=q
 obtain rfl:=wCA hm ak (bD bN bn)
 refine zN (zg (zN ?_))
 have hE:=nJ bL;first | subst r | cases hE
 exact ⟨rfl,_,(ZH rfl),ah,_,(bd.pick [] _ (by decide) rfl),rfl,rfl⟩
 rintro ⟨⟩ b5 bQ ⟨bi,bp,bT,bU,bo,bV,bA⟩ bE
 have be:=wCu hm ak bE
 try dsimp only at be
 have bm:Hid (¬ ((↑(((↑p0.length:Int):Int) - 0).toNat:Int) < (↑p0.length:Int))):=zI (wAj)
 refine sR fL1 Z (oR Z (zX Z bp bo) (eN (zH (cF Z bm (ZT (zf (zf (ZK (zG (sR fL1 Z (oA Z Z (eN (zP ?_)))))))))))))
 have hE:=nJ be;first | subst r | cases hE
 exact ⟨Z,_,(ZH Z),bi,_,bA,Z,Z⟩
theorem wIP (p0 p1:Int) (w:World) (U:PHeap) (hS:St0 w U []) {r:Int × Int} (hm:wDe p0 p1=some r):Gv Tryz.prog 132 [.int .u64 p0,.int .u64 p1] w (wCp w [] U (fun U_ L_ v=>v=.tuple #[.int .u64 r.1,.int .u64 r.2]/\L_=[])):=by
 unfold wDe at hm
 split at hm
 rename_i h
 cases hm
 obtain ⟨x,rfl⟩:=nO h.1
 obtain ⟨y,rfl⟩:=nO h.2.2.1
 refine (Go.Proofs.Tryz.bits_Mul x y (by omega) (by omega) w).mono ?_
 rintro e w' ⟨rfl,rfl⟩
 refine ⟨_,Z,U,[],hS,?_,Z⟩
 simp
 cases hm
theorem wAl (p0:List Int) (a0:Option Addr) (ba:Nat) (p1:Int) (w:World) (U:PHeap) (hS:St0 w U []) (b5:Sl U 1 a0 ba p0.length (hH KL.encI p0)) {r:(List Int)} (hm:wBH p0 p1=some r):Gv Tryz.prog 122 [.slice a0 p0.length ba,jV p1] w (wCp w [] U (fun U_ L_ v=>∃ (A0:Option Addr) (c0:Nat),v=.slice A0 r.length c0/\L_=[.row A0 c0 3 1 (hH KL.encI r)])):=by
 unfold wBH at hm
 refine Gv.of Tryz.func122 Z Tryz.ntmps122 Tryz.results122 Z (sR fL1 Z (oA Z Z (eN (zH (sR fL2 Z (oM Z Z (oR Z (zX Z Z Z) (eN ?_))))))))
 by_cases c1:p1 < 0
 have bp:=hm;rw [if_pos c1] at bp;replace c1:=zI c1
 refine cT Z c1 (rR gCg Z ?_)
 cases bp
 have bs:=hm;rw [if_neg c1] at bs;replace c1:=zI c1
 refine cF Z c1 (kN (sR (wIc (.fx 5 (wUz (.nil)) .stop)) Z (oM Z Z (oR Z (zd Z Z zC) (oR Z (Runs.cv64 Z Z Tryz.runUnderlying3 Tryz.runUnderlying207 Z Z) (oM Z Z (oR Z (Runs.cv64 Z Z Tryz.runUnderlying3 Tryz.runUnderlying207 Z Z) ?_)))))))
 have q:=bnd bs
 obtain ⟨⟨x4,x5⟩,h6,bt⟩:=q
 try dsimp only at bt
 refine zK 0 Z Z Z Z (zL Z Z Tryz.call132 (zD Z (zD Z zQ)) Z) hS (fun hs=>wIP (wQC (↑p0.length:Int)) (wQC p1) w U hs h6) (.inr Z) ?_
 rintro U8 L9 cL bD cA bU ⟨rfl,rfl⟩
 have bi:sW w U U8 [] bD:=bU
 refine oM Z Z (oR Z (zu Z Z (v:=.int .u64 x4) Z) (oR Z (zu Z Z (v:=.int .u64 x5) Z) (oA Z Z (oA Z Z (eN (zH (bnK bt fun bH bz cp=>yU (fun σ_ w_=>∃ (U_:PHeap),σ_ 0=.slice a0 p0.length ba/\σ_ 6=.int .u64 x5/\σ_ 26=.bool bH/\PHeap.Le U8 U_/\sW w U U_ [] w_) ?_ ?_)))))))
 refine rR fL6 Z (oM Z Z (oR Z (yN Z Z Z) (oM Z Z ?_)))
 by_cases ae:0 < x4
 have bq:=bz;rw [if_pos ae] at bq;replace ae:=zI ae
 refine oT Z ae (oT Z ae (oR Z (zl Z (Zl ae.out) Z) (zh ?_)))
 cases bq
 exact zG ⟨Z,⟨U8,Z,Z,Z,(zM _),bi⟩⟩
 have br:=bz;rw [if_neg ae] at br;replace ae:=zI ae
 refine zz Z Z Z (wF Z ae) Z Z (rU Z (wF Z ae) (yN Z Z Z) (oR Z (zt Z (Ze ae.out) Z) (zh ?_)))
 obtain rfl:=nJ br
 exact zG ⟨Z,⟨U8,Z,Z,Z,(zM _),bi⟩⟩
 rintro cN cH ⟨aq,bJ,bK,bg,cC,bV⟩
 refine ifc cp ?_ ?_
 intro aW cq
 refine ZG (bg.trans (congrArg nA aW.out)) (rR gCg Z ?_)
 cases cq
 intro aW cr
 refine zx (bg.trans (congrArg nA (nD.2 aW.out))) (kN (sR gCs Z (oM Z bK (oR Z (Runs.cvw Z Z Tryz.runUnderlying207 Tryz.runUnderlying3 Z Z) (bnK cr fun aa bL ct=>OKS.makeSlice (enc:=KL.encI) (z:=(0:Int)) (v:=jV 0) Z Z Z Z Z (wCI zC) wLg Z Z Z Z Z Z bL bV ?_)))))
 intro bE ab bW
 have bj:sW w U aq [.row (some ⟨ab,0,none⟩) aa.length 3 1 (hH KL.encI aa)] bE:=bW
 refine oA Z Z (eN (sR gCs Z (oM Z Z (oM Z bJ ?_))))
 have bM:=b5.le cA
 have bN:=bM.le cC
 refine bnK ct fun bb bO cu=>OKS.copyM (j:=0) (f:=KL.encI) (m:=aa) (ys:=p0) (z:=bb) (a:=0) (n:=aa.length) rfl rfl rfl rfl rfl rfl zC zB bj rfl (fun _=>rfl) (fun _=>rfl) rfl bO rfl (by simp) (.inr (by simp)) rfl (bj.srcS bN) rfl ?_
 intro bF bX bn
 have bY:sW w U aq [.row (some ⟨ab,0,none⟩) aa.length 3 1 (hH KL.encI bb)] bF:=bX
 refine oA Z Z (eN (zH (zW (yh (fun (ah,x59) σ_ w_=>∃ (U_:PHeap),σ_ 7=.slice (some ⟨ab,0,none⟩) ah.length aa.length/\σ_ 8=jV x59/\PHeap.Le aq U_/\sW w U U_ [.row (some ⟨ab,0,none⟩) aa.length 3 1 (hH KL.encI ah)] w_/\ah.length=aa.length) cu ?_ ?_))))
 exact ⟨aq,(nM (b:=(.slice (some ⟨ab,0,none⟩) aa.length aa.length:Value)) (c:=(.slice (some ⟨ab,0,none⟩) bb.length aa.length:Value)) rfl (by rw [bn])),rfl,(zM _),bY,bn⟩
 rintro ⟨ah,x59⟩ cM cO be ⟨aV,am,av,cD,bk,bQ⟩ aZ cj
 try dsimp only at aZ
 refine zH (sR fL4 Z (oM Z av (oM Z am (oR Z (zd Z Z zC) (oR Z (zX Z Z Z) (eN ?_))))))
 by_cases aj:x59 < (↑ah.length:Int)
 have bu:=aZ;rw [if_pos aj] at bu;replace aj:=zI aj
 refine cT Z aj (kN (zW (ZD zy [3,3,3,3,3,3,3,0,3,3] (wNc gCm) (by kernel_rfl) ?_)))
 have ap:=bk.drew
 generalize hw_W76:({ be with drawn:=be.drawn + 1 }:World)=cI at ap ⊢
 refine oM Z av (oM Z am (oM Z av (bnK bu fun bC bR cw=>?_)))
 have q:=wNo bR
 obtain ⟨cb,cf,aX,cJ,aY⟩:=q
 have bv:=ap.rowCap (j:=0) rfl (by decide) (wAI (f:=KL.encI) (sz:=1) (fun _=>rfl) ah)
 refine zk (v:=.slice (if aa.length=(x59:Int).toNat then (some ⟨ab,0,none⟩) else Option.map (fun q:Addr=>q.add ((x59:Int).toNat * 1)) ((some ⟨ab,0,none⟩):Option Addr)) bC.length (aa.length - (x59:Int).toNat)) rfl rfl rfl rfl (fun _=>ZP (Runs.slc (sz:=1) (a:=x59) (b:=(↑(ah.length):Int)) rfl rfl (.inl ⟨_,rfl,rfl⟩) (.inr ⟨rfl,rfl⟩) zC zB cb cf aX bv) (by rw [aY])) (zz rfl rfl rfl rfl rfl am (zz rfl rfl rfl rfl rfl av (bnK cw fun x86 bh cx=>?_)))
 have q:=wNo bh
 obtain ⟨cd,cg,cm,cK,cz⟩:=q
 have bw:=ap.rowCap (j:=0) rfl (by decide) (wAI (f:=KL.encI) (sz:=1) (fun _=>rfl) ah)
 refine zk (v:=.slice (if aa.length=(0:Int).toNat then (some ⟨ab,0,none⟩) else Option.map (fun q:Addr=>q.add ((0:Int).toNat * 1)) ((some ⟨ab,0,none⟩):Option Addr)) x86.length (aa.length - (0:Int).toNat)) rfl rfl rfl rfl (fun _=>ZP (Runs.slc (sz:=1) (a:=0) (b:=x59) rfl rfl (.inr ⟨rfl,rfl⟩) (.inl ⟨_,rfl,rfl⟩) zC zB cd cg cm bw) (by rw [cz])) (bnK cx fun x95 bS cy=>OKS.copyM (j:=0) (f:=KL.encI) (m:=ah) (ys:=x86) (z:=x95) (a:=x59) (n:=bC.length) rfl rfl rfl rfl rfl rfl zC zB ap rfl (fun _=>rfl) (fun _=>rfl) rfl bS rfl (by have:=aY;have:=aX;omega) (cutA rfl (by have:=aY;have:=aX;have:=bv;omega)) rfl (ap.srcCut (f:=KL.encI) (j:=0) rfl (fun _=>rfl) rfl bh bw) rfl ?_)
 intro bG bZ bm
 have bT:sW w U aV [.row (some ⟨ab,0,none⟩) aa.length 3 1 (hH KL.encI x95)] bG:=bZ
 refine oR Z (zZ Z Z Z) (oA Z Z (zh (zq ?_)))
 obtain rfl:=nJ cy
 exact zG ⟨rfl,_,rfl,⟨aV,(nM (b:=(.slice (some ⟨ab,0,none⟩) ah.length aa.length:Value)) (c:=(.slice (some ⟨ab,0,none⟩) x95.length aa.length:Value)) am (by rw [bm])),rfl,cD,bT,(bm.trans bQ)⟩⟩
 have bo:=aZ;rw [if_neg aj] at bo;replace aj:=zI aj
 refine cF Z aj (ZT (zf ?_))
 have q:=wAZ bo
 obtain ⟨cE,cn,bI⟩:=q
 obtain rfl:=cj cE bI
 refine zf (ZK (zG (sR fL2 Z (oM Z am (oA Z Z (eN (zP ?_)))))))
 have hE:=nJ cn;first | subst r | cases hE
 exact ⟨Z,_,(ZH Z),aV,_,bk,(some ⟨ab,0,none⟩),aa.length,Z,Z⟩
theorem wCR (p0:wAf) (aj:Nat) (dL:Option Addr) (dP:Nat) (dM:Option Addr) (dQ:Nat) (dN:Option Addr) (dR:Nat) (dO:Option Addr) (dS:Nat) (aa:Nat) (ae:Array MapEntry) (ah:Nat) (bu:Option Addr) (bv:Nat) (p1:Int) (p2:Bool) (w:World) (U:PHeap) (hS:St0 w U [.blk aj 139 [.slice dL p0.Race.Starts.length dP,.slice dM p0.Race.Splits.length dQ,.slice dN p0.Race.Clocks.length dR,.slice dO p0.Race.Readings.length dS,.map (some aa),.slice bu p0.edges.length bv],.obj aa (.map ae ah)]) (AW:Sl U 1 dL dP p0.Race.Starts.length (hH KL.encI p0.Race.Starts)) (AX:Sl U 2 dM dQ p0.Race.Splits.length (hH wAB p0.Race.Splits)) (AY:Sl U 3 dN dR p0.Race.Clocks.length (hH wAD p0.Race.Clocks)) (AZ:Sl U 4 dO dS p0.Race.Readings.length (hH wAC p0.Race.Readings)) (cW:MpR ae wBW wBb p0.number) (wg:Sl U 7 bu bv p0.edges.length (hH wAa p0.edges)) {r:wDT × Int × Bool} (hm:wAk p0 p1 p2=some r):Gv Tryz.prog 74 [.pointer (some ⟨aj,0,none⟩),jV p1,.bool p2] w (wCp w [.blk aj 139 [.slice dL p0.Race.Starts.length dP,.slice dM p0.Race.Splits.length dQ,.slice dN p0.Race.Clocks.length dR,.slice dO p0.Race.Readings.length dS,.map (some aa),.slice bu p0.edges.length bv],.obj aa (.map ae ah)] U (fun U_ L_ v=>∃ (gv:Option Addr) (iV:Nat) (gw:Option Addr) (iW:Nat),v=.tuple #[.agg #[.slice gv r.1.far.length iV,.slice gw r.1.by_.length iW],jV r.2.1,.bool r.2.2]/\L_=[.row gv iV 3 1 (hH KL.encI r.1.far),.row gw iW 3 1 (hH KL.encI r.1.by_),.blk aj 139 [.slice dL p0.Race.Starts.length dP,.slice dM p0.Race.Splits.length dQ,.slice dN p0.Race.Clocks.length dR,.slice dO p0.Race.Readings.length dS,.map (some aa),.slice bu p0.edges.length bv],.obj aa (.map ae ah)])):=by
 unfold wAk at hm
 refine Gv.of Tryz.func74 Z Tryz.ntmps74 Tryz.results74 Z (sR gCl Z ?_)
 let B0:List Value:=[.slice none 0 0,.slice none 0 0]
 refine ze (cs:=B0) Z Z Z Z Z Zm Z hS ?_
 intro W3 b4 vz
 refine oA Z Z (oA Z Z (eN ?_))
 have q:=bnd hm
 obtain ⟨⟨l9,bC⟩,xj,mq⟩:=q
 try dsimp only at mq
 let B1:Res:=.blk aj 139 [.slice dL p0.Race.Starts.length dP,.slice dM p0.Race.Splits.length dQ,.slice dN p0.Race.Clocks.length dR,.slice dO p0.Race.Readings.length dS,.map (some aa),.slice bu p0.edges.length bv]
 refine yU (fun σ_ w_=>∃ (U_:PHeap) (b8:Nat) (au:Option Addr) (av:Nat) (az:Option Addr) (aV:Nat),σ_ 0=.pointer (some ⟨aj,0,none⟩)/\σ_ 1=jV p1/\σ_ 2=.bool p2/\σ_ 6=.pointer (some ⟨b4,0,none⟩)/\σ_ 9=.pointer (some ⟨b8,0,none⟩)/\PHeap.Le U U_/\SW w [B1,.obj aa (.map ae ah)] U U_ [.blk b4 133 B0,B1,.obj aa (.map ae ah),.blk b8 133 [.slice au l9.length av,.slice az bC.length aV],.row au av 3 1 (hH KL.encI l9),.row az aV 3 1 (hH KL.encI bC)] w_) ?_ ?_
 refine bnK xj fun aW eR xe=>bnK xe fun x51 eS xf=>ZD zy [2,3,3,3,1,1,2,2,3,3,3,1,1,2,3,2,0] (fC1_5 (wVC (.fx 0 (.fx 6 (.fl 12 (.fx 7 gCu (.fx 15 gCt .stop))) (.fx 7 gDa (.fx 15 gDb .stop))) (.fx 7 (.fx 0 gDa (.fx 15 gCz .stop)) (.fx 15 (.fx 0 gDb (.fx 7 gCz .stop)) .stop))))) (by kernel_rfl) ?_
 have cp:=vz.drew
 generalize hw_W74:({ W3 with drawn:=W3.drawn + 1 }:World)=Ac at cp ⊢
 refine ZS (s:=.nil) (M:=fun σ_ w_=>∃ (U_:PHeap) (en:Nat) (ct:Option Addr) (cJ:Nat) (cu:Option Addr) (cK:Nat) (eY:Option Addr) (fw:Nat) (eZ:Option Addr) (fy:Nat),σ_ 0=.pointer (some ⟨aj,0,none⟩)/\σ_ 1=jV p1/\σ_ 2=.bool p2/\σ_ 6=.pointer (some ⟨b4,0,none⟩)/\σ_ 9=.pointer (some ⟨en,0,none⟩)/\σ_ 16=.slice eY ([1125899906842624].length) fw/\σ_ 17=.pointer (some ⟨aj,0,none⟩)/\σ_ 18=.pointer (some ⟨aj,0,none⟩)/\σ_ 19=.pointer (some ⟨aj,4,none⟩)/\σ_ 20=.map (some aa)/\σ_ 21=jV (↑(p0.number.length):Int)/\σ_ 22=.slice ct aW.length cJ/\σ_ 23=.slice eZ ([-1].length) fy/\σ_ 24=.pointer (some ⟨aj,0,none⟩)/\σ_ 25=.pointer (some ⟨aj,0,none⟩)/\σ_ 26=.pointer (some ⟨aj,4,none⟩)/\σ_ 27=.map (some aa)/\σ_ 28=jV (↑(p0.number.length):Int)/\σ_ 29=.slice cu x51.length cK/\σ_ 30=.agg #[.slice ct aW.length cJ,.slice cu x51.length cK]/\PHeap.Le U U_/\SW w [B1,.obj aa (.map ae ah)] U U_ [.blk b4 133 B0,B1,.obj aa (.map ae ah),.blk en 133 [.slice ct aW.length cJ,.slice cu x51.length cK],.row ct cJ 3 1 (hH KL.encI aW),.row cu cK 3 1 (hH KL.encI x51)] w_/\Sl U_ 1 eY fw [1125899906842624].length (hH KL.encI [1125899906842624])/\Sl U_ 1 eZ fy [-1].length (hH KL.encI [-1])) ?_ fun mG=>?_
 rintro Bv z7 ⟨n6,en,ct,cJ,cu,cK,eY,fw,eZ,fy,qj,qk,qm,qn,qo,Av,Aw,Ax,Ay,Az,AA,AD,AE,AG,AI,AJ,AL,AM,AN,AP,xx,vx,AT,AU⟩
 refine zh ?_
 cases xf
 exact zG ⟨Z,⟨n6,en,ct,cJ,cu,cK,qj,qk,qm,qn,qo,xx,vx⟩⟩
 refine ZS (s:=.fx 16 .nil .stop) (M:=fun σ_ w_=>∃ (U_:PHeap) (dr:Nat) (dU:Option Addr) (ey:Nat) (bP:Option Addr) (bZ:Nat) (dV:Option Addr) (eA:Nat) (bQ:Option Addr) (b5:Nat),σ_ 0=.pointer (some ⟨aj,0,none⟩)/\σ_ 1=jV p1/\σ_ 2=.bool p2/\σ_ 6=.pointer (some ⟨b4,0,none⟩)/\σ_ 9=.pointer (some ⟨dr,0,none⟩)/\σ_ 16=.slice dU ([1125899906842624].length) ey/\σ_ 17=.pointer (some ⟨aj,0,none⟩)/\σ_ 18=.pointer (some ⟨aj,0,none⟩)/\σ_ 19=.pointer (some ⟨aj,4,none⟩)/\σ_ 20=.map (some aa)/\σ_ 21=jV (↑(p0.number.length):Int)/\σ_ 22=.slice bP aW.length bZ/\σ_ 23=.slice dV ([-1].length) eA/\σ_ 24=.pointer (some ⟨aj,0,none⟩)/\σ_ 25=.pointer (some ⟨aj,0,none⟩)/\σ_ 26=.pointer (some ⟨aj,4,none⟩)/\σ_ 27=.map (some aa)/\σ_ 28=jV (↑(p0.number.length):Int)/\σ_ 29=.slice bQ x51.length b5/\σ_ 30=.agg #[.slice bP aW.length bZ,.slice bQ x51.length b5]/\PHeap.Le U U_/\SW w [B1,.obj aa (.map ae ah)] U U_ [.blk b4 133 B0,B1,.obj aa (.map ae ah),.blk dr 133 B0,.row bP bZ 3 1 (hH KL.encI aW),.row bQ b5 3 1 (hH KL.encI x51)] w_/\Sl U_ 1 dU ey [1125899906842624].length (hH KL.encI [1125899906842624])/\Sl U_ 1 dV eA [-1].length (hH KL.encI [-1])) ?_ fun xk=>?_
 rintro Bw z8 ⟨g7,dr,dU,ey,bP,bZ,dV,eA,bQ,b5,qp,qq,qr,qt,jR,qu,qv,qw,qx,qy,qz,qA,qB,qC,qD,qE,qF,qG,qH,jS,xz,vy,tL,tM⟩
 let B2:List Value:=[.slice bP aW.length bZ,.slice bQ x51.length b5]
 refine zm (j:=3) (vs:=B2) Z Z Z Z vy Z jR jS Z yA (zA Z) Z Z Z ?_
 intro ow vA
 have vB:SW w [B1,.obj aa (.map ae ah)] U g7 [.blk b4 133 B0,B1,.obj aa (.map ae ah),.blk dr 133 B2,.row bP bZ 3 1 (hH KL.encI aW),.row bQ b5 3 1 (hH KL.encI x51)] ow:=vA
 exact mG _ _ ⟨g7,dr,bP,bZ,bQ,b5,dU,ey,dV,eA,qp,qq,qr,qt,jR,qu,qv,qw,qx,qy,qz,qA,qB,qC,qD,qE,qF,qG,qH,jS,xz,vB,tL,tM⟩
 refine ZS (s:=gCh) (M:=fun σ_ w_=>∃ (U_:PHeap) (dt:Nat) (dW:Option Addr) (eC:Nat) (bR:Option Addr) (cb:Nat) (dX:Option Addr) (eD:Nat) (bS:Option Addr) (cd:Nat),σ_ 0=.pointer (some ⟨aj,0,none⟩)/\σ_ 1=jV p1/\σ_ 2=.bool p2/\σ_ 6=.pointer (some ⟨b4,0,none⟩)/\σ_ 9=.pointer (some ⟨dt,0,none⟩)/\σ_ 16=.slice dW ([1125899906842624].length) eC/\σ_ 17=.pointer (some ⟨aj,0,none⟩)/\σ_ 18=.pointer (some ⟨aj,0,none⟩)/\σ_ 19=.pointer (some ⟨aj,4,none⟩)/\σ_ 20=.map (some aa)/\σ_ 21=jV (↑(p0.number.length):Int)/\σ_ 22=.slice bR aW.length cb/\σ_ 23=.slice dX ([-1].length) eD/\σ_ 24=.pointer (some ⟨aj,0,none⟩)/\σ_ 25=.pointer (some ⟨aj,0,none⟩)/\σ_ 26=.pointer (some ⟨aj,4,none⟩)/\σ_ 27=.map (some aa)/\σ_ 28=jV (↑(p0.number.length):Int)/\σ_ 29=.slice bS x51.length cd/\PHeap.Le U U_/\SW w [B1,.obj aa (.map ae ah)] U U_ [.blk b4 133 B0,B1,.obj aa (.map ae ah),.blk dt 133 B0,.row bR cb 3 1 (hH KL.encI aW),.row bS cd 3 1 (hH KL.encI x51)] w_/\Sl U_ 1 dW eC [1125899906842624].length (hH KL.encI [1125899906842624])/\Sl U_ 1 dX eD [-1].length (hH KL.encI [-1])) ?_ fun mH=>?_
 rintro Bx z9 ⟨g8,dt,dW,eC,bR,cb,dX,eD,bS,cd,qI,qJ,qK,qL,jU,qM,qN,qO,qP,qQ,qR,jW,qS,qT,qU,qV,qW,qX,jX,xA,vC,tO,tP⟩
 let B3:List Value:=[.slice bR aW.length cb,.slice bS x51.length cd]
 refine oR Z (ZO (pv:=[(0,.slice bR aW.length cb),(1,.slice bS x51.length cd)]) (z:=B0) (cs:=B3) Z (wAH jW (wAH jX wAY)) Zm wKV Z Z) (zm (j:=3) (vs:=B3) Z Z Z Z vC Z jU Z Z yA (zA Z) Z Z Z ?_)
 intro ox vD
 have vE:SW w [B1,.obj aa (.map ae ah)] U g8 [.blk b4 133 B0,B1,.obj aa (.map ae ah),.blk dt 133 B3,.row bR cb 3 1 (hH KL.encI aW),.row bS cd 3 1 (hH KL.encI x51)] ox:=vD
 exact mG _ _ ⟨g8,dt,bR,cb,bS,cd,dW,eC,dX,eD,qI,qJ,qK,qL,jU,qM,qN,qO,qP,qQ,qR,jW,qS,qT,qU,qV,qW,qX,jX,Z,xA,vE,tO,tP⟩
 refine ZS (s:=gCo) (M:=fun σ_ w_=>∃ (U_:PHeap) (cD:Nat) (dY:Option Addr) (eE:Nat) (cY:Option Addr) (dw:Nat) (cZ:Option Addr) (dx:Nat),σ_ 0=.pointer (some ⟨aj,0,none⟩)/\σ_ 1=jV p1/\σ_ 2=.bool p2/\σ_ 6=.pointer (some ⟨b4,0,none⟩)/\σ_ 9=.pointer (some ⟨cD,0,none⟩)/\σ_ 16=.slice dY ([1125899906842624].length) eE/\σ_ 17=.pointer (some ⟨aj,0,none⟩)/\σ_ 18=.pointer (some ⟨aj,0,none⟩)/\σ_ 19=.pointer (some ⟨aj,4,none⟩)/\σ_ 20=.map (some aa)/\σ_ 21=jV (↑(p0.number.length):Int)/\σ_ 22=.slice cY aW.length dw/\σ_ 23=.slice cZ ([-1].length) dx/\σ_ 24=.pointer (some ⟨aj,0,none⟩)/\σ_ 25=.pointer (some ⟨aj,0,none⟩)/\σ_ 26=.pointer (some ⟨aj,4,none⟩)/\σ_ 27=.map (some aa)/\σ_ 28=jV (↑(p0.number.length):Int)/\PHeap.Le U U_/\SW w [B1,.obj aa (.map ae ah)] U U_ [.blk b4 133 B0,B1,.obj aa (.map ae ah),.blk cD 133 B0,.row cY dw 3 1 (hH KL.encI aW),.row cZ dx 3 1 (hH KL.encI [-1])] w_/\Sl U_ 1 dY eE [1125899906842624].length (hH KL.encI [1125899906842624])) ?_ fun eV=>?_
 rintro By iG ⟨xV,cD,dY,eE,cY,dw,cZ,dx,qY,qZ,rc,re,ri,rj,rk,rn,ro,rp,rq,rx,jY,ry,rA,rC,rD,jZ,xB,vG,tQ⟩
 have q:=vG.freezeR (k:=5) (n:=[-1].length) rfl (wAI (f:=KL.encI) (sz:=1) (fun _=>rfl) [-1]) (by decide)
 obtain ⟨g9,mR,mw,vH⟩:=q
 let B4:Res:=.row cY dw 3 1 (hH KL.encI aW)
 have vJ:SW w [B1,.obj aa (.map ae ah)] U g9 [.blk b4 133 B0,B1,.obj aa (.map ae ah),.blk cD 133 B0,B4] iG:=vH
 refine zK 0 Z Z Z Z (zL Z Z yr (zD jY (zD jZ zQ)) Z) vJ (fun hs=>wAl [-1] cZ dx (↑(p0.number.length):Int) iG g9 hs mw eS) (.inr Z) ?_
 rintro ib xR Bb oy gq vK ⟨gA,i9,rfl,rfl⟩
 have vL:SW w [B1,.obj aa (.map ae ah)] U ib [.row gA i9 3 1 (hH KL.encI x51),.blk b4 133 B0,B1,.obj aa (.map ae ah),.blk cD 133 B0,B4] oy:=vK
 have tR:=tQ.le mR
 have tS:=tR.le gq
 have tT:=mw.le gq
 exact mH _ _ ⟨ib,cD,dY,eE,cY,dw,cZ,dx,gA,i9,qY,qZ,rc,re,ri,rj,rk,rn,ro,rp,rq,rx,jY,ry,rA,rC,rD,jZ,rfl,((xB.trans mR).trans gq),(vL.pick [1,2,3,4,5,0] _ (by decide) rfl),tS,tT⟩
 refine ZS (s:=gCn) (M:=fun σ_ w_=>∃ (U_:PHeap) (dZ:Option Addr) (eF:Nat) (cw:Option Addr) (cL:Nat) (d4:Option Addr) (eG:Nat) (cx:Option Addr) (cM:Nat),σ_ 0=.pointer (some ⟨aj,0,none⟩)/\σ_ 1=jV p1/\σ_ 2=.bool p2/\σ_ 6=.pointer (some ⟨b4,0,none⟩)/\σ_ 16=.slice dZ ([1125899906842624].length) eF/\σ_ 17=.pointer (some ⟨aj,0,none⟩)/\σ_ 18=.pointer (some ⟨aj,0,none⟩)/\σ_ 19=.pointer (some ⟨aj,4,none⟩)/\σ_ 20=.map (some aa)/\σ_ 21=jV (↑(p0.number.length):Int)/\σ_ 22=.slice cw aW.length cL/\σ_ 23=.slice d4 ([-1].length) eG/\σ_ 24=.pointer (some ⟨aj,0,none⟩)/\σ_ 25=.pointer (some ⟨aj,0,none⟩)/\σ_ 26=.pointer (some ⟨aj,4,none⟩)/\σ_ 27=.map (some aa)/\σ_ 28=jV (↑(p0.number.length):Int)/\σ_ 29=.slice cx x51.length cM/\PHeap.Le U U_/\SW w [B1,.obj aa (.map ae ah)] U U_ [.blk b4 133 B0,B1,.obj aa (.map ae ah),.row cw cL 3 1 (hH KL.encI aW),.row cx cM 3 1 (hH KL.encI x51)] w_/\Sl U_ 1 dZ eF [1125899906842624].length (hH KL.encI [1125899906842624])/\Sl U_ 1 d4 eG [-1].length (hH KL.encI [-1])) ?_ fun mI=>?_
 rintro Bz Aa ⟨n7,dZ,eF,cw,cL,d4,eG,cx,cM,rE,rF,rG,rH,rI,rJ,rK,rL,rM,rN,j0,rO,rP,rQ,rS,rT,rV,j5,xC,vM,tU,tV⟩
 refine oR Z (ZO (pv:=[(0,.slice cw aW.length cL),(1,.slice cx x51.length cM)]) (z:=B0) (cs:=[.slice cw aW.length cL,.slice cx x51.length cM]) Z (wAH j0 (wAH j5 wAY)) Zm wKV Z Z) (ze (cs:=B0) Z Z Z Z Z Zm Z vM ?_)
 intro Ab oW vN
 exact xk _ _ ⟨n7,oW,dZ,eF,cw,cL,d4,eG,cx,cM,rE,rF,rG,rH,rfl,rI,rJ,rK,rL,rM,rN,j0,rO,rP,rQ,rS,rT,rV,j5,rfl,xC,(vN.pick [1,2,3,0,4,5] _ (by decide) rfl),tU,tV⟩
 refine ZS (s:=.fl 12 gCo) (M:=fun σ_ w_=>∃ (U_:PHeap) (cE:Nat) (d5:Option Addr) (eH:Nat) (da:Option Addr) (dy:Nat) (db:Option Addr) (dz:Nat),σ_ 0=.pointer (some ⟨aj,0,none⟩)/\σ_ 1=jV p1/\σ_ 2=.bool p2/\σ_ 6=.pointer (some ⟨b4,0,none⟩)/\σ_ 9=.pointer (some ⟨cE,0,none⟩)/\σ_ 16=.slice d5 ([1125899906842624].length) eH/\σ_ 17=.pointer (some ⟨aj,0,none⟩)/\σ_ 18=.pointer (some ⟨aj,0,none⟩)/\σ_ 19=.pointer (some ⟨aj,4,none⟩)/\σ_ 20=.map (some aa)/\σ_ 21=jV (↑(p0.number.length):Int)/\σ_ 22=.slice da aW.length dy/\σ_ 23=.slice db ([-1].length) dz/\σ_ 24=.pointer (some ⟨aj,0,none⟩)/\σ_ 25=.pointer (some ⟨aj,0,none⟩)/\σ_ 26=.pointer (some ⟨aj,4,none⟩)/\σ_ 27=.map (some aa)/\PHeap.Le U U_/\SW w [B1,.obj aa (.map ae ah)] U U_ [.blk b4 133 B0,B1,.obj aa (.map ae ah),.blk cE 133 B0,.row da dy 3 1 (hH KL.encI aW),.row db dz 3 1 (hH KL.encI [-1])] w_/\Sl U_ 1 d5 eH [1125899906842624].length (hH KL.encI [1125899906842624])) ?_ fun xl=>?_
 rintro BA iH ⟨xW,cE,d5,eH,da,dy,db,dz,rW,rX,rY,rZ,r0,r6,r7,r8,r9,sb,sc,sd,j6,se,sf,sg,j7,xD,md,tW⟩
 refine oL Z (md.lenM (j:=2) (mk:=wBW) (mv:=wBb) Z Z j7 (wCI ZQ) cW) ?_
 have q:=md.freezeR (k:=5) (n:=[-1].length) rfl (wAI (f:=KL.encI) (sz:=1) (fun _=>rfl) [-1]) (by decide)
 obtain ⟨ic,mS,my,vO⟩:=q
 let B5:Res:=.row da dy 3 1 (hH KL.encI aW)
 have vP:SW w [B1,.obj aa (.map ae ah)] U ic [.blk b4 133 B0,B1,.obj aa (.map ae ah),.blk cE 133 B0,B5] iH:=vO
 refine zK 0 Z Z Z Z (zL Z Z yr (zD j6 (zD Z zQ)) Z) vP (fun hs=>wAl [-1] db dz (↑(p0.number.length):Int) iH ic hs my eS) (.inr Z) ?_
 rintro ie xS Bc oz gt vQ ⟨gB,ja,rfl,rfl⟩
 have vR:SW w [B1,.obj aa (.map ae ah)] U ie [.row gB ja 3 1 (hH KL.encI x51),.blk b4 133 B0,B1,.obj aa (.map ae ah),.blk cE 133 B0,B5] oz:=vQ
 have tX:=tW.le mS
 have tY:=tX.le gt
 have tZ:=my.le gt
 exact mH _ _ ⟨ie,cE,d5,eH,da,dy,db,dz,gB,ja,rW,rX,rY,rZ,r0,r6,r7,r8,r9,sb,sc,sd,j6,se,sf,sg,j7,rfl,rfl,((xD.trans mS).trans gt),(vR.pick [1,2,3,4,5,0] _ (by decide) rfl),tY,tZ⟩
 refine ZS (s:=.fl 12 gCt) (M:=fun σ_ w_=>∃ (U_:PHeap) (du:Nat) (d6:Option Addr) (eI:Nat) (de:Option Addr) (dA:Nat),σ_ 0=.pointer (some ⟨aj,0,none⟩)/\σ_ 1=jV p1/\σ_ 2=.bool p2/\σ_ 6=.pointer (some ⟨b4,0,none⟩)/\σ_ 9=.pointer (some ⟨du,0,none⟩)/\σ_ 16=.slice d6 ([1125899906842624].length) eI/\σ_ 17=.pointer (some ⟨aj,0,none⟩)/\σ_ 18=.pointer (some ⟨aj,0,none⟩)/\σ_ 19=.pointer (some ⟨aj,4,none⟩)/\σ_ 20=.map (some aa)/\σ_ 21=jV (↑(p0.number.length):Int)/\σ_ 22=.slice de aW.length dA/\σ_ 24=.pointer (some ⟨aj,0,none⟩)/\σ_ 25=.pointer (some ⟨aj,0,none⟩)/\σ_ 26=.pointer (some ⟨aj,4,none⟩)/\σ_ 27=.map (some aa)/\PHeap.Le U U_/\SW w [B1,.obj aa (.map ae ah)] U U_ [.blk b4 133 B0,B1,.obj aa (.map ae ah),.blk du 133 B0,.row de dA 3 1 (hH KL.encI aW)] w_/\Sl U_ 1 d6 eI [1125899906842624].length (hH KL.encI [1125899906842624])) ?_ fun xm=>?_
 rintro BB Ad ⟨ig,du,d6,eI,de,dA,sh,sj,sk,sm,sn,so,sq,ss,su,sv,sw,sA,sB,sC,sD,j8,xE,me,t7⟩
 refine oL Z (me.lenM (j:=2) (mk:=wBW) (mv:=wBb) Z Z j8 (wCI ZQ) cW) (ZW (pv:=[(0,jV (-1))]) (zs:=[jV 0]) (cs:=[jV (-1)]) Z Z Z Z Z (wAH Z wAY) zC zB Za Z Z Z Z Z me ?_)
 intro oB iT vS
 have vU:SW w [B1,.obj aa (.map ae ah)] U ig [.row (some ⟨iT,0,none⟩) 1 3 1 (hH KL.encI [-1]),.blk b4 133 B0,B1,.obj aa (.map ae ah),.blk du 133 B0,.row de dA 3 1 (hH KL.encI aW)] oB:=vS
 exact eV _ _ ⟨ig,du,d6,eI,de,dA,(some ⟨iT,0,none⟩),1,sh,sj,sk,sm,sn,so,sq,ss,su,sv,sw,sA,rfl,sB,sC,sD,j8,rfl,xE,(vU.pick [1,2,3,4,5,0] _ (by decide) rfl),t7⟩
 refine ZS (s:=gCv) (M:=fun σ_ w_=>∃ (U_:PHeap) (cG:Nat) (df:Option Addr) (dB:Nat) (dg:Option Addr) (dC:Nat),σ_ 0=.pointer (some ⟨aj,0,none⟩)/\σ_ 1=jV p1/\σ_ 2=.bool p2/\σ_ 6=.pointer (some ⟨b4,0,none⟩)/\σ_ 9=.pointer (some ⟨cG,0,none⟩)/\σ_ 16=.slice df ([1125899906842624].length) dB/\σ_ 17=.pointer (some ⟨aj,0,none⟩)/\σ_ 18=.pointer (some ⟨aj,0,none⟩)/\σ_ 19=.pointer (some ⟨aj,4,none⟩)/\σ_ 20=.map (some aa)/\σ_ 21=jV (↑(p0.number.length):Int)/\σ_ 23=.slice dg ([-1].length) dC/\σ_ 24=.pointer (some ⟨aj,0,none⟩)/\σ_ 25=.pointer (some ⟨aj,0,none⟩)/\σ_ 26=.pointer (some ⟨aj,4,none⟩)/\σ_ 27=.map (some aa)/\PHeap.Le U U_/\SW w [B1,.obj aa (.map ae ah)] U U_ [.blk b4 133 B0,B1,.obj aa (.map ae ah),.blk cG 133 B0,.row df dB 3 1 (hH KL.encI [1125899906842624]),.row dg dC 3 1 (hH KL.encI [-1])] w_) ?_ fun gf=>?_
 rintro BC iI ⟨xX,cG,df,dB,dg,dC,sE,sF,sG,sH,sI,j9,sJ,sK,sL,sM,k9,sN,sP,sQ,sS,sU,xF,vV⟩
 have q:=vV.freezeR (k:=4) (n:=[1125899906842624].length) rfl (wAI (f:=KL.encI) (sz:=1) (fun _=>rfl) [1125899906842624]) (by decide)
 obtain ⟨ii,xG,mz,vW⟩:=q
 let B6:Res:=.row dg dC 3 1 (hH KL.encI [-1])
 have vX:SW w [B1,.obj aa (.map ae ah)] U ii [.blk b4 133 B0,B1,.obj aa (.map ae ah),.blk cG 133 B0,B6] iI:=vW
 refine zK 0 Z Z Z Z (zL Z Z yr (zD j9 (zD k9 zQ)) Z) vX (fun hs=>wAl [1125899906842624] df dB (↑(p0.number.length):Int) iI ii hs mz eR) (.inr Z) ?_
 rintro ij xT Bd oG mT vY ⟨gC,jb,rfl,rfl⟩
 have vZ:SW w [B1,.obj aa (.map ae ah)] U ij [.row gC jb 3 1 (hH KL.encI aW),.blk b4 133 B0,B1,.obj aa (.map ae ah),.blk cG 133 B0,B6] oG:=vY
 have t8:=mz.le mT
 exact xl _ _ ⟨ij,cG,df,dB,gC,jb,dg,dC,sE,sF,sG,sH,sI,j9,sJ,sK,sL,sM,k9,rfl,sN,sP,sQ,sS,sU,((xF.trans xG).trans mT),(vZ.pick [1,2,3,4,0,5] _ (by decide) rfl),t8⟩
 refine ZS (s:=.fl 12 gCu) (M:=fun σ_ w_=>∃ (U_:PHeap) (dh:Option Addr) (dD:Nat) (cy:Option Addr) (cN:Nat) (cz:Option Addr) (cO:Nat),σ_ 0=.pointer (some ⟨aj,0,none⟩)/\σ_ 1=jV p1/\σ_ 2=.bool p2/\σ_ 6=.pointer (some ⟨b4,0,none⟩)/\σ_ 16=.slice dh ([1125899906842624].length) dD/\σ_ 17=.pointer (some ⟨aj,0,none⟩)/\σ_ 18=.pointer (some ⟨aj,0,none⟩)/\σ_ 19=.pointer (some ⟨aj,4,none⟩)/\σ_ 20=.map (some aa)/\σ_ 21=jV (↑(p0.number.length):Int)/\σ_ 22=.slice cy aW.length cN/\σ_ 23=.slice cz ([-1].length) cO/\σ_ 24=.pointer (some ⟨aj,0,none⟩)/\σ_ 25=.pointer (some ⟨aj,0,none⟩)/\σ_ 26=.pointer (some ⟨aj,4,none⟩)/\σ_ 27=.map (some aa)/\PHeap.Le U U_/\SW w [B1,.obj aa (.map ae ah)] U U_ [.blk b4 133 B0,B1,.obj aa (.map ae ah),.row cy cN 3 1 (hH KL.encI aW),.row cz cO 3 1 (hH KL.encI [-1])] w_/\Sl U_ 1 dh dD [1125899906842624].length (hH KL.encI [1125899906842624])) ?_ fun xn=>?_
 rintro BD iJ ⟨n8,dh,dD,cy,cN,cz,cO,lf,lg,lh,li,lj,lm,ln,lp,ls,lu,lv,fG,lw,lx,ly,fH,mU,fS,lP⟩
 refine oL Z (fS.lenM (j:=2) (mk:=wBW) (mv:=wBb) Z Z fH (wCI ZQ) cW) (zw ?_ ?_)
 have q:=fS.freezeR (k:=4) (n:=[-1].length) rfl (wAI (f:=KL.encI) (sz:=1) (fun _=>rfl) [-1]) (by decide)
 obtain ⟨ik,mV,mA,v4⟩:=q
 let B7:Res:=.row cy cN 3 1 (hH KL.encI aW)
 have v5:SW w [B1,.obj aa (.map ae ah)] U ik [.blk b4 133 B0,B1,.obj aa (.map ae ah),B7] iJ:=v4
 refine zK 0 Z Z Z Z (zL Z Z yr (zD fG (zD Z zQ)) Z) v5 (fun hs=>wAl [-1] cz cO (↑(p0.number.length):Int) iJ ik hs mA eS) (.inr Z) ?_
 rintro il xU Be oH gu v7 ⟨gD,jc,rfl,rfl⟩
 have v8:SW w [B1,.obj aa (.map ae ah)] U il [.row gD jc 3 1 (hH KL.encI x51),.blk b4 133 B0,B1,.obj aa (.map ae ah),B7] oH:=v7
 have t9:=lP.le mV
 have ua:=t9.le gu
 have ub:=mA.le gu
 exact mI _ _ ⟨il,dh,dD,cy,cN,cz,cO,gD,jc,lf,lg,lh,li,lj,lm,ln,lp,ls,lu,lv,fG,lw,lx,ly,fH,rfl,rfl,((mU.trans mV).trans gu),(v8.pick [1,2,3,4,0] _ (by decide) rfl),ua,ub⟩
 refine ze (cs:=B0) Z Z Z Z Z Zm Z fS ?_
 intro Ae oX v9
 exact eV _ _ ⟨n8,oX,dh,dD,cy,cN,cz,cO,lf,lg,lh,li,rfl,lj,lm,ln,lp,ls,lu,lv,fG,lw,lx,ly,fH,rfl,mU,(v9.pick [1,2,3,0,4,5] _ (by decide) rfl),lP⟩
 refine ZS (s:=gCz) (M:=fun σ_ w_=>∃ (U_:PHeap) (dv:Nat) (dk:Option Addr) (dE:Nat),σ_ 0=.pointer (some ⟨aj,0,none⟩)/\σ_ 1=jV p1/\σ_ 2=.bool p2/\σ_ 6=.pointer (some ⟨b4,0,none⟩)/\σ_ 9=.pointer (some ⟨dv,0,none⟩)/\σ_ 17=.pointer (some ⟨aj,0,none⟩)/\σ_ 18=.pointer (some ⟨aj,0,none⟩)/\σ_ 19=.pointer (some ⟨aj,4,none⟩)/\σ_ 20=.map (some aa)/\σ_ 21=jV (↑(p0.number.length):Int)/\σ_ 23=.slice dk ([-1].length) dE/\σ_ 24=.pointer (some ⟨aj,0,none⟩)/\σ_ 25=.pointer (some ⟨aj,0,none⟩)/\σ_ 26=.pointer (some ⟨aj,4,none⟩)/\σ_ 27=.map (some aa)/\PHeap.Le U U_/\SW w [B1,.obj aa (.map ae ah)] U U_ [.blk b4 133 B0,B1,.obj aa (.map ae ah),.blk dv 133 B0,.row dk dE 3 1 (hH KL.encI [-1])] w_) ?_ fun mJ=>?_
 rintro BE Af ⟨im,dv,dk,dE,sV,sX,sY,sZ,s5,s6,s7,s8,s9,tc,td,te,tf,tg,th,xH,wa⟩
 refine ZW (pv:=[(0,jV 1125899906842624)]) (zs:=[jV 0]) (cs:=[jV 1125899906842624]) Z Z Z Z Z (wAH Z wAY) zC zB Za Z Z Z Z Z wa ?_
 intro oI iU wb
 have wc:SW w [B1,.obj aa (.map ae ah)] U im [.row (some ⟨iU,0,none⟩) 1 3 1 (hH KL.encI [1125899906842624]),.blk b4 133 B0,B1,.obj aa (.map ae ah),.blk dv 133 B0,.row dk dE 3 1 (hH KL.encI [-1])] oI:=wb
 exact gf _ _ ⟨im,dv,(some ⟨iU,0,none⟩),1,dk,dE,sV,sX,sY,sZ,s5,rfl,s6,s7,s8,s9,tc,td,te,tf,tg,th,xH,(wc.pick [1,2,3,4,0,5] _ (by decide) rfl)⟩
 refine ZS (s:=gDb) (M:=fun σ_ w_=>∃ (U_:PHeap) (bM:Nat) (bT:Option Addr) (cf:Nat),σ_ 0=.pointer (some ⟨aj,0,none⟩)/\σ_ 1=jV p1/\σ_ 2=.bool p2/\σ_ 6=.pointer (some ⟨b4,0,none⟩)/\σ_ 9=.pointer (some ⟨bM,0,none⟩)/\σ_ 16=.slice bT ([1125899906842624].length) cf/\σ_ 17=.pointer (some ⟨aj,0,none⟩)/\σ_ 18=.pointer (some ⟨aj,0,none⟩)/\σ_ 19=.pointer (some ⟨aj,4,none⟩)/\σ_ 20=.map (some aa)/\σ_ 21=jV (↑(p0.number.length):Int)/\σ_ 24=.pointer (some ⟨aj,0,none⟩)/\σ_ 25=.pointer (some ⟨aj,0,none⟩)/\σ_ 26=.pointer (some ⟨aj,4,none⟩)/\σ_ 27=.map (some aa)/\PHeap.Le U U_/\SW w [B1,.obj aa (.map ae ah)] U U_ [.blk b4 133 B0,B1,.obj aa (.map ae ah),.blk bM 133 B0,.row bT cf 3 1 (hH KL.encI [1125899906842624])] w_) ?_ fun mK=>?_
 rintro BF iK ⟨io,bM,bT,cf,lz,lA,lB,lD,lE,fJ,lF,lG,lH,lI,fK,lJ,lK,lL,lM,mW,mf⟩
 refine zw ?_ ?_
 have q:=mf.freezeR (k:=4) (n:=[1125899906842624].length) rfl (wAI (f:=KL.encI) (sz:=1) (fun _=>rfl) [1125899906842624]) (by decide)
 obtain ⟨ip,xI,mB,wd⟩:=q
 have we:SW w [B1,.obj aa (.map ae ah)] U ip [.blk b4 133 B0,B1,.obj aa (.map ae ah),.blk bM 133 B0] iK:=wd
 refine zK 0 Z Z Z Z (zL Z Z yr (zD fJ (zD fK zQ)) Z) we (fun hs=>wAl [1125899906842624] bT cf (↑(p0.number.length):Int) iK ip hs mB eR) (.inr Z) ?_
 rintro gN xM A6 n9 mL uf ⟨gx,iX,rfl,rfl⟩
 have ug:SW w [B1,.obj aa (.map ae ah)] U gN [.row gx iX 3 1 (hH KL.encI aW),.blk b4 133 B0,B1,.obj aa (.map ae ah),.blk bM 133 B0] n9:=uf
 have tn:=mB.le mL
 exact xm _ _ ⟨gN,bM,bT,cf,gx,iX,lz,lA,lB,lD,lE,fJ,lF,lG,lH,lI,fK,rfl,lJ,lK,lL,lM,((mW.trans xI).trans mL),(ug.pick [1,2,3,4,0] _ (by decide) rfl),tn⟩
 refine ZW (pv:=[(0,jV (-1))]) (zs:=[jV 0]) (cs:=[jV (-1)]) Z Z Z Z Z (wAH Z wAY) zC zB Za Z Z Z Z Z mf ?_
 intro oa iL uh
 have ui:SW w [B1,.obj aa (.map ae ah)] U io [.row (some ⟨iL,0,none⟩) 1 3 1 (hH KL.encI [-1]),.blk b4 133 B0,B1,.obj aa (.map ae ah),.blk bM 133 B0,.row bT cf 3 1 (hH KL.encI [1125899906842624])] oa:=uh
 exact gf _ _ ⟨io,bM,bT,cf,(some ⟨iL,0,none⟩),1,lz,lA,lB,lD,lE,fJ,lF,lG,lH,lI,fK,rfl,lJ,lK,lL,lM,mW,(ui.pick [1,2,3,4,5,0] _ (by decide) rfl)⟩
 refine ZS (s:=gDa) (M:=fun σ_ w_=>∃ (U_:PHeap) (cq:Option Addr) (cH:Nat) (cr:Option Addr) (cI:Nat),σ_ 0=.pointer (some ⟨aj,0,none⟩)/\σ_ 1=jV p1/\σ_ 2=.bool p2/\σ_ 6=.pointer (some ⟨b4,0,none⟩)/\σ_ 16=.slice cq ([1125899906842624].length) cH/\σ_ 17=.pointer (some ⟨aj,0,none⟩)/\σ_ 18=.pointer (some ⟨aj,0,none⟩)/\σ_ 19=.pointer (some ⟨aj,4,none⟩)/\σ_ 20=.map (some aa)/\σ_ 21=jV (↑(p0.number.length):Int)/\σ_ 23=.slice cr ([-1].length) cI/\σ_ 24=.pointer (some ⟨aj,0,none⟩)/\σ_ 25=.pointer (some ⟨aj,0,none⟩)/\σ_ 26=.pointer (some ⟨aj,4,none⟩)/\σ_ 27=.map (some aa)/\PHeap.Le U U_/\SW w [B1,.obj aa (.map ae ah)] U U_ [.blk b4 133 B0,B1,.obj aa (.map ae ah),.row cq cH 3 1 (hH KL.encI [1125899906842624]),.row cr cI 3 1 (hH KL.encI [-1])] w_) ?_ fun mF=>?_
 rintro Bk iq ⟨m7,cq,cH,cr,cI,jd,je,jf,jg,fz,jh,ji,jj,jk,fA,jl,jm,jo,jp,jq,mM,lW⟩
 refine zw ?_ ?_
 have q:=lW.freezeR (k:=3) (n:=[1125899906842624].length) rfl (wAI (f:=KL.encI) (sz:=1) (fun _=>rfl) [1125899906842624]) (by decide)
 obtain ⟨gO,xo,ms,uj⟩:=q
 let B8:Res:=.row cr cI 3 1 (hH KL.encI [-1])
 have uk:SW w [B1,.obj aa (.map ae ah)] U gO [.blk b4 133 B0,B1,.obj aa (.map ae ah),B8] iq:=uj
 refine zK 0 Z Z Z Z (zL Z Z yr (zD fz (zD fA zQ)) Z) uk (fun hs=>wAl [1125899906842624] cq cH (↑(p0.number.length):Int) iq gO hs ms eR) (.inr Z) ?_
 rintro gP xN A8 oc mN ul ⟨gy,iY,rfl,rfl⟩
 have um:SW w [B1,.obj aa (.map ae ah)] U gP [.row gy iY 3 1 (hH KL.encI aW),.blk b4 133 B0,B1,.obj aa (.map ae ah),B8] oc:=ul
 have tp:=ms.le mN
 exact xn _ _ ⟨gP,cq,cH,gy,iY,cr,cI,jd,je,jf,jg,fz,jh,ji,jj,jk,fA,rfl,jl,jm,jo,jp,jq,((mM.trans xo).trans mN),(um.pick [1,2,3,0,4] _ (by decide) rfl),tp⟩
 refine ze (cs:=B0) Z Z Z Z Z Zm Z lW ?_
 intro xY oK uo
 exact gf _ _ ⟨m7,oK,cq,cH,cr,cI,jd,je,jf,jg,rfl,fz,jh,ji,jj,jk,fA,jl,jm,jo,jp,jq,mM,(uo.pick [1,2,3,0,4,5] _ (by decide) rfl)⟩
 refine oM Z Z (oR Z (Zu Z Z) (oR Z (zE Z Z ZJ Z Zz) (oL Z (cp.ldB (j:=1) Z Z Z yC (v:=.map (some aa)) Z) (oL Z (cp.lenM (j:=2) (mk:=wBW) (mv:=wBb) Z Z Z (wCI ZQ) cW) (oM Z Z (oR Z (Zu Z Z) (oR Z (zE Z Z ZJ Z Zz) (oL Z (cp.ldB (j:=1) Z Z Z yC (v:=.map (some aa)) Z) (zw ?_ ?_)))))))))
 refine ZW (pv:=[(0,jV 1125899906842624)]) (zs:=[jV 0]) (cs:=[jV 1125899906842624]) Z Z Z Z Z (wAH Z wAY) zC zB Za Z Z Z Z Z cp ?_
 intro fd bY uq
 let B9:Res:=.row (some ⟨bY,0,none⟩) 1 3 1 (hH KL.encI [1125899906842624])
 have fM:SW w [B1,.obj aa (.map ae ah)] U U [B9,.blk b4 133 B0,B1,.obj aa (.map ae ah)] fd:=uq
 refine zw ?_ ?_
 have q:=fM.freezeR (k:=0) (n:=[1125899906842624].length) rfl (wAI (f:=KL.encI) (sz:=1) (fun _=>rfl) [1125899906842624]) (by decide)
 obtain ⟨gQ,gi,eU,ur⟩:=q
 have uu:SW w [B1,.obj aa (.map ae ah)] U gQ [.blk b4 133 B0,B1,.obj aa (.map ae ah)] fd:=ur
 refine zK 0 Z Z Z Z (zL Z Z yr (zD Z (zD Z zQ)) Z) uu (fun hs=>wAl [1125899906842624] (some ⟨bY,0,none⟩) 1 (↑(p0.number.length):Int) fd gQ hs eU eR) (.inr Z) ?_
 rintro dq xO A9 od cX uv ⟨dT,eu,rfl,rfl⟩
 let dl:Res:=.row dT eu 3 1 (hH KL.encI aW)
 have fN:SW w [B1,.obj aa (.map ae ah)] U dq [dl,.blk b4 133 B0,B1,.obj aa (.map ae ah)] od:=uv
 refine oL Z (fN.lenM (j:=3) (mk:=wBW) (mv:=wBb) Z Z Z (wCI ZQ) cW) (zw ?_ ?_)
 refine ZW (pv:=[(0,jV (-1))]) (zs:=[jV 0]) (cs:=[jV (-1)]) Z Z Z Z Z (wAH Z wAY) zC zB Za Z Z Z Z Z fN ?_
 intro ff eh uw
 have lX:SW w [B1,.obj aa (.map ae ah)] U dq [.row (some ⟨eh,0,none⟩) 1 3 1 (hH KL.encI [-1]),dl,.blk b4 133 B0,B1,.obj aa (.map ae ah)] ff:=uw
 refine zw ?_ ?_
 have q:=lX.freezeR (k:=0) (n:=[-1].length) rfl (wAI (f:=KL.encI) (sz:=1) (fun _=>rfl) [-1]) (by decide)
 obtain ⟨gR,mO,mu,ux⟩:=q
 have uy:SW w [B1,.obj aa (.map ae ah)] U gR [dl,.blk b4 133 B0,B1,.obj aa (.map ae ah)] ff:=ux
 refine zK 0 Z Z Z Z (zL Z Z yr (zD Z (zD Z zQ)) Z) uy (fun hs=>wAl [-1] (some ⟨eh,0,none⟩) 1 (↑(p0.number.length):Int) ff gR hs mu eS) (.inr Z) ?_
 rintro gS xP Ba oe gj uz ⟨gz,iZ,rfl,rfl⟩
 have uA:SW w [B1,.obj aa (.map ae ah)] U gS [.row gz iZ 3 1 (hH KL.encI x51),dl,.blk b4 133 B0,B1,.obj aa (.map ae ah)] oe:=uz
 have tq:=eU.le cX
 have tr:=tq.le mO
 have tu:=tr.le gj
 have tv:=mu.le gj
 exact mI _ _ ⟨gS,(some ⟨bY,0,none⟩),1,dT,eu,(some ⟨eh,0,none⟩),1,gz,iZ,rfl,rfl,rfl,rfl,rfl,rfl,rfl,rfl,rfl,rfl,rfl,rfl,rfl,rfl,rfl,rfl,rfl,rfl,(((gi.trans cX).trans mO).trans gj),(uA.pick [2,3,4,1,0] _ (by decide) rfl),tu,tv⟩
 refine ze (cs:=B0) Z Z Z Z Z Zm Z lX ?_
 intro xZ oO uB
 have tw:=eU.le cX
 exact eV _ _ ⟨dq,oO,(some ⟨bY,0,none⟩),1,dT,eu,(some ⟨eh,0,none⟩),1,rfl,rfl,rfl,rfl,rfl,rfl,rfl,rfl,rfl,rfl,rfl,rfl,rfl,rfl,rfl,rfl,rfl,rfl,(gi.trans cX),(uB.pick [3,4,5,0,2,1] _ (by decide) rfl),tw⟩
 refine ze (cs:=B0) Z Z Z Z Z Zm Z fN ?_
 intro x7 iM uC
 refine ZW (pv:=[(0,jV (-1))]) (zs:=[jV 0]) (cs:=[jV (-1)]) Z Z Z Z Z (wAH Z wAY) zC zB Za Z Z Z Z Z uC ?_
 intro og iN uD
 have uE:SW w [B1,.obj aa (.map ae ah)] U dq [.row (some ⟨iN,0,none⟩) 1 3 1 (hH KL.encI [-1]),.blk iM 133 B0,dl,.blk b4 133 B0,B1,.obj aa (.map ae ah)] og:=uD
 have tz:=eU.le cX
 exact eV _ _ ⟨dq,iM,(some ⟨bY,0,none⟩),1,dT,eu,(some ⟨iN,0,none⟩),1,rfl,rfl,rfl,rfl,rfl,rfl,rfl,rfl,rfl,rfl,rfl,rfl,rfl,rfl,rfl,rfl,rfl,rfl,(gi.trans cX),(uE.pick [3,4,5,1,2,0] _ (by decide) rfl),tz⟩
 refine zw ?_ ?_
 refine ZW (pv:=[(0,jV (-1))]) (zs:=[jV 0]) (cs:=[jV (-1)]) Z Z Z Z Z (wAH Z wAY) zC zB Za Z Z Z Z Z fM ?_
 intro oh iO uF
 have uG:SW w [B1,.obj aa (.map ae ah)] U U [.row (some ⟨iO,0,none⟩) 1 3 1 (hH KL.encI [-1]),B9,.blk b4 133 B0,B1,.obj aa (.map ae ah)] oh:=uF
 exact mF _ _ ⟨U,(some ⟨bY,0,none⟩),1,(some ⟨iO,0,none⟩),1,rfl,rfl,rfl,rfl,rfl,rfl,rfl,rfl,rfl,rfl,rfl,rfl,rfl,rfl,rfl,(zM _),(uG.pick [2,3,4,1,0] _ (by decide) rfl)⟩
 refine ze (cs:=B0) Z Z Z Z Z Zm Z fM ?_
 intro x8 oP uH
 exact mK _ _ ⟨U,oP,(some ⟨bY,0,none⟩),1,rfl,rfl,rfl,rfl,rfl,rfl,rfl,rfl,rfl,rfl,rfl,rfl,rfl,rfl,rfl,(zM _),(uH.pick [2,3,4,0,1] _ (by decide) rfl)⟩
 refine zw ?_ ?_
 refine ZW (pv:=[(0,jV (-1))]) (zs:=[jV 0]) (cs:=[jV (-1)]) Z Z Z Z Z (wAH Z wAY) zC zB Za Z Z Z Z Z cp ?_
 intro oi fh uI
 let gF:Res:=.row (some ⟨fh,0,none⟩) 1 3 1 (hH KL.encI [-1])
 have lY:SW w [B1,.obj aa (.map ae ah)] U U [gF,.blk b4 133 B0,B1,.obj aa (.map ae ah)] oi:=uI
 refine zw ?_ ?_
 refine ZW (pv:=[(0,jV 1125899906842624)]) (zs:=[jV 0]) (cs:=[jV 1125899906842624]) Z Z Z Z Z (wAH Z wAY) zC zB Za Z Z Z Z Z lY ?_
 intro oj iP uJ
 have uK:SW w [B1,.obj aa (.map ae ah)] U U [.row (some ⟨iP,0,none⟩) 1 3 1 (hH KL.encI [1125899906842624]),gF,.blk b4 133 B0,B1,.obj aa (.map ae ah)] oj:=uJ
 exact mF _ _ ⟨U,(some ⟨iP,0,none⟩),1,(some ⟨fh,0,none⟩),1,rfl,rfl,rfl,rfl,rfl,rfl,rfl,rfl,rfl,rfl,rfl,rfl,rfl,rfl,rfl,(zM _),(uK.pick [2,3,4,0,1] _ (by decide) rfl)⟩
 refine ze (cs:=B0) Z Z Z Z Z Zm Z lY ?_
 intro yt oU uL
 exact mJ _ _ ⟨U,oU,(some ⟨fh,0,none⟩),1,rfl,rfl,rfl,rfl,rfl,rfl,rfl,rfl,rfl,rfl,rfl,rfl,rfl,rfl,rfl,(zM _),(uL.pick [2,3,4,0,1] _ (by decide) rfl)⟩
 refine ze (cs:=B0) Z Z Z Z Z Zm Z cp ?_
 intro yu ej lZ
 refine zw ?_ ?_
 refine ZW (pv:=[(0,jV 1125899906842624)]) (zs:=[jV 0]) (cs:=[jV 1125899906842624]) Z Z Z Z Z (wAH Z wAY) zC zB Za Z Z Z Z Z lZ ?_
 intro om iQ uM
 have uN:SW w [B1,.obj aa (.map ae ah)] U U [.row (some ⟨iQ,0,none⟩) 1 3 1 (hH KL.encI [1125899906842624]),.blk ej 133 B0,.blk b4 133 B0,B1,.obj aa (.map ae ah)] om:=uM
 exact mK _ _ ⟨U,ej,(some ⟨iQ,0,none⟩),1,rfl,rfl,rfl,rfl,rfl,rfl,rfl,rfl,rfl,rfl,rfl,rfl,rfl,rfl,rfl,(zM _),(uN.pick [2,3,4,1,0] _ (by decide) rfl)⟩
 refine ZW (pv:=[(0,jV (-1))]) (zs:=[jV 0]) (cs:=[jV (-1)]) Z Z Z Z Z (wAH Z wAY) zC zB Za Z Z Z Z Z lZ ?_
 intro oq iR uO
 have uP:SW w [B1,.obj aa (.map ae ah)] U U [.row (some ⟨iR,0,none⟩) 1 3 1 (hH KL.encI [-1]),.blk ej 133 B0,.blk b4 133 B0,B1,.obj aa (.map ae ah)] oq:=uO
 exact mJ _ _ ⟨U,ej,(some ⟨iR,0,none⟩),1,rfl,rfl,rfl,rfl,rfl,rfl,rfl,rfl,rfl,rfl,rfl,rfl,rfl,rfl,rfl,(zM _),(uP.pick [2,3,4,1,0] _ (by decide) rfl)⟩
 rintro Bl yv ⟨gU,b8,au,av,az,aV,o6,o7,o8,o9,jr,xp,l4⟩
 refine zH (sR fL4 Z (oR Z (zE Z jr ZV Z zS) (oL Z (l4.ldB (j:=3) Z Z Z zY (v:=.slice au l9.length av) Z) (oR Z (zd Z Z zC) (oM Z Z (eN (zW (bnK mq fun Bi wj ge=>?_))))))))
 have q:=wBc wj
 obtain ⟨fZ,wk⟩:=q
 replace fZ:=zI fZ
 let bU:Res:=.row az aV 3 1 (hH KL.encI bC)
 refine CK.forN' (fun bA bg σ_ w_=>∃ (U_:PHeap),σ_ 34=jV (↑bA:Int)/\σ_ 0=.pointer (some ⟨aj,0,none⟩)/\σ_ 1=jV p1/\σ_ 2=.bool p2/\σ_ 6=.pointer (some ⟨b4,0,none⟩)/\σ_ 9=.pointer (some ⟨b8,0,none⟩)/\σ_ 33=jV (↑l9.length:Int)/\PHeap.Le gU U_/\SW w [B1,.obj aa (.map ae ah)] U U_ [.blk b4 133 B0,B1,.obj aa (.map ae ah),.row au av 3 1 (hH KL.encI bg),bU,.blk b8 133 [.slice au bg.length av,.slice az bC.length aV]] w_/\bg.length=l9.length) wk ?_ ?_ ?_
 exact ⟨gU,rfl,o6,o7,o8,o9,jr,rfl,(zM _),(l4.pick [0,1,2,4,5,3] _ (by decide) rfl),rfl⟩
 rintro bA bg Bf Bm yw fV ⟨bX,dJ,fB,dF,fC,fD,dG,eJ,gm,cn,fL⟩ mC
 have i4:Hid ((↑bA:Int) < (↑l9.length:Int)):=zI (wBJ fV)
 replace fV:=zI fV
 have fU:Hid (w64 ((↑bA:Int) + 1)=(↑(bA + 1):Int)):=zI (by have h1:=fZ.out;have h2:=i4.out;rw [wAX] <;> omega)
 refine sR fL1 Z (oR Z (zX Z dJ eJ) (eN (zH (cT Z i4 (kN (zH (zW (sR fL2 Z (oM Z dJ (oA Z Z (eN (sR fL7 Z (oM Z dF (oR Z (zX Z Z Z) (oM Z Z ?_)))))))))))))))
 by_cases bi:p1 < 0
 have mg:=mC;rw [if_pos bi] at mg;replace bi:=zI bi
 refine oT Z bi (oT Z bi (oT Z bi (oR Z (zl Z (Zl bi.out) Z) (eN (ZG Z (rR (wEZ (.fx 4 .nil .stop)) Z (oR Z (zE Z dG ZV Z zS) (oL Z (cn.ldB (j:=5) Z Z Z zY (v:=.slice au bg.length av) Z) (oM Z Z (bnK mg fun _ eO wM=>?_))))))))))
 obtain ⟨Ag,lQ⟩:=cn.rowSome (j:=3) rfl (by rw [wAI (f:=KL.encI) (sz:=1) (fun _=>rfl) bg];have hz:=wAN eO;omega)
 refine oR Z (ZL Z Z lQ Z zC zB (wAN eO)) ?_
 have wp:=wBK (xs:=bg) (wAN eO)
 refine ye (j:=3) (vs:=[jV 0]) (cs':=hH KL.encI (nB bg bA 0)) rfl rfl rfl rfl cn rfl lQ rfl rfl rfl zB (by rw [wAI (f:=KL.encI) (sz:=1) (fun _=>rfl)];have hz:=wAN eO;show _ + 1 <= _;first | omega | (simp only [nI];omega) | (simp only [nH,nE,nG];omega)) rfl (wCv (sz:=1) (fo:=0) (fun _=>rfl) _ _ _ _ wp (by first | omega | (simp only [nI];omega) | (simp only [nH,nE,nG];omega)) (zA rfl) rfl) rfl ?_
 intro ir uQ
 let e8:Res:=.row au av 3 1 (hH KL.encI (nB bg bA 0))
 have uR:SW w [B1,.obj aa (.map ae ah)] U bX [.blk b4 133 B0,B1,.obj aa (.map ae ah),e8,bU,.blk b8 133 [.slice au bg.length av,.slice az bC.length aV]] ir:=uQ
 have uS:SW w [B1,.obj aa (.map ae ah)] U bX [.blk b4 133 B0,B1,.obj aa (.map ae ah),e8,bU,.blk b8 133 [.slice au ((nB bg bA 0).length) av,.slice az bC.length aV]] ir:=by simpa only [B0,B1,bU,e8,nK] using uR
 refine zh (zq (zG (rR fL2 Z (oR Z (ZP (zZ Z dJ Z) (congrArg (jV) fU.out)) (oM Z Z (zh ?_))))))
 cases wM
 exact zG ⟨Z,⟨bX,Z,fB,dF,fC,fD,dG,eJ,gm,uS,(nK.trans fL)⟩⟩
 have mh:=mC;rw [if_neg bi] at mh;replace bi:=zI bi
 refine zz Z Z Z (wF Z bi) Z Z (zz Z Z Z (wF Z bi) Z dF (rU Z (wF Z bi) (Runs.eql Z Z Z) (oR Z (zt Z (Ze bi.out) Z) (eN (ifc mh ?_ ?_)))))
 intro fj wN
 refine cT Z fj (rR (wEZ (.fx 4 .nil .stop)) Z (oR Z (zE Z dG ZV Z zS) (oL Z (cn.ldB (j:=5) Z Z Z zY (v:=.slice au bg.length av) Z) (oM Z Z (bnK wN fun _ eQ wO=>?_)))))
 obtain ⟨Ah,lR⟩:=cn.rowSome (j:=3) rfl (by rw [wAI (f:=KL.encI) (sz:=1) (fun _=>rfl) bg];have hz:=wAN eQ;omega)
 refine oR Z (ZL Z Z lR Z zC zB (wAN eQ)) ?_
 have wq:=wBK (xs:=bg) (wAN eQ)
 refine ye (j:=3) (vs:=[jV 0]) (cs':=hH KL.encI (nB bg bA 0)) rfl rfl rfl rfl cn rfl lR rfl rfl rfl zB (by rw [wAI (f:=KL.encI) (sz:=1) (fun _=>rfl)];have hz:=wAN eQ;show _ + 1 <= _;first | omega | (simp only [nI];omega) | (simp only [nH,nE,nG];omega)) rfl (wCv (sz:=1) (fo:=0) (fun _=>rfl) _ _ _ _ wq (by first | omega | (simp only [nI];omega) | (simp only [nH,nE,nG];omega)) (zA rfl) rfl) rfl ?_
 intro it uT
 let e9:Res:=.row au av 3 1 (hH KL.encI (nB bg bA 0))
 have uU:SW w [B1,.obj aa (.map ae ah)] U bX [.blk b4 133 B0,B1,.obj aa (.map ae ah),e9,bU,.blk b8 133 [.slice au bg.length av,.slice az bC.length aV]] it:=uT
 have uV:SW w [B1,.obj aa (.map ae ah)] U bX [.blk b4 133 B0,B1,.obj aa (.map ae ah),e9,bU,.blk b8 133 [.slice au ((nB bg bA 0).length) av,.slice az bC.length aV]] it:=by simpa only [B0,B1,bU,e9,nK] using uU
 refine zh (zq (zG (rR fL2 Z (oR Z (ZP (zZ Z dJ Z) (congrArg (jV) fU.out)) (oM Z Z (zh ?_))))))
 cases wO
 exact zG ⟨Z,⟨bX,Z,fB,dF,fC,fD,dG,eJ,gm,uV,(nK.trans fL)⟩⟩
 intro fj wP
 refine cF Z fj (Zh (zq (zG (rR fL2 Z (oR Z (ZP (zZ Z dJ Z) (congrArg (jV) fU.out)) (oM Z Z (zh ?_)))))))
 cases wP
 exact zG ⟨Z,⟨bX,Z,fB,dF,fC,fD,dG,eJ,gm,cn,fL⟩⟩
 rintro Bn yy ⟨gW,tj,jt,Ap,pe,pf,pg,ph,xq,fO,tA⟩
 have oY:Hid (¬ ((↑(((↑l9.length:Int):Int) - 0).toNat:Int) < (↑l9.length:Int))):=zI (wAj)
 refine sR fL1 Z (oR Z (zX Z tj ph) (eN (zH (cF Z oY (ZT (zf (zf (ZK (zG (sR fL1 Z (oA Z Z (eN (zH (sR fL7 Z (oM Z jt (oR Z (Zu Z Z) (oR Z (zE Z Z ZJ Z Zz) (oL Z (fO.ldB (j:=1) Z Z Z yC (v:=.map (some aa)) Z) (oL Z (fO.lenM (j:=2) (mk:=wBW) (mv:=wBb) Z Z Z (wCI ZQ) cW) (oR Z (zZ Z Z Z) (oM Z Z (eN (zW ?_)))))))))))))))))))))))
 have q:=wCH ge
 obtain ⟨A5,fT⟩:=q
 have q:=wCG fT
 obtain ⟨ga,wl⟩:=q
 replace ga:=zI ga
 refine yG (fun bB (eW,eX,mX) σ_ w_=>∃ (U_:PHeap),σ_ 55=jV (↑bB:Int)/\σ_ 0=.pointer (some ⟨aj,0,none⟩)/\σ_ 2=.bool p2/\σ_ 6=.pointer (some ⟨b4,0,none⟩)/\σ_ 9=.pointer (some ⟨b8,0,none⟩)/\σ_ 11=jV mX/\σ_ 54=jV (w64 ((↑(p0.number.length):Int) + 1))/\PHeap.Le gW U_/\SW w [B1,.obj aa (.map ae ah)] U U_ [.blk b4 133 B0,B1,.obj aa (.map ae ah),.row au av 3 1 (hH KL.encI eW),.row az aV 3 1 (hH KL.encI eX),.blk b8 133 [.slice au eW.length av,.slice az eX.length aV]] w_/\eW.length=l9.length/\eX.length=bC.length) wl ?_ ?_ ?_
 exact ⟨gW,Z,jt,pe,pf,pg,Z,Z,(zM _),fO,tA,Z⟩
 rintro bB ⟨eW,eX,mX⟩ Bg Bo yz fW ⟨gX,lN,ju,pj,pk,pm,Aq,jv,mP,l5,tB,tC⟩ mD wh
 try dsimp only at mD
 have i6:Hid ((↑bB:Int) < (w64 ((↑(p0.number.length):Int) + 1))):=zI (wBJ fW)
 replace fW:=zI fW
 have wK:Hid (w64 ((↑bB:Int) + 1)=(↑(bB + 1):Int)):=zI (by have h1:=ga.out;have h2:=i6.out;rw [wAX] <;> omega)
 refine sR fL1 Z (oR Z (zX Z lN jv) (eN (zH (cT Z i6 (kN (zH (zW (sR fL1 Z (oA Z Z (eN (zH (sR fL6 Z (oM Z ju (oR Z (Zu Z Z) (oR Z (zE Z Z ZJ Z yd) (oL Z (l5.ldB (j:=1) Z Z Z Tryz.isAgg137 (v:=.slice bu p0.edges.length bv) Z) (oR Z (zd Z Z Tryz.runUnderlying137) (oM Z Z (eN (zW ?_))))))))))))))))))))
 have q:=bnd mD
 obtain ⟨⟨mZ,m4,Bj⟩,wn,mi⟩:=q
 try dsimp only at mi
 have q:=wBc wn
 obtain ⟨gb,wo⟩:=q
 replace gb:=zI gb
 refine CK.forN' (fun bd (aq,aZ,mY) σ_ w_=>∃ (U_:PHeap),σ_ 62=jV (↑bd:Int)/\σ_ 0=.pointer (some ⟨aj,0,none⟩)/\σ_ 2=.bool p2/\σ_ 6=.pointer (some ⟨b4,0,none⟩)/\σ_ 9=.pointer (some ⟨b8,0,none⟩)/\σ_ 11=jV mY/\σ_ 54=jV (w64 ((↑(p0.number.length):Int) + 1))/\σ_ 55=jV (↑bB:Int)/\σ_ 60=.slice bu p0.edges.length bv/\σ_ 61=jV (↑p0.edges.length:Int)/\PHeap.Le gX U_/\SW w [B1,.obj aa (.map ae ah)] U U_ [.blk b4 133 B0,B1,.obj aa (.map ae ah),.row au av 3 1 (hH KL.encI aq),.row az aV 3 1 (hH KL.encI aZ),.blk b8 133 [.slice au aq.length av,.slice az aZ.length aV]] w_/\aq.length=l9.length/\aZ.length=bC.length) wo ?_ ?_ ?_
 exact ⟨gX,Z,ju,pj,pk,pm,Z,jv,lN,Z,Z,(zM _),l5,tB,tC⟩
 rintro bd ⟨aq,aZ,mY⟩ Bh Bp y4 fY ⟨ba,bJ,cP,cg,cQ,br,eK,cR,cS,cj,cm,mQ,l6,cU,cV⟩ mE
 try dsimp only at mE
 have i8:Hid ((↑bd:Int) < (↑p0.edges.length:Int)):=zI (wBJ fY)
 replace fY:=zI fY
 have wL:Hid (w64 ((↑bd:Int) + 1)=(↑(bd + 1):Int)):=zI (by have h1:=gb.out;have h2:=i8.out;rw [wAX] <;> omega)
 refine sR fL1 Z (oR Z (zX Z bJ cm) (eN (zH (cT Z i8 (kN ?_)))))
 have q:=bnd mE
 obtain ⟨⟨gg,gh,xK⟩,xg,mj⟩:=q
 try dsimp only at mj
 refine yU (fun σ_ w_=>∃ (U_:PHeap),σ_ 0=.pointer (some ⟨aj,0,none⟩)/\σ_ 2=.bool p2/\σ_ 6=.pointer (some ⟨b4,0,none⟩)/\σ_ 9=.pointer (some ⟨b8,0,none⟩)/\σ_ 11=jV xK/\σ_ 54=jV (w64 ((↑(p0.number.length):Int) + 1))/\σ_ 55=jV (↑bB:Int)/\σ_ 60=.slice bu p0.edges.length bv/\σ_ 61=jV (↑p0.edges.length:Int)/\σ_ 62=jV (↑bd:Int)/\PHeap.Le ba U_/\SW w [B1,.obj aa (.map ae ah)] U U_ [.blk b4 133 B0,B1,.obj aa (.map ae ah),.row au av 3 1 (hH KL.encI gg),.row az aV 3 1 (hH KL.encI gh),.blk b8 133 [.slice au gg.length av,.slice az gh.length aV]] w_/\gg.length=l9.length/\gh.length=bC.length) ?_ ?_
 refine zW (sR (wEG (.fx 3 (.fl 4 (.fx 5 .nil .stop)) .stop)) Z (oM Z bJ (bnK xg fun ap lO wQ=>?_)))
 have tD:=wg.le xp
 have tE:=tD.le xq
 have tF:=tE.le mP
 have tG:=tF.le mQ
 have q:=tG.el (fun _=>rfl) (wAS lO)
 obtain ⟨Ai,A4,ud,ue⟩:=q
 refine oR Z (ZL Z cj ud bJ Tryz.runUnderlying137 Tryz.sizeOf184 (wBk lO)) (oL Z (l6.ldCA (f:=0) ue Z Z Tryz.isAgg184 Tryz.sizeOf184 (us:=[jV ap.step.Kind,jV ap.step.Skier,jV ap.step.Index,.bool ap.step.Up,jV ap.from_,jV ap.to_,jV ap.count]) Z Z) (ze (cs:=[jV 0,jV 0,jV 0,.bool false,jV 0,jV 0,jV 0]) Z Z Z Z Z Tryz.zeroValue184 Z l6 ?_))
 intro y5 bf uW
 refine oA Z Z ?_
 let a0:List Value:=[jV ap.step.Kind,jV ap.step.Skier,jV ap.step.Index,.bool ap.step.Up,jV ap.from_,jV ap.to_,jV ap.count]
 refine zm (j:=0) (vs:=a0) Z Z Z Z uW Z Z Z Z Tryz.sizeOf184 (zA Z) Z Z Z ?_
 intro fg uX
 let bm:Res:=.row az aV 3 1 (hH KL.encI aZ)
 let bI:Res:=.blk b8 133 [.slice au aq.length av,.slice az aZ.length aV]
 have uY:SW w [B1,.obj aa (.map ae ah)] U ba [.blk bf 184 a0,.blk b4 133 B0,B1,.obj aa (.map ae ah),.row au av 3 1 (hH KL.encI aq),bm,bI] fg:=uX
 refine eN (zH (ZD zy [3,1,3,1,3,3] fL6 (by kernel_rfl) ?_))
 have dK:=uY.drew
 generalize hw_W1431:({ fg with drawn:=fg.drawn + 1 }:World)=eg at dK ⊢
 refine oR Z (zE Z Z yY Z zB) (oL Z (dK.ldB (j:=0) Z Z Z zF (v:=jV ap.from_) Z) (oR Z (zE Z Z yY Z zB) (oL Z (dK.ldB (j:=0) Z Z Z zF (v:=jV ap.to_) Z) (oA Z Z (oA Z Z (eN (zH (sR fL1 Z (oM Z cg (eN (ifc wQ ?_ ?_)))))))))))
 intro fm wR
 refine ZG (congrArg nA fm.out) (rR fL4 rfl (zz rfl rfl rfl rfl rfl rfl (zz rfl rfl rfl rfl rfl rfl (yX rfl rfl rfl rfl rfl rfl (yX rfl rfl rfl rfl rfl rfl (eN (zH (ZD zy [3,1,3,3,1,3,3,3,1,3,3,1,3,1,3,3,1,3,3,1,3,3] fL22 (by kernel_rfl) ?_))))))))
 have bs:=dK.drew
 generalize hw_W1435:({ eg with drawn:=eg.drawn + 1 }:World)=iu at bs ⊢
 refine oR Z (zE Z br ZV Z zS) (oL Z (bs.ldB (j:=6) Z Z Z zY (v:=.slice au aq.length av) Z) (oM Z Z (bnK wR fun _ bE wS=>?_)))
 obtain ⟨Aj,bw⟩:=bs.rowSome (j:=4) rfl (by rw [wAI (f:=KL.encI) (sz:=1) (fun _=>rfl) aq];have hz:=wAN bE;omega)
 refine oR Z (ZC Z Z bw Z zC zB (wBo bE) (wBp bE)) ?_
 have wt:=wBK (xs:=aq) (wAN bE)
 refine ZI rfl rfl rfl rfl (bs.ldR (j:=4) rfl bw rfl rfl zF (wAT (sz:=1) (fun _=>rfl) _ _ 0 _ wt (by first | omega | rfl | simp) rfl)) rfl (zk rfl rfl rfl rfl (fun _=>zX rfl rfl rfl) (zz rfl rfl rfl rfl rfl rfl (ifc wS ?_ ?_)))
 intro aX wU
 refine rU Z (wT Z aX) (zE Z br ZV Z zS) (ZI Z Z Z (wT Z aX) (bs.ldB (j:=6) Z Z Z zY (v:=.slice au aq.length av) Z) Z (zz Z Z Z (wT Z aX) Z Z (rU Z (wT Z aX) (ZC Z Z bw Z zC zB (wBo bE) (wBp bE)) ?_)))
 have wu:=wBK (xs:=aq) (wAN bE)
 refine ZI rfl rfl rfl (zO rfl rfl (Zl aX.out)) (bs.ldR (j:=4) rfl bw rfl rfl zF (wAT (sz:=1) (fun _=>rfl) _ _ 0 _ wu (by first | omega | rfl | simp) rfl)) rfl (zk rfl rfl rfl (zO rfl rfl (Zl aX.out)) (fun _=>zE rfl rfl yY rfl zB) (ZI rfl rfl rfl (zO rfl rfl (Zl aX.out)) (bs.ldB (j:=0) rfl rfl rfl zF (v:=jV ap.count) rfl) rfl (zk rfl rfl rfl (zO rfl rfl (Zl aX.out)) (fun _=>zZ rfl rfl rfl) (zk rfl rfl rfl (zO rfl rfl (Zl aX.out)) (fun _=>zE rfl br ZV rfl zS) (ZI rfl rfl rfl (zO rfl rfl (Zl aX.out)) (bs.ldB (j:=6) rfl rfl rfl zY (v:=.slice au aq.length av) rfl) rfl (zz rfl rfl rfl (zO rfl rfl (Zl aX.out)) rfl rfl (bnK wU fun _ bK wV=>zk rfl rfl rfl (zO rfl rfl (Zl aX.out)) (fun _=>ZC rfl rfl bw rfl zC zB (wBo bK) (wBp bK)) ?_)))))))
 have wv:=wBK (xs:=aq) (wAN bK)
 refine ZI rfl rfl rfl (zO rfl rfl (Zl aX.out)) (bs.ldR (j:=4) rfl bw rfl rfl zF (wAT (sz:=1) (fun _=>rfl) _ _ 0 _ wv (by first | omega | rfl | simp) rfl)) rfl (zk rfl rfl rfl (zO rfl rfl (Zl aX.out)) (fun _=>zX rfl rfl rfl) (zk rfl rfl rfl rfl (fun _=>zl rfl (Zl aX.out) rfl) (eN (ifc wV ?_ ?_))))
 intro fq wW
 refine cT Z fq ?_
 have q:=bnd wW
 obtain ⟨⟨⟩,xh,ml⟩:=q
 try dsimp only at ml
 let bn:Res:=.row au av 3 1 (hH KL.encI (nB aq ap.from_.toNat (w64 ((gd aq ap.to_.toNat) + ap.count))))
 let dm:Res:=.blk b8 133 [.slice au ((nB aq ap.from_.toNat (w64 ((gd aq ap.to_.toNat) + ap.count))).length) av,.slice az ((nB aZ ap.from_.toNat (↑bd:Int)).length) aV]
 let bV:Res:=.row az aV 3 1 (hH KL.encI (nB aZ ap.from_.toNat (↑bd:Int)))
 refine yU (fun σ_ w_=>∃ (U_:PHeap),σ_ 0=.pointer (some ⟨aj,0,none⟩)/\σ_ 2=.bool p2/\σ_ 6=.pointer (some ⟨b4,0,none⟩)/\σ_ 9=.pointer (some ⟨b8,0,none⟩)/\σ_ 15=jV ap.from_/\σ_ 54=jV (w64 ((↑(p0.number.length):Int) + 1))/\σ_ 55=jV (↑bB:Int)/\σ_ 60=.slice bu p0.edges.length bv/\σ_ 61=jV (↑p0.edges.length:Int)/\σ_ 62=jV (↑bd:Int)/\PHeap.Le ba U_/\SW w [B1,.obj aa (.map ae ah)] U U_ [.blk bf 184 a0,.blk b4 133 B0,B1,.obj aa (.map ae ah),bn,bV,dm] w_) ?_ ?_
 refine yp fun bp bj=>?_
 have jw:bp 0=.pointer (some ⟨aj,0,none⟩):=(bj 0).trans cP
 have jx:bp 2=.bool p2:=(bj 2).trans cg
 have jy:bp 6=.pointer (some ⟨b4,0,none⟩):=(bj 6).trans cQ
 have dH:bp 9=.pointer (some ⟨b8,0,none⟩):=(bj 9).trans br
 have pn:bp 12=jV (↑bd:Int):=(bj 12).trans rfl
 have po:bp 13=.pointer (some ⟨bf,0,none⟩):=(bj 13).trans rfl
 have pp:bp 14=jV ap.to_:=(bj 14).trans rfl
 have eL:bp 15=jV ap.from_:=(bj 15).trans rfl
 have jz:bp 54=jV (w64 ((↑(p0.number.length):Int) + 1)):=(bj 54).trans cR
 have jA:bp 55=jV (↑bB:Int):=(bj 55).trans cS
 have jB:bp 60=.slice bu p0.edges.length bv:=(bj 60).trans cj
 have jC:bp 61=jV (↑p0.edges.length:Int):=(bj 61).trans cm
 have jD:bp 62=jV (↑bd:Int):=(bj 62).trans bJ
 clear bj
 refine bnK xh fun _ bF mn=>ZD zy [3,1,3,3,2,3,3,1,3,3,1,3,1,3,3,3,0,3,0] (wEZ (wRR gCw)) (by kernel_rfl) ?_
 have bN:=bs.drew
 generalize hw_W1484:({ iu with drawn:=iu.drawn + 1 }:World)=y6 at bN ⊢
 refine oR Z (zE Z dH ZV Z zS) (oL Z (bN.ldB (j:=6) Z Z Z zY (v:=.slice au aq.length av) Z) (oM Z eL (oR Z (zE Z dH ZV Z zS) (oM Z eL (oR Z (zE Z dH ZV Z zS) (oL Z (bN.ldB (j:=6) Z Z Z zY (v:=.slice au aq.length av) Z) (oM Z pp (oR Z (ZC Z Z bw Z zC zB (wBo bE) (wBp bE)) ?_))))))))
 have ww:=wBK (xs:=aq) (wAN bE)
 refine ZI rfl rfl rfl rfl (bN.ldR (j:=4) rfl bw rfl rfl zF (wAT (sz:=1) (fun _=>rfl) _ _ 0 _ ww (by first | omega | rfl | simp) rfl)) rfl (zk rfl rfl rfl rfl (fun _=>zE rfl po yY rfl zB) (ZI rfl rfl rfl rfl (bN.ldB (j:=0) rfl rfl rfl zF (v:=jV ap.count) rfl) rfl (zk rfl rfl rfl rfl (fun _=>zZ rfl rfl rfl) (zz rfl rfl rfl rfl rfl pn (zk rfl rfl rfl rfl (fun _=>ZC rfl rfl bw rfl zC zB (wBo bK) (wBp bK)) (zw ?_ ?_))))))
 refine Zb Z Z Z Z (bN.ldB (j:=6) Z Z Z zY (v:=.slice az aZ.length aV) Z) ?_
 have wx:=wBK (xs:=aq) (wAN bK)
 refine ye (j:=4) (vs:=[jV (w64 ((gd aq ap.to_.toNat) + ap.count))]) (cs':=hH KL.encI (nB aq ap.from_.toNat (w64 ((gd aq ap.to_.toNat) + ap.count)))) rfl rfl rfl rfl bN rfl bw rfl rfl rfl zB (by rw [wAI (f:=KL.encI) (sz:=1) (fun _=>rfl)];have hz:=wAN bK;show _ + 1 <= _;first | omega | (simp only [nI];omega) | (simp only [nH,nE,nG];omega)) rfl (wCv (sz:=1) (fo:=0) (fun _=>rfl) _ _ _ _ wx (by first | omega | (simp only [nI];omega) | (simp only [nH,nE,nG];omega)) (zA rfl) rfl) rfl ?_
 intro iv uZ
 have u0:SW w [B1,.obj aa (.map ae ah)] U ba [.blk bf 184 a0,.blk b4 133 B0,B1,.obj aa (.map ae ah),bn,bm,bI] iv:=uZ
 let d7:Res:=.blk b8 133 [.slice au ((nB aq ap.from_.toNat (w64 ((gd aq ap.to_.toNat) + ap.count))).length) av,.slice az aZ.length aV]
 have l7:SW w [B1,.obj aa (.map ae ah)] U ba [.blk bf 184 a0,.blk b4 133 B0,B1,.obj aa (.map ae ah),bn,bm,d7] iv:=by simpa only [B0,B1,a0,bm,bI,bn,d7,nK] using u0
 obtain ⟨Ak,lS⟩:=l7.rowSome (j:=5) rfl (by rw [wAI (f:=KL.encI) (sz:=1) (fun _=>rfl) aZ];have hz:=wAN bF;omega)
 refine oR Z (ZC Z Z lS Z zC zB (wBo bF) (wBp bF)) ?_
 have wy:=wBK (xs:=aZ) (wAN bF)
 refine ye (j:=5) (vs:=[jV (↑bd:Int)]) (cs':=hH KL.encI (nB aZ ap.from_.toNat (↑bd:Int))) rfl rfl rfl rfl l7 rfl lS rfl rfl rfl zB (by rw [wAI (f:=KL.encI) (sz:=1) (fun _=>rfl)];have hz:=wAN bF;show _ + 1 <= _;first | omega | (simp only [nI];omega) | (simp only [nH,nE,nG];omega)) rfl (wCv (sz:=1) (fo:=0) (fun _=>rfl) _ _ _ _ wy (by first | omega | (simp only [nI];omega) | (simp only [nH,nE,nG];omega)) (zA rfl) rfl) rfl ?_
 intro iw u7
 have u9:SW w [B1,.obj aa (.map ae ah)] U ba [.blk bf 184 a0,.blk b4 133 B0,B1,.obj aa (.map ae ah),bn,bV,d7] iw:=u7
 have va:SW w [B1,.obj aa (.map ae ah)] U ba [.blk bf 184 a0,.blk b4 133 B0,B1,.obj aa (.map ae ah),bn,bV,dm] iw:=by simpa only [B0,B1,a0,bn,dm,bV,d7,nK] using u9
 refine zh ?_
 cases mn
 exact zG ⟨Z,⟨ba,jw,jx,jy,dH,eL,jz,jA,jB,jC,jD,(zM _),va⟩⟩
 have wz:=wBK (xs:=aq) (wAN bK)
 refine ye (j:=4) (vs:=[jV (w64 ((gd aq ap.to_.toNat) + ap.count))]) (cs':=hH KL.encI (nB aq ap.from_.toNat (w64 ((gd aq ap.to_.toNat) + ap.count)))) rfl rfl rfl rfl bN rfl bw rfl rfl rfl zB (by rw [wAI (f:=KL.encI) (sz:=1) (fun _=>rfl)];have hz:=wAN bK;show _ + 1 <= _;first | omega | (simp only [nI];omega) | (simp only [nH,nE,nG];omega)) rfl (wCv (sz:=1) (fo:=0) (fun _=>rfl) _ _ _ _ wz (by first | omega | (simp only [nI];omega) | (simp only [nH,nE,nG];omega)) (zA rfl) rfl) rfl ?_
 intro iy vb
 have vc:SW w [B1,.obj aa (.map ae ah)] U ba [.blk bf 184 a0,.blk b4 133 B0,B1,.obj aa (.map ae ah),bn,bm,bI] iy:=vb
 let d8:Res:=.blk b8 133 [.slice au ((nB aq ap.from_.toNat (w64 ((gd aq ap.to_.toNat) + ap.count))).length) av,.slice az aZ.length aV]
 have fP:SW w [B1,.obj aa (.map ae ah)] U ba [.blk bf 184 a0,.blk b4 133 B0,B1,.obj aa (.map ae ah),bn,bm,d8] iy:=by simpa only [B0,B1,a0,bm,bI,bn,d8,nK] using vc
 refine Zb Z Z Z Z (fP.ldB (j:=6) Z Z Z zY (v:=.slice az aZ.length aV) Z) ?_
 obtain ⟨Al,lT⟩:=fP.rowSome (j:=5) rfl (by rw [wAI (f:=KL.encI) (sz:=1) (fun _=>rfl) aZ];have hz:=wAN bF;omega)
 refine oR Z (ZC Z Z lT Z zC zB (wBo bF) (wBp bF)) ?_
 have wA:=wBK (xs:=aZ) (wAN bF)
 refine ye (j:=5) (vs:=[jV (↑bd:Int)]) (cs':=hH KL.encI (nB aZ ap.from_.toNat (↑bd:Int))) rfl rfl rfl rfl fP rfl lT rfl rfl rfl zB (by rw [wAI (f:=KL.encI) (sz:=1) (fun _=>rfl)];have hz:=wAN bF;show _ + 1 <= _;first | omega | (simp only [nI];omega) | (simp only [nH,nE,nG];omega)) rfl (wCv (sz:=1) (fo:=0) (fun _=>rfl) _ _ _ _ wA (by first | omega | (simp only [nI];omega) | (simp only [nH,nE,nG];omega)) (zA rfl) rfl) rfl ?_
 intro iz vd
 have ve:SW w [B1,.obj aa (.map ae ah)] U ba [.blk bf 184 a0,.blk b4 133 B0,B1,.obj aa (.map ae ah),bn,bV,d8] iz:=vd
 have vg:SW w [B1,.obj aa (.map ae ah)] U ba [.blk bf 184 a0,.blk b4 133 B0,B1,.obj aa (.map ae ah),bn,bV,dm] iz:=by simpa only [B0,B1,a0,bn,dm,bV,d8,nK] using ve
 refine zh ?_
 cases mn
 exact zG ⟨Z,⟨ba,jw,jx,jy,dH,eL,jz,jA,jB,jC,jD,(zM _),vg⟩⟩
 rintro Bq y7 ⟨m8,pq,pu,py,pz,pB,pC,pD,pE,pF,pG,xr,vh⟩
 refine rR fL2 Z (oM Z pB (oA Z Z (zh (zq ?_))))
 cases ml
 exact zG ⟨rfl,⟨m8,pq,pu,py,pz,rfl,pC,pD,pE,pF,pG,xr,(vh.pick [1,2,3,4,5,6] _ (by decide) rfl),(nK.trans cU),(nK.trans cV)⟩⟩
 intro fq wX
 refine cF Z fq (Zh (zq ?_))
 cases wX
 exact zG ⟨rfl,⟨ba,cP,cg,cQ,br,eK,cR,cS,cj,cm,bJ,(zM _),(bs.pick [1,2,3,4,5,6] _ (by decide) rfl),cU,cV⟩⟩
 intro aX wY
 refine oF Z aX (oF Z aX (oF Z aX (oF Z aX (oF Z aX (oF Z aX (oF Z aX (oF Z aX (oF Z aX (oF Z aX (oF Z aX (oF Z aX (oF Z aX (oF Z aX (oR Z (zt Z (Ze aX.out) Z) (eN (zx Z (Zh (zq ?_))))))))))))))))))
 cases wY
 exact zG ⟨rfl,⟨ba,cP,cg,cQ,br,eK,cR,cS,cj,cm,bJ,(zM _),(bs.pick [1,2,3,4,5,6] _ (by decide) rfl),cU,cV⟩⟩
 intro fm wZ
 refine zx (congrArg nA (nD.2 fm.out)) (kN (zH (ZD zy [3,1,3,3,1,3,3,3,1,3,3,1,3,1,3,3,1,3,3,1,3,3] fL22 (by kernel_rfl) ?_)))
 have bt:=dK.drew
 generalize hw_W1538:({ eg with drawn:=eg.drawn + 1 }:World)=iA at bt ⊢
 refine oR Z (zE Z br ZV Z zS) (oL Z (bt.ldB (j:=6) Z Z Z zY (v:=.slice au aq.length av) Z) (oM Z Z (bnK wZ fun _ bG w5=>?_)))
 obtain ⟨Am,bz⟩:=bt.rowSome (j:=4) rfl (by rw [wAI (f:=KL.encI) (sz:=1) (fun _=>rfl) aq];have hz:=wAN bG;omega)
 refine oR Z (ZC Z Z bz Z zC zB (wBo bG) (wBp bG)) ?_
 have wB:=wBK (xs:=aq) (wAN bG)
 refine ZI rfl rfl rfl rfl (bt.ldR (j:=4) rfl bz rfl rfl zF (wAT (sz:=1) (fun _=>rfl) _ _ 0 _ wB (by first | omega | rfl | simp) rfl)) rfl (zk rfl rfl rfl rfl (fun _=>zX rfl rfl rfl) (zz rfl rfl rfl rfl rfl rfl (ifc w5 ?_ ?_)))
 intro aY w6
 refine rU Z (wT Z aY) (zE Z br ZV Z zS) (ZI Z Z Z (wT Z aY) (bt.ldB (j:=6) Z Z Z zY (v:=.slice au aq.length av) Z) Z (zz Z Z Z (wT Z aY) Z Z (rU Z (wT Z aY) (ZC Z Z bz Z zC zB (wBo bG) (wBp bG)) ?_)))
 have wC:=wBK (xs:=aq) (wAN bG)
 refine ZI rfl rfl rfl (zO rfl rfl (Zl aY.out)) (bt.ldR (j:=4) rfl bz rfl rfl zF (wAT (sz:=1) (fun _=>rfl) _ _ 0 _ wC (by first | omega | rfl | simp) rfl)) rfl (zk rfl rfl rfl (zO rfl rfl (Zl aY.out)) (fun _=>zE rfl rfl yY rfl zB) (ZI rfl rfl rfl (zO rfl rfl (Zl aY.out)) (bt.ldB (j:=0) rfl rfl rfl zF (v:=jV ap.count) rfl) rfl (zk rfl rfl rfl (zO rfl rfl (Zl aY.out)) (fun _=>zZ rfl rfl rfl) (zk rfl rfl rfl (zO rfl rfl (Zl aY.out)) (fun _=>zE rfl br ZV rfl zS) (ZI rfl rfl rfl (zO rfl rfl (Zl aY.out)) (bt.ldB (j:=6) rfl rfl rfl zY (v:=.slice au aq.length av) rfl) rfl (zz rfl rfl rfl (zO rfl rfl (Zl aY.out)) rfl rfl (bnK w6 fun _ bL w7=>zk rfl rfl rfl (zO rfl rfl (Zl aY.out)) (fun _=>ZC rfl rfl bz rfl zC zB (wBo bL) (wBp bL)) ?_)))))))
 have wD:=wBK (xs:=aq) (wAN bL)
 refine ZI rfl rfl rfl (zO rfl rfl (Zl aY.out)) (bt.ldR (j:=4) rfl bz rfl rfl zF (wAT (sz:=1) (fun _=>rfl) _ _ 0 _ wD (by first | omega | rfl | simp) rfl)) rfl (zk rfl rfl rfl (zO rfl rfl (Zl aY.out)) (fun _=>zX rfl rfl rfl) (zk rfl rfl rfl rfl (fun _=>zl rfl (Zl aY.out) rfl) (eN (ifc w7 ?_ ?_))))
 intro ft w8
 refine cT Z ft ?_
 have q:=bnd w8
 obtain ⟨⟨⟩,xi,mo⟩:=q
 try dsimp only at mo
 let bo:Res:=.row au av 3 1 (hH KL.encI (nB aq ap.to_.toNat (w64 ((gd aq ap.from_.toNat) + ap.count))))
 let dp:Res:=.blk b8 133 [.slice au ((nB aq ap.to_.toNat (w64 ((gd aq ap.from_.toNat) + ap.count))).length) av,.slice az ((nB aZ ap.to_.toNat (↑bd:Int)).length) aV]
 let bW:Res:=.row az aV 3 1 (hH KL.encI (nB aZ ap.to_.toNat (↑bd:Int)))
 refine yU (fun σ_ w_=>∃ (U_:PHeap),σ_ 0=.pointer (some ⟨aj,0,none⟩)/\σ_ 2=.bool p2/\σ_ 6=.pointer (some ⟨b4,0,none⟩)/\σ_ 9=.pointer (some ⟨b8,0,none⟩)/\σ_ 15=jV ap.to_/\σ_ 54=jV (w64 ((↑(p0.number.length):Int) + 1))/\σ_ 55=jV (↑bB:Int)/\σ_ 60=.slice bu p0.edges.length bv/\σ_ 61=jV (↑p0.edges.length:Int)/\σ_ 62=jV (↑bd:Int)/\PHeap.Le ba U_/\SW w [B1,.obj aa (.map ae ah)] U U_ [.blk bf 184 a0,.blk b4 133 B0,B1,.obj aa (.map ae ah),bo,bW,dp] w_) ?_ ?_
 refine yp fun bq bk=>?_
 have jE:bq 0=.pointer (some ⟨aj,0,none⟩):=(bk 0).trans cP
 have jG:bq 2=.bool p2:=(bk 2).trans cg
 have jH:bq 6=.pointer (some ⟨b4,0,none⟩):=(bk 6).trans cQ
 have dI:bq 9=.pointer (some ⟨b8,0,none⟩):=(bk 9).trans br
 have pH:bq 12=jV (↑bd:Int):=(bk 12).trans rfl
 have pI:bq 13=.pointer (some ⟨bf,0,none⟩):=(bk 13).trans rfl
 have pJ:bq 14=jV ap.from_:=(bk 14).trans rfl
 have eM:bq 15=jV ap.to_:=(bk 15).trans rfl
 have jJ:bq 54=jV (w64 ((↑(p0.number.length):Int) + 1)):=(bk 54).trans cR
 have jK:bq 55=jV (↑bB:Int):=(bk 55).trans cS
 have jL:bq 60=.slice bu p0.edges.length bv:=(bk 60).trans cj
 have jM:bq 61=jV (↑p0.edges.length:Int):=(bk 61).trans cm
 have jN:bq 62=jV (↑bd:Int):=(bk 62).trans bJ
 clear bk
 refine bnK xi fun _ bH mp=>ZD zy [3,1,3,3,2,3,3,1,3,3,1,3,1,3,3,3,0,3,0] (wEZ (wRR gCw)) (by kernel_rfl) ?_
 have bO:=bt.drew
 generalize hw_W1587:({ iA with drawn:=iA.drawn + 1 }:World)=y8 at bO ⊢
 refine oR Z (zE Z dI ZV Z zS) (oL Z (bO.ldB (j:=6) Z Z Z zY (v:=.slice au aq.length av) Z) (oM Z eM (oR Z (zE Z dI ZV Z zS) (oM Z eM (oR Z (zE Z dI ZV Z zS) (oL Z (bO.ldB (j:=6) Z Z Z zY (v:=.slice au aq.length av) Z) (oM Z pJ (oR Z (ZC Z Z bz Z zC zB (wBo bG) (wBp bG)) ?_))))))))
 have wE:=wBK (xs:=aq) (wAN bG)
 refine ZI rfl rfl rfl rfl (bO.ldR (j:=4) rfl bz rfl rfl zF (wAT (sz:=1) (fun _=>rfl) _ _ 0 _ wE (by first | omega | rfl | simp) rfl)) rfl (zk rfl rfl rfl rfl (fun _=>zE rfl pI yY rfl zB) (ZI rfl rfl rfl rfl (bO.ldB (j:=0) rfl rfl rfl zF (v:=jV ap.count) rfl) rfl (zk rfl rfl rfl rfl (fun _=>zZ rfl rfl rfl) (zz rfl rfl rfl rfl rfl pH (zk rfl rfl rfl rfl (fun _=>ZC rfl rfl bz rfl zC zB (wBo bL) (wBp bL)) (zw ?_ ?_))))))
 refine Zb Z Z Z Z (bO.ldB (j:=6) Z Z Z zY (v:=.slice az aZ.length aV) Z) ?_
 have wG:=wBK (xs:=aq) (wAN bL)
 refine ye (j:=4) (vs:=[jV (w64 ((gd aq ap.from_.toNat) + ap.count))]) (cs':=hH KL.encI (nB aq ap.to_.toNat (w64 ((gd aq ap.from_.toNat) + ap.count)))) rfl rfl rfl rfl bO rfl bz rfl rfl rfl zB (by rw [wAI (f:=KL.encI) (sz:=1) (fun _=>rfl)];have hz:=wAN bL;show _ + 1 <= _;first | omega | (simp only [nI];omega) | (simp only [nH,nE,nG];omega)) rfl (wCv (sz:=1) (fo:=0) (fun _=>rfl) _ _ _ _ wG (by first | omega | (simp only [nI];omega) | (simp only [nH,nE,nG];omega)) (zA rfl) rfl) rfl ?_
 intro iB vi
 have vj:SW w [B1,.obj aa (.map ae ah)] U ba [.blk bf 184 a0,.blk b4 133 B0,B1,.obj aa (.map ae ah),bo,bm,bI] iB:=vi
 let d9:Res:=.blk b8 133 [.slice au ((nB aq ap.to_.toNat (w64 ((gd aq ap.from_.toNat) + ap.count))).length) av,.slice az aZ.length aV]
 have l8:SW w [B1,.obj aa (.map ae ah)] U ba [.blk bf 184 a0,.blk b4 133 B0,B1,.obj aa (.map ae ah),bo,bm,d9] iB:=by simpa only [B0,B1,a0,bm,bI,bo,d9,nK] using vj
 obtain ⟨An,lU⟩:=l8.rowSome (j:=5) rfl (by rw [wAI (f:=KL.encI) (sz:=1) (fun _=>rfl) aZ];have hz:=wAN bH;omega)
 refine oR Z (ZC Z Z lU Z zC zB (wBo bH) (wBp bH)) ?_
 have wH:=wBK (xs:=aZ) (wAN bH)
 refine ye (j:=5) (vs:=[jV (↑bd:Int)]) (cs':=hH KL.encI (nB aZ ap.to_.toNat (↑bd:Int))) rfl rfl rfl rfl l8 rfl lU rfl rfl rfl zB (by rw [wAI (f:=KL.encI) (sz:=1) (fun _=>rfl)];have hz:=wAN bH;show _ + 1 <= _;first | omega | (simp only [nI];omega) | (simp only [nH,nE,nG];omega)) rfl (wCv (sz:=1) (fo:=0) (fun _=>rfl) _ _ _ _ wH (by first | omega | (simp only [nI];omega) | (simp only [nH,nE,nG];omega)) (zA rfl) rfl) rfl ?_
 intro iC vk
 have vl:SW w [B1,.obj aa (.map ae ah)] U ba [.blk bf 184 a0,.blk b4 133 B0,B1,.obj aa (.map ae ah),bo,bW,d9] iC:=vk
 have vm:SW w [B1,.obj aa (.map ae ah)] U ba [.blk bf 184 a0,.blk b4 133 B0,B1,.obj aa (.map ae ah),bo,bW,dp] iC:=by simpa only [B0,B1,a0,bo,dp,bW,d9,nK] using vl
 refine zh ?_
 cases mp
 exact zG ⟨Z,⟨ba,jE,jG,jH,dI,eM,jJ,jK,jL,jM,jN,(zM _),vm⟩⟩
 have wI:=wBK (xs:=aq) (wAN bL)
 refine ye (j:=4) (vs:=[jV (w64 ((gd aq ap.from_.toNat) + ap.count))]) (cs':=hH KL.encI (nB aq ap.to_.toNat (w64 ((gd aq ap.from_.toNat) + ap.count)))) rfl rfl rfl rfl bO rfl bz rfl rfl rfl zB (by rw [wAI (f:=KL.encI) (sz:=1) (fun _=>rfl)];have hz:=wAN bL;show _ + 1 <= _;first | omega | (simp only [nI];omega) | (simp only [nH,nE,nG];omega)) rfl (wCv (sz:=1) (fo:=0) (fun _=>rfl) _ _ _ _ wI (by first | omega | (simp only [nI];omega) | (simp only [nH,nE,nG];omega)) (zA rfl) rfl) rfl ?_
 intro iD vn
 have vo:SW w [B1,.obj aa (.map ae ah)] U ba [.blk bf 184 a0,.blk b4 133 B0,B1,.obj aa (.map ae ah),bo,bm,bI] iD:=vn
 let ef:Res:=.blk b8 133 [.slice au ((nB aq ap.to_.toNat (w64 ((gd aq ap.from_.toNat) + ap.count))).length) av,.slice az aZ.length aV]
 have fQ:SW w [B1,.obj aa (.map ae ah)] U ba [.blk bf 184 a0,.blk b4 133 B0,B1,.obj aa (.map ae ah),bo,bm,ef] iD:=by simpa only [B0,B1,a0,bm,bI,bo,ef,nK] using vo
 refine Zb Z Z Z Z (fQ.ldB (j:=6) Z Z Z zY (v:=.slice az aZ.length aV) Z) ?_
 obtain ⟨Ao,lV⟩:=fQ.rowSome (j:=5) rfl (by rw [wAI (f:=KL.encI) (sz:=1) (fun _=>rfl) aZ];have hz:=wAN bH;omega)
 refine oR Z (ZC Z Z lV Z zC zB (wBo bH) (wBp bH)) ?_
 have wJ:=wBK (xs:=aZ) (wAN bH)
 refine ye (j:=5) (vs:=[jV (↑bd:Int)]) (cs':=hH KL.encI (nB aZ ap.to_.toNat (↑bd:Int))) rfl rfl rfl rfl fQ rfl lV rfl rfl rfl zB (by rw [wAI (f:=KL.encI) (sz:=1) (fun _=>rfl)];have hz:=wAN bH;show _ + 1 <= _;first | omega | (simp only [nI];omega) | (simp only [nH,nE,nG];omega)) rfl (wCv (sz:=1) (fo:=0) (fun _=>rfl) _ _ _ _ wJ (by first | omega | (simp only [nI];omega) | (simp only [nH,nE,nG];omega)) (zA rfl) rfl) rfl ?_
 intro iE vp
 have vq:SW w [B1,.obj aa (.map ae ah)] U ba [.blk bf 184 a0,.blk b4 133 B0,B1,.obj aa (.map ae ah),bo,bW,ef] iE:=vp
 have vr:SW w [B1,.obj aa (.map ae ah)] U ba [.blk bf 184 a0,.blk b4 133 B0,B1,.obj aa (.map ae ah),bo,bW,dp] iE:=by simpa only [B0,B1,a0,bo,dp,bW,ef,nK] using vq
 refine zh ?_
 cases mp
 exact zG ⟨Z,⟨ba,jE,jG,jH,dI,eM,jJ,jK,jL,jM,jN,(zM _),vr⟩⟩
 rintro Br y9 ⟨m9,pK,pL,pM,pN,pO,pP,pQ,pR,pS,pT,xt,vt⟩
 refine rR fL2 Z (oM Z pO (oA Z Z (zh (zq ?_))))
 cases mo
 exact zG ⟨rfl,⟨m9,pK,pL,pM,pN,rfl,pP,pQ,pR,pS,pT,xt,(vt.pick [1,2,3,4,5,6] _ (by decide) rfl),(nK.trans cU),(nK.trans cV)⟩⟩
 intro ft w9
 refine cF Z ft (Zh (zq ?_))
 cases w9
 exact zG ⟨rfl,⟨ba,cP,cg,cQ,br,eK,cR,cS,cj,cm,bJ,(zM _),(bt.pick [1,2,3,4,5,6] _ (by decide) rfl),cU,cV⟩⟩
 intro aY xa
 refine oF Z aY (oF Z aY (oF Z aY (oF Z aY (oF Z aY (oF Z aY (oF Z aY (oF Z aY (oF Z aY (oF Z aY (oF Z aY (oF Z aY (oF Z aY (oF Z aY (oR Z (zt Z (Ze aY.out) Z) (eN (zx Z (Zh (zq ?_))))))))))))))))))
 cases xa
 exact zG ⟨rfl,⟨ba,cP,cg,cQ,br,eK,cR,cS,cj,cm,bJ,(zM _),(bt.pick [1,2,3,4,5,6] _ (by decide) rfl),cU,cV⟩⟩
 rintro Bs z4 ⟨n5,pU,pV,pW,pX,pY,pZ,p6,p7,p8,p9,xu,vu,tH,tI⟩
 refine rR fL2 Z (oR Z (ZP (zZ Z p9 Z) (congrArg (jV) wL.out)) (oM Z Z (zh ?_)))
 cases mj
 exact zG ⟨Z,⟨n5,Z,pU,pV,pW,pX,pY,pZ,p6,p7,p8,(mQ.trans xu),vu,tH,tI⟩⟩
 rintro Bt z5 ⟨fc,tl,qa,qb,fE,jO,jP,qc,qd,Ar,qe,xw,fR,tJ,tK⟩
 have o0:Hid (¬ ((↑(((↑p0.edges.length:Int):Int) - 0).toNat:Int) < (↑p0.edges.length:Int))):=zI (wAj)
 refine sR fL1 Z (oR Z (zX Z tl qe) (eN (zH (cF Z o0 (ZT (zf (zf (ZK (zG (sR fL2 Z (oM Z jP (oR Z (zX Z Z Z) (eN (ifc mi ?_ ?_))))))))))))))
 intro fu xb
 refine cT Z fu (sR gCq Z ?_)
 let cA:List Value:=[.slice au mZ.length av,.slice az m4.length aV]
 refine oL Z (fR.ldBA (j:=5) Z Z jO Tryz.isAgg133 yA (vs:=cA) Z Z) (zm (j:=0) (vs:=cA) Z Z Z Z fR Z fE Z Z yA (zA Z) Z Z Z ?_)
 intro ot vv
 have ma:SW w [B1,.obj aa (.map ae ah)] U fc [.blk b4 133 cA,B1,.obj aa (.map ae ah),.row au av 3 1 (hH KL.encI mZ),.row az aV 3 1 (hH KL.encI m4),.blk b8 133 cA] ot:=vv
 refine oA Z Z (oA Z Z (eN (zP (zg (zN ?_)))))
 have q:=wAZ xb
 obtain ⟨xJ,xc,o5⟩:=q
 obtain rfl:=wCA ge fT (wh xJ o5)
 refine zN (zg (zN ?_))
 cases xc
 exact ⟨rfl,_,(wFq (rs:=[.cell 6 133,.tmp 7,.tmp 8]) (vs:=[.agg cA.toArray,jV 0,.bool true]) ⟨⟨_,fE,(wBt Tryz.isAgg133 yA (ma.blkAt (k:=0) rfl) (vs:=cA) rfl rfl)⟩,⟨rfl,⟨rfl,trivial⟩⟩⟩ rfl),fc,_,(ma.pick [3,4,1,2] _ (by decide) rfl),au,av,az,aV,rfl,rfl⟩
 intro fu xd
 refine cF Z fu (Zh (zq (zG (rR fL2 Z (oR Z (ZP (zZ Z qd Z) (congrArg (jV) wK.out)) (oM Z Z (zh ?_)))))))
 obtain rfl:=nJ xd
 exact zG ⟨Z,_,Z,⟨fc,Z,qa,qb,fE,jO,jP,qc,(mP.trans xw),fR,tJ,tK⟩⟩
 rintro ⟨m5,m6,xL⟩ Bu z6 ⟨gZ,tm,As,Au,jQ,qf,qh,qi,A3,mb,AQ,AS⟩ wi
 have mr:=wCu ge fT wi
 try dsimp only at mr
 have o3:Hid (¬ ((↑((w64 ((↑(p0.number.length):Int) + 1):Int) - 0).toNat:Int) < (w64 ((↑(p0.number.length):Int) + 1)))):=zI (wAj)
 refine sR fL1 Z (oR Z (zX Z tm qi) (eN (zH (cF Z o3 (ZT (zf (zf (ZK (zG (sR (.fl 0 (.fl 1 (.fx 2 (.fl 3 (.fl 4 .nil)) .stop))) Z ?_))))))))))
 let cC:List Value:=[.slice au m5.length av,.slice az m6.length aV]
 refine oL Z (mb.ldBA (j:=5) Z Z qf Tryz.isAgg133 yA (vs:=cC) Z Z) (oM Z qh (zm (j:=0) (vs:=cC) Z Z Z Z mb Z jQ Z Z yA (zA Z) Z Z Z ?_))
 intro ou vw
 have mc:SW w [B1,.obj aa (.map ae ah)] U gZ [.blk b4 133 cC,B1,.obj aa (.map ae ah),.row au av 3 1 (hH KL.encI m5),.row az aV 3 1 (hH KL.encI m6),.blk b8 133 cC] ou:=vw
 refine oA Z Z (oA Z Z (eN (zP ?_)))
 cases mr
 exact ⟨rfl,_,(wFq (rs:=[.cell 6 133,.tmp 7,.tmp 8]) (vs:=[.agg cC.toArray,jV xL,.bool false]) ⟨⟨_,jQ,(wBt Tryz.isAgg133 yA (mc.blkAt (k:=0) rfl) (vs:=cC) rfl rfl)⟩,⟨rfl,⟨rfl,trivial⟩⟩⟩ rfl),gZ,_,(mc.pick [3,4,1,2] _ (by decide) rfl),au,av,az,aV,rfl,rfl⟩
end Go.Proofs.YtlnfbjphfoipaaaGreat
namespace Go.Proofs.YtlnfbjphfoipaaaGreat
open Go.KL
set_option maxHeartbeats 4000000
theorem wGu (p0:wAf) (aq:Nat) (ai:Option Addr) (au:Nat) (aj:Option Addr) (av:Nat) (ak:Option Addr) (az:Nat) (am:Option Addr) (aV:Nat) (ab:Nat) (ae:Array MapEntry) (ah:Nat) (ap:Option Addr) (aW:Nat) (w:World) (U:PHeap) (hS:St0 w U [.blk aq 139 [.slice ai p0.Race.Starts.length au,.slice aj p0.Race.Splits.length av,.slice ak p0.Race.Clocks.length az,.slice am p0.Race.Readings.length aV,.map (some ab),.slice ap p0.edges.length aW],.obj ab (.map ae ah)]) (bs:Sl U 1 ai au p0.Race.Starts.length (hH KL.encI p0.Race.Starts)) (bt:Sl U 2 aj av p0.Race.Splits.length (hH wAB p0.Race.Splits)) (bu:Sl U 3 ak az p0.Race.Clocks.length (hH wAD p0.Race.Clocks)) (bv:Sl U 4 am aV p0.Race.Readings.length (hH wAC p0.Race.Readings)) (bw:MpR ae wBW wBb p0.number) (bz:Sl U 7 ap aW p0.edges.length (hH wAa p0.edges)) {r:Bool} (hm:wCY p0=some r):Gv Tryz.prog 81 [.pointer (some ⟨aq,0,none⟩)] w (wCp w [.blk aq 139 [.slice ai p0.Race.Starts.length au,.slice aj p0.Race.Splits.length av,.slice ak p0.Race.Clocks.length az,.slice am p0.Race.Readings.length aV,.map (some ab),.slice ap p0.edges.length aW],.obj ab (.map ae ah)] U (fun U_ L_ v=>v=.bool r/\L_=[.blk aq 139 [.slice ai p0.Race.Starts.length au,.slice aj p0.Race.Splits.length av,.slice ak p0.Race.Clocks.length az,.slice am p0.Race.Readings.length aV,.map (some ab),.slice ap p0.edges.length aW],.obj ab (.map ae ah)])):=by
 unfold wCY at hm
 refine Gv.of Tryz.func81 Z Tryz.ntmps81 Tryz.results81 Z (sR fL1 Z (oA Z Z (eN (sR (.fl 0 (.fx 1 (fC2_5 (.fx 6 gCm .stop)) .stop)) Z (oM Z Z ?_)))))
 have q:=bnd hm
 obtain ⟨⟨x3,x4,x5⟩,h6,bh⟩:=q
 try dsimp only at bh
 refine zK 2 Z Z Z Z (zL Z Z Tryz.call74 (zD Z (zD Z (zD Z zQ))) Z) hS (fun hs=>wCR p0 aq ai au aj av ak az am aV ab ae ah ap aW (-1) false w U hs bs bt bu bv bw bz h6) (.inl Z) ?_
 rintro U8 L9 bF bi bE bn ⟨aZ,bb,a0,bd,rfl,rfl⟩
 let B0:Res:=.blk aq 139 [.slice ai p0.Race.Starts.length au,.slice aj p0.Race.Splits.length av,.slice ak p0.Race.Clocks.length az,.slice am p0.Race.Readings.length aV,.map (some ab),.slice ap p0.edges.length aW]
 let B1:Res:=.row aZ bb 3 1 (hH KL.encI x3.far)
 let B2:Res:=.row a0 bd 3 1 (hH KL.encI x3.by_)
 have bo:SW w [B0,.obj ab (.map ae ah)] U U8 [B1,B2,B0,.obj ab (.map ae ah)] bi:=bn
 refine oM Z Z (oR Z (zu Z Z (v:=.agg #[.slice aZ x3.far.length bb,.slice a0 x3.by_.length bd]) Z) (oR Z (zu Z Z (v:=jV x4) Z) (oR Z (zu Z Z (v:=.bool x5) Z) (ze (cs:=[.slice none 0 0,.slice none 0 0]) Z Z Z Z Z Zm Z bo ?_))))
 intro bD bk bp
 let B3:List Value:=[.slice aZ x3.far.length bb,.slice a0 x3.by_.length bd]
 refine zm (j:=0) (vs:=B3) Z Z Z Z bp Z Z Z Z yA (zA Z) Z Z Z ?_
 intro bj bq
 have br:SW w [B0,.obj ab (.map ae ah)] U U8 [.blk bk 133 B3,B1,B2,B0,.obj ab (.map ae ah)] bj:=bq
 refine oA Z Z (oA Z Z (eN (sR fL2 Z (oM Z Z (oA Z Z (eN (zP ?_)))))))
 have hE:=nJ bh;first | subst r | cases hE
 exact ⟨rfl,_,(ZH rfl),U8,_,(br.pick [3,4] _ (by decide) rfl),rfl,rfl⟩
theorem wHJ (p0:wAA) (au:Option Addr) (aW:Nat) (av:Option Addr) (aX:Nat) (az:Option Addr) (aY:Nat) (aV:Option Addr) (aZ:Nat) (p1:List wAM) (bj:Option Addr) (bk:Nat) (w:World) (U:PHeap) (hS:St0 w U []) (bG:Sl U 1 au aW p0.Starts.length (hH KL.encI p0.Starts)) (bH:Sl U 2 av aX p0.Splits.length (hH wAB p0.Splits)) (bI:Sl U 3 az aY p0.Clocks.length (hH wAD p0.Clocks)) (bJ:Sl U 4 aV aZ p0.Readings.length (hH wAC p0.Readings)) (b5:Sl U 2 bj bk p1.length (hH wCm p1)) {r:(Option wAf) × Int} (hm:wDV p0 p1=some r):Gv Tryz.prog 63 [.agg #[.slice au p0.Starts.length aW,.slice av p0.Splits.length aX,.slice az p0.Clocks.length aY,.slice aV p0.Readings.length aZ],.slice bj p1.length bk] w (wCp w [] U (fun U_ L_ v=>match r.1 with | none=>v=.tuple #[.pointer none,jV r.2]/\L_=[] | some d=>∃ (b0:Nat) (A0p00:Option Addr) (c0p00:Nat) (A0p01:Option Addr) (c0p01:Nat) (A0p02:Option Addr) (c0p02:Nat) (A0p03:Option Addr) (c0p03:Nat) (m0p1:Nat) (es0p1:Array MapEntry) (ck0p1:Nat) (A0p2:Option Addr) (c0p2:Nat),v=.tuple #[.pointer (some ⟨b0,0,none⟩),jV r.2]/\L_=[.blk b0 139 [.slice A0p00 d.Race.Starts.length c0p00,.slice A0p01 d.Race.Splits.length c0p01,.slice A0p02 d.Race.Clocks.length c0p02,.slice A0p03 d.Race.Readings.length c0p03,.map (some m0p1),.slice A0p2 d.edges.length c0p2],.obj m0p1 (.map es0p1 ck0p1)]/\Sl U_ 1 A0p00 c0p00 d.Race.Starts.length (hH KL.encI d.Race.Starts)/\Sl U_ 2 A0p01 c0p01 d.Race.Splits.length (hH wAB d.Race.Splits)/\Sl U_ 3 A0p02 c0p02 d.Race.Clocks.length (hH wAD d.Race.Clocks)/\Sl U_ 4 A0p03 c0p03 d.Race.Readings.length (hH wAC d.Race.Readings)/\MpR es0p1 wBW wBb d.number/\Sl U_ 7 A0p2 c0p2 d.edges.length (hH wAa d.edges))):=by
 unfold wDV at hm
 refine Gv.of Tryz.func63 Z Tryz.ntmps63 Tryz.results63 Z (sR gCl Z ?_)
 let B0:List Value:=[.slice au p0.Starts.length aW,.slice av p0.Splits.length aX,.slice az p0.Clocks.length aY,.slice aV p0.Readings.length aZ]
 refine ZE (cs:=B0) rfl rfl rfl rfl rfl rfl (by rfl) hS ?_
 intro W1 b2 bY
 refine oA Z Z (oA Z Z (eN (sR (.fl 0 (.fx 1 (fC2_6 (.nil)) .stop)) Z (oL Z (bY.ldBA (j:=0) Z Z Z ZB zo (vs:=B0) Z Z) ?_))))
 have q:=bnd hm
 obtain ⟨⟨x5,x6⟩,h7,a0⟩:=q
 try dsimp only at a0
 refine zK 0 Z Z Z Z (zL Z Z Tryz.call80 (zD Z zQ) Z) bY (fun hs=>wKX p0 au aW av aX az aY aV aZ W1 U hs bG bH bI bJ h7) (.inr Z) ?_
 rintro U9 dw dC be ae bX bV
 rcases x5 with _ | ah
 try dsimp only at a0
 obtain ⟨rfl,rfl⟩:=bV
 have bE:sW w U U9 [.blk b2 27 B0] be:=bX
 refine oM Z Z (oR Z (zu Z Z (v:=.pointer none) Z) (oR Z (zu Z Z (v:=jV x6) Z) (oA Z Z (oA Z Z (eN (zH (zW (sR fL3 Z (oM Z Z (oR Z (Zo Z Z Z) (oA Z Z (eN (ifc a0 ?_ ?_)))))))))))))
 intro bA dh
 refine zx (Ze (fun h=>h bA.out)) (sR (wEG gCp) Z (oM Z Z (oL Z (bE.ldBA (j:=0) Z Z Z ZB zo (vs:=B0) Z Z) (oR Z (Runs.mkf Z (zD Z zQ) zQ) ?_))))
 have ct:=b5.le ae
 have cu:=bG.le ae
 have cw:=bH.le ae
 have cx:=bI.le ae
 have cy:=bJ.le ae
 have cS:FnOK Tryz.prog U9 (.func (.func 99) #[.agg B0.toArray] #[]) wSW wSX (fun x=>wAs p0 x):=⟨99,[.agg B0.toArray],[],rfl,Tryz.call99,fun U1 w1 x y vs le hs ha hm=>by obtain rfl:=ha;exact wEE p0 au aW av aX az aY aV aZ x w1 U1 hs (cu.le le) (cw.le le) (cx.le le) (cy.le le) hm⟩
 refine bnK dh fun x40 cz dk=>zK 0 Z Z Z Z (zL Z Z Tryz.call119 (zD Z (zD Z zQ)) Z) bE (fun hs=>wDg p1 bj bk (fun x=>wAs p0 x) (.func (.func 99) #[.agg B0.toArray] #[]) be U9 hs ct cS cz) (.inr Z) ?_
 rintro bM dy dD cj dA cW ⟨rfl,rfl⟩
 have cX:sW w U bM [.blk b2 27 B0] cj:=cW
 refine oR Z (Zf Z Z) (oA Z Z (eN (ifc dk ?_ ?_)))
 intro bB dl
 refine zx (nC bB.out) (sR gCq Z (oM Z Z ?_))
 cases dl
 intro bB dm
 refine ZG (nF (bB.out)) (sR fL2 Z (oA Z Z (oA Z Z (eN (zP (zg (zN ?_)))))))
 cases dm
 exact ⟨rfl,_,(wFJ rfl rfl),bM,_,(cX.pick [] _ (by decide) rfl),rfl,rfl⟩
 intro bA dp
 refine cT Z bA (sR fL3 Z (oM Z Z (oA Z Z (oA Z Z (eN (zP (zg (zN ?_))))))))
 cases dp
 exact ⟨rfl,_,(wFJ rfl rfl),U9,_,(bE.pick [] _ (by decide) rfl),rfl,rfl⟩
 try dsimp only at a0
 obtain ⟨bf,bm,bu,bn,bv,bo,bw,bp,bz,aj,ap,am,bb,bg,rfl,rfl,cA,cC,cD,cE,bQ⟩:=bV
 let B1:Res:=.blk bf 139 [.slice bm ah.Race.Starts.length bu,.slice bn ah.Race.Splits.length bv,.slice bo ah.Race.Clocks.length bw,.slice bp ah.Race.Readings.length bz,.map (some aj),.slice bb ah.edges.length bg]
 let B2:Res:=.row bb bg 184 7 (hH wAa ah.edges)
 have bF:sW w U U9 [B1,.obj aj (.map ap am),B2,.blk b2 27 B0] be:=bX
 refine oM Z Z (oR Z (zu Z Z (v:=.pointer (some ⟨bf,0,none⟩)) Z) (oR Z (zu Z Z (v:=jV x6) Z) (oA Z Z (oA Z Z (eN (zH (zW (sR fL3 Z (oM Z Z (oR Z (Zo Z Z Z) (oA Z Z (eN (ifc a0 ?_ ?_)))))))))))))
 intro bC dq
 refine zx (Ze (fun h=>h bC.out)) (sR (wEG gCp) Z (oM Z Z (oL Z (bF.ldBA (j:=3) Z Z Z ZB zo (vs:=B0) Z Z) (oR Z (Runs.mkf Z (zD Z zQ) zQ) ?_))))
 have cG:=b5.le ae
 have cH:=bG.le ae
 have cI:=bH.le ae
 have cJ:=bI.le ae
 have cK:=bJ.le ae
 have cU:FnOK Tryz.prog U9 (.func (.func 99) #[.agg B0.toArray] #[]) wSW wSX (fun x=>wAs p0 x):=⟨99,[.agg B0.toArray],[],rfl,Tryz.call99,fun U1 w1 x y vs le hs ha hm=>by obtain rfl:=ha;exact wEE p0 au aW av aX az aY aV aZ x w1 U1 hs (cH.le le) (cI.le le) (cJ.le le) (cK.le le) hm⟩
 refine bnK dq fun dF cM dr=>zK 0 Z Z Z Z (zL Z Z Tryz.call119 (zD Z (zD Z zQ)) Z) bF (fun hs=>wDg p1 bj bk (fun x=>wAs p0 x) (.func (.func 99) #[.agg B0.toArray] #[]) be U9 hs cG cU cM) (.inr Z) ?_
 rintro bN dz dE bs bh cY ⟨rfl,rfl⟩
 have bZ:sW w U bN [B1,.obj aj (.map ap am),B2,.blk b2 27 B0] bs:=cY
 refine oR Z (Zf Z Z) (oA Z Z (eN (ifc dr ?_ ?_)))
 intro bD dt
 refine zx (nC bD.out) (sR gCq Z (oM Z Z ?_))
 have q:=bZ.freezeR (k:=2) (n:=ah.edges.length) rfl (wAI (f:=wAa) (sz:=7) (fun _=>rfl) ah.edges) (by decide)
 obtain ⟨bO,bi,cb,cZ⟩:=q
 have da:sW w U bO [B1,.obj aj (.map ap am),.blk b2 27 B0] bs:=cZ
 have cN:=cA.le bh
 have bR:=cN.le bi
 have cO:=cC.le bh
 have bS:=cO.le bi
 have cP:=cD.le bh
 have bT:=cP.le bi
 have cQ:=cE.le bh
 have bU:=cQ.le bi
 refine bnK dt fun x96 cR du=>zK 2 Z Z Z Z (zL Z Z Tryz.call81 (zD Z zQ) Z) da (fun hs=>wGu ah bf bm bu bn bv bo bw bp bz aj ap am bb bg bs bO hs bR bS bT bU bQ cb cR) (.inl Z) ?_
 rintro br dx dB cg ba cV ⟨rfl,rfl⟩
 have bW:sW w U br [B1,.obj aj (.map ap am),.blk b2 27 B0] cg:=cV
 refine oR Z (Zf Z Z) (oA Z Z (eN (ifc du ?_ ?_)))
 intro bt db
 refine zx (nC bt.out) (Zh (zq (zG (sR fL3 Z (oM Z Z (oA Z Z (oA Z Z (eN (zP ?_)))))))))
 have cm:=bR.le ba
 have cn:=bS.le ba
 have cp:=bT.le ba
 have cq:=bU.le ba
 have cr:=cb.le ba
 cases db
 exact ⟨rfl,_,(wFJ rfl rfl),br,_,(bW.pick [0,1] _ (by decide) rfl),bf,bm,bu,bn,bv,bo,bw,bp,bz,aj,ap,am,bb,bg,rfl,rfl,cm,cn,cp,cq,bQ,cr⟩
 intro bt de
 refine ZG (nF (bt.out)) (sR fL2 Z (oA Z Z (oA Z Z (eN (zP (zg (zN ?_)))))))
 cases de
 exact ⟨rfl,_,(wFJ rfl rfl),br,_,(bW.pick [] _ (by decide) rfl),rfl,rfl⟩
 intro bD df
 refine ZG (nF (bD.out)) (sR fL2 Z (oA Z Z (oA Z Z (eN (zP (zg (zN ?_)))))))
 cases df
 exact ⟨rfl,_,(wFJ rfl rfl),bN,_,(bZ.pick [] _ (by decide) rfl),rfl,rfl⟩
 intro bC dg
 refine cT Z bC (sR fL3 Z (oM Z Z (oA Z Z (oA Z Z (eN (zP (zg (zN ?_))))))))
 cases dg
 exact ⟨rfl,_,(wFJ rfl rfl),U9,_,(bF.pick [] _ (by decide) rfl),rfl,rfl⟩
theorem wGX (p0:wAA) (am:Option Addr) (av:Nat) (ap:Option Addr) (az:Nat) (aq:Option Addr) (aV:Nat) (au:Option Addr) (aW:Nat) (p1:Int) (w:World) (U:PHeap) (hS:St0 w U []) (bP:Sl U 1 am av p0.Starts.length (hH KL.encI p0.Starts)) (bQ:Sl U 2 ap az p0.Splits.length (hH wAB p0.Splits)) (bR:Sl U 3 aq aV p0.Clocks.length (hH wAD p0.Clocks)) (bS:Sl U 4 au aW p0.Readings.length (hH wAC p0.Readings)) {r:(Option wAf) × Int} (hm:wDA p0 p1=some r):Gv Tryz.prog 108 [.agg #[.slice am p0.Starts.length av,.slice ap p0.Splits.length az,.slice aq p0.Clocks.length aV,.slice au p0.Readings.length aW],jV p1] w (wCp w [] U (fun U_ L_ v=>match r.1 with | none=>v=.tuple #[.pointer none,jV r.2]/\L_=[] | some d=>∃ (b0:Nat) (A0p00:Option Addr) (c0p00:Nat) (A0p01:Option Addr) (c0p01:Nat) (A0p02:Option Addr) (c0p02:Nat) (A0p03:Option Addr) (c0p03:Nat) (m0p1:Nat) (es0p1:Array MapEntry) (ck0p1:Nat) (A0p2:Option Addr) (c0p2:Nat),v=.tuple #[.pointer (some ⟨b0,0,none⟩),jV r.2]/\L_=[.blk b0 139 [.slice A0p00 d.Race.Starts.length c0p00,.slice A0p01 d.Race.Splits.length c0p01,.slice A0p02 d.Race.Clocks.length c0p02,.slice A0p03 d.Race.Readings.length c0p03,.map (some m0p1),.slice A0p2 d.edges.length c0p2],.obj m0p1 (.map es0p1 ck0p1)]/\Sl U_ 1 A0p00 c0p00 d.Race.Starts.length (hH KL.encI d.Race.Starts)/\Sl U_ 2 A0p01 c0p01 d.Race.Splits.length (hH wAB d.Race.Splits)/\Sl U_ 3 A0p02 c0p02 d.Race.Clocks.length (hH wAD d.Race.Clocks)/\Sl U_ 4 A0p03 c0p03 d.Race.Readings.length (hH wAC d.Race.Readings)/\MpR es0p1 wBW wBb d.number/\Sl U_ 7 A0p2 c0p2 d.edges.length (hH wAa d.edges))):=by
 unfold wDA at hm
 refine Gv.of Tryz.func108 Z Tryz.ntmps108 Tryz.results108 Z (sR gCl Z ?_)
 let B0:List Value:=[.slice am p0.Starts.length av,.slice ap p0.Splits.length az,.slice aq p0.Clocks.length aV,.slice au p0.Readings.length aW]
 refine ZE (cs:=B0) rfl rfl rfl rfl rfl rfl (by rfl) hS ?_
 intro W1 b2 bu
 refine oA Z Z (oA Z Z (eN (sR (wEG (.fx 3 (.fx 4 (wUy (.nil)) .stop) .stop)) Z (oL Z (bu.ldBA (j:=0) Z Z Z ZB zo (vs:=B0) Z Z) (oM Z Z ?_)))))
 let B1:List Value:=[jV 0,jV p1]
 refine oR Z (ZO (pv:=[(0,jV 0),(1,jV p1)]) (z:=[jV 0,jV 0]) (cs:=B1) Z (wAH Z (wAH Z wAY)) Tryz.zeroValue29 wMT Z Z) (ZW (pv:=[(0,.agg B1.toArray)]) (zs:=[jV 0,jV 0]) (cs:=B1) Z Z Z Z Z (wAH Z wAY) Tryz.runUnderlying56 yK Tryz.zeroValue29 Z Z Z Z Z bu ?_)
 intro W5 b6 bN
 have bO:sW w U U [.row (some ⟨b6,0,none⟩) 1 29 2 (hH wCm [(⟨0,p1⟩:wAM)]),.blk b2 27 B0] W5:=bN
 have q:=bO.freezeR (k:=0) (n:=[(⟨0,p1⟩:wAM)].length) rfl (wAI (f:=wCm) (sz:=2) (fun _=>rfl) [(⟨0,p1⟩:wAM)]) (by decide)
 obtain ⟨bg,ak,bT,bJ⟩:=q
 have bK:sW w U bg [.blk b2 27 B0] W5:=bJ
 have bw:=bP.le ak
 have bz:=bQ.le ak
 have bA:=bR.le ak
 have bB:=bS.le ak
 have q:=bnd hm
 obtain ⟨⟨bU,bv⟩,bC,ah⟩:=q
 try dsimp only at ah
 refine zK 0 Z Z Z Z (zL Z Z Tryz.call63 (zD Z (zD Z zQ)) Z) bK (fun hs=>wHJ p0 am av ap az aq aV au aW [(⟨0,p1⟩:wAM)] (some ⟨b6,0,none⟩) 1 W5 bg hs bw bz bA bB bT bC) (.inr Z) ?_
 rintro ai bV bY bh bX bt bs
 rcases bU with _ | x44
 try dsimp only at ah
 obtain ⟨rfl,rfl⟩:=bs
 have bL:sW w U ai [.blk b2 27 B0] bh:=bt
 refine oR Z (zu Z Z (v:=.pointer none) Z) (oR Z (zu Z Z (v:=jV bv) Z) (oA Z Z (oA Z Z (eN (zP ?_)))))
 cases ah
 exact ⟨rfl,_,(wFJ rfl rfl),ai,_,(bL.pick [] _ (by decide) rfl),rfl,rfl⟩
 try dsimp only at ah
 obtain ⟨aZ,ba,bk,bb,bm,bd,bn,be,bo,a0,br,bp,bf,bq,rfl,rfl,bD,bE,bF,bG,bH,bI⟩:=bs
 have bM:sW w U ai [.blk aZ 139 [.slice ba x44.Race.Starts.length bk,.slice bb x44.Race.Splits.length bm,.slice bd x44.Race.Clocks.length bn,.slice be x44.Race.Readings.length bo,.map (some a0),.slice bf x44.edges.length bq],.obj a0 (.map br bp),.blk b2 27 B0] bh:=bt
 refine oR Z (zu Z Z (v:=.pointer (some ⟨aZ,0,none⟩)) Z) (oR Z (zu Z Z (v:=jV bv) Z) (oA Z Z (oA Z Z (eN (zP ?_)))))
 cases ah
 exact ⟨rfl,_,(wFJ rfl rfl),ai,_,(bM.pick [0,1] _ (by decide) rfl),aZ,ba,bk,bb,bm,bd,bn,be,bo,a0,br,bp,bf,bq,rfl,rfl,bD,bE,bF,bG,bH,bI⟩
theorem wEH (p0:wAf) (aV:Nat) (az:Option Addr) (aW:Nat) (a0:Option Addr) (be:Nat) (ba:Option Addr) (bf:Nat) (bb:Option Addr) (bg:Nat) (ab:Nat) (ae:Array MapEntry) (ah:Nat) (bd:Option Addr) (bh:Nat) (p1:Int) (w:World) (U:PHeap) (hS:St0 w U [.blk aV 139 [.slice az p0.Race.Starts.length aW,.slice a0 p0.Race.Splits.length be,.slice ba p0.Race.Clocks.length bf,.slice bb p0.Race.Readings.length bg,.map (some ab),.slice bd p0.edges.length bh],.obj ab (.map ae ah)]) (dl:Sl U 1 az aW p0.Race.Starts.length (hH KL.encI p0.Race.Starts)) (dm:Sl U 2 a0 be p0.Race.Splits.length (hH wAB p0.Race.Splits)) (dp:Sl U 3 ba bf p0.Race.Clocks.length (hH wAD p0.Race.Clocks)) (dq:Sl U 4 bb bg p0.Race.Readings.length (hH wAC p0.Race.Readings)) (bC:MpR ae wBW wBb p0.number) (dr:Sl U 7 bd bh p0.edges.length (hH wAa p0.edges)) {r:(Arr Int 64)} (hm:wBa p0 p1=some r):Gv Tryz.prog 109 [.pointer (some ⟨aV,0,none⟩),jV p1] w (wCp w [.blk aV 139 [.slice az p0.Race.Starts.length aW,.slice a0 p0.Race.Splits.length be,.slice ba p0.Race.Clocks.length bf,.slice bb p0.Race.Readings.length bg,.map (some ab),.slice bd p0.edges.length bh],.obj ab (.map ae ah)] U (fun U_ L_ v=>v=.agg (hH KL.encI r.l).toArray/\L_=[.blk aV 139 [.slice az p0.Race.Starts.length aW,.slice a0 p0.Race.Splits.length be,.slice ba p0.Race.Clocks.length bf,.slice bb p0.Race.Readings.length bg,.map (some ab),.slice bd p0.edges.length bh],.obj ab (.map ae ah)])):=by
 unfold wBa at hm
 refine Gv.of Tryz.func109 Z Tryz.ntmps109 Tryz.results109 Z (sR (.fx 0 .nil .stop) Z (ze (cs:=hH KL.encI (Arr.fill 64 0).l) Z Z Z Z Z Tryz.zeroValue169 Z hS ?_))
 intro W3 b4 cZ
 let B0:Res:=.blk aV 139 [.slice az p0.Race.Starts.length aW,.slice a0 p0.Race.Splits.length be,.slice ba p0.Race.Clocks.length bf,.slice bb p0.Race.Readings.length bg,.map (some ab),.slice bd p0.edges.length bh]
 have dg:SW w [B0,.obj ab (.map ae ah)] U U [.blk b4 169 (hH KL.encI (Arr.fill 64 0).l),B0,.obj ab (.map ae ah)] W3:=cZ
 refine eN (sR (.fx 0 .nil .stop) Z (ze (cs:=hH KL.encI (Arr.fill 64 0).l) Z Z Z Z Z Tryz.zeroValue169 Z dg ?_))
 intro W8 b9 cU
 have bY:SW w [B0,.obj ab (.map ae ah)] U U [.blk b9 169 (hH KL.encI (Arr.fill 64 0).l),.blk b4 169 (hH KL.encI (Arr.fill 64 0).l),B0,.obj ab (.map ae ah)] W8:=cU
 refine eN (zH (sR fL7 Z (oM Z Z (oR Z (Zu Z Z) (oR Z (zE Z Z ZJ Z zo) (oR Z (zE Z Z zU Z zS) (oL Z (bY.ldB (j:=2) Z Z Z zY (v:=.slice az p0.Race.Starts.length aW) Z) (oR Z (zd Z Z zC) (oM Z Z (eN (zW (bnK hm fun aq dt dE=>?_))))))))))))
 have q:=wBc dt
 obtain ⟨bF,du⟩:=q
 replace bF:=zI bF
 refine CK.forN' (fun aj bi σ_ w_=>∃ (U_:PHeap),σ_ 17=jV (↑aj:Int)/\σ_ 0=.pointer (some ⟨aV,0,none⟩)/\σ_ 1=jV p1/\σ_ 4=.pointer (some ⟨b4,0,none⟩)/\σ_ 5=.pointer (some ⟨b9,0,none⟩)/\σ_ 16=jV (↑p0.Race.Starts.length:Int)/\PHeap.Le U U_/\SW w [B0,.obj ab (.map ae ah)] U U_ [.blk b9 169 (hH KL.encI bi.l),.blk b4 169 (hH KL.encI (Arr.fill 64 0).l),B0,.obj ab (.map ae ah)] w_) du ?_ ?_ ?_
 exact ⟨U,Z,Z,Z,Z,Z,Z,(zM _),bY⟩
 rintro aj bi dY d7 bK bD ⟨bI,bz,br,bR,cI,cJ,bS,aZ,bB⟩ dG
 have bN:Hid ((↑aj:Int) < (↑p0.Race.Starts.length:Int)):=zI (wBJ bD)
 replace bD:=zI bD
 have dA:Hid (w64 ((↑aj:Int) + 1)=(↑(aj + 1):Int)):=zI (by have h1:=bF.out;have h2:=bN.out;rw [wAX] <;> omega)
 refine sR fL1 Z (oR Z (zX Z bz bS) (eN (zH (cT Z bN (kN (zH (zW (sR fL2 Z (oM Z bz (oA Z Z (eN (sR (fC0_8 (.fx 9 (wSw (.fx 14 (.fx 15 (.fl 16 (.fl 17 .nil)) .stop) .stop)) .stop)) Z (oM Z br (oM Z br (oR Z (Zu Z Z) (oR Z (zE Z Z ZJ Z Zz) (oL Z (bB.ldB (j:=2) Z Z Z yC (v:=.map (some ab)) Z) (oM Z Z (oM Z bR (oR Z (ZO (pv:=[(0,jV (↑aj:Int)),(1,jV p1)]) (z:=[jV 0,jV 0]) (cs:=[jV (↑aj:Int),jV p1]) Z (wAH Z (wAH Z wAY)) zj wBX Z Z) (oL Z (bB.lookup1 (j:=3) (mk:=wBW) (mv:=wBb) (a:=(⟨(↑aj:Int),p1⟩:wAE)) (z:=0) Z Z Z Z (wCI ZQ) wDf Za bC) ?_)))))))))))))))))))))
 have cN:=dl.le aZ
 have cO:=dm.le aZ
 have cP:=dp.le aZ
 have cQ:=dq.le aZ
 have cR:=dr.le aZ
 have q:=bnd dG
 obtain ⟨⟨ap,x48,dL⟩,cS,cd⟩:=q
 try dsimp only at cd
 have da:SW w [B0,.obj ab (.map ae ah)] U bI [B0,.obj ab (.map ae ah),.blk b9 169 (hH KL.encI bi.l),.blk b4 169 (hH KL.encI (Arr.fill 64 0).l)] bK:=bB.pick [2,3,0,1] _ (by decide) rfl
 refine zK 2 Z Z Z Z (zL Z Z Tryz.call74 (zD Z (zD Z (zD Z zQ))) Z) da (fun hs=>wCR p0 aV az aW a0 be ba bf bb bg ab ae ah bd bh (wBD p0.number (⟨(↑aj:Int),p1⟩:wAE) 0) false bK bI hs cN cO cP cQ bC cR cS) (.inl Z) ?_
 rintro bo dM dX cn dJ db ⟨bj,bq,bv,bw,rfl,rfl⟩
 let B1:Res:=.row bj bq 3 1 (hH KL.encI ap.far)
 let B2:Res:=.row bv bw 3 1 (hH KL.encI ap.by_)
 have de:SW w [B0,.obj ab (.map ae ah)] U bo [B1,B2,B0,.obj ab (.map ae ah),.blk b9 169 (hH KL.encI bi.l),.blk b4 169 (hH KL.encI (Arr.fill 64 0).l)] cn:=db
 refine oM Z Z (oR Z (zu Z Z (v:=.agg #[.slice bj ap.far.length bq,.slice bv ap.by_.length bw]) Z) (oR Z (zu Z Z (v:=jV x48) Z) (oR Z (zu Z Z (v:=.bool dL) Z) (ze (cs:=[.slice none 0 0,.slice none 0 0]) Z Z Z Z Z Zm Z de ?_))))
 intro dQ bp df
 let B3:List Value:=[.slice bj ap.far.length bq,.slice bv ap.by_.length bw]
 refine zm (j:=0) (vs:=B3) Z Z Z Z df Z Z Z Z yA (zA Z) Z Z Z ?_
 intro cp dh
 have cb:SW w [B0,.obj ab (.map ae ah)] U bo [.blk bp 133 B3,B1,B2,B0,.obj ab (.map ae ah),.blk b9 169 (hH KL.encI bi.l),.blk b4 169 (hH KL.encI (Arr.fill 64 0).l)] cp:=dh
 refine oA Z Z (oA Z Z (eN (sR fL7 Z (oM Z br (oR Z (Zu Z Z) (oR Z (zE Z Z ZJ Z zo) (oR Z (zE Z Z zU Z zS) (oL Z (cb.ldB (j:=3) Z Z Z zY (v:=.slice az p0.Race.Starts.length aW) Z) (oR Z (zd Z Z zC) (oM Z Z (eN (zW (bnK cd fun d4 dv dF=>?_)))))))))))))
 have q:=wBc dv
 obtain ⟨bG,dw⟩:=q
 replace bG:=zI bG
 refine CK.forN' (fun ak aY σ_ w_=>∃ (U_:PHeap),σ_ 40=jV (↑ak:Int)/\σ_ 0=.pointer (some ⟨aV,0,none⟩)/\σ_ 1=jV p1/\σ_ 4=.pointer (some ⟨b4,0,none⟩)/\σ_ 5=.pointer (some ⟨b9,0,none⟩)/\σ_ 6=jV (↑aj:Int)/\σ_ 7=.pointer (some ⟨bp,0,none⟩)/\σ_ 16=jV (↑p0.Race.Starts.length:Int)/\σ_ 17=jV (↑aj:Int)/\σ_ 39=jV (↑p0.Race.Starts.length:Int)/\PHeap.Le bo U_/\SW w [B0,.obj ab (.map ae ah)] U U_ [B1,B2,.blk bp 133 B3,B0,.obj ab (.map ae ah),.blk b9 169 (hH KL.encI aY.l),.blk b4 169 (hH KL.encI (Arr.fill 64 0).l)] w_) dw ?_ ?_ ?_
 exact ⟨bo,rfl,br,bR,cI,cJ,rfl,rfl,bS,bz,rfl,(zM _),(cb.pick [1,2,0,3,4,5,6] _ (by decide) rfl)⟩
 rintro ak aY dZ d8 bL bE ⟨bJ,bA,bT,bU,cK,bV,bW,bO,cu,cw,bP,dK,dk⟩ dH
 have bM:Hid ((↑ak:Int) < (↑p0.Race.Starts.length:Int)):=zI (wBJ bE)
 replace bE:=zI bE
 have dz:Hid (w64 ((↑ak:Int) + 1)=(↑(ak + 1):Int)):=zI (by have h1:=bG.out;have h2:=bM.out;rw [wAX] <;> omega)
 refine sR fL1 rfl (zk rfl rfl rfl rfl (fun _=>zX rfl bA bP) (eN (zH (cT Z bM (kN (zH (zW (sR fL2 rfl (zz rfl rfl rfl rfl rfl bA (yX rfl rfl rfl rfl rfl rfl (eN (ZD zy [3,3,3,1,3,3,3,1,3,3,3,1,3,1,3,3,0] (wUl (.fx 16 .nil .stop)) (by kernel_rfl) ?_))))))))))))
 have aX:=dk.drew
 generalize hw_W107:({ bL with drawn:=bL.drawn + 1 }:World)=dN at aX ⊢
 refine oM Z bW (oM Z Z (oR Z (zE Z bO ZV Z zS) (oL Z (aX.ldB (j:=2) Z Z Z zY (v:=.slice bj ap.far.length bq) Z) (oM Z bT (oR Z (Zu Z Z) (oR Z (zE Z Z ZJ Z Zz) (oL Z (aX.ldB (j:=3) Z Z Z yC (v:=.map (some ab)) Z) (oM Z Z (oM Z bU (oR Z (ZO (pv:=[(0,jV (↑ak:Int)),(1,jV p1)]) (z:=[jV 0,jV 0]) (cs:=[jV (↑ak:Int),jV p1]) Z (wAH Z (wAH Z wAY)) zj wBX Z Z) (oL Z (aX.lookup1 (j:=4) (mk:=wBW) (mv:=wBb) (a:=(⟨(↑ak:Int),p1⟩:wAE)) (z:=0) Z Z Z Z (wCI ZQ) wDf Za bC) (bnK dH fun _ bs dB=>?_))))))))))))
 obtain ⟨dR,bX⟩:=aX.rowSome (j:=0) rfl (by rw [wAI (f:=KL.encI) (sz:=1) (fun _=>rfl) ap.far];have hz:=wAN bs;omega)
 refine oR Z (ZC Z Z bX Z zC zB (wBo bs) (wBp bs)) ?_
 have dx:=wBK (xs:=ap.far) (wAN bs)
 refine ZI rfl rfl rfl rfl (aX.ldR (j:=0) rfl bX rfl rfl zF (wAT (sz:=1) (fun _=>rfl) _ _ 0 _ dx (by first | omega | rfl | simp) rfl)) rfl (bnK dB fun _ bt dC=>zk rfl rfl rfl rfl (fun _=>Runs.iaA rfl bV rfl yi Tryz.sizeOf168 (wBo bt) (wBp bt)) (bnK dC fun _ bu dD=>zk rfl rfl rfl rfl (fun _=>Runs.iaA rfl rfl rfl yj zB (wBo bu) (wBp bu)) ?_))
 have dy:=Arr.at_ aY (k:=(aj * 8 + ak)) (by have hz0:=wAN bt;have hz1:=wAN bu;omega)
 refine zm (j:=5) (vs:=[jV (gd ap.far (wBD p0.number (⟨(↑ak:Int),p1⟩:wAE) 0).toNat)]) (cs':=hH KL.encI (aY.set (aj * 8 + ak) (gd ap.far (wBD p0.number (⟨(↑ak:Int),p1⟩:wAE) 0).toNat)).l) rfl rfl rfl rfl aX rfl rfl rfl rfl zB (by have hz0:=wAN bt;have hz1:=wAN bu;simp only [nN,List.length_cons,List.length_nil,wBe (f:=KL.encI) (sz:=1) (N:=64) aY (fun _=>rfl) rfl];omega) rfl (wCv (sz:=1) (fo:=0) (fun _=>rfl) _ _ _ _ dy (by first | omega | rfl | simp) (zA rfl) rfl) rfl ?_
 intro cg cV
 have cW:SW w [B0,.obj ab (.map ae ah)] U bJ [B1,B2,.blk bp 133 B3,B0,.obj ab (.map ae ah),.blk b9 169 (hH KL.encI (aY.set (aj * 8 + ak) (gd ap.far (wBD p0.number (⟨(↑ak:Int),p1⟩:wAE) 0).toNat)).l),.blk b4 169 (hH KL.encI (Arr.fill 64 0).l)] cg:=cV
 refine zh (zq (zG (rR fL2 Z (oR Z (ZP (zZ Z bA Z) (congrArg (jV) dz.out)) (oM Z Z (zh ?_))))))
 cases dD
 exact zG ⟨Z,⟨bJ,Z,bT,bU,cK,bV,bW,bO,cu,cw,bP,dK,cW⟩⟩
 rintro d5 dO ⟨cf,cL,cx,cy,cz,cA,dS,dT,cC,cD,cE,dI,cX⟩
 have cr:Hid (¬ ((↑(((↑p0.Race.Starts.length:Int):Int) - 0).toNat:Int) < (↑p0.Race.Starts.length:Int))):=zI (wAj)
 refine sR fL1 Z (oR Z (zX Z cL cE) (eN (zH (cF Z cr (ZT (zf (zf (ZK (zq (zG (rR fL2 Z (oR Z (ZP (zZ Z cD Z) (congrArg (jV) dA.out)) (oM Z Z (zh ?_))))))))))))))
 cases dF
 exact zG ⟨rfl,⟨cf,rfl,cx,cy,cz,cA,cC,((aZ.trans dJ).trans dI),(cX.pick [5,6,3,4] _ (by decide) rfl)⟩⟩
 rintro d6 dP ⟨bH,cM,dU,dV,bQ,cG,cH,dW,bZ⟩
 have ct:Hid (¬ ((↑(((↑p0.Race.Starts.length:Int):Int) - 0).toNat:Int) < (↑p0.Race.Starts.length:Int))):=zI (wAj)
 refine sR fL1 rfl (zk rfl rfl rfl rfl (fun _=>zX rfl cM cH) (eN (zH (cF Z ct (ZT (zf (zf (ZK (zG (sR (.fl 0 (.fx 1 .nil .stop)) rfl (ZI rfl rfl rfl rfl (bZ.ldBA (j:=0) rfl rfl cG Tryz.isAgg169 Tryz.sizeOf169 (vs:=hH KL.encI aq.l) (wTQ aq (fun _=>rfl) rfl) (wBe aq (fun _=>rfl) rfl)) rfl (zm (j:=1) (vs:=hH KL.encI aq.l) rfl rfl rfl rfl bZ rfl bQ rfl rfl (fun w=>by rw [wBe (f:=KL.encI) (sz:=1) (N:=64) aq (fun _=>rfl) rfl];exact Tryz.sizeOf169 w) (by rw [wBe (f:=KL.encI) (sz:=1) (N:=64) aq (fun _=>rfl) rfl,wBe (f:=KL.encI) (sz:=1) (N:=64) (Arr.fill 64 0) (fun _=>rfl) rfl];exact zA rfl) (wFN (fun _=>rfl) _) (wJX _ _ (by rw [wBe (f:=KL.encI) (sz:=1) (N:=64) aq (fun _=>rfl) rfl,wBe (f:=KL.encI) (sz:=1) (N:=64) (Arr.fill 64 0) (fun _=>rfl) rfl])) rfl ?_))))))))))))
 intro cj cY
 have b5:SW w [B0,.obj ab (.map ae ah)] U bH [.blk b9 169 (hH KL.encI aq.l),.blk b4 169 (hH KL.encI aq.l),B0,.obj ab (.map ae ah)] cj:=cY
 refine eN (zP ?_)
 have hE:=nJ dE;first | subst r | cases hE
 exact ⟨rfl,_,(wKE (v:=.agg (hH KL.encI aq.l).toArray) ⟨⟨_,bQ,(wBt Tryz.isAgg169 Tryz.sizeOf169 (b5.blkAt (k:=1) rfl) (wTQ aq (fun _=>rfl) rfl) (wBe aq (fun _=>rfl) rfl))⟩,trivial⟩),bH,_,(b5.pick [2,3] _ (by decide) rfl),rfl,rfl⟩
theorem wJp (p0:wAA) (bd:Option Addr) (be:Nat) (bw:Option Addr) (bB:Nat) (bz:Option Addr) (bC:Nat) (bA:Option Addr) (bD:Nat) (p1:Int) (w:World) (U:PHeap) (hS:St0 w U []) (d5:Sl U 1 bd be p0.Starts.length (hH KL.encI p0.Starts)) (d6:Sl U 2 bw bB p0.Splits.length (hH wAB p0.Splits)) (d7:Sl U 3 bz bC p0.Clocks.length (hH wAD p0.Clocks)) (d8:Sl U 4 bA bD p0.Readings.length (hH wAC p0.Readings)) {r:(List wAP) × Int} (hm:wCQ p0 p1=some r):Gv Tryz.prog 40 [.agg #[.slice bd p0.Starts.length be,.slice bw p0.Splits.length bB,.slice bz p0.Clocks.length bC,.slice bA p0.Readings.length bD],jV p1] w (wCp w [] U (fun U_ L_ v=>∃ (A0:Option Addr) (c0:Nat),v=.tuple #[.slice A0 r.1.length c0,jV r.2]/\L_=[.row A0 c0 39 2 (hH wAB r.1)])):=by
 unfold wCQ at hm
 refine Gv.of Tryz.func40 Z Tryz.ntmps40 Tryz.results40 Z (sR gCl Z ?_)
 let B0:List Value:=[.slice bd p0.Starts.length be,.slice bw p0.Splits.length bB,.slice bz p0.Clocks.length bC,.slice bA p0.Readings.length bD]
 refine ZE (cs:=B0) rfl rfl rfl rfl rfl rfl (by rfl) hS ?_
 intro W1 b2 cE
 refine oA Z Z (oA Z Z (eN (sR (.fl 0 (.fl 1 (.fx 2 (wSv (.nil)) .stop))) Z (oL Z (cE.ldBA (j:=0) Z Z Z ZB zo (vs:=B0) Z Z) (oM Z Z ?_)))))
 have q:=bnd hm
 obtain ⟨⟨x5,x6⟩,h7,bn⟩:=q
 try dsimp only at bn
 refine zK 0 Z Z Z Z (zL Z Z Tryz.call108 (zD Z (zD Z zQ)) Z) cE (fun hs=>wGX p0 bd be bw bB bz bC bA bD p1 W1 U hs d5 d6 d7 d8 h7) (.inr Z) ?_
 rintro U9 eX fq bK fh cA cy
 rcases x5 with _ | bf
 try dsimp only at bn
 obtain ⟨rfl,rfl⟩:=cy
 have dT:sW w U U9 [.blk b2 27 B0] bK:=cA
 refine oM Z Z (oR Z (zu Z Z (v:=.pointer none) Z) (oR Z (zu Z Z (v:=jV x6) Z) (oA Z Z (oA Z Z (eN (zH (sR fL2 Z (oM Z Z (oR Z (Zo Z Z Z) (eN (ifc bn ?_ ?_)))))))))))
 intro bP eL
 refine zx (Ze (fun h=>h bP.out)) (kN (sR gCx Z (oM Z Z (oM Z Z ?_))))
 cases eL
 intro bP eM
 refine cT Z bP (sR fL3 Z (oM Z Z (oA Z Z (oA Z Z (eN (zP (zN ?_)))))))
 have dU:=dT.nilrow 39 2
 cases eM
 exact ⟨rfl,_,(wFJ rfl rfl),U9,_,(dU.pick [0] _ (by decide) rfl),none,0,rfl,rfl⟩
 try dsimp only at bn
 obtain ⟨bL,bX,cn,bY,cp,bZ,cq,cb,ct,ah,aj,ai,cd,cu,rfl,rfl,dy,dz,dA,dB,dC,dD⟩:=cy
 let B1:Res:=.blk bL 139 [.slice bX bf.Race.Starts.length cn,.slice bY bf.Race.Splits.length cp,.slice bZ bf.Race.Clocks.length cq,.slice cb bf.Race.Readings.length ct,.map (some ah),.slice cd bf.edges.length cu]
 have cG:sW w U U9 [B1,.obj ah (.map aj ai),.blk b2 27 B0] bK:=cA
 refine oM Z Z (oR Z (zu Z Z (v:=.pointer (some ⟨bL,0,none⟩)) Z) (oR Z (zu Z Z (v:=jV x6) Z) (oA Z Z (oA Z Z (eN (zH (sR fL2 Z (oM Z Z (oR Z (Zo Z Z Z) (eN (ifc bn ?_ ?_)))))))))))
 intro bQ eO
 refine zx (Ze (fun h=>h bQ.out)) (kN (sR gCx Z (oM Z Z (oM Z Z (bnK eO fun x48 dE eQ=>zK 2 Z Z Z Z (zL Z Z Tryz.call109 (zD Z (zD Z zQ)) Z) cG (fun hs=>wEH bf bL bX cn bY cp bZ cq cb ct ah aj ai cd cu p1 bK U9 hs dy dz dA dB dC dD dE) (.inl Z) ?_)))))
 rintro bi eY ft cW fm dV ⟨rfl,rfl⟩
 have dW:sW w U bi [B1,.obj ah (.map aj ai),.blk b2 27 B0] cW:=dV
 refine ze (cs:=hH KL.encI (Arr.fill 64 0).l) Z Z Z Z Z Tryz.zeroValue169 Z dW ?_
 intro cX am dX
 have dY:sW w U bi [.blk am 169 (hH KL.encI (Arr.fill 64 0).l),B1,.obj ah (.map aj ai),.blk b2 27 B0] cX:=dX
 refine zm (j:=0) (vs:=hH KL.encI x48.l) rfl rfl rfl rfl dY rfl rfl rfl rfl (fun w=>by rw [wBe (f:=KL.encI) (sz:=1) (N:=64) x48 (fun _=>rfl) rfl];exact Tryz.sizeOf169 w) (by rw [wBe (f:=KL.encI) (sz:=1) (N:=64) x48 (fun _=>rfl) rfl,wBe (f:=KL.encI) (sz:=1) (N:=64) (Arr.fill 64 0) (fun _=>rfl) rfl];exact zA rfl) (wFN (fun _=>rfl) _) (wJX _ _ (by rw [wBe (f:=KL.encI) (sz:=1) (N:=64) x48 (fun _=>rfl) rfl,wBe (f:=KL.encI) (sz:=1) (N:=64) (Arr.fill 64 0) (fun _=>rfl) rfl])) rfl ?_
 intro cY dZ
 have cH:sW w U bi [.blk am 169 (hH KL.encI x48.l),B1,.obj ah (.map aj ai),.blk b2 27 B0] cY:=dZ
 refine eN (sR fL1 Z (oA Z Z (eN (zH (sR fL4 Z (oR Z (zE Z Z zU Z zS) (oL Z (cH.ldB (j:=3) Z Z Z zY (v:=.slice bd p0.Starts.length be) Z) (oR Z (zd Z Z zC) (oM Z Z (eN (zW (bnK eQ fun fy eg eR=>?_))))))))))))
 have q:=wBc eg
 obtain ⟨bV,eh⟩:=q
 replace bV:=zI bV
 refine CK.forN' (fun aq bb σ_ w_=>∃ (U_:PHeap) (bg:Option Addr) (bk:Nat),σ_ 28=jV (↑aq:Int)/\σ_ 2=.pointer (some ⟨b2,0,none⟩)/\σ_ 8=.pointer (some ⟨am,0,none⟩)/\σ_ 9=.slice bg bb.length bk/\σ_ 27=jV (↑p0.Starts.length:Int)/\PHeap.Le bi U_/\sW w U U_ [.blk am 169 (hH KL.encI x48.l),B1,.obj ah (.map aj ai),.blk b2 27 B0,.row bg bk 39 2 (hH wAB bb)] w_) eh ?_ ?_ ?_
 have d4:=cH.nilrow 39 2
 exact ⟨bi,none,0,rfl,rfl,rfl,rfl,rfl,(zM _),(d4.pick [1,2,3,4,0] _ (by decide) rfl)⟩
 rintro aq bb fw fC fc bT ⟨bJ,bg,bk,bR,cw,df,dg,cx,eV,dG⟩ eS
 have cj:Hid ((↑aq:Int) < (↑p0.Starts.length:Int)):=zI (wBJ bT)
 replace bT:=zI bT
 have ey:Hid (w64 ((↑aq:Int) + 1)=(↑(aq + 1):Int)):=zI (by have h1:=bV.out;have h2:=cj.out;rw [wAX] <;> omega)
 refine sR fL1 Z (oR Z (zX Z bR cx) (eN (zH (cT Z cj (kN (zH (zW (sR fL2 Z (oM Z bR (oA Z Z (eN (sR (.fl 0 (.fx 1 (.fx 2 .nil .stop) .stop)) Z ?_))))))))))))
 let B2:List Value:=[jV 0,jV 0]
 let B3:List Value:=[jV 1,jV 1]
 refine oR Z (ZO (pv:=[(0,jV 1),(1,jV 1)]) (z:=B2) (cs:=B3) Z (wAH Z (wAH Z wAY)) yo wMU Z Z) (ze (cs:=B2) Z Z Z Z Z yo Z dG ?_)
 intro eZ az dH
 refine zm (j:=0) (vs:=B3) Z Z Z Z dH Z Z Z Z ZR (zA Z) Z Z Z ?_
 intro cP dI
 let B4:Res:=.row bg bk 39 2 (hH wAB bb)
 have cz:sW w U bJ [.blk az 39 B3,.blk am 169 (hH KL.encI x48.l),B1,.obj ah (.map aj ai),.blk b2 27 B0,B4] cP:=dI
 refine eN (zH (sR fL4 Z (oR Z (zE Z cw zU Z zS) (oL Z (cz.ldB (j:=4) Z Z Z zY (v:=.slice bd p0.Starts.length be) Z) (oR Z (zd Z Z zC) (oM Z Z (eN (zW ?_))))))))
 have q:=bnd eS
 obtain ⟨⟨bE,bF⟩,d9,cI⟩:=q
 try dsimp only at cI
 have q:=wBc d9
 obtain ⟨bU,ef⟩:=q
 replace bU:=zI bU
 refine CK.forN' (fun aV (x122,x123) σ_ w_=>∃ (U_:PHeap),σ_ 35=jV (↑aV:Int)/\σ_ 2=.pointer (some ⟨b2,0,none⟩)/\σ_ 8=.pointer (some ⟨am,0,none⟩)/\σ_ 9=.slice bg bb.length bk/\σ_ 10=jV (↑aq:Int)/\σ_ 11=.pointer (some ⟨az,0,none⟩)/\σ_ 27=jV (↑p0.Starts.length:Int)/\σ_ 28=jV (↑aq:Int)/\σ_ 34=jV (↑p0.Starts.length:Int)/\PHeap.Le bJ U_/\sW w U U_ [.blk az 39 [jV x122,jV x123],.blk am 169 (hH KL.encI x48.l),B1,.obj ah (.map aj ai),.blk b2 27 B0,B4] w_) ef ?_ ?_ ?_
 exact ⟨bJ,Z,cw,df,dg,Z,Z,cx,bR,Z,(zM _),cz⟩
 rintro aV ⟨x122,x123⟩ fu fz e8 bS ⟨aW,ba,bo,aX,bp,aY,ap,bq,br,bm,bu,aZ⟩ cJ
 try dsimp only at cJ
 have cm:Hid ((↑aV:Int) < (↑p0.Starts.length:Int)):=zI (wBJ bS)
 replace bS:=zI bS
 have bt:Hid (w64 ((↑aV:Int) + 1)=(↑(aV + 1):Int)):=zI (by have h1:=bU.out;have h2:=cm.out;rw [wAX] <;> omega)
 refine sR fL1 Z (oR Z (zX Z ba bm) (eN (zH (cT Z cm (kN (zH (zW (sR fL2 Z (oM Z ba (oA Z Z (eN (zH (sR fL6 Z (oM Z aY (oM Z Z (bnK cJ fun _ au eA=>oR Z (Runs.iaA Z aX Z yi Tryz.sizeOf168 (wBo au) (wBp au)) (bnK eA fun _ av eC=>oR Z (Runs.iaA Z Z Z yj zB (wBo av) (wBp av)) ?_)))))))))))))))))
 have ej:=Arr.at_ x48 (k:=(aq * 8 + aV)) (by have hz0:=wAN au;have hz1:=wAN av;omega)
 refine ZI rfl rfl rfl rfl (aZ.ldB (j:=1) rfl rfl rfl zF (wAT (sz:=1) (fun _=>rfl) _ _ 0 _ ej (by first | omega | rfl | simp) rfl)) rfl (zk rfl rfl rfl rfl (fun _=>zX rfl rfl rfl) (eN (ifc eC ?_ ?_)))
 intro bM eD
 refine cT Z bM (rR (wEZ (.fx 4 .nil .stop)) Z (oR Z (zE Z ap ZA Z zB) (oL Z (aZ.ldB (j:=0) Z Z Z zF (v:=jV x122) Z) (oR Z (zZ Z Z Z) (oR Z (zE Z ap ZA Z zB) (zm (j:=0) (vs:=[jV (w64 (x122 + 1))]) Z Z Z Z aZ Z Z Z Z zB (zA Z) Z Z Z ?_))))))
 intro cQ dJ
 have bs:sW w U aW [.blk az 39 [jV (w64 (x122 + 1)),jV x123],.blk am 169 (hH KL.encI x48.l),B1,.obj ah (.map aj ai),.blk b2 27 B0,B4] cQ:=dJ
 refine eN (sR fL6 Z (oM Z Z (oM Z aY (oR Z (Runs.iaA Z aX Z yi Tryz.sizeOf168 (wBo av) (wBp av)) (oR Z (Runs.iaA Z Z Z yj zB (wBo au) (wBp au)) ?_)))))
 have en:=Arr.at_ x48 (k:=(aV * 8 + aq)) (by have hz0:=wAN av;have hz1:=wAN au;omega)
 refine ZI rfl rfl rfl rfl (bs.ldB (j:=1) rfl rfl rfl zF (wAT (sz:=1) (fun _=>rfl) _ _ 0 _ en (by first | omega | rfl | simp) rfl)) rfl (zk rfl rfl rfl rfl (fun _=>yN rfl rfl rfl) (eN (ifc eD ?_ ?_)))
 intro bN eE
 refine cT Z bN (rR (wEZ (.fx 4 .nil .stop)) Z (oR Z (zE Z ap ZA Z zB) (oL Z (bs.ldB (j:=0) Z Z Z zF (v:=jV x123) Z) (oR Z (zZ Z Z Z) (oR Z (zE Z ap ZA Z zB) (zm (j:=0) (vs:=[jV (w64 (x123 + 1))]) Z Z Z Z bs Z Z Z Z zB (zA Z) Z Z Z ?_))))))
 intro cR dK
 have dL:sW w U aW [.blk az 39 [jV (w64 (x122 + 1)),jV (w64 (x123 + 1))],.blk am 169 (hH KL.encI x48.l),B1,.obj ah (.map aj ai),.blk b2 27 B0,B4] cR:=dK
 refine zh (zq (zG (rR fL2 Z (oR Z (ZP (zZ Z ba Z) (congrArg (jV) bt.out)) (oM Z Z (zh ?_))))))
 cases eE
 exact zG ⟨Z,⟨aW,Z,bo,aX,bp,aY,ap,bq,br,bm,bu,dL⟩⟩
 intro bN eF
 refine cF Z bN (Zh (zq (zG (rR fL2 Z (oR Z (ZP (zZ Z ba Z) (congrArg (jV) bt.out)) (oM Z Z (zh ?_)))))))
 cases eF
 exact zG ⟨Z,⟨aW,Z,bo,aX,bp,aY,ap,bq,br,bm,bu,bs⟩⟩
 intro bM eG
 refine cF Z bM (kN (sR fL6 Z (oM Z Z (oM Z aY (oR Z (Runs.iaA Z aX Z yi Tryz.sizeOf168 (wBo av) (wBp av)) (oR Z (Runs.iaA Z Z Z yj zB (wBo au) (wBp au)) ?_))))))
 have eu:=Arr.at_ x48 (k:=(aV * 8 + aq)) (by have hz0:=wAN av;have hz1:=wAN au;omega)
 refine ZI rfl rfl rfl rfl (aZ.ldB (j:=1) rfl rfl rfl zF (wAT (sz:=1) (fun _=>rfl) _ _ 0 _ eu (by first | omega | rfl | simp) rfl)) rfl (zk rfl rfl rfl rfl (fun _=>yN rfl rfl rfl) (eN (ifc eG ?_ ?_)))
 intro bO eH
 refine cT Z bO (rR (wEZ (.fx 4 .nil .stop)) Z (oR Z (zE Z ap ZA Z zB) (oL Z (aZ.ldB (j:=0) Z Z Z zF (v:=jV x123) Z) (oR Z (zZ Z Z Z) (oR Z (zE Z ap ZA Z zB) (zm (j:=0) (vs:=[jV (w64 (x123 + 1))]) Z Z Z Z aZ Z Z Z Z zB (zA Z) Z Z Z ?_))))))
 intro cS dM
 have dN:sW w U aW [.blk az 39 [jV x122,jV (w64 (x123 + 1))],.blk am 169 (hH KL.encI x48.l),B1,.obj ah (.map aj ai),.blk b2 27 B0,B4] cS:=dM
 refine zh (zq (zG (rR fL2 Z (oR Z (ZP (zZ Z ba Z) (congrArg (jV) bt.out)) (oM Z Z (zh ?_))))))
 cases eH
 exact zG ⟨Z,⟨aW,Z,bo,aX,bp,aY,ap,bq,br,bm,bu,dN⟩⟩
 intro bO eI
 refine cF Z bO (Zh (zq (zG (rR fL2 Z (oR Z (ZP (zZ Z ba Z) (congrArg (jV) bt.out)) (oM Z Z (zh ?_)))))))
 cases eI
 exact zG ⟨Z,⟨aW,Z,bo,aX,bp,aY,ap,bq,br,bm,bu,aZ⟩⟩
 rintro fA e9 ⟨bI,dv,dh,dk,dl,fd,dm,dp,dq,dr,eU,cC⟩
 have da:Hid (¬ ((↑(((↑p0.Starts.length:Int):Int) - 0).toNat:Int) < (↑p0.Starts.length:Int))):=zI (wAj)
 refine sR fL1 Z (oR Z (zX Z dv dr) (eN (zH (cF Z da (ZT (zf (zf (ZK (zG (rR gCy Z (oM Z dl ?_)))))))))))
 let B5:List Value:=[jV bE,jV bF]
 refine oL Z (cC.ldBA (j:=0) Z Z dm yf ZR (vs:=B5) Z Z) (ZW (pv:=[(0,.agg B5.toArray)]) (zs:=B2) (cs:=B5) Z Z Z Z Z (wAH Z wAY) zr ZR yo Z Z Z Z Z cC ?_)
 intro cU cZ dO
 let B6:Res:=.row (some ⟨cZ,0,none⟩) 1 39 2 (hH wAB [(⟨bE,bF⟩:wAP)])
 have cD:sW w U bI [B6,.blk az 39 B5,.blk am 169 (hH KL.encI x48.l),B1,.obj ah (.map aj ai),.blk b2 27 B0,B4] cU:=dO
 refine bnK cI fun cK dx eJ=>yH (j:=6) (enc:=wAB) (xs:=bb) (ys:=[(⟨bE,bF⟩:wAP)]) (zs:=cK) rfl rfl rfl rfl rfl Tryz.underlying23 wPO rfl rfl rfl rfl rfl rfl cD rfl rfl rfl (cD.srcR (j:=0) rfl (by decide) (wAI (f:=wAB) (sz:=2) (fun _=>rfl) [(⟨bE,bF⟩:wAP)])) (fun _=>rfl) (fun _=>rfl) dx rfl ?_
 intro b5 cr cV dP
 have dQ:sW w U bI [B6,.blk az 39 B5,.blk am 169 (hH KL.encI x48.l),B1,.obj ah (.map aj ai),.blk b2 27 B0,.row b5 cr 39 2 (hH wAB cK)] cV:=dP
 refine oA Z Z (zh (zq (zG (rR fL2 Z (oR Z (ZP (zZ Z dq Z) (congrArg (jV) ey.out)) (oM Z Z (zh ?_)))))))
 cases eJ
 exact zG ⟨rfl,⟨bI,b5,cr,rfl,dh,dk,rfl,dp,(eV.trans eU),(dQ.pick [2,3,4,5,6] _ (by decide) rfl)⟩⟩
 rintro fB fb ⟨cN,cM,db,dw,ff,fg,dt,du,fj,dR⟩
 have de:Hid (¬ ((↑(((↑p0.Starts.length:Int):Int) - 0).toNat:Int) < (↑p0.Starts.length:Int))):=zI (wAj)
 refine sR fL1 Z (oR Z (zX Z dw du) (eN (zH (cF Z de (ZT (zf (zf (ZK (zG (sR fL3 Z (oM Z dt (oA Z Z (oA Z Z (eN (zP ?_)))))))))))))))
 cases eR
 exact ⟨rfl,_,(wFJ rfl rfl),cN,_,(dR.pick [4] _ (by decide) rfl),cM,db,rfl,rfl⟩
 intro bQ eK
 refine cT Z bQ (sR fL3 Z (oM Z Z (oA Z Z (oA Z Z (eN (zP (zN ?_)))))))
 have dS:=cG.nilrow 39 2
 cases eK
 exact ⟨rfl,_,(wFJ rfl rfl),U9,_,(dS.pick [0] _ (by decide) rfl),none,0,rfl,rfl⟩
end Go.Proofs.YtlnfbjphfoipaaaGreat
namespace Go.Proofs.YtlnfbjphfoipaaaGreat
open Go.KL
set_option maxHeartbeats 4000000
theorem wAc (p0:Int) (p1:Int) (p2:Int) (w:World) (U:PHeap) (hS:St0 w U [])  {r:Bool} (hm:wAV p0 p1 p2=some r):Gv Tryz.prog 71 [jV p0,jV p1,jV p2] w (wCp w [] U (fun U_ L_ v=>v=.bool r/\L_=[])):=by
 unfold wAV at hm
 refine Gv.of Tryz.func71 Z Tryz.ntmps71 Tryz.results71 Z (sR fL1 Z (oA Z Z (eN (sR fL9 Z (oM Z Z (oM Z Z (oR Z (zX Z Z Z) (oM Z Z ?_))))))))
 by_cases c1:p0 < p1
 have ai:=hm;rw [if_pos c1] at ai;replace c1:=zI c1
 refine oT Z c1 (oT Z c1 (oT Z c1 (oR Z (zl Z (Zl c1.out) Z) (oA Z Z (eN (zP ?_))))))
 have hE:=nJ ai;first | subst r | cases hE
 exact ⟨Z,_,(ZH Z),U,_,hS,Z,Z⟩
 have ab:=hm;rw [if_neg c1] at ab;replace c1:=zI c1
 refine zz Z Z Z (wF Z c1) Z Z (zz Z Z Z (wF Z c1) Z Z (rU Z (wF Z c1) (yN Z Z Z) (oR Z (zt Z (Ze c1.out) Z) (oA Z Z (eN (zP ?_))))))
 first | (obtain rfl:=nJ ab) | cases ab
 exact ⟨Z,_,(ZH Z),U,_,hS,Z,Z⟩
theorem wEV (p0:wAP) (p1:Int) (p2:Int) (w:World) (U:PHeap) (hS:St0 w U [])  {r:Bool} (hm:wBi p0 p1 p2=some r):Gv Tryz.prog 100 [.agg #[jV p0.Lo,jV p0.Hi],jV p1,jV p2] w (wCp w [] U (fun U_ L_ v=>v=.bool r/\L_=[])):=by
 unfold wBi at hm
 refine Gv.of Tryz.func100 rfl Tryz.ntmps100 Tryz.results100 rfl (sR gCj rfl (ZE (cs:=[jV p0.Lo,jV p0.Hi]) rfl rfl rfl rfl rfl rfl (by rfl) hS ?_))
 intro W1 b2 ah
 refine oA Z Z (eN (sR fL18 Z (oR Z (zE Z Z ZA Z zB) (oL Z (ah.ldB (j:=0) Z Z Z zF (v:=jV p0.Lo) Z) (oR Z (zE Z Z ZA Z zB) (oL Z (ah.ldB (j:=0) Z Z Z zF (v:=jV p0.Hi) Z) (oR Z (yN Z Z Z) (oM Z Z ?_))))))))
 by_cases c5:p0.Hi < p0.Lo
 have aj:=hm;rw [if_pos c5] at aj;replace c5:=zI c5
 refine oT Z c5 (oT Z c5 (oT Z c5 (oT Z c5 (oR Z (zl Z (Zl c5.out) Z) (oM Z Z (oN Z (oN Z (oN Z (oN Z (oR Z (zl Z Z Z) (oA Z Z (eN (zP ?_)))))))))))))
 have hE:=nJ aj;first | subst r | cases hE
 exact ⟨rfl,_,(ZH rfl),U,_,(ah.pick [] _ (by decide) rfl),rfl,rfl⟩
 have ak:=hm;rw [if_neg c5] at ak;replace c5:=zI c5
 refine rU Z (wF Z c5) (zE Z Z ZA Z zB) (ZI Z Z Z (wF Z c5) (ah.ldB (j:=0) Z Z Z zF (v:=jV p0.Lo) Z) Z (zz Z Z Z (wF Z c5) Z Z (rU Z (wF Z c5) (zX Z Z Z) (oR Z (zt Z (Ze c5.out) Z) (oM Z Z (ifc ak ?_ ?_))))))
 intro c8 aq
 refine oT Z c8 (oT Z c8 (oT Z c8 (oT Z c8 (oR Z (zl Z (Zl c8.out) Z) (oA Z Z (eN (zP ?_)))))))
 have hE:=nJ aq;first | subst r | cases hE
 exact ⟨rfl,_,(ZH rfl),U,_,(ah.pick [] _ (by decide) rfl),rfl,rfl⟩
 intro c8 ai
 refine rU Z (wF Z c8) (zE Z Z ZA Z zB) (ZI Z Z Z (wF Z c8) (ah.ldB (j:=0) Z Z Z zF (v:=jV p0.Hi) Z) Z (zz Z Z Z (wF Z c8) Z Z (rU Z (wF Z c8) (yN Z Z Z) (oR Z (zt Z (Ze c8.out) Z) (oA Z Z (eN (zP ?_)))))))
 first | (obtain rfl:=nJ ai) | cases ai
 exact ⟨rfl,_,(ZH rfl),U,_,(ah.pick [] _ (by decide) rfl),rfl,rfl⟩
theorem wDE (p0:wAK) (bd:Option Addr) (bf:Nat) (be:Option Addr) (bg:Nat) (aY:Option Addr) (a0:Nat) (aZ:Option Addr) (ba:Nat) (w:World) (U:PHeap) (hS:St0 w U []) (fc:Sl U 1 bd bf p0.Starts.length (hH KL.encI p0.Starts)) (fd:Sl U 2 be bg p0.Splits.length (hH wAB p0.Splits)) (ff:Sl U 3 aY a0 p0.Clocks.length (hH wAG p0.Clocks)) (cJ:Sl U 4 aZ ba p0.Readings.length (hH wAF p0.Readings)) {r:Int} (hm:wBM p0=some r):Gv Tryz.prog 34 [.agg #[.slice bd p0.Starts.length bf,.slice be p0.Splits.length bg,.slice aY p0.Clocks.length a0,.slice aZ p0.Readings.length ba]] w (wCp w [] U (fun U_ L_ v=>v=jV r/\L_=[])):=by
 unfold wBM at hm
 refine Gv.of Tryz.func34 Z Tryz.ntmps34 Tryz.results34 Z (sR gCj Z ?_)
 let B0:List Value:=[.slice bd p0.Starts.length bf,.slice be p0.Splits.length bg,.slice aY p0.Clocks.length a0,.slice aZ p0.Readings.length ba]
 refine ZE (cs:=B0) rfl rfl rfl rfl rfl rfl (by rfl) hS ?_
 intro W1 b2 cG
 refine oA Z Z (eN (zH (sR (wEG (.fx 3 (wUw (.nil)) .stop)) Z (oR Z (zE Z Z zV Z zS) (oL Z (cG.ldB (j:=0) Z Z Z zY (v:=.slice bd p0.Starts.length bf) Z) (oR Z (zd Z Z zC) (bnK hm fun x5 h6 gy=>zK 0 Z Z Z Z (zL Z Z yM (zD Z (zD Z (zD Z zQ))) Z) cG (fun hs=>wAc (↑p0.Starts.length:Int) 1 8 W1 U hs h6) (.inr Z) ?_)))))))
 rintro U8 L9 iA dp bs eS ⟨rfl,rfl⟩
 have aX:sW w U U8 [.blk b2 36 B0] dp:=eS
 refine oM Z Z (ifc gy ?_ ?_)
 intro am fw
 refine ZF Z Z Z (zi Z Z (congrArg nA am.out) Z) (ZF Z Z Z (zi Z Z (congrArg nA am.out) Z) (ZF Z Z Z (zi Z Z (congrArg nA am.out) Z) (ZF Z Z Z (zi Z Z (congrArg nA am.out) Z) (oR Z (zl Z (congrArg nA am.out) Z) (oM Z Z (oN Z (oN Z (oN Z (oN Z (oR Z (zl Z Z Z) (oM Z Z (oN Z (oN Z (oN Z (oN Z (oR Z (zl Z Z Z) (eN (ZG Z (sR fL1 Z (oA Z Z (eN (zP (zN ?_)))))))))))))))))))))))
 cases fw
 exact ⟨rfl,_,(ZH rfl),U8,_,(aX.pick [] _ (by decide) rfl),rfl,rfl⟩
 intro am fB
 refine zk Z Z Z (zO Z Z (congrArg nA (nD.2 am.out))) (fun _=>zE Z Z zV Z Zd) (ZI Z Z Z (zO Z Z (congrArg nA (nD.2 am.out))) (aX.ldB (j:=0) Z Z Z Zi (v:=.slice be p0.Splits.length bg) Z) Z (zk Z Z Z (zO Z Z (congrArg nA (nD.2 am.out))) (fun _=>zd Z Z zr) (zk Z Z Z (zO Z Z (congrArg nA (nD.2 am.out))) (fun _=>yN Z Z Z) (oR Z (zt Z (congrArg nA (nD.2 am.out)) Z) (oM Z Z (ifc fB ?_ ?_))))))
 intro ap fH
 refine oT Z ap (oT Z ap (oT Z ap (oT Z ap (oR Z (zl Z (Zl ap.out) Z) (oM Z Z (oN Z (oN Z (oN Z (oN Z (oR Z (zl Z Z Z) (eN (ZG Z (sR fL1 Z (oA Z Z (eN (zP (zN ?_)))))))))))))))))
 cases fH
 exact ⟨rfl,_,(ZH rfl),U8,_,(aX.pick [] _ (by decide) rfl),rfl,rfl⟩
 intro ap fK
 refine rU Z (wF Z ap) (zE Z Z zV Z Zr) (ZI Z Z Z (wF Z ap) (aX.ldB (j:=0) Z Z Z yB (v:=.slice aY p0.Clocks.length a0) Z) Z (rU Z (wF Z ap) (zd Z Z Zj) (rU Z (wF Z ap) (yN Z Z Z) (oR Z (zt Z (Ze ap.out) Z) (oM Z Z (ifc fK ?_ ?_))))))
 intro aq fM
 refine oT Z aq (oT Z aq (oT Z aq (oT Z aq (oR Z (zl Z (Zl aq.out) Z) (eN (ZG Z (sR fL1 Z (oA Z Z (eN (zP (zN ?_)))))))))))
 cases fM
 exact ⟨rfl,_,(ZH rfl),U8,_,(aX.pick [] _ (by decide) rfl),rfl,rfl⟩
 intro aq fO
 refine rU Z (wF Z aq) (zE Z Z zV Z yI) (ZI Z Z Z (wF Z aq) (aX.ldB (j:=0) Z Z Z ya (v:=.slice aZ p0.Readings.length ba) Z) Z (rU Z (wF Z aq) (zd Z Z Zw) (rU Z (wF Z aq) (yN Z Z Z) (oR Z (zt Z (Ze aq.out) Z) (eN (ifc fO ?_ ?_))))))
 intro bW fT
 refine cT Z bW (sR fL1 Z (oA Z Z (eN (zP (zN ?_)))))
 cases fT
 exact ⟨rfl,_,(ZH rfl),U8,_,(aX.pick [] _ (by decide) rfl),rfl,rfl⟩
 intro bW fU
 refine cF Z bW (kN (zH (sR fL1 Z (oA Z Z (eN (zW (yh (fun cu σ_ w_=>∃ (U_:PHeap),σ_ 1=.pointer (some ⟨b2,0,none⟩)/\σ_ 3=jV cu/\PHeap.Le U8 U_/\sW w U U_ [.blk b2 36 B0] w_) fU ?_ ?_)))))))
 exact ⟨U8,Z,Z,(zM _),aX⟩
 rintro cu iW i6 dv ⟨bQ,bz,cb,bj,bq⟩ db cL
 refine zH (sR fL5 Z (oM Z cb (oR Z (zE Z bz zV Z zS) (oL Z (bq.ldB (j:=0) Z Z Z zY (v:=.slice bd p0.Starts.length bf) Z) (oR Z (zd Z Z zC) (oR Z (zX Z Z Z) (eN ?_)))))))
 by_cases aV:cu < (↑p0.Starts.length:Int)
 have cV:=db;rw [if_pos aV] at cV;replace aV:=zI aV
 refine cT Z aV (kN (zH (zW (sR (wIc (.fx 5 .nil .stop)) Z (oR Z (zE Z bz zV Z zS) (oL Z (bq.ldB (j:=0) Z Z Z zY (v:=.slice bd p0.Starts.length bf) Z) (oM Z cb (bnK cV fun dk cj gt=>?_))))))))
 have eh:=fc.le bs
 have ej:=eh.le bj
 have q:=ej.el (fun _=>rfl) (wAS cj)
 obtain ⟨iq,iz,eI,eQ⟩:=q
 refine oR Z (ZC Z Z eI Z zC zB (wAx cj) (wBA cj)) (oL Z (bq.ldC (f:=0) eQ (v:=jV dk) Z Z zF Z) (bnK gt fun iR en gu=>zK 0 Z Z Z Z (zL Z Z yM (zD Z (zD Z (zD Z zQ))) Z) bq (fun hs=>wAc dk 0 360000 dv bQ hs en) (.inr Z) ?_))
 rintro bR ig iI dx gI fb ⟨rfl,rfl⟩
 have cI:sW w U bR [.blk b2 36 B0] dx:=fb
 refine eN (ifc gu ?_ ?_)
 intro bY gv
 refine ZG (congrArg nA bY.out) (sR fL1 Z (oA Z Z (eN (zP (zg (zN ?_))))))
 have q:=wAZ gv
 obtain ⟨gW,gw,dK⟩:=q
 obtain rfl:=cL gW dK
 refine zN (zg (zN ?_))
 cases gw
 exact ⟨rfl,_,(ZH rfl),bR,_,(cI.pick [] _ (by decide) rfl),rfl,rfl⟩
 intro bY gx
 refine zx (congrArg nA (nD.2 bY.out)) (Zh (zq (zG (rR fL3 Z (oM Z cb (oR Z (zZ Z Z Z) (oA Z Z (zh ?_))))))))
 obtain rfl:=nJ gx
 exact zG ⟨Z,_,Z,⟨bR,bz,Z,(bj.trans gI),cI⟩⟩
 have cW:=db;rw [if_neg aV] at cW;replace aV:=zI aV
 refine cF Z aV (ZT (zf ?_))
 have q:=wAZ cW
 obtain ⟨gX,gz,dL⟩:=q
 obtain rfl:=cL gX dL
 refine zf (ZK (zG (zH (sR fL1 Z (oA Z Z (eN (zW (yh (fun x78 σ_ w_=>∃ (U_:PHeap),σ_ 1=.pointer (some ⟨b2,0,none⟩)/\σ_ 4=jV x78/\PHeap.Le bQ U_/\sW w U U_ [.blk b2 36 B0] w_) gz ?_ ?_))))))))
 exact ⟨bQ,bz,Z,(zM _),bq⟩
 rintro x78 iX i8 dy ⟨bS,bA,cd,bt,br⟩ de cM
 refine zH (sR fL5 Z (oM Z cd (oR Z (zE Z bA zV Z Zd) (oL Z (br.ldB (j:=0) Z Z Z Zi (v:=.slice be p0.Splits.length bg) Z) (oR Z (zd Z Z zr) (oR Z (zX Z Z Z) (eN ?_)))))))
 by_cases aW:x78 < (↑p0.Splits.length:Int)
 have cX:=de;rw [if_pos aW] at cX;replace aW:=zI aW
 refine cT Z aW (kN (zH (zW (sR (wIc (.fx 5 .nil .stop)) Z (oR Z (zE Z bA zV Z Zd) (oL Z (br.ldB (j:=0) Z Z Z Zi (v:=.slice be p0.Splits.length bg) Z) (oM Z cd (bnK cX fun x93 cm gA=>?_))))))))
 have ey:=fd.le bs
 have eA:=ey.le bj
 have eC:=eA.le bt
 have q:=eC.el (fun _=>rfl) (wAS cm)
 obtain ⟨ir,it,eD,eJ⟩:=q
 refine oR Z (ZC Z Z eD Z zr ZR (wAx cm) (wBA cm)) (oL Z (br.ldCA (f:=0) eJ Z Z yf ZR (us:=[jV x93.Lo,jV x93.Hi]) Z Z) (bnK gA fun iJ dM fg=>zK 0 Z Z Z Z (zL Z Z Tryz.call100 (zD Z (zD Z (zD Z zQ))) Z) br (fun hs=>wEV x93 0 360000 dy bS hs dM) (.inr Z) ?_))
 rintro bG gZ iB dm gB eR ⟨rfl,rfl⟩
 have cC:sW w U bG [.blk b2 36 B0] dm:=eR
 refine eN (ifc fg ?_ ?_)
 intro bT fh
 refine ZG (congrArg nA bT.out) (sR fL1 Z (oA Z Z (eN (zP (zg (zN ?_))))))
 have q:=wAZ fh
 obtain ⟨gJ,fj,dz⟩:=q
 obtain rfl:=cM gJ dz
 refine zN (zg (zN ?_))
 cases fj
 exact ⟨rfl,_,(ZH rfl),bG,_,(cC.pick [] _ (by decide) rfl),rfl,rfl⟩
 intro bT fm
 refine zx (congrArg nA (nD.2 bT.out)) (Zh (zq (zG (rR fL3 Z (oM Z cd (oR Z (zZ Z Z Z) (oA Z Z (zh ?_))))))))
 obtain rfl:=nJ fm
 exact zG ⟨Z,_,Z,⟨bG,bA,Z,(bt.trans gB),cC⟩⟩
 have cN:=de;rw [if_neg aW] at cN;replace aW:=zI aW
 refine cF Z aW (ZT (zf ?_))
 have q:=wAZ cN
 obtain ⟨gK,fq,dA⟩:=q
 obtain rfl:=cM gK dA
 refine zf (ZK (zG (zH (sR fL1 Z (oA Z Z (eN (zW (yh (fun x127 σ_ w_=>∃ (U_:PHeap),σ_ 1=.pointer (some ⟨b2,0,none⟩)/\σ_ 5=jV x127/\PHeap.Le bS U_/\sW w U U_ [.blk b2 36 B0] w_) fq ?_ ?_))))))))
 exact ⟨bS,bA,Z,(zM _),br⟩
 rintro x127 iT iY dq ⟨bH,bm,bv,bF,bn⟩ cY cp
 refine zH (sR fL5 Z (oM Z bv (oR Z (zE Z bm zV Z Zr) (oL Z (bn.ldB (j:=0) Z Z Z yB (v:=.slice aY p0.Clocks.length a0) Z) (oR Z (zd Z Z Zj) (oR Z (zX Z Z Z) (eN ?_)))))))
 by_cases au:x127 < (↑p0.Clocks.length:Int)
 have cO:=cY;rw [if_pos au] at cO;replace au:=zI au
 refine cT Z au (kN (zH (zW (sR (wId (.fx 6 (wRT (.fx 14 (.fl 15 .nil) .stop)) .stop)) Z (oR Z (zE Z bm zV Z Zr) (oL Z (bn.ldB (j:=0) Z Z Z yB (v:=.slice aY p0.Clocks.length a0) Z) (oM Z bv (bnK cO fun x142 bi ft=>?_))))))))
 have dN:=ff.le bs
 have dO:=dN.le bj
 have dP:=dO.le bt
 have cA:=dP.le bF
 have q:=cA.el (fun _=>rfl) (wAS bi)
 obtain ⟨il,iu,eE,eK⟩:=q
 refine oR Z (ZC Z Z eE Z Zj yV (wAx bi) (wBA bi)) (oR Z (zE Z Z yF Z ZR) (oL Z (bn.ldCA (f:=0) eK Z Z yf ZR (us:=[jV x142.Offset.Lo,jV x142.Offset.Hi]) Z Z) (bnK ft fun iK dQ fu=>zK 0 Z Z Z Z (zL Z Z Tryz.call100 (zD Z (zD Z (zD Z zQ))) Z) bn (fun hs=>wEV x142.Offset (-36000) 36000 dq bH hs dQ) (.inr Z) ?_)))
 rintro bI g7 iC cw df eU ⟨rfl,rfl⟩
 have bB:sW w U bI [.blk b2 36 B0] cw:=eU
 refine oM Z Z (ifc fu ?_ ?_)
 intro ae fy
 refine ZF Z Z Z (zi Z Z (congrArg nA ae.out) Z) (ZF Z Z Z (zi Z Z (congrArg nA ae.out) Z) (ZF Z Z Z (zi Z Z (congrArg nA ae.out) Z) (ZF Z Z Z (zi Z Z (congrArg nA ae.out) Z) (ZF Z Z Z (zi Z Z (congrArg nA ae.out) Z) (ZF Z Z Z (zi Z Z (congrArg nA ae.out) Z) (yJ Z Z Z (zi Z Z (congrArg nA ae.out) Z) (oR Z (zl Z (congrArg nA ae.out) Z) (eN (ZG Z (sR fL1 Z (oA Z Z (eN (zP (zg (zN ?_)))))))))))))))
 have q:=wAZ fy
 obtain ⟨gL,fz,dB⟩:=q
 obtain rfl:=cp gL dB
 refine zN (zg (zN ?_))
 cases fz
 exact ⟨rfl,_,(ZH rfl),bI,_,(bB.pick [] _ (by decide) rfl),rfl,rfl⟩
 intro ae fA
 refine zk Z Z Z (zO Z Z (congrArg nA (nD.2 ae.out))) (fun _=>zE Z bm zV Z Zr) (ZI Z Z Z (zO Z Z (congrArg nA (nD.2 ae.out))) (bB.ldB (j:=0) Z Z Z yB (v:=.slice aY p0.Clocks.length a0) Z) Z (zz Z Z Z (zO Z Z (congrArg nA (nD.2 ae.out))) Z bv ?_))
 have dR:=cA.le df
 have q:=dR.el (fun _=>rfl) (wAS bi)
 obtain ⟨im,iv,eF,eL⟩:=q
 refine zk Z Z Z (zO Z Z (congrArg nA (nD.2 ae.out))) (fun _=>ZC Z Z eF Z Zj yV (wAx bi) (wBA bi)) (zk Z Z Z (zO Z Z (congrArg nA (nD.2 ae.out))) (fun _=>zE Z Z yF Z zB) (ZI Z Z Z (zO Z Z (congrArg nA (nD.2 ae.out))) (bB.ldC (f:=2) eL (v:=jV x142.Error) Z Z zF Z) Z (bnK fA fun iL dS fC=>zK 0 Z Z Z (zO Z Z (congrArg nA (nD.2 ae.out))) (zL Z Z yM (zD Z (zD Z (zD Z zQ))) Z) bB (fun hs=>wAc x142.Error 0 600 cw bI hs dS) (.inr Z) ?_)))
 rintro bJ g8 iD dr gC eV ⟨rfl,rfl⟩
 have cD:sW w U bJ [.blk b2 36 B0] dr:=eV
 refine oR Z (zt Z (congrArg nA (nD.2 ae.out)) Z) (eN (ifc fC ?_ ?_))
 intro bU fD
 refine ZG (congrArg nA bU.out) (sR fL1 Z (oA Z Z (eN (zP (zg (zN ?_))))))
 have q:=wAZ fD
 obtain ⟨gM,fE,dC⟩:=q
 obtain rfl:=cp gM dC
 refine zN (zg (zN ?_))
 cases fE
 exact ⟨rfl,_,(ZH rfl),bJ,_,(cD.pick [] _ (by decide) rfl),rfl,rfl⟩
 intro bU fG
 refine zx (congrArg nA (nD.2 bU.out)) (Zh (zq (zG (rR fL3 Z (oM Z bv (oR Z (zZ Z Z Z) (oA Z Z (zh ?_))))))))
 obtain rfl:=nJ fG
 exact zG ⟨Z,_,Z,⟨bJ,bm,Z,((bF.trans df).trans gC),cD⟩⟩
 have cP:=cY;rw [if_neg au] at cP;replace au:=zI au
 refine cF Z au (ZT (zf ?_))
 have q:=wAZ cP
 obtain ⟨gN,fJ,dD⟩:=q
 obtain rfl:=cp gN dD
 refine zf (ZK (zG (zH (sR fL1 Z (oA Z Z (eN (zW (yh (fun cr σ_ w_=>∃ (U_:PHeap),σ_ 1=.pointer (some ⟨b2,0,none⟩)/\σ_ 6=jV cr/\PHeap.Le bH U_/\sW w U U_ [.blk b2 36 B0] w_) fJ ?_ ?_))))))))
 exact ⟨bH,bm,Z,(zM _),bn⟩
 rintro cr iU iZ dt ⟨bK,bw,bZ,cq,bo⟩ cZ cK
 refine zH (sR fL5 Z (oM Z bZ (oR Z (zE Z bw zV Z yI) (oL Z (bo.ldB (j:=0) Z Z Z ya (v:=.slice aZ p0.Readings.length ba) Z) (oR Z (zd Z Z Zw) (oR Z (zX Z Z Z) (eN ?_)))))))
 by_cases av:cr < (↑p0.Readings.length:Int)
 have cQ:=cZ;rw [if_pos av] at cQ;replace av:=zI av
 refine cT Z av (kN (zH (zW (sR (wId (.fx 6 .nil .stop)) Z (oR Z (zE Z bw zV Z yI) (oL Z (bo.ldB (j:=0) Z Z Z ya (v:=.slice aZ p0.Readings.length ba) Z) (oM Z bZ (bnK cQ fun dh cf fL=>?_))))))))
 have dT:=cJ.le bs
 have dU:=dT.le bj
 have dV:=dU.le bt
 have dW:=dV.le bF
 have dX:=dW.le cq
 have q:=dX.el (fun _=>rfl) (wAS cf)
 obtain ⟨io,iw,eG,eM⟩:=q
 refine oR Z (ZC Z Z eG Z Zw yL (wAx cf) (wBA cf)) (oR Z (zE Z Z Zg Z zB) (oL Z (bo.ldC (f:=3) eM (v:=jV dh.Time) Z Z zF Z) (bnK fL fun iM dY fN=>zK 0 Z Z Z Z (zL Z Z yM (zD Z (zD Z (zD Z zQ))) Z) bo (fun hs=>wAc dh.Time 0 360000 dt bK hs dY) (.inr Z) ?_)))
 rintro bL g9 iE du gD eW ⟨rfl,rfl⟩
 have cE:sW w U bL [.blk b2 36 B0] du:=eW
 refine eN (ifc fN ?_ ?_)
 intro bV fP
 refine ZG (congrArg nA bV.out) (sR fL1 Z (oA Z Z (eN (zP (zg (zN ?_))))))
 have q:=wAZ fP
 obtain ⟨gO,fQ,dE⟩:=q
 obtain rfl:=cK gO dE
 refine zN (zg (zN ?_))
 cases fQ
 exact ⟨rfl,_,(ZH rfl),bL,_,(cE.pick [] _ (by decide) rfl),rfl,rfl⟩
 intro bV fR
 refine zx (congrArg nA (nD.2 bV.out)) (Zh (zq (zG (rR fL3 Z (oM Z bZ (oR Z (zZ Z Z Z) (oA Z Z (zh ?_))))))))
 obtain rfl:=nJ fR
 exact zG ⟨Z,_,Z,⟨bL,bw,Z,(cq.trans gD),cE⟩⟩
 have cR:=cZ;rw [if_neg av] at cR;replace av:=zI av
 refine cF Z av (ZT (zf ?_))
 have q:=wAZ cR
 obtain ⟨gP,fS,dF⟩:=q
 obtain rfl:=cK gP dF
 refine zf (ZK (zG (zH (sR fL1 Z (oA Z Z (eN (zW (yh (fun ct σ_ w_=>∃ (U_:PHeap),σ_ 1=.pointer (some ⟨b2,0,none⟩)/\σ_ 7=jV ct/\PHeap.Le bK U_/\sW w U U_ [.blk b2 36 B0] w_) fS ?_ ?_))))))))
 exact ⟨bK,bw,Z,(zM _),bo⟩
 rintro ct iV i4 ij ⟨bM,bh,b5,dg,bp⟩ da bE
 refine zH (sR fL5 Z (oM Z b5 (oR Z (zE Z bh zV Z yI) (oL Z (bp.ldB (j:=0) Z Z Z ya (v:=.slice aZ p0.Readings.length ba) Z) (oR Z (zd Z Z Zw) (oR Z (zX Z Z Z) (eN ?_)))))))
 by_cases az:ct < (↑p0.Readings.length:Int)
 have cS:=da;rw [if_pos az] at cS;replace az:=zI az
 refine cT Z az (kN (zH (zW (sR (wIc gCk) Z (oR Z (zE Z bh zV Z yI) (oL Z (bp.ldB (j:=0) Z Z Z ya (v:=.slice aZ p0.Readings.length ba) Z) (oM Z b5 (bnK cS fun ak cg fV=>?_))))))))
 have dZ:=cJ.le bs
 have d4:=dZ.le bj
 have d5:=d4.le bt
 have d6:=d5.le bF
 have d7:=d6.le cq
 have d8:=d7.le dg
 have q:=d8.el (fun _=>rfl) (wAS cg)
 obtain ⟨ip,iy,eH,eO⟩:=q
 refine oR Z (ZC Z Z eH Z Zw yL (wAx cg) (wBA cg)) (oL Z (bp.ldCA (f:=0) eO Z Z Tryz.isAgg117 yL (us:=[jV ak.Skier,jV ak.Mat,jV ak.Clock,jV ak.Time]) Z Z) (ze (cs:=[jV 0,jV 0,jV 0,jV 0]) Z Z Z Z Z Tryz.zeroValue117 Z bp ?_))
 intro ik bu eX
 let B1:List Value:=[jV ak.Skier,jV ak.Mat,jV ak.Clock,jV ak.Time]
 refine zm (j:=0) (vs:=B1) Z Z Z Z eX Z Z Z Z yL (zA Z) Z Z Z ?_
 intro cx eY
 have cn:sW w U bM [.blk bu 117 B1,.blk b2 36 B0] cx:=eY
 refine eN (sR (wId (.fx 6 (wPp (.fx 13 (wTB (.fx 22 (.fl 23 .nil) .stop)) .stop)) .stop)) Z (oR Z (zE Z Z Zg Z zB) (oL Z (cn.ldB (j:=0) Z Z Z zF (v:=jV ak.Skier) Z) (oR Z (zE Z bh zV Z zS) (oL Z (cn.ldB (j:=1) Z Z Z zY (v:=.slice bd p0.Starts.length bf) Z) (oR Z (zd Z Z zC) (oR Z (yg Z Z Z) (bnK fV fun iN d9 fW=>zK 0 Z Z Z Z (zL Z Z yM (zD Z (zD Z (zD Z zQ))) Z) cn (fun hs=>wAc ak.Skier 0 (w64 ((↑p0.Starts.length:Int) - 1)) cx bM hs d9) (.inr Z) ?_))))))))
 rintro bN ib iF cy gF eZ ⟨rfl,rfl⟩
 have bC:sW w U bN [.blk bu 117 B1,.blk b2 36 B0] cy:=eZ
 refine oM Z Z (ifc fW ?_ ?_)
 intro aj fY
 refine ZF Z Z Z (zi Z Z (congrArg nA aj.out) Z) (ZF Z Z Z (zi Z Z (congrArg nA aj.out) Z) (ZF Z Z Z (zi Z Z (congrArg nA aj.out) Z) (ZF Z Z Z (zi Z Z (congrArg nA aj.out) Z) (ZF Z Z Z (zi Z Z (congrArg nA aj.out) Z) (yJ Z Z Z (zi Z Z (congrArg nA aj.out) Z) (oR Z (zl Z (congrArg nA aj.out) Z) (oM Z Z (oN Z (oN Z (oN Z (oN Z (oN Z (oN Z (yJ Z Z Z (zi Z Z Z Z) (oR Z (zl Z Z Z) (eN (ZG Z (sR fL1 Z (oA Z Z (eN (zP (zg (zN ?_)))))))))))))))))))))))
 have q:=wAZ fY
 obtain ⟨gQ,fZ,dG⟩:=q
 obtain rfl:=bE gQ dG
 refine zN (zg (zN ?_))
 cases fZ
 exact ⟨rfl,_,(ZH rfl),bN,_,(bC.pick [] _ (by decide) rfl),rfl,rfl⟩
 intro aj ga
 refine zk Z Z Z (zO Z Z (congrArg nA (nD.2 aj.out))) (fun _=>zE Z Z Zg Z zB) (ZI Z Z Z (zO Z Z (congrArg nA (nD.2 aj.out))) (bC.ldB (j:=0) Z Z Z zF (v:=jV ak.Mat) Z) Z (zk Z Z Z (zO Z Z (congrArg nA (nD.2 aj.out))) (fun _=>zE Z bh zV Z Zd) (ZI Z Z Z (zO Z Z (congrArg nA (nD.2 aj.out))) (bC.ldB (j:=1) Z Z Z Zi (v:=.slice be p0.Splits.length bg) Z) Z (zk Z Z Z (zO Z Z (congrArg nA (nD.2 aj.out))) (fun _=>zd Z Z zr) (bnK ga fun iO ef gb=>zK 0 Z Z Z (zO Z Z (congrArg nA (nD.2 aj.out))) (zL Z Z yM (zD Z (zD Z (zD Z zQ))) Z) bC (fun hs=>wAc ak.Mat 0 (↑p0.Splits.length:Int) cy bN hs ef) (.inr Z) ?_)))))
 rintro bO ic iG cz gG e8 ⟨rfl,rfl⟩
 have bD:sW w U bO [.blk bu 117 B1,.blk b2 36 B0] cz:=e8
 refine oR Z (zt Z (congrArg nA (nD.2 aj.out)) Z) (oM Z Z (ifc gb ?_ ?_))
 intro ah ge
 refine ZF Z Z Z (zi Z Z (congrArg nA ah.out) Z) (ZF Z Z Z (zi Z Z (congrArg nA ah.out) Z) (ZF Z Z Z (zi Z Z (congrArg nA ah.out) Z) (ZF Z Z Z (zi Z Z (congrArg nA ah.out) Z) (ZF Z Z Z (zi Z Z (congrArg nA ah.out) Z) (ZF Z Z Z (zi Z Z (congrArg nA ah.out) Z) (yJ Z Z Z (zi Z Z (congrArg nA ah.out) Z) (oR Z (zl Z (congrArg nA ah.out) Z) (eN (ZG Z (sR fL1 Z (oA Z Z (eN (zP (zg (zN ?_)))))))))))))))
 have q:=wAZ ge
 obtain ⟨gR,gf,dH⟩:=q
 obtain rfl:=bE gR dH
 refine zN (zg (zN ?_))
 cases gf
 exact ⟨rfl,_,(ZH rfl),bO,_,(bD.pick [] _ (by decide) rfl),rfl,rfl⟩
 intro ah gg
 refine zk Z Z Z (zO Z Z (congrArg nA (nD.2 ah.out))) (fun _=>zE Z Z Zg Z zB) (ZI Z Z Z (zO Z Z (congrArg nA (nD.2 ah.out))) (bD.ldB (j:=0) Z Z Z zF (v:=jV ak.Clock) Z) Z (zk Z Z Z (zO Z Z (congrArg nA (nD.2 ah.out))) (fun _=>zE Z bh zV Z Zr) (ZI Z Z Z (zO Z Z (congrArg nA (nD.2 ah.out))) (bD.ldB (j:=1) Z Z Z yB (v:=.slice aY p0.Clocks.length a0) Z) Z (zk Z Z Z (zO Z Z (congrArg nA (nD.2 ah.out))) (fun _=>zd Z Z Zj) (zk Z Z Z (zO Z Z (congrArg nA (nD.2 ah.out))) (fun _=>yg Z Z Z) (bnK gg fun iP eg gh=>zK 0 Z Z Z (zO Z Z (congrArg nA (nD.2 ah.out))) (zL Z Z yM (zD Z (zD Z (zD Z zQ))) Z) bD (fun hs=>wAc ak.Clock 0 (w64 ((↑p0.Clocks.length:Int) - 1)) cz bO hs eg) (.inr Z) ?_))))))
 rintro bP ie iH dw gH e9 ⟨rfl,rfl⟩
 have cH:sW w U bP [.blk bu 117 B1,.blk b2 36 B0] dw:=e9
 refine oR Z (zt Z (congrArg nA (nD.2 ah.out)) Z) (eN (ifc gh ?_ ?_))
 intro bX gi
 refine ZG (congrArg nA bX.out) (sR fL1 Z (oA Z Z (eN (zP (zg (zN ?_))))))
 have q:=wAZ gi
 obtain ⟨gS,gj,dI⟩:=q
 obtain rfl:=bE gS dI
 refine zN (zg (zN ?_))
 cases gj
 exact ⟨rfl,_,(ZH rfl),bP,_,(cH.pick [] _ (by decide) rfl),rfl,rfl⟩
 intro bX gm
 refine zx (congrArg nA (nD.2 bX.out)) (Zh (zq (zG (rR fL3 Z (oM Z b5 (oR Z (zZ Z Z Z) (oA Z Z (zh ?_))))))))
 obtain rfl:=nJ gm
 exact zG ⟨rfl,_,rfl,⟨bP,bh,rfl,(((dg.trans gF).trans gG).trans gH),(cH.pick [1] _ (by decide) rfl)⟩⟩
 have cU:=da;rw [if_neg az] at cU;replace az:=zI az
 refine cF Z az (ZT (zf ?_))
 have q:=wAZ cU
 obtain ⟨gU,gq,dJ⟩:=q
 obtain rfl:=bE gU dJ
 refine zf (ZK (zG (sR fL1 Z (oA Z Z (eN (zP ?_))))))
 cases gq
 exact ⟨rfl,_,(ZH rfl),bM,_,(bp.pick [] _ (by decide) rfl),rfl,rfl⟩
theorem wEW (p0:wAK) (ai:Option Addr) (ak:Nat) (aj:Option Addr) (am:Nat) (az:Option Addr) (aW:Nat) (aV:Option Addr) (aX:Nat) (p1:wAW) (w:World) (U:PHeap) (hS:St0 w U []) (bs:Sl U 1 ai ak p0.Starts.length (hH KL.encI p0.Starts)) (bt:Sl U 2 aj am p0.Splits.length (hH wAB p0.Splits)) (bu:Sl U 3 az aW p0.Clocks.length (hH wAG p0.Clocks)) (bv:Sl U 4 aV aX p0.Readings.length (hH wAF p0.Readings)) {r:Bool} (hm:wBj p0 p1=some r):Gv Tryz.prog 110 [.agg #[.slice ai p0.Starts.length ak,.slice aj p0.Splits.length am,.slice az p0.Clocks.length aW,.slice aV p0.Readings.length aX],.agg #[jV p1.Skier,jV p1.Mat]] w (wCp w [] U (fun U_ L_ v=>v=.bool r/\L_=[])):=by
 unfold wBj at hm
 refine Gv.of Tryz.func110 Z Tryz.ntmps110 Tryz.results110 Z (sR (.fx 0 gCf .stop) Z ?_)
 let B0:List Value:=[.slice ai p0.Starts.length ak,.slice aj p0.Splits.length am,.slice az p0.Clocks.length aW,.slice aV p0.Readings.length aX]
 refine ZE (cs:=B0) rfl rfl rfl rfl rfl rfl (by rfl) hS ?_
 intro W1 b2 bh
 let B1:List Value:=[jV p1.Skier,jV p1.Mat]
 refine ZE (cs:=B1) rfl rfl rfl rfl rfl rfl (by rfl) bh ?_
 intro W5 b6 av
 refine oA Z Z (eN (sR (wId (.fx 6 (wPp (.fx 13 (.fl 14 (.fl 15 .nil)) .stop)) .stop)) Z (oR Z (zE Z Z Tryz.runUnderlying44 Z zB) (oL Z (av.ldB (j:=0) Z Z Z zF (v:=jV p1.Skier) Z) (oR Z (zE Z Z zV Z zS) (oL Z (av.ldB (j:=1) Z Z Z zY (v:=.slice ai p0.Starts.length ak) Z) (oR Z (zd Z Z zC) (oR Z (yg Z Z Z) (bnK hm fun x9 be bk=>zK 0 Z Z Z Z (zL Z Z yM (zD Z (zD Z (zD Z zQ))) Z) av (fun hs=>wAc p1.Skier 0 (w64 ((↑p0.Starts.length:Int) - 1)) W5 U hs be) (.inr Z) ?_)))))))))
 rintro au bp bA aZ bw bg ⟨rfl,rfl⟩
 have ah:sW w U au [.blk b6 44 B1,.blk b2 36 B0] aZ:=bg
 refine oM Z Z (ifc bk ?_ ?_)
 intro ab bm
 refine ZF Z Z Z (zi Z Z (congrArg nA ab.out) Z) (ZF Z Z Z (zi Z Z (congrArg nA ab.out) Z) (ZF Z Z Z (zi Z Z (congrArg nA ab.out) Z) (ZF Z Z Z (zi Z Z (congrArg nA ab.out) Z) (ZF Z Z Z (zi Z Z (congrArg nA ab.out) Z) (yJ Z Z Z (zi Z Z (congrArg nA ab.out) Z) (oR Z (zl Z (congrArg nA ab.out) Z) (oA Z Z (eN (zP ?_)))))))))
 have hE:=nJ bm;first | subst r | cases hE
 exact ⟨rfl,_,(ZH rfl),au,_,(ah.pick [] _ (by decide) rfl),rfl,rfl⟩
 intro ab bn
 refine zk Z Z Z (zO Z Z (congrArg nA (nD.2 ab.out))) (fun _=>zE Z Z Tryz.runUnderlying44 Z zB) (ZI Z Z Z (zO Z Z (congrArg nA (nD.2 ab.out))) (ah.ldB (j:=0) Z Z Z zF (v:=jV p1.Mat) Z) Z (zk Z Z Z (zO Z Z (congrArg nA (nD.2 ab.out))) (fun _=>zE Z Z zV Z Zd) (ZI Z Z Z (zO Z Z (congrArg nA (nD.2 ab.out))) (ah.ldB (j:=1) Z Z Z Zi (v:=.slice aj p0.Splits.length am) Z) Z (zk Z Z Z (zO Z Z (congrArg nA (nD.2 ab.out))) (fun _=>zd Z Z zr) (bnK bn fun x22 bf bo=>zK 0 Z Z Z (zO Z Z (congrArg nA (nD.2 ab.out))) (zL Z Z yM (zD Z (zD Z (zD Z zQ))) Z) ah (fun hs=>wAc p1.Mat 0 (↑p0.Splits.length:Int) aZ au hs bf) (.inr Z) ?_)))))
 rintro aY bq bB bb bz bi ⟨rfl,rfl⟩
 have bj:sW w U aY [.blk b6 44 B1,.blk b2 36 B0] bb:=bi
 refine oR Z (zt Z (congrArg nA (nD.2 ab.out)) Z) (oA Z Z (eN (zP ?_)))
 have hE:=nJ bo;first | subst r | cases hE
 exact ⟨rfl,_,(ZH rfl),aY,_,(bj.pick [] _ (by decide) rfl),rfl,rfl⟩
end Go.Proofs.YtlnfbjphfoipaaaGreat
namespace Go.Proofs.YtlnfbjphfoipaaaGreat
open Go.KL
set_option maxHeartbeats 4000000
theorem wAo (p0:wAK) (ah:Option Addr) (ak:Nat) (ab:Option Addr) (ae:Nat) (ai:Option Addr) (am:Nat) (aj:Option Addr) (ap:Nat) (p1:Int) (p2:Int) (w:World) (U:PHeap) (hS:St0 w U []) (aW:Sl U 1 ah ak p0.Starts.length (hH KL.encI p0.Starts)) (aX:Sl U 2 ab ae p0.Splits.length (hH wAB p0.Splits)) (aY:Sl U 3 ai am p0.Clocks.length (hH wAG p0.Clocks)) (aZ:Sl U 4 aj ap p0.Readings.length (hH wAF p0.Readings)) {r:Int} (hm:wAO p0 p1 p2=some r):Gv Tryz.prog 68 [.agg #[.slice ah p0.Starts.length ak,.slice ab p0.Splits.length ae,.slice ai p0.Clocks.length am,.slice aj p0.Readings.length ap],jV p1,jV p2] w (wCp w [] U (fun U_ L_ v=>v=jV r/\L_=[])):=by
 unfold wAO at hm
 refine Gv.of Tryz.func68 rfl Tryz.ntmps68 Tryz.results68 rfl (sR gCj rfl (ZE (cs:=[.slice ah p0.Starts.length ak,.slice ab p0.Splits.length ae,.slice ai p0.Clocks.length am,.slice aj p0.Readings.length ap]) rfl rfl rfl rfl rfl rfl (by rfl) hS ?_))
 intro W1 b2 aq
 refine oA Z Z (eN (sR fL10 Z (oM Z Z (oR Z (zE Z Z zV Z Zd) (oL Z (aq.ldB (j:=0) Z Z Z Zi (v:=.slice ab p0.Splits.length ae) Z) (oR Z (zd Z Z zr) (oR Z (zZ Z Z Z) (oR Z (Runs.mulw Z Z Z) (oR Z (zZ Z Z Z) (oM Z Z (oR Z (zZ Z Z Z) (oA Z Z (eN (zP ?_))))))))))))))
 cases hm
 exact ⟨rfl,_,(ZH rfl),U,_,(aq.pick [] _ (by decide) rfl),rfl,rfl⟩
theorem wDF (p0:wAK) (ab:Option Addr) (ae:Nat) (ah:Option Addr) (ak:Nat) (ai:Option Addr) (am:Nat) (aj:Option Addr) (ap:Nat) (p1:Int) (w:World) (U:PHeap) (hS:St0 w U []) (ba:Sl U 1 ab ae p0.Starts.length (hH KL.encI p0.Starts)) (bb:Sl U 2 ah ak p0.Splits.length (hH wAB p0.Splits)) (bd:Sl U 3 ai am p0.Clocks.length (hH wAG p0.Clocks)) (be:Sl U 4 aj ap p0.Readings.length (hH wAF p0.Readings)) {r:Int} (hm:wAh p0 p1=some r):Gv Tryz.prog 73 [.agg #[.slice ab p0.Starts.length ae,.slice ah p0.Splits.length ak,.slice ai p0.Clocks.length am,.slice aj p0.Readings.length ap],jV p1] w (wCp w [] U (fun U_ L_ v=>v=jV r/\L_=[])):=by
 unfold wAh at hm
 refine Gv.of Tryz.func73 Z Tryz.ntmps73 Tryz.results73 Z (sR gCj Z ?_)
 let B0:List Value:=[.slice ab p0.Starts.length ae,.slice ah p0.Splits.length ak,.slice ai p0.Clocks.length am,.slice aj p0.Readings.length ap]
 refine ZE (cs:=B0) rfl rfl rfl rfl rfl rfl (by rfl) hS ?_
 intro W1 b2 au
 refine oA Z Z (eN (sR (wEZ (.fx 4 (wPo (.nil)) .stop)) Z (oL Z (au.ldBA (j:=0) Z Z Z ZY ZN (vs:=B0) Z Z) (oR Z (zE Z Z zV Z zS) (oL Z (au.ldB (j:=0) Z Z Z zY (v:=.slice ab p0.Starts.length ae) Z) (oR Z (zd Z Z zC) (bnK hm fun x5 h6 bf=>zK 0 Z Z Z Z (zL Z Z yn (zD Z (zD Z (zD Z zQ))) Z) au (fun hs=>wAo p0 ab ae ah ak ai am aj ap (↑p0.Starts.length:Int) 0 W1 U hs ba bb bd be h6) (.inr Z) ?_)))))))
 rintro U8 L9 bi aW bh aZ ⟨rfl,rfl⟩
 have a0:sW w U U8 [.blk b2 36 B0] aW:=aZ
 refine oM Z Z (oR Z (zZ Z Z Z) (oA Z Z (eN (zP ?_))))
 cases bf
 exact ⟨rfl,_,(ZH rfl),U8,_,(a0.pick [] _ (by decide) rfl),rfl,rfl⟩
theorem wFT (p0:wAK) (ah:Option Addr) (ak:Nat) (ai:Option Addr) (am:Nat) (ab:Option Addr) (ae:Nat) (aj:Option Addr) (ap:Nat) (w:World) (U:PHeap) (hS:St0 w U []) (a0:Sl U 1 ah ak p0.Starts.length (hH KL.encI p0.Starts)) (ba:Sl U 2 ai am p0.Splits.length (hH wAB p0.Splits)) (bb:Sl U 3 ab ae p0.Clocks.length (hH wAG p0.Clocks)) (bd:Sl U 4 aj ap p0.Readings.length (hH wAF p0.Readings)) {r:Int} (hm:wBV p0=some r):Gv Tryz.prog 120 [.agg #[.slice ah p0.Starts.length ak,.slice ai p0.Splits.length am,.slice ab p0.Clocks.length ae,.slice aj p0.Readings.length ap]] w (wCp w [] U (fun U_ L_ v=>v=jV r/\L_=[])):=by
 unfold wBV at hm
 refine Gv.of Tryz.func120 Z Tryz.ntmps120 Tryz.results120 Z (sR gCj Z ?_)
 let B0:List Value:=[.slice ah p0.Starts.length ak,.slice ai p0.Splits.length am,.slice ab p0.Clocks.length ae,.slice aj p0.Readings.length ap]
 refine ZE (cs:=B0) rfl rfl rfl rfl rfl rfl (by rfl) hS ?_
 intro W1 b2 au
 refine oA Z Z (eN (sR (wEZ (.fx 4 (.fl 5 .nil) .stop)) Z (oL Z (au.ldBA (j:=0) Z Z Z ZY ZN (vs:=B0) Z Z) (oR Z (zE Z Z zV Z Zr) (oL Z (au.ldB (j:=0) Z Z Z yB (v:=.slice ab p0.Clocks.length ae) Z) (oR Z (zd Z Z Zj) (bnK hm fun x5 h6 be=>zK 0 Z Z Z Z (zL Z Z Tryz.call73 (zD Z (zD Z zQ)) Z) au (fun hs=>wDF p0 ah ak ai am ab ae aj ap (↑p0.Clocks.length:Int) W1 U hs a0 ba bb bd h6) (.inr Z) ?_)))))))
 rintro U8 L9 bh aV bg aY ⟨rfl,rfl⟩
 have aZ:sW w U U8 [.blk b2 36 B0] aV:=aY
 refine oA Z Z (eN (zP ?_))
 have hE:=nJ be;first | subst r | cases hE
 exact ⟨rfl,_,(ZH rfl),U8,_,(aZ.pick [] _ (by decide) rfl),rfl,rfl⟩
theorem wBd (p0:wAR) (ak:Option Addr) (am:Nat) (ah:List Hd) (p1:Int) (p2:Int) (p3:Int) (p4:Int) (w:World) (U:PHeap) (hS:St0 w U [.row ak am 22 1 (hH wDO ah),inn 3 1 KL.encI ah p0.t])  {r:(List (List Int))} (hm:wAL p0 p1 p2 p3 p4=some r):Gv Tryz.prog 121 [.agg #[.slice ak p0.t.length am],jV p1,jV p2,jV p3,jV p4] w (wCp w [.row ak am 22 1 (hH wDO ah),inn 3 1 KL.encI ah p0.t] U (fun U_ L_ v=>v=.tuple #[]/\L_=[.row ak am 22 1 (hH wDO ah),inn 3 1 KL.encI ah r])):=by
 unfold wAL at hm
 refine Gv.of Tryz.func121 Z Tryz.ntmps121 Tryz.results121 Z (sR (.fx 0 .nil .stop) Z ?_)
 let B0:List Value:=[.slice ak p0.t.length am]
 refine ZE (cs:=B0) rfl rfl rfl rfl rfl rfl (by rfl) hS ?_
 intro W3 b4 bE
 refine eN (zH (ZD zy [3,1,3,3,1,3,3,1,3,3,1,3,3,1,3,3,3,0] (wRQ (.fx 17 .nil .stop)) (by kernel_rfl) ?_))
 have aV:=bE.drew
 generalize hw_W8:({ W3 with drawn:=W3.drawn + 1 }:World)=W8 at aV ⊢
 refine oR Z (zE Z Z Tryz.runUnderlying188 Z Tryz.sizeOf49) (oL Z (aV.ldB (j:=0) Z Z Z Tryz.isAgg49 (v:=.slice ak p0.t.length am) Z) (oM Z Z (bnK hm fun _ h9 bU=>?_)))
 obtain ⟨cf,av⟩:=aV.rowSome (j:=1) rfl (by rw [wAI (f:=wDO) (sz:=1) (fun _=>rfl),(aV.innFit (j:=2) rfl).len];have hz:=wAN h9;omega)
 refine oR Z (ZC Z Z av Z zR zS (wBo h9) (wBp h9)) ?_
 have bp:=aV.innFit (j:=2) rfl
 have bM:=wBK (xs:=ah) (k:=p1.toNat) (by rw [bp.len];exact (wAN h9))
 have bZ:nL (gd ah p1.toNat).A (gd ah p1.toNat).n (gd ah p1.toNat).c=.slice ((gd ah p1.toNat).A) ((gd p0.t p1.toNat).length) ((gd ah p1.toNat).c):=by rw [bp.at_ (k:=p1.toNat) (wAN h9)]
 refine ZI rfl rfl rfl rfl (ym (aV.ldR (j:=1) rfl av rfl rfl zY (wAT (sz:=1) (fun _=>rfl) _ _ 0 _ bM (by first | omega | rfl | simp) rfl)) bZ) rfl ?_
 let B1:Res:=.row ak am 22 1 (hH wDO ah)
 have bv:SW w [B1,inn 3 1 KL.encI ah p0.t] U U [inn 3 1 KL.encI ah p0.t,.blk b4 188 B0,B1] W8:=aV.pick [2,0,1] _ (by decide) rfl
 have bw:=bv.innTake (k:=p1.toNat) (wAN h9)
 have aZ:SW w [B1,inn 3 1 KL.encI ah p0.t] U U [.row ((gd ah p1.toNat).A) ((gd ah p1.toNat).c) 3 1 (hH KL.encI (gd p0.t p1.toNat)),wIe 3 1 KL.encI ah p0.t p1.toNat,.blk b4 188 B0,B1] W8:=bw
 refine oM Z Z (oR Z (zE Z Z Tryz.runUnderlying188 Z Tryz.sizeOf49) (oL Z (aZ.ldB (j:=2) Z Z Z Tryz.isAgg49 (v:=.slice ak p0.t.length am) Z) (oM Z Z (oR Z (ZC Z Z av Z zR zS (wBo h9) (wBp h9)) ?_))))
 have q:=aZ.innHFit (j:=1) rfl
 obtain ⟨bq,bs⟩:=q
 have bN:=wBK (xs:=ah) (k:=p1.toNat) (by rw [bq.len];exact bs)
 have b5:nL (gd ah p1.toNat).A (gd ah p1.toNat).n (gd ah p1.toNat).c=.slice ((gd ah p1.toNat).A) ((gd p0.t p1.toNat).length) ((gd ah p1.toNat).c):=congrArg (fun n_=>nL (gd ah p1.toNat).A n_ (gd ah p1.toNat).c) ((bq.at_ (k:=p1.toNat) bs).trans (Eq.symm rfl))
 refine ZI rfl rfl rfl rfl (ym (aZ.ldR (j:=3) rfl av rfl rfl zY (wAT (sz:=1) (fun _=>rfl) _ _ 0 _ bN (by first | omega | rfl | simp) rfl)) b5) rfl (zz rfl rfl rfl rfl rfl rfl (bnK bU fun _ ap bV=>?_))
 obtain ⟨cg,bb⟩:=aZ.rowSome (j:=0) rfl (by rw [wAI (f:=KL.encI) (sz:=1) (fun _=>rfl) (gd p0.t p1.toNat)];have hz:=wAN ap;omega)
 refine oR Z (ZC Z Z bb Z zC zB (wBo ap) (wBp ap)) ?_
 have bO:=wBK (xs:=(gd p0.t p1.toNat)) (wAN ap)
 refine ZI rfl rfl rfl rfl (aZ.ldR (j:=0) rfl bb rfl rfl zF (wAT (sz:=1) (fun _=>rfl) _ _ 0 _ bO (by first | omega | rfl | simp) rfl)) rfl (zz rfl rfl rfl rfl rfl rfl (zk rfl rfl rfl rfl (fun _=>Runs.min rfl rfl rfl) (zk rfl rfl rfl rfl (fun _=>ZC rfl rfl bb rfl zC zB (wBo ap) (wBp ap)) ?_)))
 have bP:=wBK (xs:=(gd p0.t p1.toNat)) (wAN ap)
 refine ye (j:=0) (vs:=[jV (min (gd (gd p0.t p1.toNat) p2.toNat) p3)]) (cs':=hH KL.encI (nB (gd p0.t p1.toNat) p2.toNat (min (gd (gd p0.t p1.toNat) p2.toNat) p3))) rfl rfl rfl rfl aZ rfl bb rfl rfl rfl zB (by rw [wAI (f:=KL.encI) (sz:=1) (fun _=>rfl)];have hz:=wAN ap;show _ + 1 <= _;first | omega | (simp only [nI];omega) | (simp only [nH,nE,nG];omega)) rfl (wCv (sz:=1) (fo:=0) (fun _=>rfl) _ _ _ _ bP (by first | omega | (simp only [nI];omega) | (simp only [nH,nE,nG];omega)) (zA rfl) rfl) rfl ?_
 intro be bz
 have bA:SW w [B1,inn 3 1 KL.encI ah p0.t] U U [.row ((gd ah p1.toNat).A) ((gd ah p1.toNat).c) 3 1 (hH KL.encI (nB (gd p0.t p1.toNat) p2.toNat (min (gd (gd p0.t p1.toNat) p2.toNat) p3))),wIe 3 1 KL.encI ah p0.t p1.toNat,.blk b4 188 B0,B1] be:=bz
 refine eN (ZD zy [3,1,3,3,1,3,3,1,3,3,1,3,3,1,3,3,3,0] (wRQ (.fx 17 .nil .stop)) (by kernel_rfl) ?_)
 have ba:=bA.drew
 generalize hw_W34:({ be with drawn:=be.drawn + 1 }:World)=bf at ba ⊢
 refine oR Z (zE Z Z Tryz.runUnderlying188 Z Tryz.sizeOf49) (oL Z (ba.ldB (j:=2) Z Z Z Tryz.isAgg49 (v:=.slice ak p0.t.length am) Z) (oM Z Z (bnK bV fun _ bh bW=>oR Z (ZC Z Z av Z zR zS (wBo bh) (wBp bh)) ?_)))
 have bK:=(ba.innHFit (j:=1) rfl).1
 have q:=ba.innHFit (j:=1) rfl
 obtain ⟨bL,bt⟩:=q
 have bt:(nB (gd p0.t p1.toNat) p2.toNat (min (gd (gd p0.t p1.toNat) p2.toNat) p3)).length=(gd ah p1.toNat).n:=nM nK (bL.at_ (k:=p1.toNat) bt).symm
 have bB:=ba.innBack nK
 have bC:SW w [B1,inn 3 1 KL.encI ah p0.t] U U [inn 3 1 KL.encI ah (nB p0.t p1.toNat (nB (gd p0.t p1.toNat) p2.toNat (min (gd (gd p0.t p1.toNat) p2.toNat) p3))),.blk b4 188 B0,B1] bf:=bB
 let B2:Res:=.blk b4 188 [.slice ak ((nB p0.t p1.toNat (nB (gd p0.t p1.toNat) p2.toNat (min (gd (gd p0.t p1.toNat) p2.toNat) p3))).length) am]
 have bi:SW w [B1,inn 3 1 KL.encI ah p0.t] U U [inn 3 1 KL.encI ah (nB p0.t p1.toNat (nB (gd p0.t p1.toNat) p2.toNat (min (gd (gd p0.t p1.toNat) p2.toNat) p3))),B2,B1] bf:=by simpa only [B0,B1,B2,nK] using bC
 have bj:=bi.innFit (j:=0) rfl
 have bk:p2.toNat < (nB p0.t p1.toNat (nB (gd p0.t p1.toNat) p2.toNat (min (gd (gd p0.t p1.toNat) p2.toNat) p3))).length:=nP (wAN bh) (bK.len.symm.trans bj.len)
 have bQ:=wBK (xs:=ah) (k:=p2.toNat) (by rw [bj.len];exact bk)
 have cb:nL (gd ah p2.toNat).A (gd ah p2.toNat).n (gd ah p2.toNat).c=.slice ((gd ah p2.toNat).A) ((gd (nB p0.t p1.toNat (nB (gd p0.t p1.toNat) p2.toNat (min (gd (gd p0.t p1.toNat) p2.toNat) p3))) p2.toNat).length) ((gd ah p2.toNat).c):=by rw [bj.at_ (k:=p2.toNat) bk]
 refine ZI rfl rfl rfl rfl (ym (bi.ldR (j:=2) rfl av rfl rfl zY (wAT (sz:=1) (fun _=>rfl) _ _ 0 _ bQ (by first | omega | rfl | simp) rfl)) cb) rfl ?_
 have bD:=bi.innTake (k:=p2.toNat) bk
 have a0:SW w [B1,inn 3 1 KL.encI ah p0.t] U U [.row ((gd ah p2.toNat).A) ((gd ah p2.toNat).c) 3 1 (hH KL.encI (gd (nB p0.t p1.toNat (nB (gd p0.t p1.toNat) p2.toNat (min (gd (gd p0.t p1.toNat) p2.toNat) p3))) p2.toNat)),wIe 3 1 KL.encI ah (nB p0.t p1.toNat (nB (gd p0.t p1.toNat) p2.toNat (min (gd (gd p0.t p1.toNat) p2.toNat) p3))) p2.toNat,B2,B1] bf:=bD
 refine oM Z Z (oR Z (zE Z Z Tryz.runUnderlying188 Z Tryz.sizeOf49) (oL Z (a0.ldB (j:=2) Z Z Z Tryz.isAgg49 (v:=.slice ak ((nB p0.t p1.toNat (nB (gd p0.t p1.toNat) p2.toNat (min (gd (gd p0.t p1.toNat) p2.toNat) p3))).length) am) Z) (oM Z Z (bnK bW fun _ bo bX=>oR Z (ZC Z Z av Z zR zS (wBo bo) (wBp bo)) ?_))))
 have q:=a0.innHFit (j:=1) rfl
 obtain ⟨br,bu⟩:=q
 have bR:=wBK (xs:=ah) (k:=p2.toNat) (by rw [br.len];exact bu)
 have cd:nL (gd ah p2.toNat).A (gd ah p2.toNat).n (gd ah p2.toNat).c=.slice ((gd ah p2.toNat).A) ((gd (nB p0.t p1.toNat (nB (gd p0.t p1.toNat) p2.toNat (min (gd (gd p0.t p1.toNat) p2.toNat) p3))) p2.toNat).length) ((gd ah p2.toNat).c):=congrArg (fun n_=>nL (gd ah p2.toNat).A n_ (gd ah p2.toNat).c) ((br.at_ (k:=p2.toNat) bu).trans (Eq.symm rfl))
 refine ZI rfl rfl rfl rfl (ym (a0.ldR (j:=3) rfl av rfl rfl zY (wAT (sz:=1) (fun _=>rfl) _ _ 0 _ bR (by first | omega | rfl | simp) rfl)) cd) rfl (zz rfl rfl rfl rfl rfl rfl (bnK bX fun _ aq bY=>?_))
 obtain ⟨cj,bd⟩:=a0.rowSome (j:=0) rfl (by rw [wAI (f:=KL.encI) (sz:=1) (fun _=>rfl) (gd (nB p0.t p1.toNat (nB (gd p0.t p1.toNat) p2.toNat (min (gd (gd p0.t p1.toNat) p2.toNat) p3))) p2.toNat)];have hz:=wAN aq;omega)
 refine oR Z (ZC Z Z bd Z zC zB (wBo aq) (wBp aq)) ?_
 have bS:=wBK (xs:=(gd (nB p0.t p1.toNat (nB (gd p0.t p1.toNat) p2.toNat (min (gd (gd p0.t p1.toNat) p2.toNat) p3))) p2.toNat)) (wAN aq)
 refine ZI rfl rfl rfl rfl (a0.ldR (j:=0) rfl bd rfl rfl zF (wAT (sz:=1) (fun _=>rfl) _ _ 0 _ bS (by first | omega | rfl | simp) rfl)) rfl (zz rfl rfl rfl rfl rfl rfl (zk rfl rfl rfl rfl (fun _=>Runs.min rfl rfl rfl) (zk rfl rfl rfl rfl (fun _=>ZC rfl rfl bd rfl zC zB (wBo aq) (wBp aq)) ?_)))
 have bT:=wBK (xs:=(gd (nB p0.t p1.toNat (nB (gd p0.t p1.toNat) p2.toNat (min (gd (gd p0.t p1.toNat) p2.toNat) p3))) p2.toNat)) (wAN aq)
 refine ye (j:=0) (vs:=[jV (min (gd (gd (nB p0.t p1.toNat (nB (gd p0.t p1.toNat) p2.toNat (min (gd (gd p0.t p1.toNat) p2.toNat) p3))) p2.toNat) p1.toNat) p4)]) (cs':=hH KL.encI (nB (gd (nB p0.t p1.toNat (nB (gd p0.t p1.toNat) p2.toNat (min (gd (gd p0.t p1.toNat) p2.toNat) p3))) p2.toNat) p1.toNat (min (gd (gd (nB p0.t p1.toNat (nB (gd p0.t p1.toNat) p2.toNat (min (gd (gd p0.t p1.toNat) p2.toNat) p3))) p2.toNat) p1.toNat) p4))) rfl rfl rfl rfl a0 rfl bd rfl rfl rfl zB (by rw [wAI (f:=KL.encI) (sz:=1) (fun _=>rfl)];have hz:=wAN aq;show _ + 1 <= _;first | omega | (simp only [nI];omega) | (simp only [nH,nE,nG];omega)) rfl (wCv (sz:=1) (fo:=0) (fun _=>rfl) _ _ _ _ bT (by first | omega | (simp only [nI];omega) | (simp only [nH,nE,nG];omega)) (zA rfl) rfl) rfl ?_
 intro bg bF
 have bG:SW w [B1,inn 3 1 KL.encI ah p0.t] U U [.row ((gd ah p2.toNat).A) ((gd ah p2.toNat).c) 3 1 (hH KL.encI (nB (gd (nB p0.t p1.toNat (nB (gd p0.t p1.toNat) p2.toNat (min (gd (gd p0.t p1.toNat) p2.toNat) p3))) p2.toNat) p1.toNat (min (gd (gd (nB p0.t p1.toNat (nB (gd p0.t p1.toNat) p2.toNat (min (gd (gd p0.t p1.toNat) p2.toNat) p3))) p2.toNat) p1.toNat) p4))),wIe 3 1 KL.encI ah (nB p0.t p1.toNat (nB (gd p0.t p1.toNat) p2.toNat (min (gd (gd p0.t p1.toNat) p2.toNat) p3))) p2.toNat,B2,B1] bg:=bF
 refine zh ?_
 have bH:=bG.innBack nK
 have bI:SW w [B1,inn 3 1 KL.encI ah p0.t] U U [inn 3 1 KL.encI ah (nB (nB p0.t p1.toNat (nB (gd p0.t p1.toNat) p2.toNat (min (gd (gd p0.t p1.toNat) p2.toNat) p3))) p2.toNat (nB (gd (nB p0.t p1.toNat (nB (gd p0.t p1.toNat) p2.toNat (min (gd (gd p0.t p1.toNat) p2.toNat) p3))) p2.toNat) p1.toNat (min (gd (gd (nB p0.t p1.toNat (nB (gd p0.t p1.toNat) p2.toNat (min (gd (gd p0.t p1.toNat) p2.toNat) p3))) p2.toNat) p1.toNat) p4))),B2,B1] bg:=bH
 have bJ:SW w [B1,inn 3 1 KL.encI ah p0.t] U U [inn 3 1 KL.encI ah (nB (nB p0.t p1.toNat (nB (gd p0.t p1.toNat) p2.toNat (min (gd (gd p0.t p1.toNat) p2.toNat) p3))) p2.toNat (nB (gd (nB p0.t p1.toNat (nB (gd p0.t p1.toNat) p2.toNat (min (gd (gd p0.t p1.toNat) p2.toNat) p3))) p2.toNat) p1.toNat (min (gd (gd (nB p0.t p1.toNat (nB (gd p0.t p1.toNat) p2.toNat (min (gd (gd p0.t p1.toNat) p2.toNat) p3))) p2.toNat) p1.toNat) p4))),.blk b4 188 [.slice ak ((nB (nB p0.t p1.toNat (nB (gd p0.t p1.toNat) p2.toNat (min (gd (gd p0.t p1.toNat) p2.toNat) p3))) p2.toNat (nB (gd (nB p0.t p1.toNat (nB (gd p0.t p1.toNat) p2.toNat (min (gd (gd p0.t p1.toNat) p2.toNat) p3))) p2.toNat) p1.toNat (min (gd (gd (nB p0.t p1.toNat (nB (gd p0.t p1.toNat) p2.toNat (min (gd (gd p0.t p1.toNat) p2.toNat) p3))) p2.toNat) p1.toNat) p4))).length) am],B1] bg:=by simpa only [B1,B2,nK] using bI
 cases bY
 exact ⟨rfl,_,(wTD),U,_,(bJ.pick [2,0] _ (by decide) rfl),rfl,rfl⟩
theorem wDG (p0:wAK) (bj:Option Addr) (bm:Nat) (bk:Option Addr) (bn:Nat) (bg:Option Addr) (bh:Nat) (bt:Option Addr) (bu:Nat) (w:World) (U:PHeap) (hS:St0 w U []) (dw:Sl U 1 bj bm p0.Starts.length (hH KL.encI p0.Starts)) (dx:Sl U 2 bk bn p0.Splits.length (hH wAB p0.Splits)) (dy:Sl U 3 bg bh p0.Clocks.length (hH wAG p0.Clocks)) (dz:Sl U 4 bt bu p0.Readings.length (hH wAF p0.Readings)) {r:(List (List Int))} (hm:wAi p0=some r):Gv Tryz.prog 67 [.agg #[.slice bj p0.Starts.length bm,.slice bk p0.Splits.length bn,.slice bg p0.Clocks.length bh,.slice bt p0.Readings.length bu]] w (wCp w [] U (fun U_ L_ v=>∃ (A0:Option Addr) (c0:Nat) (jd:List Hd),v=.slice A0 r.length c0/\L_=[.row A0 c0 22 1 (hH wDO jd),inn 3 1 KL.encI jd r])):=by
 unfold wAi at hm
 refine Gv.of Tryz.func67 Z Tryz.ntmps67 Tryz.results67 Z (sR gCj Z ?_)
 let B0:List Value:=[.slice bj p0.Starts.length bm,.slice bk p0.Splits.length bn,.slice bg p0.Clocks.length bh,.slice bt p0.Readings.length bu]
 refine ZE (cs:=B0) rfl rfl rfl rfl rfl rfl (by rfl) hS ?_
 intro W1 b2 ij
 refine oA Z Z (eN (sR (.fl 0 gCf) Z (oL Z (ij.ldBA (j:=0) Z Z Z ZY ZN (vs:=B0) Z Z) (bnK hm fun x5 h6 rI=>zK 0 Z Z Z Z (zL Z Z Tryz.call120 (zD Z zQ) Z) ij (fun hs=>wFT p0 bj bm bk bn bg bh bt bu W1 U hs dw dx dy dz h6) (.inr Z) ?_))))
 rintro U8 L9 tJ fP br n9 ⟨rfl,rfl⟩
 have og:sW w U U8 [.blk b2 36 B0] fP:=n9
 refine oA Z Z (eN (sR fL1 Z (oA Z Z (eN (zH (sR fL1 Z (oA Z Z (eN (zW (bnK rI fun fz qa qZ=>?_))))))))))
 have q:=wBc qa
 obtain ⟨fc,qb⟩:=q
 replace fc:=zI fc
 refine CK.forN' (fun bX bp σ_ w_=>∃ (U_:PHeap) (cC:Option Addr) (cE:Nat) (ba:List Hd),σ_ 5=jV (↑bX:Int)/\σ_ 1=.pointer (some ⟨b2,0,none⟩)/\σ_ 3=jV x5/\σ_ 4=.slice cC bp.length cE/\PHeap.Le U8 U_/\sW w U U_ [.blk b2 36 B0,.row cC cE 22 1 (hH wDO ba),inn 3 1 KL.encI ba bp] w_) qb ?_ ?_ ?_
 have oY:=og.nilrow 22 1
 have o0:=oY.innNil 3 1 KL.encI
 have o3:sW w U U8 [inn 3 1 KL.encI ([]:List Hd) ([]:List (List Int)),.row none 0 22 1 [],.blk b2 36 B0] fP:=o0
 exact ⟨U8,none,0,[],rfl,rfl,rfl,rfl,(zM _),(o3.pick [2,1,0] _ (by decide) rfl)⟩
 rintro bX bp tZ ul sY eY ⟨dX,cC,cE,ba,gP,jL,eh,jO,sh,pj⟩ r0
 have gt:Hid ((↑bX:Int) < x5):=zI (wBJ eY)
 replace eY:=zI eY
 have qL:Hid (w64 ((↑bX:Int) + 1)=(↑(bX + 1):Int)):=zI (by have h1:=fc.out;have h2:=gt.out;rw [wAX] <;> omega)
 refine zH (sR fL3 Z (oM Z gP (oM Z eh (oR Z (zX Z Z Z) (eN (cT Z gt (kN (zH (zW (sR (.fl 0 gCf) Z (oM Z eh (bnK r0 fun x64 mQ rC=>OKS.makeSlice (enc:=KL.encI) (z:=(0:Int)) (v:=jV 0) Z Z Z Z Z (wCI zC) wLg Z Z Z Z Z Z mQ pj ?_))))))))))))
 intro jt aY pq
 let B1:Res:=.row cC cE 22 1 (hH wDO ba)
 have pB:sW w U dX [.row (some ⟨aY,0,none⟩) x64.length 3 1 (hH KL.encI x64),.blk b2 36 B0,B1,inn 3 1 KL.encI ba bp] jt:=pq
 refine oA Z Z (eN (zH (sR fL1 Z (oA Z Z (eN (zW (bnK rC fun bb qp rN=>?_)))))))
 have q:=wBc qp
 obtain ⟨fh,qq⟩:=q
 replace fh:=zI fh
 refine CK.forN' (fun bC bE σ_ w_=>∃ (U_:PHeap),σ_ 7=jV (↑bC:Int)/\σ_ 1=.pointer (some ⟨b2,0,none⟩)/\σ_ 3=jV x5/\σ_ 4=.slice cC bp.length cE/\σ_ 5=jV (↑bX:Int)/\σ_ 6=.slice (some ⟨aY,0,none⟩) bE.length x64.length/\PHeap.Le dX U_/\sW w U U_ [.blk b2 36 B0,B1,inn 3 1 KL.encI ba bp,.row (some ⟨aY,0,none⟩) x64.length 3 1 (hH KL.encI bE)] w_/\bE.length=x64.length) qq ?_ ?_ ?_
 exact ⟨dX,rfl,jL,eh,jO,gP,rfl,(zM _),(pB.pick [1,2,3,0] _ (by decide) rfl),rfl⟩
 rintro bC bE ua uv s9 fb ⟨dY,cI,gN,ey,gO,eA,eC,jg,it,ic⟩ je
 have gi:Hid ((↑bC:Int) < x5):=zI (wBJ fb)
 replace fb:=zI fb
 have iN:Hid (w64 ((↑bC:Int) + 1)=(↑(bC + 1):Int)):=zI (by have h1:=fh.out;have h2:=gi.out;rw [wAX] <;> omega)
 refine zH (sR fL3 Z (oM Z cI (oM Z ey (oR Z (zX Z Z Z) (eN (cT Z gi (kN (zH (zW (sR fL3 Z (oM Z eA (oM Z cI (oR Z (Zo Z Z Z) (eN ?_))))))))))))))
 by_cases bH:(↑bX:Int)=(↑bC:Int)
 have iP:=je;rw [if_pos bH] at iP;replace bH:=zI bH
 refine zx (Ze (fun h=>h bH.out)) (Zh (zq (zG (rR fL3 Z (oM Z cI (oR Z (ZP (zZ Z Z Z) (congrArg (jV) iN.out)) (oA Z Z (zh ?_))))))))
 cases iP
 exact zG ⟨Z,⟨dY,Z,gN,ey,gO,eA,eC,jg,it,ic⟩⟩
 have iQ:=je;rw [if_neg bH] at iQ;replace bH:=zI bH
 refine cT Z bH (rR (wEG (.fx 3 .nil .stop)) Z (oM Z eC (oM Z cI (bnK iQ fun _ eD qN=>oR Z (ZL Z Z Z Z zC zB (wAN eD)) ?_))))
 have qr:=wBK (xs:=bE) (wAN eD)
 refine ye (j:=3) (vs:=[jV 1125899906842624]) (cs':=hH KL.encI (nB bE bC 1125899906842624)) rfl rfl rfl rfl it rfl rfl rfl rfl rfl zB (by rw [wAI (f:=KL.encI) (sz:=1) (fun _=>rfl)];have hz:=wAN eD;show _ + 1 <= _;first | omega | (simp only [nI];omega) | (simp only [nH,nE,nG];omega)) rfl (wCv (sz:=1) (fo:=0) (fun _=>rfl) _ _ _ _ qr (by first | omega | (simp only [nI];omega) | (simp only [nH,nE,nG];omega)) (zA rfl) rfl) rfl ?_
 intro jl n6
 have n7:sW w U dY [.blk b2 36 B0,B1,inn 3 1 KL.encI ba bp,.row (some ⟨aY,0,none⟩) x64.length 3 1 (hH KL.encI (nB bE bC 1125899906842624))] jl:=n6
 refine zh (zq (zG (rR fL3 Z (oM Z cI (oR Z (ZP (zZ Z Z Z) (congrArg (jV) iN.out)) (oA Z Z (zh ?_)))))))
 cases qN
 exact zG ⟨rfl,⟨dY,rfl,gN,ey,gO,eA,(nM (b:=(.slice (some ⟨aY,0,none⟩) bE.length x64.length:Value)) (c:=(.slice (some ⟨aY,0,none⟩) ((nB bE bC 1125899906842624).length) x64.length:Value)) eC (by simp only [nK])),jg,n7,(nK.trans ic)⟩⟩
 rintro uf sQ ⟨bG,lv,jD,gv,jE,jG,jH,r9,n8,tq⟩
 have ju:Hid (¬ ((↑((x5:Int) - 0).toNat:Int) < x5)):=zI (wAj)
 refine zH (sR fL3 Z (oM Z lv (oM Z gv (oR Z (zX Z Z Z) (eN (cF Z ju (ZT (zf (zf (ZK (zG (rR gCy Z (oM Z jE (oM Z jH ?_))))))))))))))
 let B2:List Value:=[.slice (some ⟨aY,0,none⟩) bb.length x64.length]
 refine ZW (pv:=[(0,.slice (some ⟨aY,0,none⟩) bb.length x64.length)]) (zs:=[.slice none 0 0]) (cs:=B2) Z Z Z Z Z (wAH Z wAY) zR zS Tryz.zeroValue22 Z Z Z Z Z n8 ?_
 intro dZ gg oa
 let B3:Res:=.row (some ⟨aY,0,none⟩) x64.length 3 1 (hH KL.encI bb)
 let B4:Res:=.row (some ⟨gg,0,none⟩) 1 22 1 B2
 have oc:sW w U bG [B4,.blk b2 36 B0,B1,inn 3 1 KL.encI ba bp,B3] dZ:=oa
 have od:sW w U bG [B3,B4,.blk b2 36 B0,B1,inn 3 1 KL.encI ba bp] dZ:=oc.pick [4,0,1,2,3] _ (by decide) rfl
 have oe:=od.innOne
 let B5:Res:=.row (some ⟨gg,0,none⟩) 1 22 1 (hH wDO [(⟨(some ⟨aY,0,none⟩),bb.length,x64.length⟩:Hd)])
 have dr:sW w U bG [inn 3 1 KL.encI [(⟨(some ⟨aY,0,none⟩),bb.length,x64.length⟩:Hd)] [bb],B5,.blk b2 36 B0,B1,inn 3 1 KL.encI ba bp] dZ:=oe
 refine bnK rN fun x140 lA qO=>?_
 have eW:=dr.innFit (j:=4) rfl
 have eX:=dr.innFit (j:=0) rfl
 have q:=wTY lA eW eX
 obtain ⟨pZ,jf⟩:=q
 refine yH (j:=3) (enc:=wDO) (xs:=ba) (ys:=[(⟨(some ⟨aY,0,none⟩),bb.length,x64.length⟩:Hd)]) rfl rfl rfl rfl rfl Tryz.underlying49 wMW rfl rfl rfl rfl rfl rfl dr rfl (slen rfl eW) (slen rfl eX) (dr.srcR (j:=1) rfl (by decide) (wAI (f:=wDO) (sz:=1) (fun _=>rfl) [(⟨(some ⟨aY,0,none⟩),bb.length,x64.length⟩:Hd)])) (fun _=>rfl) (fun _=>rfl) pZ rfl ?_
 intro fB gj dg oh
 have qM:(ba ++ [(⟨(some ⟨aY,0,none⟩),bb.length,x64.length⟩:Hd)]:List Hd).length=x140.length:=by rw [jf,nN,nN,eW.len,eX.len]
 rw [qM]
 let B6:Res:=.row fB gj 22 1 (hH wDO (ba ++ [(⟨(some ⟨aY,0,none⟩),bb.length,x64.length⟩:Hd)]:List Hd))
 have oi:sW w U bG [inn 3 1 KL.encI [(⟨(some ⟨aY,0,none⟩),bb.length,x64.length⟩:Hd)] [bb],B5,.blk b2 36 B0,B6,inn 3 1 KL.encI ba bp] dg:=oh
 have oj:sW w U bG [inn 3 1 KL.encI ba bp,inn 3 1 KL.encI [(⟨(some ⟨aY,0,none⟩),bb.length,x64.length⟩:Hd)] [bb],B5,.blk b2 36 B0,B6] dg:=oi.pick [4,0,1,2,3] _ (by decide) rfl
 have ie:=oj.innApp
 rw [<- jf] at ie
 have om:sW w U bG [inn 3 1 KL.encI (ba ++ [(⟨(some ⟨aY,0,none⟩),bb.length,x64.length⟩:Hd)]:List Hd) x140,B5,.blk b2 36 B0,B6] dg:=ie
 have oq:=om.drop 1
 have ot:sW w U bG [inn 3 1 KL.encI (ba ++ [(⟨(some ⟨aY,0,none⟩),bb.length,x64.length⟩:Hd)]:List Hd) x140,.blk b2 36 B0,B6] dg:=oq
 refine oA Z Z (zh (zq (zG (rR fL3 Z (oM Z jG (oR Z (ZP (zZ Z Z Z) (congrArg (jV) qL.out)) (oA Z Z (zh ?_))))))))
 cases qO
 exact zG ⟨rfl,⟨bG,fB,gj,(ba ++ [(⟨(some ⟨aY,0,none⟩),bb.length,x64.length⟩:Hd)]:List Hd),rfl,jD,gv,rfl,(sh.trans r9),(ot.pick [1,2,0] _ (by decide) rfl)⟩⟩
 rintro ug sS ⟨dQ,am,ap,aa,lw,jJ,gw,gx,bs,ou⟩
 have jv:Hid (¬ ((↑((x5:Int) - 0).toNat:Int) < x5)):=zI (wAj)
 refine zH (sR fL3 Z (oM Z lw (oM Z gw (oR Z (zX Z Z Z) (eN (cF Z jv (ZT (zf (zf (ZK (zG (sR gCr Z (oM Z gx ?_)))))))))))))
 let B7:List Value:=[.slice am fz.length ap]
 refine oR Z (ZO (pv:=[(0,.slice am fz.length ap)]) (z:=[.slice none 0 0]) (cs:=B7) Z (wAH Z wAY) Tryz.zeroValue188 wPN Z Z) (ze (cs:=[.slice none 0 0]) Z Z Z Z Z Tryz.zeroValue188 Z ou ?_)
 intro sU az ow
 refine zm (j:=0) (vs:=B7) Z Z Z Z ow Z Z Z Z Tryz.sizeOf188 (zA Z) Z Z Z ?_
 intro jm ox
 let B8:Res:=.row am ap 22 1 (hH wDO aa)
 have oy:sW w U dQ [.blk az 188 B7,.blk b2 36 B0,B8,inn 3 1 KL.encI aa fz] jm:=ox
 refine eN (zH (sR fL1 Z (oA Z Z (eN (zW (yh (fun (bP,bY) σ_ w_=>∃ (U_:PHeap),σ_ 1=.pointer (some ⟨b2,0,none⟩)/\σ_ 3=jV x5/\σ_ 4=.slice am bP.length ap/\σ_ 8=.pointer (some ⟨az,0,none⟩)/\σ_ 9=jV bY/\PHeap.Le dQ U_/\sW w U U_ [B8,inn 3 1 KL.encI aa bP,.blk az 188 [.slice am bP.length ap],.blk b2 36 B0] w_) qZ ?_ ?_))))))
 exact ⟨dQ,jJ,gw,gx,rfl,rfl,(zM _),(oy.pick [2,3,0,1] _ (by decide) rfl)⟩
 rintro ⟨bP,bY⟩ tV uh fQ ⟨dR,cb,gy,gz,d8,cG,bi,eJ⟩ fm p6
 try dsimp only at fm
 refine zH (sR fL5 Z (oM Z cG (oR Z (zE Z cb zV Z zS) (oL Z (eJ.ldB (j:=3) Z Z Z zY (v:=.slice bj p0.Starts.length bm) Z) (oR Z (zd Z Z zC) (oR Z (zX Z Z Z) (eN ?_)))))))
 by_cases bI:bY < (↑p0.Starts.length:Int)
 have iR:=fm;rw [if_pos bI] at iR;replace bI:=zI bI
 refine cT Z bI (kN (zH (zW (zH (ZD zy [1,1,3,2,3,1,3,3,1,3,1,3,3,1,3,0] (wEG (wUu (.fx 3 (.fx 15 .nil .stop) .stop))) (by kernel_rfl) ?_)))))
 have bN:=eJ.drew
 generalize hw_W213:({ fQ with drawn:=fQ.drawn + 1 }:World)=jo at bN ⊢
 let B9:List Value:=[.slice am bP.length ap]
 refine oL Z (bN.ldBA (j:=2) Z Z d8 Tryz.isAgg188 Tryz.sizeOf188 (vs:=B9) Z Z) (oL Z (bN.ldBA (j:=3) Z Z cb ZY ZN (vs:=B0) Z Z) (oM Z cG (oR Z (zE Z cb zV Z zS) (oL Z (bN.ldB (j:=3) Z Z Z zY (v:=.slice bj p0.Starts.length bm) Z) (oM Z cG (bnK iR fun dE cj qP=>?_))))))
 have lB:=dw.le br
 have lD:=lB.le bs
 have dp:=lD.le bi
 have q:=dp.el (fun _=>rfl) (wAS cj)
 obtain ⟨tc,tB,mR,mZ⟩:=q
 refine oR Z (ZC Z Z mR Z zC zB (wAx cj) (wBA cj)) (oL Z (bN.ldC (f:=0) mZ (v:=jV dE) Z Z zF Z) (oR Z (zE Z cb zV Z zS) (oL Z (bN.ldB (j:=3) Z Z Z zY (v:=.slice bj p0.Starts.length bm) Z) (oM Z cG ?_))))
 have q:=dp.el (fun _=>rfl) (wAS cj)
 obtain ⟨td,tC,mS,m4⟩:=q
 refine oR Z (ZC Z Z mS Z zC zB (wAx cj) (wBA cj)) (oL Z (bN.ldC (f:=0) m4 (v:=jV dE) Z Z zF Z) (oR Z (Runs.negw Z Z) ?_))
 have lE:=dx.le br
 have lF:=lE.le bs
 have gU:=lF.le bi
 have lG:=dy.le br
 have lH:=lG.le bs
 have gW:=lH.le bi
 have lI:=dz.le br
 have lJ:=lI.le bs
 have gX:=lJ.le bi
 refine bnK qP fun sv lK qQ=>zK 0 Z Z Z Z (zL Z Z yn (zD Z (zD Z (zD Z zQ))) Z) bN (fun hs=>wAo p0 bj bm bk bn bg bh bt bu bY 0 jo dR hs dp gU gW gX lK) (.inr Z) ?_
 rintro fG sE tK fR cL oz ⟨rfl,rfl⟩
 have ig:sW w U fG [B8,inn 3 1 KL.encI aa bP,.blk az 188 B9,.blk b2 36 B0] fR:=oz
 refine bnK qQ fun dF lL qR=>?_
 have iu:=ig.innFit (j:=1) rfl
 refine zK 2 Z Z Z Z (zL Z Z Tryz.call121 (zD Z (zD Z (zD Z (zD Z (zD Z zQ))))) Z) ig (fun hs=>wBd (⟨bP⟩:wAR) am ap aa 0 sv dE (w64 (-dE)) fR fG hs lL) (.inl Z) ?_
 rintro db sF tL fS cM oB ⟨rfl,rfl⟩
 have ii:sW w U db [B8,inn 3 1 KL.encI aa dF,.blk az 188 B9,.blk b2 36 B0] fS:=oB
 have iv:=ii.innFit (j:=1) rfl
 have oG:sW w U db [B8,inn 3 1 KL.encI aa dF,.blk az 188 [.slice am dF.length ap],.blk b2 36 B0] fS:=by rw [iv.len.symm.trans iu.len];exact ii
 refine eN (sR fL1 Z (oA Z Z (eN (zW (yh (fun (bD,cQ) σ_ w_=>∃ (U_:PHeap),σ_ 1=.pointer (some ⟨b2,0,none⟩)/\σ_ 3=jV x5/\σ_ 4=.slice am bD.length ap/\σ_ 8=.pointer (some ⟨az,0,none⟩)/\σ_ 9=jV bY/\σ_ 10=jV cQ/\PHeap.Le db U_/\sW w U U_ [B8,inn 3 1 KL.encI aa bD,.blk az 188 [.slice am bD.length ap],.blk b2 36 B0] w_) qR ?_ ?_)))))
 exact ⟨db,cb,gy,(nM (b:=(.slice am bP.length ap:Value)) (c:=(.slice am dF.length ap:Value)) gz (by rw [iv.len.symm.trans iu.len])),d8,cG,rfl,(zM _),oG⟩
 rintro ⟨bD,cQ⟩ tW ui fT ⟨fH,bS,gA,gB,d9,dk,cd,cA,eK⟩ fq p7
 try dsimp only at fq
 refine zH (sR fL5 Z (oM Z cd (oR Z (zE Z bS zV Z Zd) (oL Z (eK.ldB (j:=3) Z Z Z Zi (v:=.slice bk p0.Splits.length bn) Z) (oR Z (zd Z Z zr) (oR Z (zX Z Z Z) (eN ?_)))))))
 by_cases bJ:cQ < (↑p0.Splits.length:Int)
 have iT:=fq;rw [if_pos bJ] at iT;replace bJ:=zI bJ
 refine cT Z bJ (kN (zH (zW (ZD zy [1,1,3,3,2,1,3,3,3,2,3,1,3,3,3,1,3,1,3,3,3,1,3,0] (wEZ (wUy (wSx (.fx 4 (.fx 9 (.fx 23 .nil .stop) .stop) .stop)))) (by kernel_rfl) ?_))))
 have bA:=eK.drew
 generalize hw_W287:({ fT with drawn:=fT.drawn + 1 }:World)=jp at bA ⊢
 let cX:List Value:=[.slice am bD.length ap]
 refine oL Z (bA.ldBA (j:=2) Z Z d9 Tryz.isAgg188 Tryz.sizeOf188 (vs:=cX) Z Z) (oL Z (bA.ldBA (j:=3) Z Z bS ZY ZN (vs:=B0) Z Z) (oM Z dk (oM Z cd (oL Z (bA.ldBA (j:=3) Z Z bS ZY ZN (vs:=B0) Z Z) (oM Z dk (oM Z cd (oR Z (zZ Z Z Z) (oR Z (zE Z bS zV Z Zd) (oL Z (bA.ldB (j:=3) Z Z Z Zi (v:=.slice bk p0.Splits.length bn) Z) (oM Z cd (bnK iT fun dG cm qS=>?_)))))))))))
 have lM:=gU.le cL
 have lN:=lM.le cM
 have dq:=lN.le cA
 have q:=dq.el (fun _=>rfl) (wAS cm)
 obtain ⟨te,tD,mT,m5⟩:=q
 refine oR Z (ZC Z Z mT Z zr ZR (wAx cm) (wBA cm)) (oR Z (zE Z Z ZA Z zB) (oL Z (bA.ldC (f:=1) m5 (v:=jV dG.Hi) Z Z zF Z) (oR Z (zE Z bS zV Z Zd) (oL Z (bA.ldB (j:=3) Z Z Z Zi (v:=.slice bk p0.Splits.length bn) Z) (oM Z cd ?_)))))
 have q:=dq.el (fun _=>rfl) (wAS cm)
 obtain ⟨tf,tE,mU,m6⟩:=q
 refine oR Z (ZC Z Z mU Z zr ZR (wAx cm) (wBA cm)) (oR Z (zE Z Z ZA Z zB) (oL Z (bA.ldC (f:=0) m6 (v:=jV dG.Lo) Z Z zF Z) (oR Z (Runs.negw Z Z) ?_)))
 have lO:=dp.le cL
 have lP:=lO.le cM
 have gZ:=lP.le cA
 have lQ:=gW.le cL
 have lR:=lQ.le cM
 have g7:=lR.le cA
 have lS:=gX.le cL
 have lT:=lS.le cM
 have g8:=lT.le cA
 refine bnK qS fun sw lU qT=>zK 0 Z Z Z Z (zL Z Z yn (zD Z (zD Z (zD Z zQ))) Z) bA (fun hs=>wAo p0 bj bm bk bn bg bh bt bu bY cQ jp fH hs gZ dq g7 g8 lU) (.inr Z) ?_
 rintro fJ sG tM fU cN oH ⟨rfl,rfl⟩
 have oI:sW w U fJ [B8,inn 3 1 KL.encI aa bD,.blk az 188 cX,.blk b2 36 B0] fU:=oH
 have lV:=gZ.le cN
 have lW:=dq.le cN
 have lX:=g7.le cN
 have lY:=g8.le cN
 refine bnK qT fun sA lZ qU=>zK 0 Z Z Z Z (zL Z Z yn (zD Z (zD Z (zD Z zQ))) Z) oI (fun hs=>wAo p0 bj bm bk bn bg bh bt bu bY (w64 (cQ + 1)) fU fJ hs lV lW lX lY lZ) (.inr Z) ?_
 rintro fK sH tO fV sb oK ⟨rfl,rfl⟩
 have ik:sW w U fK [B8,inn 3 1 KL.encI aa bD,.blk az 188 cX,.blk b2 36 B0] fV:=oK
 refine bnK qU fun dH l4 qV=>?_
 have iw:=ik.innFit (j:=1) rfl
 refine zK 2 Z Z Z Z (zL Z Z Tryz.call121 (zD Z (zD Z (zD Z (zD Z (zD Z zQ))))) Z) ik (fun hs=>wBd (⟨bD⟩:wAR) am ap aa sw sA dG.Hi (w64 (-dG.Lo)) fV fK hs l4) (.inl Z) ?_
 rintro dS sI tP fW sc oO ⟨rfl,rfl⟩
 have il:sW w U dS [B8,inn 3 1 KL.encI aa dH,.blk az 188 cX,.blk b2 36 B0] fW:=oO
 have iy:=il.innFit (j:=1) rfl
 have oP:sW w U dS [B8,inn 3 1 KL.encI aa dH,.blk az 188 [.slice am dH.length ap],.blk b2 36 B0] fW:=by rw [iy.len.symm.trans iw.len];exact il
 refine zh (zq (zG (rR fL3 Z (oM Z cd (oR Z (zZ Z Z Z) (oA Z Z (zh ?_)))))))
 obtain rfl:=nJ qV
 exact zG ⟨rfl,_,rfl,⟨dS,bS,gA,(nM (b:=(.slice am bD.length ap:Value)) (c:=(.slice am dH.length ap:Value)) gB (by rw [iy.len.symm.trans iw.len])),d9,dk,rfl,(((cA.trans cN).trans sb).trans sc),oP⟩⟩
 have iU:=fq;rw [if_neg bJ] at iU;replace bJ:=zI bJ
 refine cF Z bJ (ZT (zf ?_))
 have q:=wAZ iU
 obtain ⟨so,qW,jz⟩:=q
 obtain rfl:=p7 so jz
 refine zf (ZK (zq (zG (rR fL3 Z (oM Z dk (oR Z (zZ Z Z Z) (oA Z Z (zh ?_))))))))
 obtain rfl:=nJ qW
 exact zG ⟨Z,_,Z,⟨fH,bS,gA,gB,d9,Z,(((bi.trans cL).trans cM).trans cA),eK⟩⟩
 have iV:=fm;rw [if_neg bI] at iV;replace bI:=zI bI
 refine cF Z bI (ZT (zf ?_))
 have q:=wAZ iV
 obtain ⟨sq,qX,jA⟩:=q
 obtain rfl:=p6 sq jA
 refine zf (ZK (zG (zH (sR fL1 Z (oA Z Z (eN (zW (yh (fun (bQ,dI) σ_ w_=>∃ (U_:PHeap),σ_ 1=.pointer (some ⟨b2,0,none⟩)/\σ_ 3=jV x5/\σ_ 4=.slice am bQ.length ap/\σ_ 8=.pointer (some ⟨az,0,none⟩)/\σ_ 11=jV dI/\PHeap.Le dR U_/\sW w U U_ [B8,inn 3 1 KL.encI aa bQ,.blk az 188 [.slice am bQ.length ap],.blk b2 36 B0] w_) qX ?_ ?_))))))))
 exact ⟨dR,cb,gy,gz,d8,Z,(zM _),eJ⟩
 rintro ⟨bQ,dI⟩ tX uj fY ⟨dT,cf,gC,gD,ef,cH,bF,eL⟩ ft p8
 try dsimp only at ft
 refine zH (sR fL5 Z (oM Z cH (oR Z (zE Z cf zV Z Zr) (oL Z (eL.ldB (j:=3) Z Z Z yB (v:=.slice bg p0.Clocks.length bh) Z) (oR Z (zd Z Z Zj) (oR Z (zX Z Z Z) (eN ?_)))))))
 by_cases bK:dI < (↑p0.Clocks.length:Int)
 have iW:=ft;rw [if_pos bK] at iW;replace bK:=zI bK
 refine cT Z bK (kN (zH (zW (ZD zy [1,1,3,2,3,1,3,3,3,3,1,3,3,1,3,3,3,3,1,0] (wEG (wUv (.fx 3 (.fx 19 .nil .stop) .stop))) (by kernel_rfl) ?_))))
 have bO:=eL.drew
 generalize hw_W386:({ fY with drawn:=fY.drawn + 1 }:World)=jq at bO ⊢
 let dM:List Value:=[.slice am bQ.length ap]
 refine oL Z (bO.ldBA (j:=2) Z Z ef Tryz.isAgg188 Tryz.sizeOf188 (vs:=dM) Z Z) (oL Z (bO.ldBA (j:=3) Z Z cf ZY ZN (vs:=B0) Z Z) (oM Z cH (oR Z (zE Z cf zV Z Zr) (oL Z (bO.ldB (j:=3) Z Z Z yB (v:=.slice bg p0.Clocks.length bh) Z) (oM Z cH (bnK iW fun dJ cn qY=>?_))))))
 have l5:=dy.le br
 have l6:=l5.le bs
 have l7:=l6.le bi
 have eE:=l7.le bF
 have q:=eE.el (fun _=>rfl) (wAS cn)
 obtain ⟨tg,tF,mV,m7⟩:=q
 refine oR Z (ZC Z Z mV Z Zj yV (wAx cn) (wBA cn)) (oR Z (zE Z Z yF Z ZR) (oR Z (zE Z Z ZA Z zB) (oL Z (bO.ldC (f:=0) m7 (v:=jV dJ.Offset.Lo) Z Z zF Z) (oR Z (Runs.negw Z Z) (oR Z (zE Z cf zV Z Zr) (oL Z (bO.ldB (j:=3) Z Z Z yB (v:=.slice bg p0.Clocks.length bh) Z) (oM Z cH ?_)))))))
 have q:=eE.el (fun _=>rfl) (wAS cn)
 obtain ⟨th,tG,mW,m8⟩:=q
 refine oR Z (ZC Z Z mW Z Zj yV (wAx cn) (wBA cn)) (oR Z (zE Z Z yF Z ZR) (oR Z (zE Z Z ZA Z zB) (oL Z (bO.ldC (f:=1) m8 (v:=jV dJ.Offset.Hi) Z Z zF Z) ?_)))
 have l8:=dw.le br
 have ma:=l8.le bs
 have mb:=ma.le bi
 have mc:=mb.le bF
 have md:=dx.le br
 have me:=md.le bs
 have mf:=me.le bi
 have mg:=mf.le bF
 have mh:=dz.le br
 have mi:=mh.le bs
 have mj:=mi.le bi
 have ml:=mj.le bF
 refine bnK qY fun sB mn rc=>zK 0 Z Z Z Z (zL Z Z Tryz.call73 (zD Z (zD Z zQ)) Z) bO (fun hs=>wDF p0 bj bm bk bn bg bh bt bu dI jq dT hs mc mg eE ml mn) (.inr Z) ?_
 rintro fL sJ tQ fZ sd oU ⟨rfl,rfl⟩
 have im:sW w U fL [B8,inn 3 1 KL.encI aa bQ,.blk az 188 dM,.blk b2 36 B0] fZ:=oU
 refine bnK rc fun dK mo re=>?_
 have iz:=im.innFit (j:=1) rfl
 refine zK 2 Z Z Z Z (zL Z Z Tryz.call121 (zD Z (zD Z (zD Z (zD Z (zD Z zQ))))) Z) im (fun hs=>wBd (⟨bQ⟩:wAR) am ap aa 0 sB (w64 (-dJ.Offset.Lo)) dJ.Offset.Hi fZ fL hs mo) (.inl Z) ?_
 rintro dU sK tR ga se oW ⟨rfl,rfl⟩
 have io:sW w U dU [B8,inn 3 1 KL.encI aa dK,.blk az 188 dM,.blk b2 36 B0] ga:=oW
 have iA:=io.innFit (j:=1) rfl
 have oX:sW w U dU [B8,inn 3 1 KL.encI aa dK,.blk az 188 [.slice am dK.length ap],.blk b2 36 B0] ga:=by rw [iA.len.symm.trans iz.len];exact io
 refine zh (zq (zG (rR fL3 Z (oM Z cH (oR Z (zZ Z Z Z) (oA Z Z (zh ?_)))))))
 obtain rfl:=nJ re
 exact zG ⟨rfl,_,rfl,⟨dU,cf,gC,(nM (b:=(.slice am bQ.length ap:Value)) (c:=(.slice am dK.length ap:Value)) gD (by rw [iA.len.symm.trans iz.len])),ef,rfl,((bF.trans sd).trans se),oX⟩⟩
 have iX:=ft;rw [if_neg bK] at iX;replace bK:=zI bK
 refine cF Z bK (ZT (zf ?_))
 have q:=wAZ iX
 obtain ⟨ss,ri,jB⟩:=q
 obtain rfl:=p8 ss jB
 refine zf (ZK (zG (zH (sR fL1 Z (oA Z Z (eN (zW (yh (fun (bq,fw) σ_ w_=>∃ (U_:PHeap),σ_ 1=.pointer (some ⟨b2,0,none⟩)/\σ_ 3=jV x5/\σ_ 4=.slice am bq.length ap/\σ_ 8=.pointer (some ⟨az,0,none⟩)/\σ_ 12=jV fw/\PHeap.Le dT U_/\sW w U U_ [B8,inn 3 1 KL.encI aa bq,.blk az 188 [.slice am bq.length ap],.blk b2 36 B0] w_) ri ?_ ?_))))))))
 exact ⟨dT,cf,gC,gD,ef,Z,(zM _),eL⟩
 rintro ⟨bq,fw⟩ tY uk sV ⟨de,cg,gF,gG,gH,eg,cO,cK⟩ fu p9
 try dsimp only at fu
 refine zH (sR fL5 Z (oM Z eg (oR Z (zE Z cg zV Z yI) (oL Z (cK.ldB (j:=3) Z Z Z ya (v:=.slice bt p0.Readings.length bu) Z) (oR Z (zd Z Z Zw) (oR Z (zX Z Z Z) (eN ?_)))))))
 by_cases bL:fw < (↑p0.Readings.length:Int)
 have iY:=fu;rw [if_pos bL] at iY;replace bL:=zI bL
 refine cT Z bL (kN (zH (zW (sR (wIc gCk) Z (oR Z (zE Z cg zV Z yI) (oL Z (cK.ldB (j:=3) Z Z Z ya (v:=.slice bt p0.Readings.length bu) Z) (oM Z eg (bnK iY fun a0 eF rj=>?_))))))))
 have mp:=dz.le br
 have mq:=mp.le bs
 have mr:=mq.le bi
 have ms:=mr.le bF
 have eG:=ms.le cO
 have q:=eG.el (fun _=>rfl) (wAS eF)
 obtain ⟨tj,tH,mX,m9⟩:=q
 refine oR Z (ZC Z Z mX Z Zw yL (wAx eF) (wBA eF)) (oL Z (cK.ldCA (f:=0) m9 Z Z Tryz.isAgg117 yL (us:=[jV a0.Skier,jV a0.Mat,jV a0.Clock,jV a0.Time]) Z Z) (ze (cs:=[jV 0,jV 0,jV 0,jV 0]) Z Z Z Z Z Tryz.zeroValue117 Z cK ?_))
 intro sX b5 o5
 let bR:List Value:=[jV a0.Skier,jV a0.Mat,jV a0.Clock,jV a0.Time]
 refine zm (j:=0) (vs:=bR) Z Z Z Z o5 Z Z Z Z yL (zA Z) Z Z Z ?_
 intro d4 o6
 let cD:Res:=.blk az 188 [.slice am bq.length ap]
 have dt:sW w U de [.blk b5 117 bR,B8,inn 3 1 KL.encI aa bq,cD,.blk b2 36 B0] d4:=o6
 refine eN (sR fL8 Z (oR Z (zE Z cg zV Z Zr) (oL Z (dt.ldB (j:=4) Z Z Z yB (v:=.slice bg p0.Clocks.length bh) Z) (oR Z (zE Z Z Zg Z zB) (oL Z (dt.ldB (j:=0) Z Z Z zF (v:=jV a0.Clock) Z) (bnK rj fun fy eH rk=>?_))))))
 have mu:=dy.le br
 have mw:=mu.le bs
 have my:=mw.le bi
 have mz:=my.le bF
 have eI:=mz.le cO
 have q:=eI.el (fun _=>rfl) (wAS eH)
 obtain ⟨tl,tI,mY,n5⟩:=q
 refine zk rfl rfl rfl rfl (fun _=>ZC rfl rfl mY rfl Zj yV (wAx eH) (wBA eH)) (zk rfl rfl rfl rfl (fun _=>zE rfl rfl yF rfl zB) (ZI rfl rfl rfl rfl (dt.ldC (f:=2) n5 (v:=jV fy.Error) rfl rfl zF rfl) rfl (yX rfl rfl rfl rfl rfl rfl (eN (ZD zy [1,1,3,1,2,1,3,1,3,1,2,3,1,3,3,3,3,1,3,0] (wEZ (wLu (wSz (.fx 4 (.fx 10 (.fx 19 .nil .stop) .stop) .stop)))) (by kernel_rfl) ?_)))))
 have bw:=dt.drew
 generalize hw_W500:({ d4 with drawn:=d4.drawn + 1 }:World)=jr at bw ⊢
 refine oL Z (bw.ldBA (j:=3) Z Z gH Tryz.isAgg188 Tryz.sizeOf188 (vs:=[.slice am bq.length ap]) Z Z) (oL Z (bw.ldBA (j:=4) Z Z cg ZY ZN (vs:=B0) Z Z) (oR Z (zE Z Z Zg Z zB) (oL Z (bw.ldB (j:=0) Z Z Z zF (v:=jV a0.Clock) Z) (oL Z (bw.ldBA (j:=4) Z Z cg ZY ZN (vs:=B0) Z Z) (oR Z (zE Z Z Zg Z zB) (oL Z (bw.ldB (j:=0) Z Z Z zF (v:=jV a0.Skier) Z) (oR Z (zE Z Z Zg Z zB) (oL Z (bw.ldB (j:=0) Z Z Z zF (v:=jV a0.Mat) Z) (oR Z (zE Z Z Zg Z zB) (oL Z (bw.ldB (j:=0) Z Z Z zF (v:=jV a0.Time) Z) (oM Z Z (oR Z (zZ Z Z Z) (oM Z Z (oR Z (zE Z Z Zg Z zB) (oL Z (bw.ldB (j:=0) Z Z Z zF (v:=jV a0.Time) Z) (oR Z (yg Z Z Z) ?_))))))))))))))))
 have mA:=dw.le br
 have mB:=mA.le bs
 have mC:=mB.le bi
 have mD:=mC.le bF
 have g9:=mD.le cO
 have mE:=dx.le br
 have mF:=mE.le bs
 have mG:=mF.le bi
 have mH:=mG.le bF
 have ib:=mH.le cO
 refine bnK rk fun sC mI rn=>zK 0 Z Z Z Z (zL Z Z Tryz.call73 (zD Z (zD Z zQ)) Z) bw (fun hs=>wDF p0 bj bm bk bn bg bh bt bu a0.Clock jr de hs g9 ib eI eG mI) (.inr Z) ?_
 rintro fM sL tS gb cP o7 ⟨rfl,rfl⟩
 have o8:sW w U fM [.blk b5 117 bR,B8,inn 3 1 KL.encI aa bq,cD,.blk b2 36 B0] gb:=o7
 have mJ:=g9.le cP
 have mK:=ib.le cP
 have mL:=eI.le cP
 have mM:=eG.le cP
 refine bnK rn fun sD mN ro=>zK 0 Z Z Z Z (zL Z Z yn (zD Z (zD Z (zD Z zQ))) Z) o8 (fun hs=>wAo p0 bj bm bk bn bg bh bt bu a0.Skier a0.Mat gb fM hs mJ mK mL mM mN) (.inr Z) ?_
 rintro dV sM tT d5 sf o9 ⟨rfl,rfl⟩
 have ip:sW w U dV [.blk b5 117 bR,B8,inn 3 1 KL.encI aa bq,cD,.blk b2 36 B0] d5:=o9
 refine bnK ro fun dL mO rp=>?_
 have iB:=ip.innFit (j:=2) rfl
 have pe:sW w U dV [B8,inn 3 1 KL.encI aa bq,.blk b5 117 bR,cD,.blk b2 36 B0] d5:=ip.pick [1,2,0,3,4] _ (by decide) rfl
 refine zK 2 Z Z Z Z (zL Z Z Tryz.call121 (zD Z (zD Z (zD Z (zD Z (zD Z zQ))))) Z) pe (fun hs=>wBd (⟨bq⟩:wAR) am ap aa sC sD (w64 (a0.Time + fy.Error)) (w64 (fy.Error - a0.Time)) d5 dV hs mO) (.inl Z) ?_
 rintro dW sN tU ge sg pf ⟨rfl,rfl⟩
 have iq:sW w U dW [B8,inn 3 1 KL.encI aa dL,.blk b5 117 bR,cD,.blk b2 36 B0] ge:=pf
 have iC:=iq.innFit (j:=1) rfl
 have pg:sW w U dW [B8,inn 3 1 KL.encI aa dL,.blk b5 117 bR,.blk az 188 [.slice am dL.length ap],.blk b2 36 B0] ge:=by rw [iC.len.symm.trans iB.len];exact iq
 refine zh (zq (zG (rR fL3 Z (oM Z eg (oR Z (zZ Z Z Z) (oA Z Z (zh ?_)))))))
 obtain rfl:=nJ rp
 exact zG ⟨rfl,_,rfl,⟨dW,cg,gF,(nM (b:=(.slice am bq.length ap:Value)) (c:=(.slice am dL.length ap:Value)) gG (by rw [iC.len.symm.trans iB.len])),gH,rfl,(((cO.trans cP).trans sf).trans sg),(pg.pick [0,1,3,4] _ (by decide) rfl)⟩⟩
 have iZ:=fu;rw [if_neg bL] at iZ;replace bL:=zI bL
 refine cF Z bL (ZT (zf ?_))
 have q:=wAZ iZ
 obtain ⟨su,rq,jC⟩:=q
 obtain rfl:=p9 su jC
 refine zf (ZK (zG (zH (sR fL1 Z (oA Z Z (eN (zW (bnK rq fun ub qc rx=>?_))))))))
 have q:=wBc qc
 obtain ⟨fd,qd⟩:=q
 replace fd:=zI fd
 refine CK.forN' (fun ah dB σ_ w_=>∃ (U_:PHeap),σ_ 15=jV (↑ah:Int)/\σ_ 3=jV x5/\σ_ 4=.slice am dB.length ap/\PHeap.Le de U_/\sW w U U_ [B8,inn 3 1 KL.encI aa dB,.blk az 188 [.slice am dB.length ap],.blk b2 36 B0] w_) qd ?_ ?_ ?_
 exact ⟨de,Z,gF,gG,(zM _),cK⟩
 rintro ah dB t7 um sZ eZ ⟨fN,gQ,gI,jK,sj,ph⟩ r6
 have gm:Hid ((↑ah:Int) < x5):=zI (wBJ eZ)
 replace eZ:=zI eZ
 have qJ:Hid (w64 ((↑ah:Int) + 1)=(↑(ah + 1):Int)):=zI (by have h1:=fd.out;have h2:=gm.out;rw [wAX] <;> omega)
 refine zH (sR fL3 Z (oM Z gQ (oM Z gI (oR Z (zX Z Z Z) (eN (cT Z gm (kN (zH (zW (sR fL1 Z (oA Z Z (eN (zW (bnK r6 fun ud qe ry=>?_))))))))))))))
 have q:=wBc qe
 obtain ⟨ff,qf⟩:=q
 replace ff:=zI ff
 refine CK.forN' (fun ab dC σ_ w_=>∃ (U_:PHeap),σ_ 16=jV (↑ab:Int)/\σ_ 3=jV x5/\σ_ 4=.slice am dC.length ap/\σ_ 15=jV (↑ah:Int)/\PHeap.Le fN U_/\sW w U U_ [B8,inn 3 1 KL.encI aa dC,.blk az 188 [.slice am dC.length ap],.blk b2 36 B0] w_) qf ?_ ?_ ?_
 exact ⟨fN,Z,gI,jK,gQ,(zM _),ph⟩
 rintro ab dC t8 uo s5 e8 ⟨fO,gR,gJ,jM,jN,sk,pk⟩ r7
 have gq:Hid ((↑ab:Int) < x5):=zI (wBJ e8)
 replace e8:=zI e8
 have qK:Hid (w64 ((↑ab:Int) + 1)=(↑(ab + 1):Int)):=zI (by have h1:=ff.out;have h2:=gq.out;rw [wAX] <;> omega)
 refine zH (sR fL3 Z (oM Z gR (oM Z gJ (oR Z (zX Z Z Z) (eN (cT Z gq (kN (zH (zW (sR fL1 Z (oA Z Z (eN (zW (bnK r7 fun ue qh rA=>?_))))))))))))))
 have q:=wBc qh
 obtain ⟨fg,qi⟩:=q
 replace fg:=zI fg
 refine CK.forN' (fun aW ae σ_ w_=>∃ (U_:PHeap),σ_ 17=jV (↑aW:Int)/\σ_ 3=jV x5/\σ_ 4=.slice am ae.length ap/\σ_ 15=jV (↑ah:Int)/\σ_ 16=jV (↑ab:Int)/\PHeap.Le fO U_/\sW w U U_ [B8,inn 3 1 KL.encI aa ae,.blk az 188 [.slice am ae.length ap],.blk b2 36 B0] w_) qi ?_ ?_ ?_
 exact ⟨fO,Z,gJ,jM,jN,gR,(zM _),pk⟩
 rintro aW ae t9 uq gf e9 ⟨aV,gS,gK,jP,jQ,jR,dD,pm⟩ r8
 have gu:Hid ((↑aW:Int) < x5):=zI (wBJ e9)
 replace e9:=zI e9
 have dA:Hid (w64 ((↑aW:Int) + 1)=(↑(aW + 1):Int)):=zI (by have h1:=fg.out;have h2:=gu.out;rw [wAX] <;> omega)
 refine zH (sR fL3 Z (oM Z gS (oM Z gK (oR Z (zX Z Z Z) (eN (cT Z gu (kN (zH (zW (zH (yp fun cR cu=>?_)))))))))))
 have dl:cR 3=jV x5:=(cu 3).trans gK
 have bz:cR 4=.slice am ae.length ap:=(cu 4).trans jP
 have bM:cR 15=jV (↑ah:Int):=(cu 15).trans jQ
 have bT:cR 16=jV (↑ab:Int):=(cu 16).trans jR
 have bU:cR 17=jV (↑aW:Int):=(cu 17).trans gS
 clear cu
 refine ZD zy [3,3,3,1,3,3,1,3,3,3,3,3,1,3,3,1,3,3,3,3,3,3,1,3,3,1,3,3,3,1,3,3,1,3,3,3,3,1,3,3,1,3,3] fL43 (by kernel_rfl) ?_
 have cq:=pm.drew
 generalize hw_W662:({ gf with drawn:=gf.drawn + 1 }:World)=bf at cq ⊢
 refine oM Z bz (oM Z bT (bnK r8 fun _ bd rD=>?_))
 obtain ⟨tm,be⟩:=cq.rowSome (j:=0) rfl (by rw [wAI (f:=wDO) (sz:=1) (fun _=>rfl),(cq.innFit (j:=1) rfl).len];have hz:=wAN bd;omega)
 refine oR Z (ZL Z Z be Z zR zS (wAN bd)) ?_
 have iD:=cq.innFit (j:=1) rfl
 have qt:=wBK (xs:=aa) (k:=ab) (by rw [iD.len];exact (wAN bd))
 have rQ:nL (gd aa ab).A (gd aa ab).n (gd aa ab).c=.slice ((gd aa ab).A) ((gd ae ab).length) ((gd aa ab).c):=by rw [iD.at_ (k:=ab) (wAN bd)]
 refine ZI rfl rfl rfl rfl (ym (cq.ldR (j:=0) rfl be rfl rfl zY (wAT (sz:=1) (fun _=>rfl) _ _ 0 _ qt (by first | omega | rfl | simp) rfl)) rQ) rfl ?_
 let aX:Res:=.blk az 188 [.slice am ae.length ap]
 have pn:sW w U aV [inn 3 1 KL.encI aa ae,B8,aX,.blk b2 36 B0] bf:=cq.pick [1,0,2,3] _ (by decide) rfl
 have po:=pn.innTake (k:=ab) (wAN bd)
 let cY:Res:=.row ((gd aa ab).A) ((gd aa ab).c) 3 1 (hH KL.encI (gd ae ab))
 have cr:sW w U aV [cY,wIe 3 1 KL.encI aa ae ab,B8,aX,.blk b2 36 B0] bf:=po
 refine oM Z bM (bnK rD fun _ bV rE=>?_)
 obtain ⟨tn,bv⟩:=cr.rowSome (j:=0) rfl (by rw [wAI (f:=KL.encI) (sz:=1) (fun _=>rfl) (gd ae ab)];have hz:=wAN bV;omega)
 refine oR Z (ZL Z Z bv Z zC zB (wAN bV)) ?_
 have qu:=wBK (xs:=(gd ae ab)) (wAN bV)
 refine ZI rfl rfl rfl rfl (cr.ldR (j:=0) rfl bv rfl rfl zF (wAT (sz:=1) (fun _=>rfl) _ _ 0 _ qu (by first | omega | rfl | simp) rfl)) rfl (zk rfl rfl rfl rfl (fun _=>zX rfl rfl rfl) (zz rfl rfl rfl rfl rfl rfl (ifc rE ?_ ?_)))
 intro aZ rF
 refine zz Z Z Z (wT Z aZ) Z bz (zz Z Z Z (wT Z aZ) Z bM (bnK rF fun _ bo rG=>rU Z (wT Z aZ) (ZL Z Z be Z zR zS (wAN bo)) ?_))
 have tr:=(cr.innHFit (j:=1) rfl).1
 have q:=cr.innHFit (j:=1) rfl
 obtain ⟨qj,i4⟩:=q
 have i4:(gd ae ab).length=(gd aa ab).n:=nM rfl (qj.at_ (k:=ab) i4).symm
 have pp:=cr.innBack0
 have eM:sW w U aV [inn 3 1 KL.encI aa ae,B8,aX,.blk b2 36 B0] bf:=pp
 have iE:=eM.innFit (j:=0) rfl
 have qv:=wBK (xs:=aa) (k:=ah) (by rw [iE.len];exact (wAN bo))
 have rS:nL (gd aa ah).A (gd aa ah).n (gd aa ah).c=.slice ((gd aa ah).A) ((gd ae ah).length) ((gd aa ah).c):=by rw [iE.at_ (k:=ah) (wAN bo)]
 refine ZI rfl rfl rfl (zO rfl rfl (Zl aZ.out)) (ym (eM.ldR (j:=1) rfl be rfl rfl zY (wAT (sz:=1) (fun _=>rfl) _ _ 0 _ qv (by first | omega | rfl | simp) rfl)) rS) rfl ?_
 have pu:=eM.innTake (k:=ah) (wAN bo)
 let dN:Res:=.row ((gd aa ah).A) ((gd aa ah).c) 3 1 (hH KL.encI (gd ae ah))
 have ct:sW w U aV [dN,wIe 3 1 KL.encI aa ae ah,B8,aX,.blk b2 36 B0] bf:=pu
 refine zz Z Z Z (wT Z aZ) Z bU (bnK rG fun _ bW rH=>?_)
 obtain ⟨tp,cp⟩:=ct.rowSome (j:=0) rfl (by rw [wAI (f:=KL.encI) (sz:=1) (fun _=>rfl) (gd ae ah)];have hz:=wAN bW;omega)
 refine rU Z (wT Z aZ) (ZL Z Z cp Z zC zB (wAN bW)) ?_
 have qw:=wBK (xs:=(gd ae ah)) (wAN bW)
 refine ZI rfl rfl rfl (zO rfl rfl (Zl aZ.out)) (ct.ldR (j:=0) rfl cp rfl rfl zF (wAT (sz:=1) (fun _=>rfl) _ _ 0 _ qw (by first | omega | rfl | simp) rfl)) rfl (zk rfl rfl rfl (zO rfl rfl (Zl aZ.out)) (fun _=>zX rfl rfl rfl) (zk rfl rfl rfl rfl (fun _=>zl rfl (Zl aZ.out) rfl) (zz rfl rfl rfl rfl rfl rfl (ifc rH ?_ ?_))))
 intro ak rJ
 refine zz Z Z Z (wT Z ak) Z bz (zz Z Z Z (wT Z ak) Z bT (rU Z (wT Z ak) (ZL Z Z be Z zR zS (wAN bd)) ?_))
 have tu:=(ct.innHFit (j:=1) rfl).1
 have q:=ct.innHFit (j:=1) rfl
 obtain ⟨qk,i6⟩:=q
 have i6:(gd ae ah).length=(gd aa ah).n:=nM rfl (qk.at_ (k:=ah) i6).symm
 have py:=ct.innBack0
 have eO:sW w U aV [inn 3 1 KL.encI aa ae,B8,aX,.blk b2 36 B0] bf:=py
 have iF:=eO.innFit (j:=0) rfl
 have qx:=wBK (xs:=aa) (k:=ab) (by rw [iF.len];exact (wAN bd))
 have rT:nL (gd aa ab).A (gd aa ab).n (gd aa ab).c=.slice ((gd aa ab).A) ((gd ae ab).length) ((gd aa ab).c):=by rw [iF.at_ (k:=ab) (wAN bd)]
 refine ZI rfl rfl rfl (zO rfl rfl (Zl ak.out)) (ym (eO.ldR (j:=1) rfl be rfl rfl zY (wAT (sz:=1) (fun _=>rfl) _ _ 0 _ qx (by first | omega | rfl | simp) rfl)) rT) rfl ?_
 have pz:=eO.innTake (k:=ab) (wAN bd)
 have du:sW w U aV [cY,wIe 3 1 KL.encI aa ae ab,B8,aX,.blk b2 36 B0] bf:=pz
 refine zz Z Z Z (wT Z ak) Z bM (rU Z (wT Z ak) (ZL Z Z bv Z zC zB (wAN bV)) ?_)
 have qy:=wBK (xs:=(gd ae ab)) (wAN bV)
 refine ZI rfl rfl rfl (zO rfl rfl (Zl ak.out)) (du.ldR (j:=0) rfl bv rfl rfl zF (wAT (sz:=1) (fun _=>rfl) _ _ 0 _ qy (by first | omega | rfl | simp) rfl)) rfl (zz rfl rfl rfl (zO rfl rfl (Zl ak.out)) rfl bz (zz rfl rfl rfl (zO rfl rfl (Zl ak.out)) rfl bM (zk rfl rfl rfl (zO rfl rfl (Zl ak.out)) (fun _=>ZL rfl rfl be rfl zR zS (wAN bo)) ?_)))
 have tv:=(du.innHFit (j:=1) rfl).1
 have q:=du.innHFit (j:=1) rfl
 obtain ⟨qm,i8⟩:=q
 have i8:(gd ae ab).length=(gd aa ab).n:=nM rfl (qm.at_ (k:=ab) i8).symm
 have pC:=du.innBack0
 have eQ:sW w U aV [inn 3 1 KL.encI aa ae,B8,aX,.blk b2 36 B0] bf:=pC
 have iG:=eQ.innFit (j:=0) rfl
 have qz:=wBK (xs:=aa) (k:=ah) (by rw [iG.len];exact (wAN bo))
 have rV:nL (gd aa ah).A (gd aa ah).n (gd aa ah).c=.slice ((gd aa ah).A) ((gd ae ah).length) ((gd aa ah).c):=by rw [iG.at_ (k:=ah) (wAN bo)]
 refine ZI rfl rfl rfl (zO rfl rfl (Zl ak.out)) (ym (eQ.ldR (j:=1) rfl be rfl rfl zY (wAT (sz:=1) (fun _=>rfl) _ _ 0 _ qz (by first | omega | rfl | simp) rfl)) rV) rfl ?_
 have pD:=eQ.innTake (k:=ah) (wAN bo)
 have dv:sW w U aV [dN,wIe 3 1 KL.encI aa ae ah,B8,aX,.blk b2 36 B0] bf:=pD
 refine zz Z Z Z (wT Z ak) Z bU (rU Z (wT Z ak) (ZL Z Z cp Z zC zB (wAN bW)) ?_)
 have qA:=wBK (xs:=(gd ae ah)) (wAN bW)
 refine ZI rfl rfl rfl (zO rfl rfl (Zl ak.out)) (dv.ldR (j:=0) rfl cp rfl rfl zF (wAT (sz:=1) (fun _=>rfl) _ _ 0 _ qA (by first | omega | rfl | simp) rfl)) rfl (zk rfl rfl rfl (zO rfl rfl (Zl ak.out)) (fun _=>zZ rfl rfl rfl) (zz rfl rfl rfl (zO rfl rfl (Zl ak.out)) rfl bz (zz rfl rfl rfl (zO rfl rfl (Zl ak.out)) rfl bT (zk rfl rfl rfl (zO rfl rfl (Zl ak.out)) (fun _=>ZL rfl rfl be rfl zR zS (wAN bd)) ?_))))
 have tw:=(dv.innHFit (j:=1) rfl).1
 have q:=dv.innHFit (j:=1) rfl
 obtain ⟨qn,i9⟩:=q
 have i9:(gd ae ah).length=(gd aa ah).n:=nM rfl (qn.at_ (k:=ah) i9).symm
 have pE:=dv.innBack0
 have eR:sW w U aV [inn 3 1 KL.encI aa ae,B8,aX,.blk b2 36 B0] bf:=pE
 have iH:=eR.innFit (j:=0) rfl
 have qB:=wBK (xs:=aa) (k:=ab) (by rw [iH.len];exact (wAN bd))
 have rW:nL (gd aa ab).A (gd aa ab).n (gd aa ab).c=.slice ((gd aa ab).A) ((gd ae ab).length) ((gd aa ab).c):=by rw [iH.at_ (k:=ab) (wAN bd)]
 refine ZI rfl rfl rfl (zO rfl rfl (Zl ak.out)) (ym (eR.ldR (j:=1) rfl be rfl rfl zY (wAT (sz:=1) (fun _=>rfl) _ _ 0 _ qB (by first | omega | rfl | simp) rfl)) rW) rfl ?_
 have pF:=eR.innTake (k:=ab) (wAN bd)
 have eS:sW w U aV [cY,wIe 3 1 KL.encI aa ae ab,B8,aX,.blk b2 36 B0] bf:=pF
 refine zz Z Z Z (wT Z ak) Z bU (bnK rJ fun _ cJ rK=>rU Z (wT Z ak) (ZL Z Z bv Z zC zB (wAN cJ)) ?_)
 have qC:=wBK (xs:=(gd ae ab)) (wAN cJ)
 refine ZI rfl rfl rfl (zO rfl rfl (Zl ak.out)) (eS.ldR (j:=0) rfl bv rfl rfl zF (wAT (sz:=1) (fun _=>rfl) _ _ 0 _ qC (by first | omega | rfl | simp) rfl)) rfl (zk rfl rfl rfl (zO rfl rfl (Zl ak.out)) (fun _=>zX rfl rfl rfl) (zk rfl rfl rfl rfl (fun _=>zl rfl (Zl ak.out) rfl) (eN (ifc rK ?_ ?_))))
 intro d7 rL
 refine cT Z d7 (yp fun cS cw=>?_)
 have jS:cS 3=jV x5:=(cw 3).trans dl
 have dm:cS 4=.slice am ae.length ap:=(cw 4).trans bz
 have ej:cS 15=jV (↑ah:Int):=(cw 15).trans bM
 have en:cS 16=jV (↑ab:Int):=(cw 16).trans bT
 have eu:cS 17=jV (↑aW:Int):=(cw 17).trans bU
 clear cw
 refine ZD zy [3,3,3,1,3,3,3,3,1,3,3,1,3,3,3,1,3,3,1,3,3,3,0] (wUo (.fx 22 .nil .stop)) (by kernel_rfl) ?_
 have bB:=eS.drew
 generalize hw_W749:({ bf with drawn:=bf.drawn + 1 }:World)=dh at bB ⊢
 refine oM Z dm (oM Z en (oR Z (ZL Z Z be Z zR zS (wAN bd)) ?_))
 have q:=bB.innHFit (j:=1) rfl
 obtain ⟨iI,ja⟩:=q
 have qD:=wBK (xs:=aa) (k:=ab) (by rw [iI.len];exact ja)
 have rX:nL (gd aa ab).A (gd aa ab).n (gd aa ab).c=.slice ((gd aa ab).A) ((gd ae ab).length) ((gd aa ab).c):=congrArg (fun n_=>nL (gd aa ab).A n_ (gd aa ab).c) ((iI.at_ (k:=ab) ja).trans (Eq.symm rfl))
 refine ZI rfl rfl rfl rfl (ym (bB.ldR (j:=2) rfl be rfl rfl zY (wAT (sz:=1) (fun _=>rfl) _ _ 0 _ qD (by first | omega | rfl | simp) rfl)) rX) rfl (zz rfl rfl rfl rfl rfl eu (zz rfl rfl rfl rfl rfl dm (zz rfl rfl rfl rfl rfl en (zk rfl rfl rfl rfl (fun _=>ZL rfl rfl be rfl zR zS (wAN bd)) ?_))))
 have q:=bB.innHFit (j:=1) rfl
 obtain ⟨iJ,jb⟩:=q
 have qE:=wBK (xs:=aa) (k:=ab) (by rw [iJ.len];exact jb)
 have rY:nL (gd aa ab).A (gd aa ab).n (gd aa ab).c=.slice ((gd aa ab).A) ((gd ae ab).length) ((gd aa ab).c):=congrArg (fun n_=>nL (gd aa ab).A n_ (gd aa ab).c) ((iJ.at_ (k:=ab) jb).trans (Eq.symm rfl))
 refine ZI rfl rfl rfl rfl (ym (bB.ldR (j:=2) rfl be rfl rfl zY (wAT (sz:=1) (fun _=>rfl) _ _ 0 _ qE (by first | omega | rfl | simp) rfl)) rY) rfl (zz rfl rfl rfl rfl rfl ej (zk rfl rfl rfl rfl (fun _=>ZL rfl rfl bv rfl zC zB (wAN bV)) ?_))
 have qF:=wBK (xs:=(gd ae ab)) (wAN bV)
 refine ZI rfl rfl rfl rfl (bB.ldR (j:=0) rfl bv rfl rfl zF (wAT (sz:=1) (fun _=>rfl) _ _ 0 _ qF (by first | omega | rfl | simp) rfl)) rfl (zz rfl rfl rfl rfl rfl dm (zz rfl rfl rfl rfl rfl ej (zk rfl rfl rfl rfl (fun _=>ZL rfl rfl be rfl zR zS (wAN bo)) ?_)))
 have tz:=(bB.innHFit (j:=1) rfl).1
 have q:=bB.innHFit (j:=1) rfl
 obtain ⟨iK,fj⟩:=q
 have fj:(gd ae ab).length=(gd aa ab).n:=nM rfl (iK.at_ (k:=ab) fj).symm
 have pG:=bB.innBack0
 have eU:sW w U aV [inn 3 1 KL.encI aa ae,B8,aX,.blk b2 36 B0] dh:=pG
 have iL:=eU.innFit (j:=0) rfl
 have qG:=wBK (xs:=aa) (k:=ah) (by rw [iL.len];exact (wAN bo))
 have rZ:nL (gd aa ah).A (gd aa ah).n (gd aa ah).c=.slice ((gd aa ah).A) ((gd ae ah).length) ((gd aa ah).c):=by rw [iL.at_ (k:=ah) (wAN bo)]
 refine ZI rfl rfl rfl rfl (ym (eU.ldR (j:=1) rfl be rfl rfl zY (wAT (sz:=1) (fun _=>rfl) _ _ 0 _ qG (by first | omega | rfl | simp) rfl)) rZ) rfl ?_
 have pH:=eU.innTake (k:=ah) (wAN bo)
 have eV:sW w U aV [dN,wIe 3 1 KL.encI aa ae ah,B8,aX,.blk b2 36 B0] dh:=pH
 refine oM Z eu (oR Z (ZL Z Z cp Z zC zB (wAN bW)) ?_)
 have qH:=wBK (xs:=(gd ae ah)) (wAN bW)
 refine ZI rfl rfl rfl rfl (eV.ldR (j:=0) rfl cp rfl rfl zF (wAT (sz:=1) (fun _=>rfl) _ _ 0 _ qH (by first | omega | rfl | simp) rfl)) rfl (zk rfl rfl rfl rfl (fun _=>zZ rfl rfl rfl) (zk rfl rfl rfl rfl (fun _=>Runs.max rfl rfl rfl) ?_))
 have q:=eV.innHFit (j:=1) rfl
 obtain ⟨qo,jc⟩:=q
 have jc:(gd ae ah).length=(gd aa ah).n:=nM rfl (qo.at_ (k:=ah) jc).symm
 have pI:=eV.innBack0
 have ir:sW w U aV [inn 3 1 KL.encI aa ae,B8,aX,.blk b2 36 B0] dh:=pI
 have iM:=ir.innFit (j:=0) rfl
 have iO:ab < ae.length:=nP (wAN bd) (iK.len.symm.trans iM.len)
 have pJ:=ir.innTake (k:=ab) iO
 have pK:sW w U aV [cY,wIe 3 1 KL.encI aa ae ab,B8,aX,.blk b2 36 B0] dh:=pJ
 refine oR Z (ZL Z (nM (b:=(.slice ((gd aa ab).A) ((gd aa ab).n) ((gd aa ab).c):Value)) (c:=(.slice ((gd aa ab).A) ((gd ae ab).length) ((gd aa ab).c):Value)) (nM (b:=(.slice ((gd aa ab).A) ((gd ae ab).length) ((gd aa ab).c):Value)) (c:=(.slice ((gd aa ab).A) ((gd aa ab).n) ((gd aa ab).c):Value)) Z (congrArg (fun n_=>nL ((gd aa ab).A) n_ ((gd aa ab).c)) fj)) (congrArg (fun n_=>nL ((gd aa ab).A) n_ ((gd aa ab).c)) (iM.at_ (k:=ab) iO))) bv Z zC zB (wAN cJ)) ?_
 have qI:=wBK (xs:=(gd ae ab)) (wAN cJ)
 refine ye (j:=0) (vs:=[jV (max (w64 ((gd (gd ae ab) ah) + (gd (gd ae ah) aW))) (-1125899906842624))]) (cs':=hH KL.encI (nB (gd ae ab) aW (max (w64 ((gd (gd ae ab) ah) + (gd (gd ae ah) aW))) (-1125899906842624)))) rfl rfl rfl rfl pK rfl bv rfl rfl rfl zB (by rw [wAI (f:=KL.encI) (sz:=1) (fun _=>rfl)];have hz:=wAN cJ;show _ + 1 <= _;first | omega | (simp only [nI];omega) | (simp only [nH,nE,nG];omega)) rfl (wCv (sz:=1) (fo:=0) (fun _=>rfl) _ _ _ _ qI (by first | omega | (simp only [nI];omega) | (simp only [nH,nE,nG];omega)) (zA rfl) rfl) rfl ?_
 intro d6 pL
 have pM:sW w U aV [.row ((gd aa ab).A) ((gd aa ab).c) 3 1 (hH KL.encI (nB (gd ae ab) aW (max (w64 ((gd (gd ae ab) ah) + (gd (gd ae ah) aW))) (-1125899906842624)))),wIe 3 1 KL.encI aa ae ab,B8,aX,.blk b2 36 B0] d6:=pL
 refine zh (zq (zG (rR fL3 Z (oM Z eu (oR Z (ZP (zZ Z Z Z) (congrArg (jV) dA.out)) (oA Z Z (zh ?_)))))))
 have pN:=pM.innBack nK
 have pO:sW w U aV [inn 3 1 KL.encI aa (nB ae ab (nB (gd ae ab) aW (max (w64 ((gd (gd ae ab) ah) + (gd (gd ae ah) aW))) (-1125899906842624)))),B8,aX,.blk b2 36 B0] d6:=pN
 have pP:sW w U aV [inn 3 1 KL.encI aa (nB ae ab (nB (gd ae ab) aW (max (w64 ((gd (gd ae ab) ah) + (gd (gd ae ah) aW))) (-1125899906842624)))),B8,.blk az 188 [.slice am ((nB ae ab (nB (gd ae ab) aW (max (w64 ((gd (gd ae ab) ah) + (gd (gd ae ah) aW))) (-1125899906842624)))).length) ap],.blk b2 36 B0] d6:=by simpa only [B0,aX,B8,nK] using pO
 cases rL
 exact zG ⟨rfl,⟨aV,rfl,jS,(nM (b:=(.slice am ae.length ap:Value)) (c:=(.slice am ((nB ae ab (nB (gd ae ab) aW (max (w64 ((gd (gd ae ab) ah) + (gd (gd ae ah) aW))) (-1125899906842624)))).length) ap:Value)) dm (by simp only [nK])),ej,en,dD,(pP.pick [1,0,2,3] _ (by decide) rfl)⟩⟩
 intro d7 rM
 refine cF Z d7 (Zh (zq (zG (yp fun cU cx=>?_))))
 have jU:cU 3=jV x5:=(cx 3).trans dl
 have jW:cU 4=.slice am ae.length ap:=(cx 4).trans bz
 have jX:cU 15=jV (↑ah:Int):=(cx 15).trans bM
 have jY:cU 16=jV (↑ab:Int):=(cx 16).trans bT
 have jZ:cU 17=jV (↑aW:Int):=(cx 17).trans bU
 clear cx
 refine rR fL3 Z (oM Z jZ (oR Z (ZP (zZ Z Z Z) (congrArg (jV) dA.out)) (oA Z Z (zh ?_))))
 have pQ:=eS.innBack0
 have pR:sW w U aV [inn 3 1 KL.encI aa ae,B8,aX,.blk b2 36 B0] bf:=pQ
 cases rM
 exact zG ⟨rfl,⟨aV,rfl,jU,jW,jX,jY,dD,(pR.pick [1,0,2,3] _ (by decide) rfl)⟩⟩
 intro ak rO
 refine oF Z ak (oF Z ak (oF Z ak (oF Z ak (oF Z ak (oF Z ak (oF Z ak (oF Z ak (oF Z ak (oF Z ak (oF Z ak (oF Z ak (oF Z ak (oF Z ak (oF Z ak (oF Z ak (oF Z ak (oF Z ak (oF Z ak (oF Z ak (oF Z ak (oF Z ak (oF Z ak (oR Z (zt Z (Ze ak.out) Z) (eN (zx Z (Zh (zq (zG (yp fun cV cy=>?_)))))))))))))))))))))))))))))
 have j0:cV 3=jV x5:=(cy 3).trans dl
 have j5:cV 4=.slice am ae.length ap:=(cy 4).trans bz
 have j6:cV 15=jV (↑ah:Int):=(cy 15).trans bM
 have j7:cV 16=jV (↑ab:Int):=(cy 16).trans bT
 have j8:cV 17=jV (↑aW:Int):=(cy 17).trans bU
 clear cy
 refine rR fL3 Z (oM Z j8 (oR Z (ZP (zZ Z Z Z) (congrArg (jV) dA.out)) (oA Z Z (zh ?_))))
 have pS:=ct.innBack0
 have pT:sW w U aV [inn 3 1 KL.encI aa ae,B8,aX,.blk b2 36 B0] bf:=pS
 cases rO
 exact zG ⟨rfl,⟨aV,rfl,j0,j5,j6,j7,dD,(pT.pick [1,0,2,3] _ (by decide) rfl)⟩⟩
 intro aZ rP
 refine oF Z aZ (oF Z aZ (oF Z aZ (oF Z aZ (oF Z aZ (oF Z aZ (oF Z aZ (oF Z aZ (oR Z (zt Z (Ze aZ.out) Z) (oM Z Z (oN Z (oN Z (oN Z (oN Z (oN Z (oN Z (oN Z (oN Z (oN Z (oN Z (oN Z (oN Z (oN Z (oN Z (oN Z (oN Z (oN Z (oN Z (oN Z (oN Z (oN Z (oN Z (oN Z (oR Z (zt Z Z Z) (eN (zx Z (Zh (zq (zG (yp fun cW cz=>?_)))))))))))))))))))))))))))))))))))))))
 have j9:cW 3=jV x5:=(cz 3).trans dl
 have k9:cW 4=.slice am ae.length ap:=(cz 4).trans bz
 have lf:cW 15=jV (↑ah:Int):=(cz 15).trans bM
 have lg:cW 16=jV (↑ab:Int):=(cz 16).trans bT
 have lh:cW 17=jV (↑aW:Int):=(cz 17).trans bU
 clear cz
 refine rR fL3 Z (oM Z lh (oR Z (ZP (zZ Z Z Z) (congrArg (jV) dA.out)) (oA Z Z (zh ?_))))
 have pU:=cr.innBack0
 have pV:sW w U aV [inn 3 1 KL.encI aa ae,B8,aX,.blk b2 36 B0] bf:=pU
 cases rP
 exact zG ⟨rfl,⟨aV,rfl,j9,k9,lf,lg,dD,(pV.pick [1,0,2,3] _ (by decide) rfl)⟩⟩
 rintro ur s6 ⟨jh,lx,gL,li,lj,lm,sm,pW⟩
 have jw:Hid (¬ ((↑((x5:Int) - 0).toNat:Int) < x5)):=zI (wAj)
 refine zH (sR fL3 Z (oM Z lx (oM Z gL (oR Z (zX Z Z Z) (eN (cF Z jw (ZT (zf (zf (ZK (zq (zG (rR fL3 Z (oM Z lm (oR Z (ZP (zZ Z Z Z) (congrArg (jV) qK.out)) (oA Z Z (zh ?_)))))))))))))))))
 cases rA
 exact zG ⟨Z,⟨jh,Z,gL,li,lj,(sk.trans sm),pW⟩⟩
 rintro uu s7 ⟨ji,ly,gM,ln,lp,sn,pX⟩
 have jx:Hid (¬ ((↑((x5:Int) - 0).toNat:Int) < x5)):=zI (wAj)
 refine zH (sR fL3 Z (oM Z ly (oM Z gM (oR Z (zX Z Z Z) (eN (cF Z jx (ZT (zf (zf (ZK (zq (zG (rR fL3 Z (oM Z lp (oR Z (ZP (zZ Z Z Z) (congrArg (jV) qJ.out)) (oA Z Z (zh ?_)))))))))))))))))
 cases ry
 exact zG ⟨Z,⟨ji,Z,gM,ln,(sj.trans sn),pX⟩⟩
 rintro uw s8 ⟨jj,lz,ls,lu,tA,pY⟩
 have jy:Hid (¬ ((↑((x5:Int) - 0).toNat:Int) < x5)):=zI (wAj)
 refine zH (sR fL3 Z (oM Z lz (oM Z ls (oR Z (zX Z Z Z) (eN (cF Z jy (ZT (zf (zf (ZK (zG (sR fL2 Z (oM Z lu (oA Z Z (eN (zP ?_))))))))))))))))
 have hE:=nJ rx;first | subst r | cases hE
 exact ⟨rfl,_,(ZH rfl),jj,_,(pY.pick [0,1] _ (by decide) rfl),am,ap,aa,rfl,rfl⟩
end Go.Proofs.YtlnfbjphfoipaaaGreat
