import Derived.Test.YtkedcbligiebkaaGreatY7
import Derived.Test.YtkedcbligiebkaaGreatY6
import Derived.Test.YtkedcbligiebkaaGreatY8
set_option linter.all false
open List renaming flatMap->hH,getElem_cons_succ->nB,getElem_cons_zero->nD,getElem_toArray->nE,set->nH,length_set->nI,replicate->nM
open Option.some renaming inj->nA
open Int renaming toNat_natCast->nG,eq_ofNat_of_zero_le->nL
open Go.Value renaming bool->nJ
open Bool renaming eq_false_iff->nK
namespace Go.Proofs.YtkedcbligiebkaaGreat
open Go.KL
def gCx:Sch:=.fx 0 (.fx 1 .nil .stop) .stop
def gCy:Sch:=.fl 14 (.fx 16 .nil .stop)
def gCz:Sch:=.fl 17 (.fx 18 .nil .stop)
def gDa:Sch:=.fx 3 (.fl 4 .nil) .stop
def gDb:Sch:=.fx 1 (.fx 2 .nil .stop) .stop
def gDc:Sch:=.fx 0 (.fl 1 .nil) .stop
def gDd:Sch:=.fx 0 (.fl 1 (.fl 2 .nil)) .stop
def gDe:Sch:=.fx 7 (.fl 8 (.fl 9 .nil)) .stop
def gDf:Sch:=.fl 14 (.fx 15 (.fx 16 .nil .stop) .stop)
def gDg:Sch:=.fx 13 gCy .stop
def gDh:Sch:=.fx 3 (.fl 4 (.fl 5 .nil)) .stop
def gDi:Sch:=.fx 2 gDa .stop
def gDj:Sch:=.fx 13 (.fl 14 (.fl 15 .nil)) .stop
def gDk:Sch:=.fl 0 (.fx 1 (.fl 2 (.fl 3 .nil)) .stop)
def gDl:Sch:=.fl 0 (.fl 1 (.fx 2 (.fl 3 .nil) .stop))
def gDm:Sch:=.fx 7 gDg .stop
def gDn:Sch:=.fx 12 gDj .stop
def gDo:Sch:=.fx 13 gDf (.fx 15 gDg .stop)
def gDp:Sch:=.fx 6 (.fl 12 gDg) .stop
def gDq:Sch:=.fx 4 (.fx 16 gCz .stop) (.fx 16 (.fx 4 gCz .stop) .stop)
def gDr:Sch:=.fl 0 (.fl 1 (.fx 2 (.fx 3 (.fx 4 .nil .stop) .stop) .stop))
def gDs:Sch:=.fx 0 gDp .stop
def gDt:Sch:=.fx 6 (.fl 12 gDo) (.fx 15 gDp .stop)
def gDu:Sch:=.fx 6 (.fl 12 gDm) (.fx 7 gDp .stop)
def gDv:Sch:=.fl 0 (.fl 1 (.fl 3 (.fx 2 (.fx 4 (.fx 5 (.fx 6 (.fl 7 .nil) .stop) .stop) .stop) .stop)))
set_option maxHeartbeats 4000000
theorem wJn (p0:wAD) (ai:Option Addr) (ap:Nat) (aj:Option Addr) (aq:Nat) (ak:Option Addr) (au:Nat) (am:Option Addr) (av:Nat) (w:World) (U:PHeap) (hS:St0 w U []) (bu:Sl U 1 ai ap p0.Starts.length (hH KL.encI p0.Starts)) (bv:Sl U 2 aj aq p0.Splits.length (hH wAL p0.Splits)) (bw:Sl U 3 ak au p0.Clocks.length (hH wAA p0.Clocks)) (bz:Sl U 4 am av p0.Readings.length (hH wAJ p0.Readings)) {r:(Option wAj) × Int} (hm:wCp p0=some r):Gv Tryz.prog 62 [.agg #[.slice ai p0.Starts.length ap,.slice aj p0.Splits.length aq,.slice ak p0.Clocks.length au,.slice am p0.Readings.length av]] w (wCW w [] U (fun U_ L_ v=>match r.1 with | none=>v=.tuple #[.pointer none,jV r.2]/\L_=[] | some d=>∃ (b0:Nat) (A0p00:Option Addr) (c0p00:Nat) (A0p01:Option Addr) (c0p01:Nat) (A0p02:Option Addr) (c0p02:Nat) (A0p03:Option Addr) (c0p03:Nat) (m0p1:Nat) (es0p1:Array MapEntry) (ck0p1:Nat) (A0p2:Option Addr) (c0p2:Nat),v=.tuple #[.pointer (some ⟨b0,0,none⟩),jV r.2]/\L_=[.blk b0 146 [.slice A0p00 d.Race.Starts.length c0p00,.slice A0p01 d.Race.Splits.length c0p01,.slice A0p02 d.Race.Clocks.length c0p02,.slice A0p03 d.Race.Readings.length c0p03,.map (some m0p1),.slice A0p2 d.edges.length c0p2],.obj m0p1 (.map es0p1 ck0p1),.row A0p2 c0p2 212 7 (hH wAY d.edges)]/\Sl U_ 1 A0p00 c0p00 d.Race.Starts.length (hH KL.encI d.Race.Starts)/\Sl U_ 2 A0p01 c0p01 d.Race.Splits.length (hH wAL d.Race.Splits)/\Sl U_ 3 A0p02 c0p02 d.Race.Clocks.length (hH wAA d.Race.Clocks)/\Sl U_ 4 A0p03 c0p03 d.Race.Readings.length (hH wAJ d.Race.Readings)/\MpR es0p1 wBO wBR d.number)):=by
 unfold wCp at hm
 refine Gv.of Tryz.func62 Z Tryz.ntmps62 Tryz.results62 Z (sR gDd Z ?_)
 let B0:List Value:=[.slice ai p0.Starts.length ap,.slice aj p0.Splits.length aq,.slice ak p0.Clocks.length au,.slice am p0.Readings.length av]
 refine ZK (cs:=B0) rfl rfl rfl rfl rfl rfl (by rfl) hS ?_
 intro W1 b2 bt
 refine oA Z Z (oA Z Z (eN (zI (sR (.fl 0 (.fx 1 (.fl 2 .nil) .stop)) Z (oL Z (bt.ldBA (j:=0) Z Z Z ZH zu (vs:=B0) Z Z) (bnK hm fun x5 h6 bT=>zM 0 Z Z Z Z (zK Z Z Tryz.call103 (zB Z zP) Z) bt (fun hs=>wJm p0 ai ap aj aq ak au am av W1 U hs bu bv bw bz h6) (.inr Z) ?_))))))
 rintro U8 L9 bX bh az bN ⟨rfl,rfl⟩
 have aY:sW w U U8 [.blk b2 28 B0] bh:=bN
 refine oA Z Z (eN (sR fL2 Z (oM Z Z (oR Z (yC Z Z Z) (eN (ifc bT ?_ ?_))))))
 intro aW bQ
 refine zo (ZQ (fun h=>h aW.out)) (kN (sR gDk Z (oL Z (aY.ldBA (j:=0) Z Z Z ZH zu (vs:=B0) Z Z) ?_)))
 have bC:=bu.le az
 have bD:=bv.le az
 have bE:=bw.le az
 have bF:=bz.le az
 refine bnK bQ fun ab bG bR=>zM 0 Z Z Z Z (zK Z Z Tryz.call104 (zB Z zP) Z) aY (fun hs=>wIz p0 ai ap aj aq ak au am av bh U8 hs bC bD bE bF bG) (.inr Z) ?_
 rintro bg bU bY bB bW bO ⟨bk,ba,bm,bb,bn,bd,bo,be,bp,aZ,br,bq,aU,aX,rfl,rfl,bH,bI,bJ,bK,bL⟩
 have bP:sW w U bg [.blk bk 146 [.slice ba ab.Race.Starts.length bm,.slice bb ab.Race.Splits.length bn,.slice bd ab.Race.Clocks.length bo,.slice be ab.Race.Readings.length bp,.map (some aZ),.slice aU ab.edges.length aX],.obj aZ (.map br bq),.row aU aX 212 7 (hH wAY ab.edges),.blk b2 28 B0] bB:=bO
 refine oA Z Z (oA Z Z (eN (zV ?_)))
 cases bR
 exact ⟨rfl,_,(wGg rfl rfl),bg,_,(bP.pick [0,1,2] _ (by decide) rfl),bk,ba,bm,bb,bn,bd,bo,be,bp,aZ,br,bq,aU,aX,rfl,rfl,bH,bI,bJ,bK,bL⟩
 intro aW bS
 refine cT Z aW (sR fL3 Z (oM Z Z (oA Z Z (oA Z Z (eN (zV (zR ?_)))))))
 cases bS
 exact ⟨rfl,_,(wGg rfl rfl),U8,_,(aY.pick [] _ (by decide) rfl),rfl,rfl⟩
theorem wDH (p0:List wAW) (az:Option Addr) (aU:Nat) (p1:(wAW->Option Bool)) (aV:Value) (w:World) (U:PHeap) (hS:St0 w U []) (bF:Sl U 2 az aU p0.length (hH wCM p0)) (bG:FnOK Tryz.prog U aV wRy wRz p1) {r:Bool} (hm:wBE p0 p1=some r):Gv Tryz.prog 63 [.slice az p0.length aU,aV] w (wCW w [] U (fun U_ L_ v=>v=.bool r/\L_=[])):=by
 unfold wBE at hm
 refine Gv.of Tryz.func63 Z Tryz.ntmps63 Tryz.results63 Z (sR fL1 Z (oA Z Z (eN (zI (sR fL3 Z (oM Z Z (oR Z (ZA Z Z Tryz.runUnderlying151) (oM Z Z (eN (zU ?_))))))))))
 have q:=wCQ hm
 obtain ⟨r3,ap⟩:=q
 have q:=wCP ap
 obtain ⟨au,bJ⟩:=q
 replace au:=zJ au
 refine yX (fun k2 _ σ_ w_=>∃ (U_:PHeap),σ_ 9=jV (↑k2:Int)/\σ_ 1=aV/\σ_ 7=.slice az p0.length aU/\σ_ 8=jV (↑p0.length:Int)/\PHeap.Le U U_/\sW w U U_ [] w_) bJ ?_ ?_ ?_
 exact ⟨U,Z,Z,Z,Z,(zL _),hS⟩
 rintro k2 ⟨⟩ ci cm W8 aq ⟨bk,am,aY,aZ,ba,av,bd⟩ bi bH
 try dsimp only at bi
 have aX:Hid ((↑k2:Int) < (↑p0.length:Int)):=zJ (wBP aq)
 replace aq:=zJ aq
 have bK:Hid (w64 ((↑k2:Int) + 1)=(↑(k2 + 1):Int)):=zJ (by have h1:=au.out;have h2:=aX.out;rw [wAa] <;> omega)
 refine sR fL1 Z (oR Z (zO Z am ba) (eN (zI (cT Z aX (kN (zI (zU (sR (.fl 0 (.fl 1 (.fx 2 (.fx 3 .nil .stop) .stop))) Z (bnK bi fun ae bb bL=>?_)))))))))
 have bu:=bF.le av
 have q:=bu.el (fun _=>rfl) (wAi bb)
 obtain ⟨bW,cb,bz,bA⟩:=q
 refine oR Z (Zp Z aZ bz am Tryz.runUnderlying151 yG (wCv bb)) (oL Z (bd.ldCA (f:=0) bA Z Z yj yG (us:=[jV ae.Skier,jV ae.Mat]) Z Z) (zW (cs:=[jV 0,jV 0]) Z Z Z Z Z yb Z bd ?_))
 intro bT aW bB
 let B0:List Value:=[jV ae.Skier,jV ae.Mat]
 refine zY (j:=0) (vs:=B0) Z Z Z Z bB Z Z Z Z yG (zA Z) Z Z Z ?_
 intro bn bC
 have be:sW w U bk [.blk aW 57 B0] bn:=bC
 refine eN (sR gDl Z (oM Z aY (oL Z (be.ldBA (j:=0) Z Z Z yj yG (vs:=B0) Z Z) (bnK bL fun x37 bv bM=>?_))))
 have bw:=bG.le av
 refine yd (a:=ae) Z Z Z Z Z Z (zB Z zP) be bw Z bv ?_
 rintro aj bS cf bo bQ bD ⟨rfl,rfl⟩
 have bg:sW w U aj [.blk aW 57 B0] bo:=bD
 refine oR Z (Zf Z Z) (eN (ifc bM ?_ ?_))
 intro ak bN
 refine zo (nC ak.out) (ZT (zj (zG (rR fL2 Z (oR Z (ZR (zS Z am Z) (congrArg (jV) bK.out)) (oM Z Z (zX ?_)))))))
 have q:=nA bN
 obtain rfl:=q
 exact zG ⟨rfl,_,rfl,⟨aj,rfl,aY,aZ,ba,(av.trans bQ),(bg.pick [] _ (by decide) rfl)⟩⟩
 intro ak bO
 refine ZI (nF (ak.out)) (sR fL1 Z (oA Z Z (eN (zV (zi (zR ?_))))))
 have q:=wAb bO
 obtain ⟨bR,bP,bq⟩:=q
 have q:=wBf hm ap (bH bR bq)
 obtain rfl:=q
 refine zR (zi (zR ?_))
 have hE:=nA bP;first | subst r | cases hE
 exact ⟨rfl,_,(ZS rfl),aj,_,(bg.pick [] _ (by decide) rfl),rfl,rfl⟩
 rintro ⟨⟩ cj bU ⟨bm,bt,bX,bY,br,bZ,bE⟩ bI
 have bh:=wDd hm ap bI
 try dsimp only at bh
 have bp:Hid (¬ ((↑(((↑p0.length:Int):Int) - 0).toNat:Int) < (↑p0.length:Int))):=zJ (wAv)
 refine sR fL1 Z (oR Z (zO Z bt br) (eN (zI (cF Z bp (ZP (zd (zd (ZJ (zG (sR fL1 Z (oA Z Z (eN (zV ?_)))))))))))))
 have hE:=nA bh;first | subst r | cases hE
 exact ⟨Z,_,(ZS Z),bm,_,bE,Z,Z⟩
theorem wHf (p0 p1:Int) (w:World) (U:PHeap) (hS:St0 w U []) {r:Int × Int} (hm:wDF p0 p1=some r):Gv Tryz.prog 133 [.int .u64 p0,.int .u64 p1] w (wCW w [] U (fun U_ L_ v=>v=.tuple #[.int .u64 r.1,.int .u64 r.2]/\L_=[])):=by
 unfold wDF at hm
 split at hm
 rename_i h
 cases hm
 obtain ⟨x,rfl⟩:=nL h.1
 obtain ⟨y,rfl⟩:=nL h.2.2.1
 refine (Go.Proofs.Tryz.bits_Mul x y (by omega) (by omega) w).mono ?_
 rintro e w' ⟨rfl,rfl⟩
 refine ⟨_,Z,U,[],hS,?_,Z⟩
 simp
 cases hm
theorem wAo (p0:List Int) (aZ:Option Addr) (ba:Nat) (p1:Int) (w:World) (U:PHeap) (hS:St0 w U []) (cj:Sl U 1 aZ ba p0.length (hH KL.encI p0)) {r:(List Int)} (hm:wBF p0 p1=some r):Gv Tryz.prog 102 [.slice aZ p0.length ba,jV p1] w (wCW w [] U (fun U_ L_ v=>∃ (A0:Option Addr) (c0:Nat),v=.slice A0 r.length c0/\L_=[.row A0 c0 3 1 (hH KL.encI r)])):=by
 unfold wBF at hm
 refine Gv.of Tryz.func102 Z Tryz.ntmps102 Tryz.results102 Z (sR fL1 Z (oA Z Z (eN (zI (sR fL2 Z (oM Z Z (oR Z (zO Z Z Z) (eN ?_))))))))
 by_cases c1:p1 < 0
 have br:=hm;rw [if_pos c1] at br;replace c1:=zJ c1
 refine cT Z c1 (rR gCx Z ?_)
 cases br
 have bv:=hm;rw [if_neg c1] at bv;replace c1:=zJ c1
 refine cF Z c1 (kN (sR (wDh (.fx 5 (wUS (.nil)) .stop)) Z (oM Z Z (oR Z (ZA Z Z zD) (oR Z (Runs.cv64 Z Z ZW Zh Z Z) (oM Z Z (oR Z (Runs.cv64 Z Z ZW Zh Z Z) ?_)))))))
 have q:=bnd bv
 obtain ⟨⟨x4,x5⟩,h6,bw⟩:=q
 try dsimp only at bw
 refine zM 0 Z Z Z Z (zK Z Z Tryz.call133 (zB Z (zB Z zP)) Z) hS (fun hs=>wHf (wAf (↑p0.length:Int)) (wAf p1) w U hs h6) (.inr Z) ?_
 rintro U8 L9 cP bH cG bY ⟨rfl,rfl⟩
 have bk:sW w U U8 [] bH:=bY
 refine oM Z Z (oR Z (zl Z Z (v:=.int .u64 x4) Z) (oR Z (zl Z Z (v:=.int .u64 x5) Z) (oA Z Z (oA Z Z (eN (zI (bnK bw fun bL bC cw=>yA (fun σ_ w_=>∃ (U_:PHeap),σ_ 0=.slice aZ p0.length ba/\σ_ 6=.int .u64 x5/\σ_ 26=.bool bL/\PHeap.Le U8 U_/\sW w U U_ [] w_) ?_ ?_)))))))
 refine rR fL6 Z (oM Z Z (oR Z (ya Z Z Z) (oM Z Z ?_)))
 by_cases ab:0 < x4
 have bt:=bC;rw [if_pos ab] at bt;replace ab:=zJ ab
 refine oT Z ab (oT Z ab (oR Z (zf Z (Zd ab.out) Z) (zX ?_)))
 cases bt
 exact zG ⟨Z,⟨U8,Z,Z,Z,(zL _),bk⟩⟩
 have bu:=bC;rw [if_neg ab] at bu;replace ab:=zJ ab
 refine zN Z Z Z (wF Z ab) Z Z (rU Z (wF Z ab) (ya Z Z Z) (oR Z (zn Z (ZQ ab.out) Z) (zX ?_)))
 have q:=nA bu
 obtain rfl:=q
 exact zG ⟨Z,⟨U8,Z,Z,Z,(zL _),bk⟩⟩
 rintro cR cL ⟨aq,bN,bO,bi,cH,bZ⟩
 refine ifc cw ?_ ?_
 intro aV cx
 refine ZI (bi.trans (congrArg nJ aV.out)) (rR gCx Z ?_)
 cases cx
 intro aV cy
 refine zo (bi.trans (congrArg nJ (nK.2 aV.out))) (kN (sR gDl Z (oM Z bO (oR Z (Runs.cvw Z Z Zh ZW Z Z) (bnK cy fun x35 bP cz=>OKS.makeSlice (enc:=KL.encI) (z:=(0:Int)) (v:=jV 0) Z Z Z Z Z (wBu zD) wJk Z Z Z Z Z Z bP bZ ?_)))))
 intro bI aa cb
 have bm:sW w U aq [.row (some ⟨aa,0,none⟩) x35.length 3 1 (hH KL.encI x35)] bI:=cb
 refine oA Z Z (eN (sR gDl Z (oM Z Z (oM Z bN ?_))))
 have bQ:=cj.le cG
 have bR:=bQ.le cH
 refine bnK cz fun bb bS cA=>OKS.copyM (j:=0) (f:=KL.encI) (m:=x35) (ys:=p0) (z:=bb) (a:=0) (n:=x35.length) rfl rfl rfl rfl rfl rfl zD zC bm rfl (fun _=>rfl) (fun _=>rfl) rfl bS rfl (by simp) (.inr (by simp)) rfl (bm.srcS bR) rfl ?_
 intro bJ cd bp
 have cf:sW w U aq [.row (some ⟨aa,0,none⟩) x35.length 3 1 (hH KL.encI bb)] bJ:=cd
 refine oA Z Z (eN (zI (zU (ym (fun (ae,x59) σ_ w_=>∃ (U_:PHeap),σ_ 7=.slice (some ⟨aa,0,none⟩) ae.length x35.length/\σ_ 8=jV x59/\PHeap.Le aq U_/\sW w U U_ [.row (some ⟨aa,0,none⟩) x35.length 3 1 (hH KL.encI ae)] w_/\ae.length=x35.length) cA ?_ ?_))))
 exact ⟨aq,(Eq.trans (b:=(.slice (some ⟨aa,0,none⟩) x35.length x35.length:Value)) (c:=(.slice (some ⟨aa,0,none⟩) bb.length x35.length:Value)) rfl (by rw [bp])),rfl,(zL _),cf,bp⟩
 rintro ⟨ae,x59⟩ cQ cS bg ⟨aU,am,av,cI,bn,bU⟩ aY cr
 try dsimp only at aY
 refine zI (sR fL4 Z (oM Z av (oM Z am (oR Z (ZA Z Z zD) (oR Z (zO Z Z Z) (eN ?_))))))
 by_cases aj:x59 < (↑ae.length:Int)
 have bz:=aY;rw [if_pos aj] at bz;replace aj:=zJ aj
 refine cT Z aj (kN (zU (zx zr [3,3,3,3,3,3,3,0,3,3] (wJK gDe) (by kernel_rfl) ?_)))
 have ap:=bn.drew
 generalize hw_W76:({ bg with drawn:=bg.drawn + 1 }:World)=cM at ap ⊢
 refine oM Z av (oM Z am (oM Z av (bnK bz fun bF bV cB=>?_)))
 have q:=wNH bV
 obtain ⟨cm,cp,aW,cN,aX⟩:=q
 have bA:=ap.rowCap (j:=0) rfl (by decide) (wAF (f:=KL.encI) (sz:=1) (fun _=>rfl) ae)
 refine zZ (v:=.slice (if x35.length=(x59:Int).toNat then (some ⟨aa,0,none⟩) else Option.map (fun q:Addr=>q.add ((x59:Int).toNat * 1)) ((some ⟨aa,0,none⟩):Option Addr)) bF.length (x35.length - (x59:Int).toNat)) rfl rfl rfl rfl (fun _=>ZR (Runs.slc (sz:=1) (a:=x59) (b:=(↑(ae.length):Int)) rfl rfl (.inl ⟨_,rfl,rfl⟩) (.inr ⟨rfl,rfl⟩) zD zC cm cp aW bA) (by rw [aX])) (zN rfl rfl rfl rfl rfl am (zN rfl rfl rfl rfl rfl av (bnK cB fun bG bj cC=>?_)))
 have q:=wNH bj
 obtain ⟨cn,cq,ct,cO,cE⟩:=q
 have bB:=ap.rowCap (j:=0) rfl (by decide) (wAF (f:=KL.encI) (sz:=1) (fun _=>rfl) ae)
 refine zZ (v:=.slice (if x35.length=(0:Int).toNat then (some ⟨aa,0,none⟩) else Option.map (fun q:Addr=>q.add ((0:Int).toNat * 1)) ((some ⟨aa,0,none⟩):Option Addr)) bG.length (x35.length - (0:Int).toNat)) rfl rfl rfl rfl (fun _=>ZR (Runs.slc (sz:=1) (a:=0) (b:=x59) rfl rfl (.inr ⟨rfl,rfl⟩) (.inl ⟨_,rfl,rfl⟩) zD zC cn cq ct bB) (by rw [cE])) (bnK cC fun bd bW cD=>OKS.copyM (j:=0) (f:=KL.encI) (m:=ae) (ys:=bG) (z:=bd) (a:=x59) (n:=bF.length) rfl rfl rfl rfl rfl rfl zD zC ap rfl (fun _=>rfl) (fun _=>rfl) rfl bW rfl (by have:=aX;have:=aW;omega) (cutA rfl (by have:=aX;have:=aW;have:=bA;omega)) rfl (ap.srcCut (f:=KL.encI) (j:=0) rfl (fun _=>rfl) rfl bj bB) rfl ?_)
 intro bK ci bo
 have bX:sW w U aU [.row (some ⟨aa,0,none⟩) x35.length 3 1 (hH KL.encI bd)] bK:=ci
 refine oR Z (zS Z Z Z) (oA Z Z (zX (zj ?_)))
 have q:=nA cD
 obtain rfl:=q
 exact zG ⟨rfl,_,rfl,⟨aU,(Eq.trans (b:=(.slice (some ⟨aa,0,none⟩) ae.length x35.length:Value)) (c:=(.slice (some ⟨aa,0,none⟩) bd.length x35.length:Value)) am (by rw [bo])),rfl,cI,bX,(bo.trans bU)⟩⟩
 have bq:=aY;rw [if_neg aj] at bq;replace aj:=zJ aj
 refine cF Z aj (ZP (zd ?_))
 have q:=wAb bq
 obtain ⟨cJ,cu,bM⟩:=q
 have q:=cr cJ bM
 obtain rfl:=q
 refine zd (ZJ (zG (sR fL2 Z (oM Z am (oA Z Z (eN (zV ?_)))))))
 have hE:=nA cu;first | subst r | cases hE
 exact ⟨Z,_,(ZS Z),aU,_,bn,(some ⟨aa,0,none⟩),x35.length,Z,Z⟩
theorem wBa (p0:wAj) (ak:Nat) (dP:Option Addr) (dT:Nat) (dQ:Option Addr) (dU:Nat) (dR:Option Addr) (dV:Nat) (dS:Option Addr) (dW:Nat) (aa:Nat) (ae:Array MapEntry) (ai:Nat) (bA:Option Addr) (bB:Nat) (p1:Int) (p2:Bool) (w:World) (U:PHeap) (hS:St0 w U [.blk ak 146 [.slice dP p0.Race.Starts.length dT,.slice dQ p0.Race.Splits.length dU,.slice dR p0.Race.Clocks.length dV,.slice dS p0.Race.Readings.length dW,.map (some aa),.slice bA p0.edges.length bB],.obj aa (.map ae ai)]) (A6:Sl U 1 dP dT p0.Race.Starts.length (hH KL.encI p0.Race.Starts)) (A7:Sl U 2 dQ dU p0.Race.Splits.length (hH wAL p0.Race.Splits)) (A8:Sl U 3 dR dV p0.Race.Clocks.length (hH wAA p0.Race.Clocks)) (A9:Sl U 4 dS dW p0.Race.Readings.length (hH wAJ p0.Race.Readings)) (da:MpR ae wBO wBR p0.number) (wt:Sl U 7 bA bB p0.edges.length (hH wAY p0.edges)) {r:wCn × Int × Bool} (hm:wAn p0 p1 p2=some r):Gv Tryz.prog 61 [.pointer (some ⟨ak,0,none⟩),jV p1,.bool p2] w (wCW w [.blk ak 146 [.slice dP p0.Race.Starts.length dT,.slice dQ p0.Race.Splits.length dU,.slice dR p0.Race.Clocks.length dV,.slice dS p0.Race.Readings.length dW,.map (some aa),.slice bA p0.edges.length bB],.obj aa (.map ae ai)] U (fun U_ L_ v=>∃ (gJ:Option Addr) (je:Nat) (gK:Option Addr) (jf:Nat),v=.tuple #[.agg #[.slice gJ r.1.far.length je,.slice gK r.1.by_.length jf],jV r.2.1,.bool r.2.2]/\L_=[.row gJ je 3 1 (hH KL.encI r.1.far),.row gK jf 3 1 (hH KL.encI r.1.by_),.blk ak 146 [.slice dP p0.Race.Starts.length dT,.slice dQ p0.Race.Splits.length dU,.slice dR p0.Race.Clocks.length dV,.slice dS p0.Race.Readings.length dW,.map (some aa),.slice bA p0.edges.length bB],.obj aa (.map ae ai)])):=by
 unfold wAn at hm
 refine Gv.of Tryz.func61 Z Tryz.ntmps61 Tryz.results61 Z (sR gDd Z ?_)
 let B0:List Value:=[.slice none 0 0,.slice none 0 0]
 refine zW (cs:=B0) Z Z Z Z Z Zc Z hS ?_
 intro W3 b4 vJ
 refine oA Z Z (oA Z Z (eN ?_))
 have q:=bnd hm
 obtain ⟨⟨l9,bG⟩,xu,mH⟩:=q
 try dsimp only at mH
 let B1:Res:=.blk ak 146 [.slice dP p0.Race.Starts.length dT,.slice dQ p0.Race.Splits.length dU,.slice dR p0.Race.Clocks.length dV,.slice dS p0.Race.Readings.length dW,.map (some aa),.slice bA p0.edges.length bB]
 refine yA (fun σ_ w_=>∃ (U_:PHeap) (b8:Nat) (av:Option Addr) (az:Nat) (aU:Option Addr) (aV:Nat),σ_ 0=.pointer (some ⟨ak,0,none⟩)/\σ_ 1=jV p1/\σ_ 2=.bool p2/\σ_ 6=.pointer (some ⟨b4,0,none⟩)/\σ_ 9=.pointer (some ⟨b8,0,none⟩)/\PHeap.Le U U_/\SW w [B1,.obj aa (.map ae ai)] U U_ [.blk b4 148 B0,B1,.obj aa (.map ae ai),.blk b8 148 [.slice av l9.length az,.slice aU bG.length aV],.row av az 3 1 (hH KL.encI l9),.row aU aV 3 1 (hH KL.encI bG)] w_) ?_ ?_
 refine bnK xu fun aW fd xo=>bnK xo fun bh ff xp=>zx zr [2,3,3,3,1,1,2,2,3,3,3,1,1,2,3,2,0] (fC1_5 (wKF (.fx 0 (.fx 6 (.fl 12 (.fx 7 gDo (.fx 15 gDm .stop))) (.fx 7 gDt (.fx 15 gDu .stop))) (.fx 7 (.fx 0 gDt (.fx 15 gDs .stop)) (.fx 15 (.fx 0 gDu (.fx 7 gDs .stop)) .stop))))) (by kernel_rfl) ?_
 have cw:=vJ.drew
 generalize hw_W74:({ W3 with drawn:=W3.drawn + 1 }:World)=Aj at cw ⊢
 refine ZC (s:=.nil) (M:=fun σ_ w_=>∃ (U_:PHeap) (eG:Nat) (cz:Option Addr) (cN:Nat) (cA:Option Addr) (cO:Nat) (fq:Option Addr) (fL:Nat) (ft:Option Addr) (fM:Nat),σ_ 0=.pointer (some ⟨ak,0,none⟩)/\σ_ 1=jV p1/\σ_ 2=.bool p2/\σ_ 6=.pointer (some ⟨b4,0,none⟩)/\σ_ 9=.pointer (some ⟨eG,0,none⟩)/\σ_ 16=.slice fq ([1125899906842624].length) fL/\σ_ 17=.pointer (some ⟨ak,0,none⟩)/\σ_ 18=.pointer (some ⟨ak,0,none⟩)/\σ_ 19=.pointer (some ⟨ak,4,none⟩)/\σ_ 20=.map (some aa)/\σ_ 21=jV (↑(p0.number.length):Int)/\σ_ 22=.slice cz aW.length cN/\σ_ 23=.slice ft ([-1].length) fM/\σ_ 24=.pointer (some ⟨ak,0,none⟩)/\σ_ 25=.pointer (some ⟨ak,0,none⟩)/\σ_ 26=.pointer (some ⟨ak,4,none⟩)/\σ_ 27=.map (some aa)/\σ_ 28=jV (↑(p0.number.length):Int)/\σ_ 29=.slice cA bh.length cO/\σ_ 30=.agg #[.slice cz aW.length cN,.slice cA bh.length cO]/\PHeap.Le U U_/\SW w [B1,.obj aa (.map ae ai)] U U_ [.blk b4 148 B0,B1,.obj aa (.map ae ai),.blk eG 148 [.slice cz aW.length cN,.slice cA bh.length cO],.row cz cN 3 1 (hH KL.encI aW),.row cA cO 3 1 (hH KL.encI bh)] w_/\Sl U_ 1 fq fL [1125899906842624].length (hH KL.encI [1125899906842624])/\Sl U_ 1 ft fM [-1].length (hH KL.encI [-1])) ?_ fun mU=>?_
 rintro BB Ae ⟨oq,eG,cz,cN,cA,cO,fq,fL,ft,fM,qA,qB,qC,qD,qE,AE,AG,AI,AJ,AL,AM,AN,AP,AQ,AS,AT,AU,AW,AX,AY,xI,vG,A4,A5⟩
 refine zX ?_
 cases xp
 exact zG ⟨Z,⟨oq,eG,cz,cN,cA,cO,qA,qB,qC,qD,qE,xI,vG⟩⟩
 refine ZC (s:=.fx 16 .nil .stop) (M:=fun σ_ w_=>∃ (U_:PHeap) (dw:Nat) (dY:Option Addr) (eI:Nat) (bT:Option Addr) (ci:Nat) (dZ:Option Addr) (eJ:Nat) (bU:Option Addr) (cj:Nat),σ_ 0=.pointer (some ⟨ak,0,none⟩)/\σ_ 1=jV p1/\σ_ 2=.bool p2/\σ_ 6=.pointer (some ⟨b4,0,none⟩)/\σ_ 9=.pointer (some ⟨dw,0,none⟩)/\σ_ 16=.slice dY ([1125899906842624].length) eI/\σ_ 17=.pointer (some ⟨ak,0,none⟩)/\σ_ 18=.pointer (some ⟨ak,0,none⟩)/\σ_ 19=.pointer (some ⟨ak,4,none⟩)/\σ_ 20=.map (some aa)/\σ_ 21=jV (↑(p0.number.length):Int)/\σ_ 22=.slice bT aW.length ci/\σ_ 23=.slice dZ ([-1].length) eJ/\σ_ 24=.pointer (some ⟨ak,0,none⟩)/\σ_ 25=.pointer (some ⟨ak,0,none⟩)/\σ_ 26=.pointer (some ⟨ak,4,none⟩)/\σ_ 27=.map (some aa)/\σ_ 28=jV (↑(p0.number.length):Int)/\σ_ 29=.slice bU bh.length cj/\σ_ 30=.agg #[.slice bT aW.length ci,.slice bU bh.length cj]/\PHeap.Le U U_/\SW w [B1,.obj aa (.map ae ai)] U U_ [.blk b4 148 B0,B1,.obj aa (.map ae ai),.blk dw 148 B0,.row bT ci 3 1 (hH KL.encI aW),.row bU cj 3 1 (hH KL.encI bh)] w_/\Sl U_ 1 dY eI [1125899906842624].length (hH KL.encI [1125899906842624])/\Sl U_ 1 dZ eJ [-1].length (hH KL.encI [-1])) ?_ fun xw=>?_
 rintro BC Af ⟨im,dw,dY,eI,bT,ci,dZ,eJ,bU,cj,qF,qG,qH,qI,j8,qJ,qK,qL,qM,qN,qO,qP,qQ,qR,qS,qT,qU,qV,qW,j9,xJ,vH,t8,t9⟩
 let B2:List Value:=[.slice bT aW.length ci,.slice bU bh.length cj]
 refine zY (j:=3) (vs:=B2) Z Z Z Z vH Z j8 j9 Z Zr (zA Z) Z Z Z ?_
 intro o0 vK
 have vL:SW w [B1,.obj aa (.map ae ai)] U im [.blk b4 148 B0,B1,.obj aa (.map ae ai),.blk dw 148 B2,.row bT ci 3 1 (hH KL.encI aW),.row bU cj 3 1 (hH KL.encI bh)] o0:=vK
 exact mU _ _ ⟨im,dw,bT,ci,bU,cj,dY,eI,dZ,eJ,qF,qG,qH,qI,j8,qJ,qK,qL,qM,qN,qO,qP,qQ,qR,qS,qT,qU,qV,qW,j9,xJ,vL,t8,t9⟩
 refine ZC (s:=gCy) (M:=fun σ_ w_=>∃ (U_:PHeap) (dx:Nat) (d5:Option Addr) (eK:Nat) (bV:Option Addr) (cm:Nat) (d7:Option Addr) (eL:Nat) (bW:Option Addr) (cn:Nat),σ_ 0=.pointer (some ⟨ak,0,none⟩)/\σ_ 1=jV p1/\σ_ 2=.bool p2/\σ_ 6=.pointer (some ⟨b4,0,none⟩)/\σ_ 9=.pointer (some ⟨dx,0,none⟩)/\σ_ 16=.slice d5 ([1125899906842624].length) eK/\σ_ 17=.pointer (some ⟨ak,0,none⟩)/\σ_ 18=.pointer (some ⟨ak,0,none⟩)/\σ_ 19=.pointer (some ⟨ak,4,none⟩)/\σ_ 20=.map (some aa)/\σ_ 21=jV (↑(p0.number.length):Int)/\σ_ 22=.slice bV aW.length cm/\σ_ 23=.slice d7 ([-1].length) eL/\σ_ 24=.pointer (some ⟨ak,0,none⟩)/\σ_ 25=.pointer (some ⟨ak,0,none⟩)/\σ_ 26=.pointer (some ⟨ak,4,none⟩)/\σ_ 27=.map (some aa)/\σ_ 28=jV (↑(p0.number.length):Int)/\σ_ 29=.slice bW bh.length cn/\PHeap.Le U U_/\SW w [B1,.obj aa (.map ae ai)] U U_ [.blk b4 148 B0,B1,.obj aa (.map ae ai),.blk dx 148 B0,.row bV cm 3 1 (hH KL.encI aW),.row bW cn 3 1 (hH KL.encI bh)] w_/\Sl U_ 1 d5 eK [1125899906842624].length (hH KL.encI [1125899906842624])/\Sl U_ 1 d7 eL [-1].length (hH KL.encI [-1])) ?_ fun mV=>?_
 rintro BD Ag ⟨io,dx,d5,eK,bV,cm,d7,eL,bW,cn,qX,qY,qZ,rc,k9,re,ri,rj,rk,rn,ro,lc,rp,rq,rx,ry,rA,rB,lf,xK,vM,ua,ub⟩
 let B3:List Value:=[.slice bV aW.length cm,.slice bW bh.length cn]
 refine oR Z (zt (pv:=[(0,.slice bV aW.length cm),(1,.slice bW bh.length cn)]) (z:=B0) (cs:=B3) Z (wAB lc (wAB lf wAT)) Zc wJj Z Z) (zY (j:=3) (vs:=B3) Z Z Z Z vM Z k9 Z Z Zr (zA Z) Z Z Z ?_)
 intro o3 vN
 have vO:SW w [B1,.obj aa (.map ae ai)] U io [.blk b4 148 B0,B1,.obj aa (.map ae ai),.blk dx 148 B3,.row bV cm 3 1 (hH KL.encI aW),.row bW cn 3 1 (hH KL.encI bh)] o3:=vN
 exact mU _ _ ⟨io,dx,bV,cm,bW,cn,d5,eK,d7,eL,qX,qY,qZ,rc,k9,re,ri,rj,rk,rn,ro,lc,rp,rq,rx,ry,rA,rB,lf,Z,xK,vO,ua,ub⟩
 refine ZC (s:=gDg) (M:=fun σ_ w_=>∃ (U_:PHeap) (cI:Nat) (d9:Option Addr) (eM:Nat) (de:Option Addr) (dA:Nat) (df:Option Addr) (dB:Nat),σ_ 0=.pointer (some ⟨ak,0,none⟩)/\σ_ 1=jV p1/\σ_ 2=.bool p2/\σ_ 6=.pointer (some ⟨b4,0,none⟩)/\σ_ 9=.pointer (some ⟨cI,0,none⟩)/\σ_ 16=.slice d9 ([1125899906842624].length) eM/\σ_ 17=.pointer (some ⟨ak,0,none⟩)/\σ_ 18=.pointer (some ⟨ak,0,none⟩)/\σ_ 19=.pointer (some ⟨ak,4,none⟩)/\σ_ 20=.map (some aa)/\σ_ 21=jV (↑(p0.number.length):Int)/\σ_ 22=.slice de aW.length dA/\σ_ 23=.slice df ([-1].length) dB/\σ_ 24=.pointer (some ⟨ak,0,none⟩)/\σ_ 25=.pointer (some ⟨ak,0,none⟩)/\σ_ 26=.pointer (some ⟨ak,4,none⟩)/\σ_ 27=.map (some aa)/\σ_ 28=jV (↑(p0.number.length):Int)/\PHeap.Le U U_/\SW w [B1,.obj aa (.map ae ai)] U U_ [.blk b4 148 B0,B1,.obj aa (.map ae ai),.blk cI 148 B0,.row de dA 3 1 (hH KL.encI aW),.row df dB 3 1 (hH KL.encI [-1])] w_/\Sl U_ 1 d9 eM [1125899906842624].length (hH KL.encI [1125899906842624])) ?_ fun fh=>?_
 rintro BE iT ⟨yr,cI,d9,eM,de,dA,df,dB,rC,rD,rE,rF,rG,rH,rI,rJ,rK,rL,rM,rN,lh,rO,rP,rQ,rS,li,xL,vP,uc⟩
 have q:=vP.freezeR (k:=5) (n:=[-1].length) rfl (wAF (f:=KL.encI) (sz:=1) (fun _=>rfl) [-1]) (by decide)
 obtain ⟨ip,m9,mL,vQ⟩:=q
 let B4:Res:=.row de dA 3 1 (hH KL.encI aW)
 have vR:SW w [B1,.obj aa (.map ae ai)] U ip [.blk b4 148 B0,B1,.obj aa (.map ae ai),.blk cI 148 B0,B4] iT:=vQ
 refine zM 0 Z Z Z Z (zK Z Z yl (zB lh (zB li zP)) Z) vR (fun hs=>wAo [-1] df dB (↑(p0.number.length):Int) iT ip hs mL ff) (.inr Z) ?_
 rintro iq x8 Bh o5 gG vS ⟨gO,jm,rfl,rfl⟩
 have vT:SW w [B1,.obj aa (.map ae ai)] U iq [.row gO jm 3 1 (hH KL.encI bh),.blk b4 148 B0,B1,.obj aa (.map ae ai),.blk cI 148 B0,B4] o5:=vS
 have ud:=uc.le m9
 have ue:=ud.le gG
 have uf:=mL.le gG
 exact mV _ _ ⟨iq,cI,d9,eM,de,dA,df,dB,gO,jm,rC,rD,rE,rF,rG,rH,rI,rJ,rK,rL,rM,rN,lh,rO,rP,rQ,rS,li,rfl,((xL.trans m9).trans gG),(vT.pick [1,2,3,4,5,0] _ (by decide) rfl),ue,uf⟩
 refine ZC (s:=gDf) (M:=fun σ_ w_=>∃ (U_:PHeap) (ec:Option Addr) (eO:Nat) (cB:Option Addr) (cP:Nat) (ef:Option Addr) (eQ:Nat) (cC:Option Addr) (cQ:Nat),σ_ 0=.pointer (some ⟨ak,0,none⟩)/\σ_ 1=jV p1/\σ_ 2=.bool p2/\σ_ 6=.pointer (some ⟨b4,0,none⟩)/\σ_ 16=.slice ec ([1125899906842624].length) eO/\σ_ 17=.pointer (some ⟨ak,0,none⟩)/\σ_ 18=.pointer (some ⟨ak,0,none⟩)/\σ_ 19=.pointer (some ⟨ak,4,none⟩)/\σ_ 20=.map (some aa)/\σ_ 21=jV (↑(p0.number.length):Int)/\σ_ 22=.slice cB aW.length cP/\σ_ 23=.slice ef ([-1].length) eQ/\σ_ 24=.pointer (some ⟨ak,0,none⟩)/\σ_ 25=.pointer (some ⟨ak,0,none⟩)/\σ_ 26=.pointer (some ⟨ak,4,none⟩)/\σ_ 27=.map (some aa)/\σ_ 28=jV (↑(p0.number.length):Int)/\σ_ 29=.slice cC bh.length cQ/\PHeap.Le U U_/\SW w [B1,.obj aa (.map ae ai)] U U_ [.blk b4 148 B0,B1,.obj aa (.map ae ai),.row cB cP 3 1 (hH KL.encI aW),.row cC cQ 3 1 (hH KL.encI bh)] w_/\Sl U_ 1 ec eO [1125899906842624].length (hH KL.encI [1125899906842624])/\Sl U_ 1 ef eQ [-1].length (hH KL.encI [-1])) ?_ fun mW=>?_
 rintro BF Ah ⟨ot,ec,eO,cB,cP,ef,eQ,cC,cQ,rT,rV,rW,rX,rY,rZ,r6,r7,r8,r9,lj,sb,sc,sd,sf,sg,sh,lm,xM,vU,ug,uh⟩
 refine oR Z (zt (pv:=[(0,.slice cB aW.length cP),(1,.slice cC bh.length cQ)]) (z:=B0) (cs:=[.slice cB aW.length cP,.slice cC bh.length cQ]) Z (wAB lj (wAB lm wAT)) Zc wJj Z Z) (zW (cs:=B0) Z Z Z Z Z Zc Z vU ?_)
 intro Ai pk vV
 exact xw _ _ ⟨ot,pk,ec,eO,cB,cP,ef,eQ,cC,cQ,rT,rV,rW,rX,rfl,rY,rZ,r6,r7,r8,r9,lj,sb,sc,sd,sf,sg,sh,lm,rfl,xM,(vV.pick [1,2,3,0,4,5] _ (by decide) rfl),ug,uh⟩
 refine ZC (s:=.fl 12 gDg) (M:=fun σ_ w_=>∃ (U_:PHeap) (cJ:Nat) (eg:Option Addr) (eU:Nat) (dg:Option Addr) (dC:Nat) (dh:Option Addr) (dD:Nat),σ_ 0=.pointer (some ⟨ak,0,none⟩)/\σ_ 1=jV p1/\σ_ 2=.bool p2/\σ_ 6=.pointer (some ⟨b4,0,none⟩)/\σ_ 9=.pointer (some ⟨cJ,0,none⟩)/\σ_ 16=.slice eg ([1125899906842624].length) eU/\σ_ 17=.pointer (some ⟨ak,0,none⟩)/\σ_ 18=.pointer (some ⟨ak,0,none⟩)/\σ_ 19=.pointer (some ⟨ak,4,none⟩)/\σ_ 20=.map (some aa)/\σ_ 21=jV (↑(p0.number.length):Int)/\σ_ 22=.slice dg aW.length dC/\σ_ 23=.slice dh ([-1].length) dD/\σ_ 24=.pointer (some ⟨ak,0,none⟩)/\σ_ 25=.pointer (some ⟨ak,0,none⟩)/\σ_ 26=.pointer (some ⟨ak,4,none⟩)/\σ_ 27=.map (some aa)/\PHeap.Le U U_/\SW w [B1,.obj aa (.map ae ai)] U U_ [.blk b4 148 B0,B1,.obj aa (.map ae ai),.blk cJ 148 B0,.row dg dC 3 1 (hH KL.encI aW),.row dh dD 3 1 (hH KL.encI [-1])] w_/\Sl U_ 1 eg eU [1125899906842624].length (hH KL.encI [1125899906842624])) ?_ fun xx=>?_
 rintro BG iU ⟨yt,cJ,eg,eU,dg,dC,dh,dD,sj,sk,sm,sn,so,sq,ss,su,sv,sw,sA,sB,ln,sC,sD,sE,lp,xN,mu,ui⟩
 refine oL Z (mu.lenM (j:=2) (mk:=wBO) (mv:=wBR) Z Z lp (wBu ZD) da) ?_
 have q:=mu.freezeR (k:=5) (n:=[-1].length) rfl (wAF (f:=KL.encI) (sz:=1) (fun _=>rfl) [-1]) (by decide)
 obtain ⟨ir,n5,mM,vW⟩:=q
 let B5:Res:=.row dg dC 3 1 (hH KL.encI aW)
 have vX:SW w [B1,.obj aa (.map ae ai)] U ir [.blk b4 148 B0,B1,.obj aa (.map ae ai),.blk cJ 148 B0,B5] iU:=vW
 refine zM 0 Z Z Z Z (zK Z Z yl (zB ln (zB Z zP)) Z) vX (fun hs=>wAo [-1] dh dD (↑(p0.number.length):Int) iU ir hs mM ff) (.inr Z) ?_
 rintro it yo Bi o6 gH vY ⟨gP,jo,rfl,rfl⟩
 have vZ:SW w [B1,.obj aa (.map ae ai)] U it [.row gP jo 3 1 (hH KL.encI bh),.blk b4 148 B0,B1,.obj aa (.map ae ai),.blk cJ 148 B0,B5] o6:=vY
 have uj:=ui.le n5
 have uk:=uj.le gH
 have ul:=mM.le gH
 exact mV _ _ ⟨it,cJ,eg,eU,dg,dC,dh,dD,gP,jo,sj,sk,sm,sn,so,sq,ss,su,sv,sw,sA,sB,ln,sC,sD,sE,lp,rfl,rfl,((xN.trans n5).trans gH),(vZ.pick [1,2,3,4,5,0] _ (by decide) rfl),uk,ul⟩
 refine ZC (s:=.fl 12 gDm) (M:=fun σ_ w_=>∃ (U_:PHeap) (dy:Nat) (eh:Option Addr) (eV:Nat) (dk:Option Addr) (dE:Nat),σ_ 0=.pointer (some ⟨ak,0,none⟩)/\σ_ 1=jV p1/\σ_ 2=.bool p2/\σ_ 6=.pointer (some ⟨b4,0,none⟩)/\σ_ 9=.pointer (some ⟨dy,0,none⟩)/\σ_ 16=.slice eh ([1125899906842624].length) eV/\σ_ 17=.pointer (some ⟨ak,0,none⟩)/\σ_ 18=.pointer (some ⟨ak,0,none⟩)/\σ_ 19=.pointer (some ⟨ak,4,none⟩)/\σ_ 20=.map (some aa)/\σ_ 21=jV (↑(p0.number.length):Int)/\σ_ 22=.slice dk aW.length dE/\σ_ 24=.pointer (some ⟨ak,0,none⟩)/\σ_ 25=.pointer (some ⟨ak,0,none⟩)/\σ_ 26=.pointer (some ⟨ak,4,none⟩)/\σ_ 27=.map (some aa)/\PHeap.Le U U_/\SW w [B1,.obj aa (.map ae ai)] U U_ [.blk b4 148 B0,B1,.obj aa (.map ae ai),.blk dy 148 B0,.row dk dE 3 1 (hH KL.encI aW)] w_/\Sl U_ 1 eh eV [1125899906842624].length (hH KL.encI [1125899906842624])) ?_ fun xz=>?_
 rintro BH Ak ⟨iu,dy,eh,eV,dk,dE,sF,sG,sH,sI,sJ,sK,sL,sM,sN,sO,sP,sQ,sS,sT,sU,lq,xO,mw,um⟩
 refine oL Z (mw.lenM (j:=2) (mk:=wBO) (mv:=wBR) Z Z lq (wBu ZD) da) (zz (pv:=[(0,jV (-1))]) (zs:=[jV 0]) (cs:=[jV (-1)]) Z Z Z Z Z (wAB Z wAT) zD zC ZG Z Z Z Z Z mw ?_)
 intro o7 jc v4
 have v5:SW w [B1,.obj aa (.map ae ai)] U iu [.row (some ⟨jc,0,none⟩) 1 3 1 (hH KL.encI [-1]),.blk b4 148 B0,B1,.obj aa (.map ae ai),.blk dy 148 B0,.row dk dE 3 1 (hH KL.encI aW)] o7:=v4
 exact fh _ _ ⟨iu,dy,eh,eV,dk,dE,(some ⟨jc,0,none⟩),1,sF,sG,sH,sI,sJ,sK,sL,sM,sN,sO,sP,sQ,rfl,sS,sT,sU,lq,rfl,xO,(v5.pick [1,2,3,4,5,0] _ (by decide) rfl),um⟩
 refine ZC (s:=gDp) (M:=fun σ_ w_=>∃ (U_:PHeap) (cK:Nat) (dl:Option Addr) (dF:Nat) (dm:Option Addr) (dG:Nat),σ_ 0=.pointer (some ⟨ak,0,none⟩)/\σ_ 1=jV p1/\σ_ 2=.bool p2/\σ_ 6=.pointer (some ⟨b4,0,none⟩)/\σ_ 9=.pointer (some ⟨cK,0,none⟩)/\σ_ 16=.slice dl ([1125899906842624].length) dF/\σ_ 17=.pointer (some ⟨ak,0,none⟩)/\σ_ 18=.pointer (some ⟨ak,0,none⟩)/\σ_ 19=.pointer (some ⟨ak,4,none⟩)/\σ_ 20=.map (some aa)/\σ_ 21=jV (↑(p0.number.length):Int)/\σ_ 23=.slice dm ([-1].length) dG/\σ_ 24=.pointer (some ⟨ak,0,none⟩)/\σ_ 25=.pointer (some ⟨ak,0,none⟩)/\σ_ 26=.pointer (some ⟨ak,4,none⟩)/\σ_ 27=.map (some aa)/\PHeap.Le U U_/\SW w [B1,.obj aa (.map ae ai)] U U_ [.blk b4 148 B0,B1,.obj aa (.map ae ai),.blk cK 148 B0,.row dl dF 3 1 (hH KL.encI [1125899906842624]),.row dm dG 3 1 (hH KL.encI [-1])] w_) ?_ fun gA=>?_
 rintro BI iV ⟨yu,cK,dl,dF,dm,dG,sV,sX,sY,sZ,s5,lu,s6,s7,s8,s9,lv,tc,td,te,tf,tg,xP,v9⟩
 have q:=v9.freezeR (k:=4) (n:=[1125899906842624].length) rfl (wAF (f:=KL.encI) (sz:=1) (fun _=>rfl) [1125899906842624]) (by decide)
 obtain ⟨iv,xR,mN,wb⟩:=q
 let B6:Res:=.row dm dG 3 1 (hH KL.encI [-1])
 have wc:SW w [B1,.obj aa (.map ae ai)] U iv [.blk b4 148 B0,B1,.obj aa (.map ae ai),.blk cK 148 B0,B6] iV:=wb
 refine zM 0 Z Z Z Z (zK Z Z yl (zB lu (zB lv zP)) Z) wc (fun hs=>wAo [1125899906842624] dl dF (↑(p0.number.length):Int) iV iv hs mN fd) (.inr Z) ?_
 rintro iw yp Bj o8 n6 wd ⟨gQ,jp,rfl,rfl⟩
 have we:SW w [B1,.obj aa (.map ae ai)] U iw [.row gQ jp 3 1 (hH KL.encI aW),.blk b4 148 B0,B1,.obj aa (.map ae ai),.blk cK 148 B0,B6] o8:=wd
 have uo:=mN.le n6
 exact xx _ _ ⟨iw,cK,dl,dF,gQ,jp,dm,dG,sV,sX,sY,sZ,s5,lu,s6,s7,s8,s9,lv,rfl,tc,td,te,tf,tg,((xP.trans xR).trans n6),(we.pick [1,2,3,4,0,5] _ (by decide) rfl),uo⟩
 refine ZC (s:=.fl 12 gDo) (M:=fun σ_ w_=>∃ (U_:PHeap) (dp:Option Addr) (dH:Nat) (cD:Option Addr) (cR:Nat) (cE:Option Addr) (cS:Nat),σ_ 0=.pointer (some ⟨ak,0,none⟩)/\σ_ 1=jV p1/\σ_ 2=.bool p2/\σ_ 6=.pointer (some ⟨b4,0,none⟩)/\σ_ 16=.slice dp ([1125899906842624].length) dH/\σ_ 17=.pointer (some ⟨ak,0,none⟩)/\σ_ 18=.pointer (some ⟨ak,0,none⟩)/\σ_ 19=.pointer (some ⟨ak,4,none⟩)/\σ_ 20=.map (some aa)/\σ_ 21=jV (↑(p0.number.length):Int)/\σ_ 22=.slice cD aW.length cR/\σ_ 23=.slice cE ([-1].length) cS/\σ_ 24=.pointer (some ⟨ak,0,none⟩)/\σ_ 25=.pointer (some ⟨ak,0,none⟩)/\σ_ 26=.pointer (some ⟨ak,4,none⟩)/\σ_ 27=.map (some aa)/\PHeap.Le U U_/\SW w [B1,.obj aa (.map ae ai)] U U_ [.blk b4 148 B0,B1,.obj aa (.map ae ai),.row cD cR 3 1 (hH KL.encI aW),.row cE cS 3 1 (hH KL.encI [-1])] w_/\Sl U_ 1 dp dH [1125899906842624].length (hH KL.encI [1125899906842624])) ?_ fun xA=>?_
 rintro BJ iW ⟨ou,dp,dH,cD,cR,cE,cS,lw,lx,ly,lA,lB,lC,lD,lE,lF,lG,lH,fT,lI,lJ,lK,fU,n7,gh,l4⟩
 refine oL Z (gh.lenM (j:=2) (mk:=wBO) (mv:=wBR) Z Z fU (wBu ZD) da) (zk ?_ ?_)
 have q:=gh.freezeR (k:=4) (n:=[-1].length) rfl (wAF (f:=KL.encI) (sz:=1) (fun _=>rfl) [-1]) (by decide)
 obtain ⟨iz,n8,mO,wg⟩:=q
 let B7:Res:=.row cD cR 3 1 (hH KL.encI aW)
 have wh:SW w [B1,.obj aa (.map ae ai)] U iz [.blk b4 148 B0,B1,.obj aa (.map ae ai),B7] iW:=wg
 refine zM 0 Z Z Z Z (zK Z Z yl (zB fT (zB Z zP)) Z) wh (fun hs=>wAo [-1] cE cS (↑(p0.number.length):Int) iW iz hs mO ff) (.inr Z) ?_
 rintro iA yq Bk o9 gI wi ⟨gR,jq,rfl,rfl⟩
 have wj:SW w [B1,.obj aa (.map ae ai)] U iA [.row gR jq 3 1 (hH KL.encI bh),.blk b4 148 B0,B1,.obj aa (.map ae ai),B7] o9:=wi
 have uq:=l4.le n8
 have ur:=uq.le gI
 have ut:=mO.le gI
 exact mW _ _ ⟨iA,dp,dH,cD,cR,cE,cS,gR,jq,lw,lx,ly,lA,lB,lC,lD,lE,lF,lG,lH,fT,lI,lJ,lK,fU,rfl,rfl,((n7.trans n8).trans gI),(wj.pick [1,2,3,4,0] _ (by decide) rfl),ur,ut⟩
 refine zW (cs:=B0) Z Z Z Z Z Zc Z gh ?_
 intro Al pm wk
 exact fh _ _ ⟨ou,pm,dp,dH,cD,cR,cE,cS,lw,lx,ly,lA,rfl,lB,lC,lD,lE,lF,lG,lH,fT,lI,lJ,lK,fU,rfl,n7,(wk.pick [1,2,3,0,4,5] _ (by decide) rfl),l4⟩
 refine ZC (s:=gDs) (M:=fun σ_ w_=>∃ (U_:PHeap) (dz:Nat) (dq:Option Addr) (dI:Nat),σ_ 0=.pointer (some ⟨ak,0,none⟩)/\σ_ 1=jV p1/\σ_ 2=.bool p2/\σ_ 6=.pointer (some ⟨b4,0,none⟩)/\σ_ 9=.pointer (some ⟨dz,0,none⟩)/\σ_ 17=.pointer (some ⟨ak,0,none⟩)/\σ_ 18=.pointer (some ⟨ak,0,none⟩)/\σ_ 19=.pointer (some ⟨ak,4,none⟩)/\σ_ 20=.map (some aa)/\σ_ 21=jV (↑(p0.number.length):Int)/\σ_ 23=.slice dq ([-1].length) dI/\σ_ 24=.pointer (some ⟨ak,0,none⟩)/\σ_ 25=.pointer (some ⟨ak,0,none⟩)/\σ_ 26=.pointer (some ⟨ak,4,none⟩)/\σ_ 27=.map (some aa)/\PHeap.Le U U_/\SW w [B1,.obj aa (.map ae ai)] U U_ [.blk b4 148 B0,B1,.obj aa (.map ae ai),.blk dz 148 B0,.row dq dI 3 1 (hH KL.encI [-1])] w_) ?_ fun mX=>?_
 rintro BK Am ⟨iB,dz,dq,dI,th,tj,tl,tn,tp,tq,tr,tu,tv,tw,tz,tA,tB,tC,tD,xS,wl⟩
 refine zz (pv:=[(0,jV 1125899906842624)]) (zs:=[jV 0]) (cs:=[jV 1125899906842624]) Z Z Z Z Z (wAB Z wAT) zD zC ZG Z Z Z Z Z wl ?_
 intro pe jd wn
 have wo:SW w [B1,.obj aa (.map ae ai)] U iB [.row (some ⟨jd,0,none⟩) 1 3 1 (hH KL.encI [1125899906842624]),.blk b4 148 B0,B1,.obj aa (.map ae ai),.blk dz 148 B0,.row dq dI 3 1 (hH KL.encI [-1])] pe:=wn
 exact gA _ _ ⟨iB,dz,(some ⟨jd,0,none⟩),1,dq,dI,th,tj,tl,tn,tp,rfl,tq,tr,tu,tv,tw,tz,tA,tB,tC,tD,xS,(wo.pick [1,2,3,4,0,5] _ (by decide) rfl)⟩
 refine ZC (s:=gDu) (M:=fun σ_ w_=>∃ (U_:PHeap) (bQ:Nat) (bX:Option Addr) (cp:Nat),σ_ 0=.pointer (some ⟨ak,0,none⟩)/\σ_ 1=jV p1/\σ_ 2=.bool p2/\σ_ 6=.pointer (some ⟨b4,0,none⟩)/\σ_ 9=.pointer (some ⟨bQ,0,none⟩)/\σ_ 16=.slice bX ([1125899906842624].length) cp/\σ_ 17=.pointer (some ⟨ak,0,none⟩)/\σ_ 18=.pointer (some ⟨ak,0,none⟩)/\σ_ 19=.pointer (some ⟨ak,4,none⟩)/\σ_ 20=.map (some aa)/\σ_ 21=jV (↑(p0.number.length):Int)/\σ_ 24=.pointer (some ⟨ak,0,none⟩)/\σ_ 25=.pointer (some ⟨ak,0,none⟩)/\σ_ 26=.pointer (some ⟨ak,4,none⟩)/\σ_ 27=.map (some aa)/\PHeap.Le U U_/\SW w [B1,.obj aa (.map ae ai)] U U_ [.blk b4 148 B0,B1,.obj aa (.map ae ai),.blk bQ 148 B0,.row bX cp 3 1 (hH KL.encI [1125899906842624])] w_) ?_ fun mY=>?_
 rintro BL iX ⟨iC,bQ,bX,cp,lL,lM,lN,lO,lP,fV,lQ,lR,lS,lT,fW,lU,lV,lW,lX,n9,my⟩
 refine zk ?_ ?_
 have q:=my.freezeR (k:=4) (n:=[1125899906842624].length) rfl (wAF (f:=KL.encI) (sz:=1) (fun _=>rfl) [1125899906842624]) (by decide)
 obtain ⟨iD,xT,mP,wp⟩:=q
 have wq:SW w [B1,.obj aa (.map ae ai)] U iD [.blk b4 148 B0,B1,.obj aa (.map ae ai),.blk bQ 148 B0] iX:=wp
 refine zM 0 Z Z Z Z (zK Z Z yl (zB fV (zB fW zP)) Z) wq (fun hs=>wAo [1125899906842624] bX cp (↑(p0.number.length):Int) iX iD hs mP fd) (.inr Z) ?_
 rintro g8 xX Bd ow mZ uw ⟨gL,jg,rfl,rfl⟩
 have ux:SW w [B1,.obj aa (.map ae ai)] U g8 [.row gL jg 3 1 (hH KL.encI aW),.blk b4 148 B0,B1,.obj aa (.map ae ai),.blk bQ 148 B0] ow:=uw
 have tH:=mP.le mZ
 exact xz _ _ ⟨g8,bQ,bX,cp,gL,jg,lL,lM,lN,lO,lP,fV,lQ,lR,lS,lT,fW,rfl,lU,lV,lW,lX,((n9.trans xT).trans mZ),(ux.pick [1,2,3,4,0] _ (by decide) rfl),tH⟩
 refine zz (pv:=[(0,jV (-1))]) (zs:=[jV 0]) (cs:=[jV (-1)]) Z Z Z Z Z (wAB Z wAT) zD zC ZG Z Z Z Z Z my ?_
 intro ox iY uy
 have uz:SW w [B1,.obj aa (.map ae ai)] U iC [.row (some ⟨iY,0,none⟩) 1 3 1 (hH KL.encI [-1]),.blk b4 148 B0,B1,.obj aa (.map ae ai),.blk bQ 148 B0,.row bX cp 3 1 (hH KL.encI [1125899906842624])] ox:=uy
 exact gA _ _ ⟨iC,bQ,bX,cp,(some ⟨iY,0,none⟩),1,lL,lM,lN,lO,lP,fV,lQ,lR,lS,lT,fW,rfl,lU,lV,lW,lX,n9,(uz.pick [1,2,3,4,5,0] _ (by decide) rfl)⟩
 refine ZC (s:=gDt) (M:=fun σ_ w_=>∃ (U_:PHeap) (cx:Option Addr) (cL:Nat) (cy:Option Addr) (cM:Nat),σ_ 0=.pointer (some ⟨ak,0,none⟩)/\σ_ 1=jV p1/\σ_ 2=.bool p2/\σ_ 6=.pointer (some ⟨b4,0,none⟩)/\σ_ 16=.slice cx ([1125899906842624].length) cL/\σ_ 17=.pointer (some ⟨ak,0,none⟩)/\σ_ 18=.pointer (some ⟨ak,0,none⟩)/\σ_ 19=.pointer (some ⟨ak,4,none⟩)/\σ_ 20=.map (some aa)/\σ_ 21=jV (↑(p0.number.length):Int)/\σ_ 23=.slice cy ([-1].length) cM/\σ_ 24=.pointer (some ⟨ak,0,none⟩)/\σ_ 25=.pointer (some ⟨ak,0,none⟩)/\σ_ 26=.pointer (some ⟨ak,4,none⟩)/\σ_ 27=.map (some aa)/\PHeap.Le U U_/\SW w [B1,.obj aa (.map ae ai)] U U_ [.blk b4 148 B0,B1,.obj aa (.map ae ai),.row cx cL 3 1 (hH KL.encI [1125899906842624]),.row cy cM 3 1 (hH KL.encI [-1])] w_) ?_ fun mT=>?_
 rintro Bq iE ⟨oi,cx,cL,cy,cM,jr,jt,ju,jv,fN,jw,jx,jy,jz,fO,jA,jB,jC,jD,jE,m4,me⟩
 refine zk ?_ ?_
 have q:=me.freezeR (k:=3) (n:=[1125899906842624].length) rfl (wAF (f:=KL.encI) (sz:=1) (fun _=>rfl) [1125899906842624]) (by decide)
 obtain ⟨g9,xB,mJ,uA⟩:=q
 let B8:Res:=.row cy cM 3 1 (hH KL.encI [-1])
 have uB:SW w [B1,.obj aa (.map ae ai)] U g9 [.blk b4 148 B0,B1,.obj aa (.map ae ai),B8] iE:=uA
 refine zM 0 Z Z Z Z (zK Z Z yl (zB fN (zB fO zP)) Z) uB (fun hs=>wAo [1125899906842624] cx cL (↑(p0.number.length):Int) iE g9 hs mJ fd) (.inr Z) ?_
 rintro ib xY Be oy m5 uC ⟨gM,jh,rfl,rfl⟩
 have uD:SW w [B1,.obj aa (.map ae ai)] U ib [.row gM jh 3 1 (hH KL.encI aW),.blk b4 148 B0,B1,.obj aa (.map ae ai),B8] oy:=uC
 have tI:=mJ.le m5
 exact xA _ _ ⟨ib,cx,cL,gM,jh,cy,cM,jr,jt,ju,jv,fN,jw,jx,jy,jz,fO,rfl,jA,jB,jC,jD,jE,((m4.trans xB).trans m5),(uD.pick [1,2,3,0,4] _ (by decide) rfl),tI⟩
 refine zW (cs:=B0) Z Z Z Z Z Zc Z me ?_
 intro yv pf uE
 exact gA _ _ ⟨oi,pf,cx,cL,cy,cM,jr,jt,ju,jv,rfl,fN,jw,jx,jy,jz,fO,jA,jB,jC,jD,jE,m4,(uE.pick [1,2,3,0,4,5] _ (by decide) rfl)⟩
 refine oM Z Z (oR Z (Zb Z Z) (oR Z (zH Z Z ZE Z Zq) (oL Z (cw.ldB (j:=1) Z Z Z Zy (v:=.map (some aa)) Z) (oL Z (cw.lenM (j:=2) (mk:=wBO) (mv:=wBR) Z Z Z (wBu ZD) da) (oM Z Z (oR Z (Zb Z Z) (oR Z (zH Z Z ZE Z Zq) (oL Z (cw.ldB (j:=1) Z Z Z Zy (v:=.map (some aa)) Z) (zk ?_ ?_)))))))))
 refine zz (pv:=[(0,jV 1125899906842624)]) (zs:=[jV 0]) (cs:=[jV 1125899906842624]) Z Z Z Z Z (wAB Z wAT) zD zC ZG Z Z Z Z Z cw ?_
 intro fA cf uF
 let B9:Res:=.row (some ⟨cf,0,none⟩) 1 3 1 (hH KL.encI [1125899906842624])
 have fZ:SW w [B1,.obj aa (.map ae ai)] U U [B9,.blk b4 148 B0,B1,.obj aa (.map ae ai)] fA:=uF
 refine zk ?_ ?_
 have q:=fZ.freezeR (k:=0) (n:=[1125899906842624].length) rfl (wAF (f:=KL.encI) (sz:=1) (fun _=>rfl) [1125899906842624]) (by decide)
 obtain ⟨ic,gD,fg,uG⟩:=q
 have uH:SW w [B1,.obj aa (.map ae ai)] U ic [.blk b4 148 B0,B1,.obj aa (.map ae ai)] fA:=uG
 refine zM 0 Z Z Z Z (zK Z Z yl (zB Z (zB Z zP)) Z) uH (fun hs=>wAo [1125899906842624] (some ⟨cf,0,none⟩) 1 (↑(p0.number.length):Int) fA ic hs fg fd) (.inr Z) ?_
 rintro dv xZ Bf oz db uI ⟨dX,eH,rfl,rfl⟩
 let dr:Res:=.row dX eH 3 1 (hH KL.encI aW)
 have ga:SW w [B1,.obj aa (.map ae ai)] U dv [dr,.blk b4 148 B0,B1,.obj aa (.map ae ai)] oz:=uI
 refine oL Z (ga.lenM (j:=3) (mk:=wBO) (mv:=wBR) Z Z Z (wBu ZD) da) (zk ?_ ?_)
 refine zz (pv:=[(0,jV (-1))]) (zs:=[jV 0]) (cs:=[jV (-1)]) Z Z Z Z Z (wAB Z wAT) zD zC ZG Z Z Z Z Z ga ?_
 intro fB eE uJ
 have mf:SW w [B1,.obj aa (.map ae ai)] U dv [.row (some ⟨eE,0,none⟩) 1 3 1 (hH KL.encI [-1]),dr,.blk b4 148 B0,B1,.obj aa (.map ae ai)] fB:=uJ
 refine zk ?_ ?_
 have q:=mf.freezeR (k:=0) (n:=[-1].length) rfl (wAF (f:=KL.encI) (sz:=1) (fun _=>rfl) [-1]) (by decide)
 obtain ⟨ie,m6,mK,uK⟩:=q
 have uL:SW w [B1,.obj aa (.map ae ai)] U ie [dr,.blk b4 148 B0,B1,.obj aa (.map ae ai)] fB:=uK
 refine zM 0 Z Z Z Z (zK Z Z yl (zB Z (zB Z zP)) Z) uL (fun hs=>wAo [-1] (some ⟨eE,0,none⟩) 1 (↑(p0.number.length):Int) fB ie hs mK ff) (.inr Z) ?_
 rintro ig x7 Bg oB gE uM ⟨gN,ji,rfl,rfl⟩
 have uN:SW w [B1,.obj aa (.map ae ai)] U ig [.row gN ji 3 1 (hH KL.encI bh),dr,.blk b4 148 B0,B1,.obj aa (.map ae ai)] oB:=uM
 have tJ:=fg.le db
 have tK:=tJ.le m6
 have tL:=tK.le gE
 have tM:=mK.le gE
 exact mW _ _ ⟨ig,(some ⟨cf,0,none⟩),1,dX,eH,(some ⟨eE,0,none⟩),1,gN,ji,rfl,rfl,rfl,rfl,rfl,rfl,rfl,rfl,rfl,rfl,rfl,rfl,rfl,rfl,rfl,rfl,rfl,rfl,(((gD.trans db).trans m6).trans gE),(uN.pick [2,3,4,1,0] _ (by decide) rfl),tL,tM⟩
 refine zW (cs:=B0) Z Z Z Z Z Zc Z mf ?_
 intro yw pg uO
 have tO:=fg.le db
 exact fh _ _ ⟨dv,pg,(some ⟨cf,0,none⟩),1,dX,eH,(some ⟨eE,0,none⟩),1,rfl,rfl,rfl,rfl,rfl,rfl,rfl,rfl,rfl,rfl,rfl,rfl,rfl,rfl,rfl,rfl,rfl,rfl,(gD.trans db),(uO.pick [3,4,5,0,2,1] _ (by decide) rfl),tO⟩
 refine zW (cs:=B0) Z Z Z Z Z Zc Z ga ?_
 intro yy iZ uP
 refine zz (pv:=[(0,jV (-1))]) (zs:=[jV 0]) (cs:=[jV (-1)]) Z Z Z Z Z (wAB Z wAT) zD zC ZG Z Z Z Z Z uP ?_
 intro oG i7 uQ
 have uR:SW w [B1,.obj aa (.map ae ai)] U dv [.row (some ⟨i7,0,none⟩) 1 3 1 (hH KL.encI [-1]),.blk iZ 148 B0,dr,.blk b4 148 B0,B1,.obj aa (.map ae ai)] oG:=uQ
 have tP:=fg.le db
 exact fh _ _ ⟨dv,iZ,(some ⟨cf,0,none⟩),1,dX,eH,(some ⟨i7,0,none⟩),1,rfl,rfl,rfl,rfl,rfl,rfl,rfl,rfl,rfl,rfl,rfl,rfl,rfl,rfl,rfl,rfl,rfl,rfl,(gD.trans db),(uR.pick [3,4,5,1,2,0] _ (by decide) rfl),tP⟩
 refine zk ?_ ?_
 refine zz (pv:=[(0,jV (-1))]) (zs:=[jV 0]) (cs:=[jV (-1)]) Z Z Z Z Z (wAB Z wAT) zD zC ZG Z Z Z Z Z fZ ?_
 intro oH i8 uS
 have uT:SW w [B1,.obj aa (.map ae ai)] U U [.row (some ⟨i8,0,none⟩) 1 3 1 (hH KL.encI [-1]),B9,.blk b4 148 B0,B1,.obj aa (.map ae ai)] oH:=uS
 exact mT _ _ ⟨U,(some ⟨cf,0,none⟩),1,(some ⟨i8,0,none⟩),1,rfl,rfl,rfl,rfl,rfl,rfl,rfl,rfl,rfl,rfl,rfl,rfl,rfl,rfl,rfl,(zL _),(uT.pick [2,3,4,1,0] _ (by decide) rfl)⟩
 refine zW (cs:=B0) Z Z Z Z Z Zc Z fZ ?_
 intro y4 ph uU
 exact mY _ _ ⟨U,ph,(some ⟨cf,0,none⟩),1,rfl,rfl,rfl,rfl,rfl,rfl,rfl,rfl,rfl,rfl,rfl,rfl,rfl,rfl,rfl,(zL _),(uU.pick [2,3,4,0,1] _ (by decide) rfl)⟩
 refine zk ?_ ?_
 refine zz (pv:=[(0,jV (-1))]) (zs:=[jV 0]) (cs:=[jV (-1)]) Z Z Z Z Z (wAB Z wAT) zD zC ZG Z Z Z Z Z cw ?_
 intro oI fD uV
 let gS:Res:=.row (some ⟨fD,0,none⟩) 1 3 1 (hH KL.encI [-1])
 have mg:SW w [B1,.obj aa (.map ae ai)] U U [gS,.blk b4 148 B0,B1,.obj aa (.map ae ai)] oI:=uV
 refine zk ?_ ?_
 refine zz (pv:=[(0,jV 1125899906842624)]) (zs:=[jV 0]) (cs:=[jV 1125899906842624]) Z Z Z Z Z (wAB Z wAT) zD zC ZG Z Z Z Z Z mg ?_
 intro oK i9 uW
 have uX:SW w [B1,.obj aa (.map ae ai)] U U [.row (some ⟨i9,0,none⟩) 1 3 1 (hH KL.encI [1125899906842624]),gS,.blk b4 148 B0,B1,.obj aa (.map ae ai)] oK:=uW
 exact mT _ _ ⟨U,(some ⟨i9,0,none⟩),1,(some ⟨fD,0,none⟩),1,rfl,rfl,rfl,rfl,rfl,rfl,rfl,rfl,rfl,rfl,rfl,rfl,rfl,rfl,rfl,(zL _),(uX.pick [2,3,4,0,1] _ (by decide) rfl)⟩
 refine zW (cs:=B0) Z Z Z Z Z Zc Z mg ?_
 intro y5 pj uY
 exact mX _ _ ⟨U,pj,(some ⟨fD,0,none⟩),1,rfl,rfl,rfl,rfl,rfl,rfl,rfl,rfl,rfl,rfl,rfl,rfl,rfl,rfl,rfl,(zL _),(uY.pick [2,3,4,0,1] _ (by decide) rfl)⟩
 refine zW (cs:=B0) Z Z Z Z Z Zc Z cw ?_
 intro y6 eF mh
 refine zk ?_ ?_
 refine zz (pv:=[(0,jV 1125899906842624)]) (zs:=[jV 0]) (cs:=[jV 1125899906842624]) Z Z Z Z Z (wAB Z wAT) zD zC ZG Z Z Z Z Z mh ?_
 intro oO ja uZ
 have u0:SW w [B1,.obj aa (.map ae ai)] U U [.row (some ⟨ja,0,none⟩) 1 3 1 (hH KL.encI [1125899906842624]),.blk eF 148 B0,.blk b4 148 B0,B1,.obj aa (.map ae ai)] oO:=uZ
 exact mY _ _ ⟨U,eF,(some ⟨ja,0,none⟩),1,rfl,rfl,rfl,rfl,rfl,rfl,rfl,rfl,rfl,rfl,rfl,rfl,rfl,rfl,rfl,(zL _),(u0.pick [2,3,4,1,0] _ (by decide) rfl)⟩
 refine zz (pv:=[(0,jV (-1))]) (zs:=[jV 0]) (cs:=[jV (-1)]) Z Z Z Z Z (wAB Z wAT) zD zC ZG Z Z Z Z Z mh ?_
 intro oP jb u3
 have u4:SW w [B1,.obj aa (.map ae ai)] U U [.row (some ⟨jb,0,none⟩) 1 3 1 (hH KL.encI [-1]),.blk eF 148 B0,.blk b4 148 B0,B1,.obj aa (.map ae ai)] oP:=u3
 exact mX _ _ ⟨U,eF,(some ⟨jb,0,none⟩),1,rfl,rfl,rfl,rfl,rfl,rfl,rfl,rfl,rfl,rfl,rfl,rfl,rfl,rfl,rfl,(zL _),(u4.pick [2,3,4,1,0] _ (by decide) rfl)⟩
 rintro Br y7 ⟨ii,b8,av,az,aU,aV,pu,py,pz,pB,jG,xC,mi⟩
 refine zI (sR fL4 Z (oR Z (zH Z jG ZO Z zq) (oL Z (mi.ldB (j:=3) Z Z Z zw (v:=.slice av l9.length az) Z) (oR Z (ZA Z Z zD) (oM Z Z (eN (zU (bnK mH fun Bo ww gz=>?_))))))))
 have q:=wBS ww
 obtain ⟨gu,wx⟩:=q
 replace gu:=zJ gu
 let bY:Res:=.row aU aV 3 1 (hH KL.encI bG)
 refine CK.forN' (fun bE bj σ_ w_=>∃ (U_:PHeap),σ_ 34=jV (↑bE:Int)/\σ_ 0=.pointer (some ⟨ak,0,none⟩)/\σ_ 1=jV p1/\σ_ 2=.bool p2/\σ_ 6=.pointer (some ⟨b4,0,none⟩)/\σ_ 9=.pointer (some ⟨b8,0,none⟩)/\σ_ 33=jV (↑l9.length:Int)/\PHeap.Le ii U_/\SW w [B1,.obj aa (.map ae ai)] U U_ [.blk b4 148 B0,B1,.obj aa (.map ae ai),.row av az 3 1 (hH KL.encI bj),bY,.blk b8 148 [.slice av bj.length az,.slice aU bG.length aV]] w_/\bj.length=l9.length) wx ?_ ?_ ?_
 exact ⟨ii,rfl,pu,py,pz,pB,jG,rfl,(zL _),(mi.pick [0,1,2,4,5,3] _ (by decide) rfl),rfl⟩
 rintro bE bj Bl Bs y8 gm ⟨cd,dN,fP,dJ,fQ,fR,dK,eW,gF,cu,fY⟩ mQ
 have jj:Hid ((↑bE:Int) < (↑l9.length:Int)):=zJ (wBP gm)
 replace gm:=zJ gm
 have gj:Hid (w64 ((↑bE:Int) + 1)=(↑(bE + 1):Int)):=zJ (by have h1:=gu.out;have h2:=jj.out;rw [wAa] <;> omega)
 refine sR fL1 Z (oR Z (zO Z dN eW) (eN (zI (cT Z jj (kN (zI (zU (sR fL2 Z (oM Z dN (oA Z Z (eN (sR fL7 Z (oM Z dJ (oR Z (zO Z Z Z) (oM Z Z ?_)))))))))))))))
 by_cases bm:p1 < 0
 have mz:=mQ;rw [if_pos bm] at mz;replace bm:=zJ bm
 refine oT Z bm (oT Z bm (oT Z bm (oR Z (zf Z (Zd bm.out) Z) (eN (ZI Z (rR (wEc (.fx 4 .nil .stop)) Z (oR Z (zH Z dK ZO Z zq) (oL Z (cu.ldB (j:=5) Z Z Z zw (v:=.slice av bj.length az) Z) (oM Z Z (bnK mz fun _ fb wX=>?_))))))))))
 obtain ⟨An,l5⟩:=cu.rowSome (j:=3) rfl (by rw [wAF (f:=KL.encI) (sz:=1) (fun _=>rfl) bj];have hz:=wAP fb;omega)
 refine oR Z (Zp Z Z l5 Z zD zC (wAP fb)) ?_
 have wB:=wAy (xs:=bj) (wAP fb)
 refine yL (j:=3) (vs:=[jV 0]) (cs':=hH KL.encI (nH bj bE 0)) rfl rfl rfl rfl cu rfl l5 rfl rfl rfl zC (by rw [wAF (f:=KL.encI) (sz:=1) (fun _=>rfl)];have hz:=wAP fb;show _ + 1 <= _;first | omega | (simp only [nG];omega) | (simp only [nE,nB,nD];omega)) rfl (wBw (sz:=1) (fo:=0) (fun _=>rfl) _ _ _ _ wB (by first | omega | (simp only [nG];omega) | (simp only [nE,nB,nD];omega)) (zA rfl) rfl) rfl ?_
 intro iF u5
 let fu:Res:=.row av az 3 1 (hH KL.encI (nH bj bE 0))
 have u6:SW w [B1,.obj aa (.map ae ai)] U cd [.blk b4 148 B0,B1,.obj aa (.map ae ai),fu,bY,.blk b8 148 [.slice av bj.length az,.slice aU bG.length aV]] iF:=u5
 have u7:SW w [B1,.obj aa (.map ae ai)] U cd [.blk b4 148 B0,B1,.obj aa (.map ae ai),fu,bY,.blk b8 148 [.slice av ((nH bj bE 0).length) az,.slice aU bG.length aV]] iF:=by simpa only [B0,B1,bY,fu,nI] using u6
 refine zX (zj (zG (rR fL2 Z (oR Z (ZR (zS Z dN Z) (congrArg (jV) gj.out)) (oM Z Z (zX ?_))))))
 cases wX
 exact zG ⟨Z,⟨cd,Z,fP,dJ,fQ,fR,dK,eW,gF,u7,(nI.trans fY)⟩⟩
 have mA:=mQ;rw [if_neg bm] at mA;replace bm:=zJ bm
 refine zN Z Z Z (wF Z bm) Z Z (zN Z Z Z (wF Z bm) Z dJ (rU Z (wF Z bm) (Runs.eql Z Z Z) (oR Z (zn Z (ZQ bm.out) Z) (eN (ifc mA ?_ ?_)))))
 intro fE wY
 refine cT Z fE (rR (wEc (.fx 4 .nil .stop)) Z (oR Z (zH Z dK ZO Z zq) (oL Z (cu.ldB (j:=5) Z Z Z zw (v:=.slice av bj.length az) Z) (oM Z Z (bnK wY fun _ fc wZ=>?_)))))
 obtain ⟨Ao,l6⟩:=cu.rowSome (j:=3) rfl (by rw [wAF (f:=KL.encI) (sz:=1) (fun _=>rfl) bj];have hz:=wAP fc;omega)
 refine oR Z (Zp Z Z l6 Z zD zC (wAP fc)) ?_
 have wC:=wAy (xs:=bj) (wAP fc)
 refine yL (j:=3) (vs:=[jV 0]) (cs':=hH KL.encI (nH bj bE 0)) rfl rfl rfl rfl cu rfl l6 rfl rfl rfl zC (by rw [wAF (f:=KL.encI) (sz:=1) (fun _=>rfl)];have hz:=wAP fc;show _ + 1 <= _;first | omega | (simp only [nG];omega) | (simp only [nE,nB,nD];omega)) rfl (wBw (sz:=1) (fo:=0) (fun _=>rfl) _ _ _ _ wC (by first | omega | (simp only [nG];omega) | (simp only [nE,nB,nD];omega)) (zA rfl) rfl) rfl ?_
 intro iG u9
 let fw:Res:=.row av az 3 1 (hH KL.encI (nH bj bE 0))
 have va:SW w [B1,.obj aa (.map ae ai)] U cd [.blk b4 148 B0,B1,.obj aa (.map ae ai),fw,bY,.blk b8 148 [.slice av bj.length az,.slice aU bG.length aV]] iG:=u9
 have vb:SW w [B1,.obj aa (.map ae ai)] U cd [.blk b4 148 B0,B1,.obj aa (.map ae ai),fw,bY,.blk b8 148 [.slice av ((nH bj bE 0).length) az,.slice aU bG.length aV]] iG:=by simpa only [B0,B1,bY,fw,nI] using va
 refine zX (zj (zG (rR fL2 Z (oR Z (ZR (zS Z dN Z) (congrArg (jV) gj.out)) (oM Z Z (zX ?_))))))
 cases wZ
 exact zG ⟨Z,⟨cd,Z,fP,dJ,fQ,fR,dK,eW,gF,vb,(nI.trans fY)⟩⟩
 intro fE w5
 refine cF Z fE (ZT (zj (zG (rR fL2 Z (oR Z (ZR (zS Z dN Z) (congrArg (jV) gj.out)) (oM Z Z (zX ?_)))))))
 cases w5
 exact zG ⟨Z,⟨cd,Z,fP,dJ,fQ,fR,dK,eW,gF,cu,fY⟩⟩
 rintro Bt y9 ⟨ij,tE,jH,Ax,pC,pD,pE,pF,xD,gb,tQ⟩
 have pn:Hid (¬ ((↑(((↑l9.length:Int):Int) - 0).toNat:Int) < (↑l9.length:Int))):=zJ (wAv)
 refine sR fL1 Z (oR Z (zO Z tE pF) (eN (zI (cF Z pn (ZP (zd (zd (ZJ (zG (sR fL1 Z (oA Z Z (eN (zI (sR fL7 Z (oM Z jH (oR Z (Zb Z Z) (oR Z (zH Z Z ZE Z Zq) (oL Z (gb.ldB (j:=1) Z Z Z Zy (v:=.map (some aa)) Z) (oL Z (gb.lenM (j:=2) (mk:=wBO) (mv:=wBR) Z Z Z (wBu ZD) da) (oR Z (zS Z Z Z) (oM Z Z (eN (zU ?_)))))))))))))))))))))))
 have q:=wCQ gz
 obtain ⟨Bc,gi⟩:=q
 have q:=wCP gi
 obtain ⟨gv,wy⟩:=q
 replace gv:=zJ gv
 refine yX (fun bF (fj,fm,oa) σ_ w_=>∃ (U_:PHeap),σ_ 55=jV (↑bF:Int)/\σ_ 0=.pointer (some ⟨ak,0,none⟩)/\σ_ 2=.bool p2/\σ_ 6=.pointer (some ⟨b4,0,none⟩)/\σ_ 9=.pointer (some ⟨b8,0,none⟩)/\σ_ 11=jV oa/\σ_ 54=jV (w64 ((↑(p0.number.length):Int) + 1))/\PHeap.Le ij U_/\SW w [B1,.obj aa (.map ae ai)] U U_ [.blk b4 148 B0,B1,.obj aa (.map ae ai),.row av az 3 1 (hH KL.encI fj),.row aU aV 3 1 (hH KL.encI fm),.blk b8 148 [.slice av fj.length az,.slice aU fm.length aV]] w_/\fj.length=l9.length/\fm.length=bG.length) wy ?_ ?_ ?_
 exact ⟨ij,Z,jH,pC,pD,pE,Z,Z,(zL _),gb,tQ,Z⟩
 rintro bF ⟨fj,fm,oa⟩ Bm Bu z4 gq ⟨ik,lY,jJ,pG,pH,pI,Ay,jK,m7,mj,tR,tS⟩ mR wu
 try dsimp only at mR
 have jk:Hid ((↑bF:Int) < (w64 ((↑(p0.number.length):Int) + 1))):=zJ (wBP gq)
 replace gq:=zJ gq
 have wV:Hid (w64 ((↑bF:Int) + 1)=(↑(bF + 1):Int)):=zJ (by have h1:=gv.out;have h2:=jk.out;rw [wAa] <;> omega)
 refine sR fL1 Z (oR Z (zO Z lY jK) (eN (zI (cT Z jk (kN (zI (zU (sR fL1 Z (oA Z Z (eN (zI (sR fL6 Z (oM Z jJ (oR Z (Zb Z Z) (oR Z (zH Z Z ZE Z yc) (oL Z (mj.ldB (j:=1) Z Z Z Tryz.isAgg144 (v:=.slice bA p0.edges.length bB) Z) (oR Z (ZA Z Z Tryz.runUnderlying144) (oM Z Z (eN (zU ?_))))))))))))))))))))
 have q:=bnd mR
 obtain ⟨⟨od,oe,Bp⟩,wz,mB⟩:=q
 try dsimp only at mB
 have q:=wBS wz
 obtain ⟨gw,wA⟩:=q
 replace gw:=zJ gw
 refine CK.forN' (fun be (au,aZ,oc) σ_ w_=>∃ (U_:PHeap),σ_ 62=jV (↑be:Int)/\σ_ 0=.pointer (some ⟨ak,0,none⟩)/\σ_ 2=.bool p2/\σ_ 6=.pointer (some ⟨b4,0,none⟩)/\σ_ 9=.pointer (some ⟨b8,0,none⟩)/\σ_ 11=jV oc/\σ_ 54=jV (w64 ((↑(p0.number.length):Int) + 1))/\σ_ 55=jV (↑bF:Int)/\σ_ 60=.slice bA p0.edges.length bB/\σ_ 61=jV (↑p0.edges.length:Int)/\PHeap.Le ik U_/\SW w [B1,.obj aa (.map ae ai)] U U_ [.blk b4 148 B0,B1,.obj aa (.map ae ai),.row av az 3 1 (hH KL.encI au),.row aU aV 3 1 (hH KL.encI aZ),.blk b8 148 [.slice av au.length az,.slice aU aZ.length aV]] w_/\au.length=l9.length/\aZ.length=bG.length) wA ?_ ?_ ?_
 exact ⟨ik,Z,jJ,pG,pH,pI,Z,jK,lY,Z,Z,(zL _),mj,tR,tS⟩
 rintro be ⟨au,aZ,oc⟩ Bn Bv z5 gt ⟨bb,bN,cU,cq,cV,bv,eX,cW,cX,cr,ct,m8,ml,cY,cZ⟩ mS
 try dsimp only at mS
 have jl:Hid ((↑be:Int) < (↑p0.edges.length:Int)):=zJ (wBP gt)
 replace gt:=zJ gt
 have wW:Hid (w64 ((↑be:Int) + 1)=(↑(be + 1):Int)):=zJ (by have h1:=gw.out;have h2:=jl.out;rw [wAa] <;> omega)
 refine sR fL1 Z (oR Z (zO Z bN ct) (eN (zI (cT Z jl (kN ?_)))))
 have q:=bnd mS
 obtain ⟨⟨gB,gC,xV⟩,xq,mC⟩:=q
 try dsimp only at mC
 refine yA (fun σ_ w_=>∃ (U_:PHeap),σ_ 0=.pointer (some ⟨ak,0,none⟩)/\σ_ 2=.bool p2/\σ_ 6=.pointer (some ⟨b4,0,none⟩)/\σ_ 9=.pointer (some ⟨b8,0,none⟩)/\σ_ 11=jV xV/\σ_ 54=jV (w64 ((↑(p0.number.length):Int) + 1))/\σ_ 55=jV (↑bF:Int)/\σ_ 60=.slice bA p0.edges.length bB/\σ_ 61=jV (↑p0.edges.length:Int)/\σ_ 62=jV (↑be:Int)/\PHeap.Le bb U_/\SW w [B1,.obj aa (.map ae ai)] U U_ [.blk b4 148 B0,B1,.obj aa (.map ae ai),.row av az 3 1 (hH KL.encI gB),.row aU aV 3 1 (hH KL.encI gC),.blk b8 148 [.slice av gB.length az,.slice aU gC.length aV]] w_/\gB.length=l9.length/\gC.length=bG.length) ?_ ?_
 refine zU (sR (wEU (.fx 3 (.fl 4 (.fx 5 .nil .stop)) .stop)) Z (oM Z bN (bnK xq fun aq lZ w6=>?_)))
 have tT:=wt.le xC
 have tU:=tT.le xD
 have tV:=tU.le m7
 have tW:=tV.le m8
 have q:=tW.el (fun _=>rfl) (wAi lZ)
 obtain ⟨Ap,Bb,uu,uv⟩:=q
 refine oR Z (Zp Z cr uu bN Tryz.runUnderlying144 Tryz.sizeOf212 (wCv lZ)) (oL Z (ml.ldCA (f:=0) uv Z Z Tryz.isAgg212 Tryz.sizeOf212 (us:=[jV aq.step.Kind,jV aq.step.Skier,jV aq.step.Index,.bool aq.step.Up,jV aq.from_,jV aq.to_,jV aq.count]) Z Z) (zW (cs:=[jV 0,jV 0,jV 0,.bool false,jV 0,jV 0,jV 0]) Z Z Z Z Z Tryz.zeroValue212 Z ml ?_))
 intro z6 bi vc
 refine oA Z Z ?_
 let ba:List Value:=[jV aq.step.Kind,jV aq.step.Skier,jV aq.step.Index,.bool aq.step.Up,jV aq.from_,jV aq.to_,jV aq.count]
 refine zY (j:=0) (vs:=ba) Z Z Z Z vc Z Z Z Z Tryz.sizeOf212 (zA Z) Z Z Z ?_
 intro fC vd
 let bp:Res:=.row aU aV 3 1 (hH KL.encI aZ)
 let bM:Res:=.blk b8 148 [.slice av au.length az,.slice aU aZ.length aV]
 have ve:SW w [B1,.obj aa (.map ae ai)] U bb [.blk bi 212 ba,.blk b4 148 B0,B1,.obj aa (.map ae ai),.row av az 3 1 (hH KL.encI au),bp,bM] fC:=vd
 refine eN (zI (zx zr [3,1,3,1,3,3] fL6 (by kernel_rfl) ?_))
 have dO:=ve.drew
 generalize hw_W1431:({ fC with drawn:=fC.drawn + 1 }:World)=eD at dO ⊢
 refine oR Z (zH Z Z yP Z zC) (oL Z (dO.ldB (j:=0) Z Z Z zE (v:=jV aq.from_) Z) (oR Z (zH Z Z yP Z zC) (oL Z (dO.ldB (j:=0) Z Z Z zE (v:=jV aq.to_) Z) (oA Z Z (oA Z Z (eN (zI (sR fL1 Z (oM Z cq (eN (ifc w6 ?_ ?_)))))))))))
 intro fG w7
 refine ZI (congrArg nJ fG.out) (rR fL4 rfl (zN rfl rfl rfl rfl rfl rfl (zN rfl rfl rfl rfl rfl rfl (yK rfl rfl rfl rfl rfl rfl (yK rfl rfl rfl rfl rfl rfl (eN (zI (zx zr [3,1,3,3,1,3,3,3,1,3,3,1,3,1,3,3,1,3,3,1,3,3] fL22 (by kernel_rfl) ?_))))))))
 have bw:=dO.drew
 generalize hw_W1435:({ eD with drawn:=eD.drawn + 1 }:World)=iH at bw ⊢
 refine oR Z (zH Z bv ZO Z zq) (oL Z (bw.ldB (j:=6) Z Z Z zw (v:=.slice av au.length az) Z) (oM Z Z (bnK w7 fun _ bI w8=>?_)))
 obtain ⟨Aq,bC⟩:=bw.rowSome (j:=4) rfl (by rw [wAF (f:=KL.encI) (sz:=1) (fun _=>rfl) au];have hz:=wAP bI;omega)
 refine oR Z (zm Z Z bC Z zD zC (wAp bI) (wAq bI)) ?_
 have wD:=wAy (xs:=au) (wAP bI)
 refine ZF rfl rfl rfl rfl (bw.ldR (j:=4) rfl bC rfl rfl zE (wAR (sz:=1) (fun _=>rfl) _ _ 0 _ wD (by first | omega | rfl | simp) rfl)) rfl (zZ rfl rfl rfl rfl (fun _=>zO rfl rfl rfl) (zN rfl rfl rfl rfl rfl rfl (ifc w8 ?_ ?_)))
 intro aX w9
 refine rU Z (wT Z aX) (zH Z bv ZO Z zq) (ZF Z Z Z (wT Z aX) (bw.ldB (j:=6) Z Z Z zw (v:=.slice av au.length az) Z) Z (zN Z Z Z (wT Z aX) Z Z (rU Z (wT Z aX) (zm Z Z bC Z zD zC (wAp bI) (wAq bI)) ?_)))
 have wE:=wAy (xs:=au) (wAP bI)
 refine ZF rfl rfl rfl (ze rfl rfl (Zd aX.out)) (bw.ldR (j:=4) rfl bC rfl rfl zE (wAR (sz:=1) (fun _=>rfl) _ _ 0 _ wE (by first | omega | rfl | simp) rfl)) rfl (zZ rfl rfl rfl (ze rfl rfl (Zd aX.out)) (fun _=>zH rfl rfl yP rfl zC) (ZF rfl rfl rfl (ze rfl rfl (Zd aX.out)) (bw.ldB (j:=0) rfl rfl rfl zE (v:=jV aq.count) rfl) rfl (zZ rfl rfl rfl (ze rfl rfl (Zd aX.out)) (fun _=>zS rfl rfl rfl) (zZ rfl rfl rfl (ze rfl rfl (Zd aX.out)) (fun _=>zH rfl bv ZO rfl zq) (ZF rfl rfl rfl (ze rfl rfl (Zd aX.out)) (bw.ldB (j:=6) rfl rfl rfl zw (v:=.slice av au.length az) rfl) rfl (zN rfl rfl rfl (ze rfl rfl (Zd aX.out)) rfl rfl (bnK w9 fun _ bO xa=>zZ rfl rfl rfl (ze rfl rfl (Zd aX.out)) (fun _=>zm rfl rfl bC rfl zD zC (wAp bO) (wAq bO)) ?_)))))))
 have wG:=wAy (xs:=au) (wAP bO)
 refine ZF rfl rfl rfl (ze rfl rfl (Zd aX.out)) (bw.ldR (j:=4) rfl bC rfl rfl zE (wAR (sz:=1) (fun _=>rfl) _ _ 0 _ wG (by first | omega | rfl | simp) rfl)) rfl (zZ rfl rfl rfl (ze rfl rfl (Zd aX.out)) (fun _=>zO rfl rfl rfl) (zZ rfl rfl rfl rfl (fun _=>zf rfl (Zd aX.out) rfl) (eN (ifc xa ?_ ?_))))
 intro fH xb
 refine cT Z fH ?_
 have q:=bnd xb
 obtain ⟨⟨⟩,xr,mD⟩:=q
 try dsimp only at mD
 let bq:Res:=.row av az 3 1 (hH KL.encI (nH au aq.from_.toNat (w64 ((gd au aq.to_.toNat) + aq.count))))
 let dt:Res:=.blk b8 148 [.slice av ((nH au aq.from_.toNat (w64 ((gd au aq.to_.toNat) + aq.count))).length) az,.slice aU ((nH aZ aq.from_.toNat (↑be:Int)).length) aV]
 let bZ:Res:=.row aU aV 3 1 (hH KL.encI (nH aZ aq.from_.toNat (↑be:Int)))
 refine yA (fun σ_ w_=>∃ (U_:PHeap),σ_ 0=.pointer (some ⟨ak,0,none⟩)/\σ_ 2=.bool p2/\σ_ 6=.pointer (some ⟨b4,0,none⟩)/\σ_ 9=.pointer (some ⟨b8,0,none⟩)/\σ_ 15=jV aq.from_/\σ_ 54=jV (w64 ((↑(p0.number.length):Int) + 1))/\σ_ 55=jV (↑bF:Int)/\σ_ 60=.slice bA p0.edges.length bB/\σ_ 61=jV (↑p0.edges.length:Int)/\σ_ 62=jV (↑be:Int)/\PHeap.Le bb U_/\SW w [B1,.obj aa (.map ae ai)] U U_ [.blk bi 212 ba,.blk b4 148 B0,B1,.obj aa (.map ae ai),bq,bZ,dt] w_) ?_ ?_
 refine yh fun bt bn=>?_
 have jL:bt 0=.pointer (some ⟨ak,0,none⟩):=(bn 0).trans cU
 have jM:bt 2=.bool p2:=(bn 2).trans cq
 have jN:bt 6=.pointer (some ⟨b4,0,none⟩):=(bn 6).trans cV
 have dL:bt 9=.pointer (some ⟨b8,0,none⟩):=(bn 9).trans bv
 have pJ:bt 12=jV (↑be:Int):=(bn 12).trans rfl
 have pK:bt 13=.pointer (some ⟨bi,0,none⟩):=(bn 13).trans rfl
 have pL:bt 14=jV aq.to_:=(bn 14).trans rfl
 have eY:bt 15=jV aq.from_:=(bn 15).trans rfl
 have jO:bt 54=jV (w64 ((↑(p0.number.length):Int) + 1)):=(bn 54).trans cW
 have jP:bt 55=jV (↑bF:Int):=(bn 55).trans cX
 have jQ:bt 60=.slice bA p0.edges.length bB:=(bn 60).trans cr
 have jR:bt 61=jV (↑p0.edges.length:Int):=(bn 61).trans ct
 have jS:bt 62=jV (↑be:Int):=(bn 62).trans bN
 clear bn
 refine bnK xr fun _ bJ mE=>zx zr [3,1,3,3,2,3,3,1,3,3,1,3,1,3,3,3,0,3,0] (wEc (wQq gDq)) (by kernel_rfl) ?_
 have bR:=bw.drew
 generalize hw_W1484:({ iH with drawn:=iH.drawn + 1 }:World)=z7 at bR ⊢
 refine oR Z (zH Z dL ZO Z zq) (oL Z (bR.ldB (j:=6) Z Z Z zw (v:=.slice av au.length az) Z) (oM Z eY (oR Z (zH Z dL ZO Z zq) (oM Z eY (oR Z (zH Z dL ZO Z zq) (oL Z (bR.ldB (j:=6) Z Z Z zw (v:=.slice av au.length az) Z) (oM Z pL (oR Z (zm Z Z bC Z zD zC (wAp bI) (wAq bI)) ?_))))))))
 have wH:=wAy (xs:=au) (wAP bI)
 refine ZF rfl rfl rfl rfl (bR.ldR (j:=4) rfl bC rfl rfl zE (wAR (sz:=1) (fun _=>rfl) _ _ 0 _ wH (by first | omega | rfl | simp) rfl)) rfl (zZ rfl rfl rfl rfl (fun _=>zH rfl pK yP rfl zC) (ZF rfl rfl rfl rfl (bR.ldB (j:=0) rfl rfl rfl zE (v:=jV aq.count) rfl) rfl (zZ rfl rfl rfl rfl (fun _=>zS rfl rfl rfl) (zN rfl rfl rfl rfl rfl pJ (zZ rfl rfl rfl rfl (fun _=>zm rfl rfl bC rfl zD zC (wAp bO) (wAq bO)) (zk ?_ ?_))))))
 refine ZB Z Z Z Z (bR.ldB (j:=6) Z Z Z zw (v:=.slice aU aZ.length aV) Z) ?_
 have wI:=wAy (xs:=au) (wAP bO)
 refine yL (j:=4) (vs:=[jV (w64 ((gd au aq.to_.toNat) + aq.count))]) (cs':=hH KL.encI (nH au aq.from_.toNat (w64 ((gd au aq.to_.toNat) + aq.count)))) rfl rfl rfl rfl bR rfl bC rfl rfl rfl zC (by rw [wAF (f:=KL.encI) (sz:=1) (fun _=>rfl)];have hz:=wAP bO;show _ + 1 <= _;first | omega | (simp only [nG];omega) | (simp only [nE,nB,nD];omega)) rfl (wBw (sz:=1) (fo:=0) (fun _=>rfl) _ _ _ _ wI (by first | omega | (simp only [nG];omega) | (simp only [nE,nB,nD];omega)) (zA rfl) rfl) rfl ?_
 intro iI vg
 have vh:SW w [B1,.obj aa (.map ae ai)] U bb [.blk bi 212 ba,.blk b4 148 B0,B1,.obj aa (.map ae ai),bq,bp,bM] iI:=vg
 let en:Res:=.blk b8 148 [.slice av ((nH au aq.from_.toNat (w64 ((gd au aq.to_.toNat) + aq.count))).length) az,.slice aU aZ.length aV]
 have mo:SW w [B1,.obj aa (.map ae ai)] U bb [.blk bi 212 ba,.blk b4 148 B0,B1,.obj aa (.map ae ai),bq,bp,en] iI:=by simpa only [B0,B1,ba,bp,bM,bq,en,nI] using vh
 obtain ⟨Ar,ma⟩:=mo.rowSome (j:=5) rfl (by rw [wAF (f:=KL.encI) (sz:=1) (fun _=>rfl) aZ];have hz:=wAP bJ;omega)
 refine oR Z (zm Z Z ma Z zD zC (wAp bJ) (wAq bJ)) ?_
 have wJ:=wAy (xs:=aZ) (wAP bJ)
 refine yL (j:=5) (vs:=[jV (↑be:Int)]) (cs':=hH KL.encI (nH aZ aq.from_.toNat (↑be:Int))) rfl rfl rfl rfl mo rfl ma rfl rfl rfl zC (by rw [wAF (f:=KL.encI) (sz:=1) (fun _=>rfl)];have hz:=wAP bJ;show _ + 1 <= _;first | omega | (simp only [nG];omega) | (simp only [nE,nB,nD];omega)) rfl (wBw (sz:=1) (fo:=0) (fun _=>rfl) _ _ _ _ wJ (by first | omega | (simp only [nG];omega) | (simp only [nE,nB,nD];omega)) (zA rfl) rfl) rfl ?_
 intro iJ vi
 have vj:SW w [B1,.obj aa (.map ae ai)] U bb [.blk bi 212 ba,.blk b4 148 B0,B1,.obj aa (.map ae ai),bq,bZ,en] iJ:=vi
 have vk:SW w [B1,.obj aa (.map ae ai)] U bb [.blk bi 212 ba,.blk b4 148 B0,B1,.obj aa (.map ae ai),bq,bZ,dt] iJ:=by simpa only [B0,B1,ba,bq,dt,bZ,en,nI] using vj
 refine zX ?_
 cases mE
 exact zG ⟨Z,⟨bb,jL,jM,jN,dL,eY,jO,jP,jQ,jR,jS,(zL _),vk⟩⟩
 have wK:=wAy (xs:=au) (wAP bO)
 refine yL (j:=4) (vs:=[jV (w64 ((gd au aq.to_.toNat) + aq.count))]) (cs':=hH KL.encI (nH au aq.from_.toNat (w64 ((gd au aq.to_.toNat) + aq.count)))) rfl rfl rfl rfl bR rfl bC rfl rfl rfl zC (by rw [wAF (f:=KL.encI) (sz:=1) (fun _=>rfl)];have hz:=wAP bO;show _ + 1 <= _;first | omega | (simp only [nG];omega) | (simp only [nE,nB,nD];omega)) rfl (wBw (sz:=1) (fo:=0) (fun _=>rfl) _ _ _ _ wK (by first | omega | (simp only [nG];omega) | (simp only [nE,nB,nD];omega)) (zA rfl) rfl) rfl ?_
 intro iK vl
 have vm:SW w [B1,.obj aa (.map ae ai)] U bb [.blk bi 212 ba,.blk b4 148 B0,B1,.obj aa (.map ae ai),bq,bp,bM] iK:=vl
 let eu:Res:=.blk b8 148 [.slice av ((nH au aq.from_.toNat (w64 ((gd au aq.to_.toNat) + aq.count))).length) az,.slice aU aZ.length aV]
 have ge:SW w [B1,.obj aa (.map ae ai)] U bb [.blk bi 212 ba,.blk b4 148 B0,B1,.obj aa (.map ae ai),bq,bp,eu] iK:=by simpa only [B0,B1,ba,bp,bM,bq,eu,nI] using vm
 refine ZB Z Z Z Z (ge.ldB (j:=6) Z Z Z zw (v:=.slice aU aZ.length aV) Z) ?_
 obtain ⟨As,mb⟩:=ge.rowSome (j:=5) rfl (by rw [wAF (f:=KL.encI) (sz:=1) (fun _=>rfl) aZ];have hz:=wAP bJ;omega)
 refine oR Z (zm Z Z mb Z zD zC (wAp bJ) (wAq bJ)) ?_
 have wL:=wAy (xs:=aZ) (wAP bJ)
 refine yL (j:=5) (vs:=[jV (↑be:Int)]) (cs':=hH KL.encI (nH aZ aq.from_.toNat (↑be:Int))) rfl rfl rfl rfl ge rfl mb rfl rfl rfl zC (by rw [wAF (f:=KL.encI) (sz:=1) (fun _=>rfl)];have hz:=wAP bJ;show _ + 1 <= _;first | omega | (simp only [nG];omega) | (simp only [nE,nB,nD];omega)) rfl (wBw (sz:=1) (fo:=0) (fun _=>rfl) _ _ _ _ wL (by first | omega | (simp only [nG];omega) | (simp only [nE,nB,nD];omega)) (zA rfl) rfl) rfl ?_
 intro iL vn
 have vo:SW w [B1,.obj aa (.map ae ai)] U bb [.blk bi 212 ba,.blk b4 148 B0,B1,.obj aa (.map ae ai),bq,bZ,eu] iL:=vn
 have vp:SW w [B1,.obj aa (.map ae ai)] U bb [.blk bi 212 ba,.blk b4 148 B0,B1,.obj aa (.map ae ai),bq,bZ,dt] iL:=by simpa only [B0,B1,ba,bq,dt,bZ,eu,nI] using vo
 refine zX ?_
 cases mE
 exact zG ⟨Z,⟨bb,jL,jM,jN,dL,eY,jO,jP,jQ,jR,jS,(zL _),vp⟩⟩
 rintro Bw z8 ⟨oj,pM,pN,pO,pP,pQ,pR,pS,pT,pU,pV,xE,vq⟩
 refine rR fL2 Z (oM Z pQ (oA Z Z (zX (zj ?_))))
 cases mD
 exact zG ⟨rfl,⟨oj,pM,pN,pO,pP,rfl,pR,pS,pT,pU,pV,xE,(vq.pick [1,2,3,4,5,6] _ (by decide) rfl),(nI.trans cY),(nI.trans cZ)⟩⟩
 intro fH xc
 refine cF Z fH (ZT (zj ?_))
 cases xc
 exact zG ⟨rfl,⟨bb,cU,cq,cV,bv,eX,cW,cX,cr,ct,bN,(zL _),(bw.pick [1,2,3,4,5,6] _ (by decide) rfl),cY,cZ⟩⟩
 intro aX xd
 refine oF Z aX (oF Z aX (oF Z aX (oF Z aX (oF Z aX (oF Z aX (oF Z aX (oF Z aX (oF Z aX (oF Z aX (oF Z aX (oF Z aX (oF Z aX (oF Z aX (oR Z (zn Z (ZQ aX.out) Z) (eN (zo Z (ZT (zj ?_))))))))))))))))))
 cases xd
 exact zG ⟨rfl,⟨bb,cU,cq,cV,bv,eX,cW,cX,cr,ct,bN,(zL _),(bw.pick [1,2,3,4,5,6] _ (by decide) rfl),cY,cZ⟩⟩
 intro fG xe
 refine zo (congrArg nJ (nK.2 fG.out)) (kN (zI (zx zr [3,1,3,3,1,3,3,3,1,3,3,1,3,1,3,3,1,3,3,1,3,3] fL22 (by kernel_rfl) ?_)))
 have bz:=dO.drew
 generalize hw_W1538:({ eD with drawn:=eD.drawn + 1 }:World)=iM at bz ⊢
 refine oR Z (zH Z bv ZO Z zq) (oL Z (bz.ldB (j:=6) Z Z Z zw (v:=.slice av au.length az) Z) (oM Z Z (bnK xe fun _ bK xf=>?_)))
 obtain ⟨Au,bD⟩:=bz.rowSome (j:=4) rfl (by rw [wAF (f:=KL.encI) (sz:=1) (fun _=>rfl) au];have hz:=wAP bK;omega)
 refine oR Z (zm Z Z bD Z zD zC (wAp bK) (wAq bK)) ?_
 have wM:=wAy (xs:=au) (wAP bK)
 refine ZF rfl rfl rfl rfl (bz.ldR (j:=4) rfl bD rfl rfl zE (wAR (sz:=1) (fun _=>rfl) _ _ 0 _ wM (by first | omega | rfl | simp) rfl)) rfl (zZ rfl rfl rfl rfl (fun _=>zO rfl rfl rfl) (zN rfl rfl rfl rfl rfl rfl (ifc xf ?_ ?_)))
 intro aY xg
 refine rU Z (wT Z aY) (zH Z bv ZO Z zq) (ZF Z Z Z (wT Z aY) (bz.ldB (j:=6) Z Z Z zw (v:=.slice av au.length az) Z) Z (zN Z Z Z (wT Z aY) Z Z (rU Z (wT Z aY) (zm Z Z bD Z zD zC (wAp bK) (wAq bK)) ?_)))
 have wN:=wAy (xs:=au) (wAP bK)
 refine ZF rfl rfl rfl (ze rfl rfl (Zd aY.out)) (bz.ldR (j:=4) rfl bD rfl rfl zE (wAR (sz:=1) (fun _=>rfl) _ _ 0 _ wN (by first | omega | rfl | simp) rfl)) rfl (zZ rfl rfl rfl (ze rfl rfl (Zd aY.out)) (fun _=>zH rfl rfl yP rfl zC) (ZF rfl rfl rfl (ze rfl rfl (Zd aY.out)) (bz.ldB (j:=0) rfl rfl rfl zE (v:=jV aq.count) rfl) rfl (zZ rfl rfl rfl (ze rfl rfl (Zd aY.out)) (fun _=>zS rfl rfl rfl) (zZ rfl rfl rfl (ze rfl rfl (Zd aY.out)) (fun _=>zH rfl bv ZO rfl zq) (ZF rfl rfl rfl (ze rfl rfl (Zd aY.out)) (bz.ldB (j:=6) rfl rfl rfl zw (v:=.slice av au.length az) rfl) rfl (zN rfl rfl rfl (ze rfl rfl (Zd aY.out)) rfl rfl (bnK xg fun _ bP xh=>zZ rfl rfl rfl (ze rfl rfl (Zd aY.out)) (fun _=>zm rfl rfl bD rfl zD zC (wAp bP) (wAq bP)) ?_)))))))
 have wO:=wAy (xs:=au) (wAP bP)
 refine ZF rfl rfl rfl (ze rfl rfl (Zd aY.out)) (bz.ldR (j:=4) rfl bD rfl rfl zE (wAR (sz:=1) (fun _=>rfl) _ _ 0 _ wO (by first | omega | rfl | simp) rfl)) rfl (zZ rfl rfl rfl (ze rfl rfl (Zd aY.out)) (fun _=>zO rfl rfl rfl) (zZ rfl rfl rfl rfl (fun _=>zf rfl (Zd aY.out) rfl) (eN (ifc xh ?_ ?_))))
 intro fJ xi
 refine cT Z fJ ?_
 have q:=bnd xi
 obtain ⟨⟨⟩,xt,mF⟩:=q
 try dsimp only at mF
 let br:Res:=.row av az 3 1 (hH KL.encI (nH au aq.to_.toNat (w64 ((gd au aq.from_.toNat) + aq.count))))
 let du:Res:=.blk b8 148 [.slice av ((nH au aq.to_.toNat (w64 ((gd au aq.from_.toNat) + aq.count))).length) az,.slice aU ((nH aZ aq.to_.toNat (↑be:Int)).length) aV]
 let cb:Res:=.row aU aV 3 1 (hH KL.encI (nH aZ aq.to_.toNat (↑be:Int)))
 refine yA (fun σ_ w_=>∃ (U_:PHeap),σ_ 0=.pointer (some ⟨ak,0,none⟩)/\σ_ 2=.bool p2/\σ_ 6=.pointer (some ⟨b4,0,none⟩)/\σ_ 9=.pointer (some ⟨b8,0,none⟩)/\σ_ 15=jV aq.to_/\σ_ 54=jV (w64 ((↑(p0.number.length):Int) + 1))/\σ_ 55=jV (↑bF:Int)/\σ_ 60=.slice bA p0.edges.length bB/\σ_ 61=jV (↑p0.edges.length:Int)/\σ_ 62=jV (↑be:Int)/\PHeap.Le bb U_/\SW w [B1,.obj aa (.map ae ai)] U U_ [.blk bi 212 ba,.blk b4 148 B0,B1,.obj aa (.map ae ai),br,cb,du] w_) ?_ ?_
 refine yh fun bu bo=>?_
 have jU:bu 0=.pointer (some ⟨ak,0,none⟩):=(bo 0).trans cU
 have jW:bu 2=.bool p2:=(bo 2).trans cq
 have jX:bu 6=.pointer (some ⟨b4,0,none⟩):=(bo 6).trans cV
 have dM:bu 9=.pointer (some ⟨b8,0,none⟩):=(bo 9).trans bv
 have pW:bu 12=jV (↑be:Int):=(bo 12).trans rfl
 have pX:bu 13=.pointer (some ⟨bi,0,none⟩):=(bo 13).trans rfl
 have pY:bu 14=jV aq.from_:=(bo 14).trans rfl
 have eZ:bu 15=jV aq.to_:=(bo 15).trans rfl
 have jY:bu 54=jV (w64 ((↑(p0.number.length):Int) + 1)):=(bo 54).trans cW
 have jZ:bu 55=jV (↑bF:Int):=(bo 55).trans cX
 have j0:bu 60=.slice bA p0.edges.length bB:=(bo 60).trans cr
 have j3:bu 61=jV (↑p0.edges.length:Int):=(bo 61).trans ct
 have j4:bu 62=jV (↑be:Int):=(bo 62).trans bN
 clear bo
 refine bnK xt fun _ bL mG=>zx zr [3,1,3,3,2,3,3,1,3,3,1,3,1,3,3,3,0,3,0] (wEc (wQq gDq)) (by kernel_rfl) ?_
 have bS:=bz.drew
 generalize hw_W1587:({ iM with drawn:=iM.drawn + 1 }:World)=z9 at bS ⊢
 refine oR Z (zH Z dM ZO Z zq) (oL Z (bS.ldB (j:=6) Z Z Z zw (v:=.slice av au.length az) Z) (oM Z eZ (oR Z (zH Z dM ZO Z zq) (oM Z eZ (oR Z (zH Z dM ZO Z zq) (oL Z (bS.ldB (j:=6) Z Z Z zw (v:=.slice av au.length az) Z) (oM Z pY (oR Z (zm Z Z bD Z zD zC (wAp bK) (wAq bK)) ?_))))))))
 have wP:=wAy (xs:=au) (wAP bK)
 refine ZF rfl rfl rfl rfl (bS.ldR (j:=4) rfl bD rfl rfl zE (wAR (sz:=1) (fun _=>rfl) _ _ 0 _ wP (by first | omega | rfl | simp) rfl)) rfl (zZ rfl rfl rfl rfl (fun _=>zH rfl pX yP rfl zC) (ZF rfl rfl rfl rfl (bS.ldB (j:=0) rfl rfl rfl zE (v:=jV aq.count) rfl) rfl (zZ rfl rfl rfl rfl (fun _=>zS rfl rfl rfl) (zN rfl rfl rfl rfl rfl pW (zZ rfl rfl rfl rfl (fun _=>zm rfl rfl bD rfl zD zC (wAp bP) (wAq bP)) (zk ?_ ?_))))))
 refine ZB Z Z Z Z (bS.ldB (j:=6) Z Z Z zw (v:=.slice aU aZ.length aV) Z) ?_
 have wQ:=wAy (xs:=au) (wAP bP)
 refine yL (j:=4) (vs:=[jV (w64 ((gd au aq.from_.toNat) + aq.count))]) (cs':=hH KL.encI (nH au aq.to_.toNat (w64 ((gd au aq.from_.toNat) + aq.count)))) rfl rfl rfl rfl bS rfl bD rfl rfl rfl zC (by rw [wAF (f:=KL.encI) (sz:=1) (fun _=>rfl)];have hz:=wAP bP;show _ + 1 <= _;first | omega | (simp only [nG];omega) | (simp only [nE,nB,nD];omega)) rfl (wBw (sz:=1) (fo:=0) (fun _=>rfl) _ _ _ _ wQ (by first | omega | (simp only [nG];omega) | (simp only [nE,nB,nD];omega)) (zA rfl) rfl) rfl ?_
 intro iN vr
 have vt:SW w [B1,.obj aa (.map ae ai)] U bb [.blk bi 212 ba,.blk b4 148 B0,B1,.obj aa (.map ae ai),br,bp,bM] iN:=vr
 let ez:Res:=.blk b8 148 [.slice av ((nH au aq.to_.toNat (w64 ((gd au aq.from_.toNat) + aq.count))).length) az,.slice aU aZ.length aV]
 have mp:SW w [B1,.obj aa (.map ae ai)] U bb [.blk bi 212 ba,.blk b4 148 B0,B1,.obj aa (.map ae ai),br,bp,ez] iN:=by simpa only [B0,B1,ba,bp,bM,br,ez,nI] using vt
 obtain ⟨Av,mc⟩:=mp.rowSome (j:=5) rfl (by rw [wAF (f:=KL.encI) (sz:=1) (fun _=>rfl) aZ];have hz:=wAP bL;omega)
 refine oR Z (zm Z Z mc Z zD zC (wAp bL) (wAq bL)) ?_
 have wR:=wAy (xs:=aZ) (wAP bL)
 refine yL (j:=5) (vs:=[jV (↑be:Int)]) (cs':=hH KL.encI (nH aZ aq.to_.toNat (↑be:Int))) rfl rfl rfl rfl mp rfl mc rfl rfl rfl zC (by rw [wAF (f:=KL.encI) (sz:=1) (fun _=>rfl)];have hz:=wAP bL;show _ + 1 <= _;first | omega | (simp only [nG];omega) | (simp only [nE,nB,nD];omega)) rfl (wBw (sz:=1) (fo:=0) (fun _=>rfl) _ _ _ _ wR (by first | omega | (simp only [nG];omega) | (simp only [nE,nB,nD];omega)) (zA rfl) rfl) rfl ?_
 intro iO vu
 have vv:SW w [B1,.obj aa (.map ae ai)] U bb [.blk bi 212 ba,.blk b4 148 B0,B1,.obj aa (.map ae ai),br,cb,ez] iO:=vu
 have vw:SW w [B1,.obj aa (.map ae ai)] U bb [.blk bi 212 ba,.blk b4 148 B0,B1,.obj aa (.map ae ai),br,cb,du] iO:=by simpa only [B0,B1,ba,br,du,cb,ez,nI] using vv
 refine zX ?_
 cases mG
 exact zG ⟨Z,⟨bb,jU,jW,jX,dM,eZ,jY,jZ,j0,j3,j4,(zL _),vw⟩⟩
 have wS:=wAy (xs:=au) (wAP bP)
 refine yL (j:=4) (vs:=[jV (w64 ((gd au aq.from_.toNat) + aq.count))]) (cs':=hH KL.encI (nH au aq.to_.toNat (w64 ((gd au aq.from_.toNat) + aq.count)))) rfl rfl rfl rfl bS rfl bD rfl rfl rfl zC (by rw [wAF (f:=KL.encI) (sz:=1) (fun _=>rfl)];have hz:=wAP bP;show _ + 1 <= _;first | omega | (simp only [nG];omega) | (simp only [nE,nB,nD];omega)) rfl (wBw (sz:=1) (fo:=0) (fun _=>rfl) _ _ _ _ wS (by first | omega | (simp only [nG];omega) | (simp only [nE,nB,nD];omega)) (zA rfl) rfl) rfl ?_
 intro iP vx
 have vy:SW w [B1,.obj aa (.map ae ai)] U bb [.blk bi 212 ba,.blk b4 148 B0,B1,.obj aa (.map ae ai),br,bp,bM] iP:=vx
 let eA:Res:=.blk b8 148 [.slice av ((nH au aq.to_.toNat (w64 ((gd au aq.from_.toNat) + aq.count))).length) az,.slice aU aZ.length aV]
 have gf:SW w [B1,.obj aa (.map ae ai)] U bb [.blk bi 212 ba,.blk b4 148 B0,B1,.obj aa (.map ae ai),br,bp,eA] iP:=by simpa only [B0,B1,ba,bp,bM,br,eA,nI] using vy
 refine ZB Z Z Z Z (gf.ldB (j:=6) Z Z Z zw (v:=.slice aU aZ.length aV) Z) ?_
 obtain ⟨Aw,md⟩:=gf.rowSome (j:=5) rfl (by rw [wAF (f:=KL.encI) (sz:=1) (fun _=>rfl) aZ];have hz:=wAP bL;omega)
 refine oR Z (zm Z Z md Z zD zC (wAp bL) (wAq bL)) ?_
 have wU:=wAy (xs:=aZ) (wAP bL)
 refine yL (j:=5) (vs:=[jV (↑be:Int)]) (cs':=hH KL.encI (nH aZ aq.to_.toNat (↑be:Int))) rfl rfl rfl rfl gf rfl md rfl rfl rfl zC (by rw [wAF (f:=KL.encI) (sz:=1) (fun _=>rfl)];have hz:=wAP bL;show _ + 1 <= _;first | omega | (simp only [nG];omega) | (simp only [nE,nB,nD];omega)) rfl (wBw (sz:=1) (fo:=0) (fun _=>rfl) _ _ _ _ wU (by first | omega | (simp only [nG];omega) | (simp only [nE,nB,nD];omega)) (zA rfl) rfl) rfl ?_
 intro iQ vz
 have vA:SW w [B1,.obj aa (.map ae ai)] U bb [.blk bi 212 ba,.blk b4 148 B0,B1,.obj aa (.map ae ai),br,cb,eA] iQ:=vz
 have vB:SW w [B1,.obj aa (.map ae ai)] U bb [.blk bi 212 ba,.blk b4 148 B0,B1,.obj aa (.map ae ai),br,cb,du] iQ:=by simpa only [B0,B1,ba,br,du,cb,eA,nI] using vA
 refine zX ?_
 cases mG
 exact zG ⟨Z,⟨bb,jU,jW,jX,dM,eZ,jY,jZ,j0,j3,j4,(zL _),vB⟩⟩
 rintro Bx Aa ⟨ol,pZ,p6,p7,p8,p9,qa,qb,qc,qd,qe,xF,vC⟩
 refine rR fL2 Z (oM Z p9 (oA Z Z (zX (zj ?_))))
 cases mF
 exact zG ⟨rfl,⟨ol,pZ,p6,p7,p8,rfl,qa,qb,qc,qd,qe,xF,(vC.pick [1,2,3,4,5,6] _ (by decide) rfl),(nI.trans cY),(nI.trans cZ)⟩⟩
 intro fJ xj
 refine cF Z fJ (ZT (zj ?_))
 cases xj
 exact zG ⟨rfl,⟨bb,cU,cq,cV,bv,eX,cW,cX,cr,ct,bN,(zL _),(bz.pick [1,2,3,4,5,6] _ (by decide) rfl),cY,cZ⟩⟩
 intro aY xk
 refine oF Z aY (oF Z aY (oF Z aY (oF Z aY (oF Z aY (oF Z aY (oF Z aY (oF Z aY (oF Z aY (oF Z aY (oF Z aY (oF Z aY (oF Z aY (oF Z aY (oR Z (zn Z (ZQ aY.out) Z) (eN (zo Z (ZT (zj ?_))))))))))))))))))
 cases xk
 exact zG ⟨rfl,⟨bb,cU,cq,cV,bv,eX,cW,cX,cr,ct,bN,(zL _),(bz.pick [1,2,3,4,5,6] _ (by decide) rfl),cY,cZ⟩⟩
 rintro By Ab ⟨om,qf,qh,qi,qj,qk,qm,qn,qo,qp,qq,xG,vD,tX,tY⟩
 refine rR fL2 Z (oR Z (ZR (zS Z qq Z) (congrArg (jV) wW.out)) (oM Z Z (zX ?_)))
 cases mC
 exact zG ⟨Z,⟨om,Z,qf,qh,qi,qj,qk,qm,qn,qo,qp,(m8.trans xG),vD,tX,tY⟩⟩
 rintro Bz Ac ⟨fz,tF,qr,qt,fS,j5,j6,qu,qv,Az,qw,xH,gg,tZ,t7⟩
 have po:Hid (¬ ((↑(((↑p0.edges.length:Int):Int) - 0).toNat:Int) < (↑p0.edges.length:Int))):=zJ (wAv)
 refine sR fL1 Z (oR Z (zO Z tF qw) (eN (zI (cF Z po (ZP (zd (zd (ZJ (zG (sR fL2 Z (oM Z j6 (oR Z (zO Z Z Z) (eN (ifc mB ?_ ?_))))))))))))))
 intro fK xl
 refine cT Z fK (sR gDk Z ?_)
 let cG:List Value:=[.slice av od.length az,.slice aU oe.length aV]
 refine oL Z (gg.ldBA (j:=5) Z Z j5 Tryz.isAgg148 Zr (vs:=cG) Z Z) (zY (j:=0) (vs:=cG) Z Z Z Z gg Z fS Z Z Zr (zA Z) Z Z Z ?_)
 intro oU vE
 have mq:SW w [B1,.obj aa (.map ae ai)] U fz [.blk b4 148 cG,B1,.obj aa (.map ae ai),.row av az 3 1 (hH KL.encI od),.row aU aV 3 1 (hH KL.encI oe),.blk b8 148 cG] oU:=vE
 refine oA Z Z (oA Z Z (eN (zV (zi (zR ?_)))))
 have q:=wAb xl
 obtain ⟨xU,xm,pq⟩:=q
 have q:=wBf gz gi (wu xU pq)
 obtain rfl:=q
 refine zR (zi (zR ?_))
 cases xm
 exact ⟨rfl,_,(wEV (rs:=[.cell 6 148,.tmp 7,.tmp 8]) (vs:=[.agg cG.toArray,jV 0,.bool true]) ⟨⟨_,fS,(wBX Tryz.isAgg148 Zr (mq.blkAt (k:=0) rfl) (vs:=cG) rfl rfl)⟩,⟨rfl,⟨rfl,trivial⟩⟩⟩ rfl),fz,_,(mq.pick [3,4,1,2] _ (by decide) rfl),av,az,aU,aV,rfl,rfl⟩
 intro fK xn
 refine cF Z fK (ZT (zj (zG (rR fL2 Z (oR Z (ZR (zS Z qv Z) (congrArg (jV) wV.out)) (oM Z Z (zX ?_)))))))
 have q:=nA xn
 obtain rfl:=q
 exact zG ⟨Z,_,Z,⟨fz,Z,qr,qt,fS,j5,j6,qu,(m7.trans xH),gg,tZ,t7⟩⟩
 rintro ⟨og,oh,xW⟩ BA Ad ⟨il,tG,AA,AD,j7,qx,qy,qz,Ba,mr,AZ,A3⟩ wv
 have mI:=wDd gz gi wv
 try dsimp only at mI
 have pp:Hid (¬ ((↑((w64 ((↑(p0.number.length):Int) + 1):Int) - 0).toNat:Int) < (w64 ((↑(p0.number.length):Int) + 1)))):=zJ (wAv)
 refine sR fL1 Z (oR Z (zO Z tG qz) (eN (zI (cF Z pp (ZP (zd (zd (ZJ (zG (sR (.fl 0 (.fl 1 (.fx 2 (.fl 3 (.fl 4 .nil)) .stop))) Z ?_))))))))))
 let cH:List Value:=[.slice av og.length az,.slice aU oh.length aV]
 refine oL Z (mr.ldBA (j:=5) Z Z qx Tryz.isAgg148 Zr (vs:=cH) Z Z) (oM Z qy (zY (j:=0) (vs:=cH) Z Z Z Z mr Z j7 Z Z Zr (zA Z) Z Z Z ?_))
 intro oW vF
 have ms:SW w [B1,.obj aa (.map ae ai)] U il [.blk b4 148 cH,B1,.obj aa (.map ae ai),.row av az 3 1 (hH KL.encI og),.row aU aV 3 1 (hH KL.encI oh),.blk b8 148 cH] oW:=vF
 refine oA Z Z (oA Z Z (eN (zV ?_)))
 cases mI
 exact ⟨rfl,_,(wEV (rs:=[.cell 6 148,.tmp 7,.tmp 8]) (vs:=[.agg cH.toArray,jV xW,.bool false]) ⟨⟨_,j7,(wBX Tryz.isAgg148 Zr (ms.blkAt (k:=0) rfl) (vs:=cH) rfl rfl)⟩,⟨rfl,⟨rfl,trivial⟩⟩⟩ rfl),il,_,(ms.pick [3,4,1,2] _ (by decide) rfl),av,az,aU,aV,rfl,rfl⟩
end Go.Proofs.YtkedcbligiebkaaGreat
namespace Go.Proofs.YtkedcbligiebkaaGreat
open Go.KL
set_option maxHeartbeats 4000000
theorem wGQ (p0:wAj) (au:Nat) (aj:Option Addr) (av:Nat) (ak:Option Addr) (az:Nat) (am:Option Addr) (aU:Nat) (ap:Option Addr) (aV:Nat) (ab:Nat) (ae:Array MapEntry) (ai:Nat) (aq:Option Addr) (aW:Nat) (w:World) (U:PHeap) (hS:St0 w U [.blk au 146 [.slice aj p0.Race.Starts.length av,.slice ak p0.Race.Splits.length az,.slice am p0.Race.Clocks.length aU,.slice ap p0.Race.Readings.length aV,.map (some ab),.slice aq p0.edges.length aW],.obj ab (.map ae ai)]) (bv:Sl U 1 aj av p0.Race.Starts.length (hH KL.encI p0.Race.Starts)) (bw:Sl U 2 ak az p0.Race.Splits.length (hH wAL p0.Race.Splits)) (bz:Sl U 3 am aU p0.Race.Clocks.length (hH wAA p0.Race.Clocks)) (bA:Sl U 4 ap aV p0.Race.Readings.length (hH wAJ p0.Race.Readings)) (bB:MpR ae wBO wBR p0.number) (bC:Sl U 7 aq aW p0.edges.length (hH wAY p0.edges)) {r:Bool} (hm:wBy p0=some r):Gv Tryz.prog 65 [.pointer (some ⟨au,0,none⟩)] w (wCW w [.blk au 146 [.slice aj p0.Race.Starts.length av,.slice ak p0.Race.Splits.length az,.slice am p0.Race.Clocks.length aU,.slice ap p0.Race.Readings.length aV,.map (some ab),.slice aq p0.edges.length aW],.obj ab (.map ae ai)] U (fun U_ L_ v=>v=.bool r/\L_=[.blk au 146 [.slice aj p0.Race.Starts.length av,.slice ak p0.Race.Splits.length az,.slice am p0.Race.Clocks.length aU,.slice ap p0.Race.Readings.length aV,.map (some ab),.slice aq p0.edges.length aW],.obj ab (.map ae ai)])):=by
 unfold wBy at hm
 refine Gv.of Tryz.func65 Z Tryz.ntmps65 Tryz.results65 Z (sR fL1 Z (oA Z Z (eN (sR (.fl 0 (.fx 1 (wUP (.fx 6 gDe .stop)) .stop)) Z (oM Z Z ?_)))))
 have q:=bnd hm
 obtain ⟨⟨x3,x4,x5⟩,h6,bj⟩:=q
 try dsimp only at bj
 refine zM 2 Z Z Z Z (zK Z Z Tryz.call61 (zB Z (zB Z (zB Z zP))) Z) hS (fun hs=>wBa p0 au aj av ak az am aU ap aV ab ae ai aq aW (-1) false w U hs bv bw bz bA bB bC h6) (.inl Z) ?_
 rintro U8 L9 bI bk bH bp ⟨aZ,bd,ba,be,rfl,rfl⟩
 let B0:Res:=.blk au 146 [.slice aj p0.Race.Starts.length av,.slice ak p0.Race.Splits.length az,.slice am p0.Race.Clocks.length aU,.slice ap p0.Race.Readings.length aV,.map (some ab),.slice aq p0.edges.length aW]
 let B1:Res:=.row aZ bd 3 1 (hH KL.encI x3.far)
 let B2:Res:=.row ba be 3 1 (hH KL.encI x3.by_)
 have bq:SW w [B0,.obj ab (.map ae ai)] U U8 [B1,B2,B0,.obj ab (.map ae ai)] bk:=bp
 refine oM Z Z (oR Z (zl Z Z (v:=.agg #[.slice aZ x3.far.length bd,.slice ba x3.by_.length be]) Z) (oR Z (zl Z Z (v:=jV x4) Z) (oR Z (zl Z Z (v:=.bool x5) Z) (zW (cs:=[.slice none 0 0,.slice none 0 0]) Z Z Z Z Z Zc Z bq ?_))))
 intro bG bn br
 let B3:List Value:=[.slice aZ x3.far.length bd,.slice ba x3.by_.length be]
 refine zY (j:=0) (vs:=B3) Z Z Z Z br Z Z Z Z Zr (zA Z) Z Z Z ?_
 intro bm bt
 have bu:SW w [B0,.obj ab (.map ae ai)] U U8 [.blk bn 148 B3,B1,B2,B0,.obj ab (.map ae ai)] bm:=bt
 refine oA Z Z (oA Z Z (eN (sR fL2 Z (oM Z Z (oA Z Z (eN (zV ?_)))))))
 have hE:=nA bj;first | subst r | cases hE
 exact ⟨rfl,_,(ZS rfl),U8,_,(bu.pick [3,4] _ (by decide) rfl),rfl,rfl⟩
theorem wGc (p0:wAD) (av:Option Addr) (aW:Nat) (az:Option Addr) (aX:Nat) (aU:Option Addr) (aY:Nat) (aV:Option Addr) (aZ:Nat) (p1:List wAW) (bm:Option Addr) (bn:Nat) (w:World) (U:PHeap) (hS:St0 w U []) (bJ:Sl U 1 av aW p0.Starts.length (hH KL.encI p0.Starts)) (bK:Sl U 2 az aX p0.Splits.length (hH wAL p0.Splits)) (bL:Sl U 3 aU aY p0.Clocks.length (hH wAA p0.Clocks)) (bM:Sl U 4 aV aZ p0.Readings.length (hH wAJ p0.Readings)) (ci:Sl U 2 bm bn p1.length (hH wCM p1)) {r:(Option wAj) × Int} (hm:wCq p0 p1=some r):Gv Tryz.prog 32 [.agg #[.slice av p0.Starts.length aW,.slice az p0.Splits.length aX,.slice aU p0.Clocks.length aY,.slice aV p0.Readings.length aZ],.slice bm p1.length bn] w (wCW w [] U (fun U_ L_ v=>match r.1 with | none=>v=.tuple #[.pointer none,jV r.2]/\L_=[] | some d=>∃ (b0:Nat) (A0p00:Option Addr) (c0p00:Nat) (A0p01:Option Addr) (c0p01:Nat) (A0p02:Option Addr) (c0p02:Nat) (A0p03:Option Addr) (c0p03:Nat) (m0p1:Nat) (es0p1:Array MapEntry) (ck0p1:Nat) (A0p2:Option Addr) (c0p2:Nat),v=.tuple #[.pointer (some ⟨b0,0,none⟩),jV r.2]/\L_=[.blk b0 146 [.slice A0p00 d.Race.Starts.length c0p00,.slice A0p01 d.Race.Splits.length c0p01,.slice A0p02 d.Race.Clocks.length c0p02,.slice A0p03 d.Race.Readings.length c0p03,.map (some m0p1),.slice A0p2 d.edges.length c0p2],.obj m0p1 (.map es0p1 ck0p1)]/\Sl U_ 1 A0p00 c0p00 d.Race.Starts.length (hH KL.encI d.Race.Starts)/\Sl U_ 2 A0p01 c0p01 d.Race.Splits.length (hH wAL d.Race.Splits)/\Sl U_ 3 A0p02 c0p02 d.Race.Clocks.length (hH wAA d.Race.Clocks)/\Sl U_ 4 A0p03 c0p03 d.Race.Readings.length (hH wAJ d.Race.Readings)/\MpR es0p1 wBO wBR d.number/\Sl U_ 7 A0p2 c0p2 d.edges.length (hH wAY d.edges))):=by
 unfold wCq at hm
 refine Gv.of Tryz.func32 Z Tryz.ntmps32 Tryz.results32 Z (sR gDd Z ?_)
 let B0:List Value:=[.slice av p0.Starts.length aW,.slice az p0.Splits.length aX,.slice aU p0.Clocks.length aY,.slice aV p0.Readings.length aZ]
 refine ZK (cs:=B0) rfl rfl rfl rfl rfl rfl (by rfl) hS ?_
 intro W1 b2 cd
 refine oA Z Z (oA Z Z (eN (sR (.fl 0 (.fx 1 (fC2_6 (.nil)) .stop)) Z (oL Z (cd.ldBA (j:=0) Z Z Z ZH zu (vs:=B0) Z Z) ?_))))
 have q:=bnd hm
 obtain ⟨⟨x5,x6⟩,h7,ba⟩:=q
 try dsimp only at ba
 refine zM 0 Z Z Z Z (zK Z Z Tryz.call62 (zB Z zP) Z) cd (fun hs=>wJn p0 av aW az aX aU aY aV aZ W1 U hs bJ bK bL bM h7) (.inr Z) ?_
 rintro U9 dz dF bg ae cb bY
 rcases x5 with _ | ai
 try dsimp only at ba
 obtain ⟨rfl,rfl⟩:=bY
 have bH:sW w U U9 [.blk b2 28 B0] bg:=cb
 refine oM Z Z (oR Z (zl Z Z (v:=.pointer none) Z) (oR Z (zl Z Z (v:=jV x6) Z) (oA Z Z (oA Z Z (eN (zI (zU (sR fL3 Z (oM Z Z (oR Z (yC Z Z Z) (oA Z Z (eN (ifc ba ?_ ?_)))))))))))))
 intro bD dm
 refine zo (ZQ (fun h=>h bD.out)) (sR (wEU gDh) Z (oM Z Z (oL Z (bH.ldBA (j:=0) Z Z Z ZH zu (vs:=B0) Z Z) (oR Z (Runs.mkf Z (zB Z zP) zP) ?_))))
 have cy:=ci.le ae
 have cz:=bJ.le ae
 have cA:=bK.le ae
 have cB:=bL.le ae
 have cC:=bM.le ae
 have cW:FnOK Tryz.prog U9 (.func (.func 64) #[.agg B0.toArray] #[]) wRy wRz (fun x=>wAz p0 x):=⟨64,[.agg B0.toArray],[],rfl,Tryz.call64,fun U1 w1 x y vs le hs ha hm=>by obtain rfl:=ha;exact wDj p0 av aW az aX aU aY aV aZ x w1 U1 hs (cz.le le) (cA.le le) (cB.le le) (cC.le le) hm⟩
 refine bnK dm fun dI cD dp=>zM 0 Z Z Z Z (zK Z Z Tryz.call63 (zB Z (zB Z zP)) Z) bH (fun hs=>wDH p1 bm bn (fun x=>wAz p0 x) (.func (.func 64) #[.agg B0.toArray] #[]) bg U9 hs cy cW cD) (.inr Z) ?_
 rintro bP dB dG cq dD cZ ⟨rfl,rfl⟩
 have da:sW w U bP [.blk b2 28 B0] cq:=cZ
 refine oR Z (Zf Z Z) (oA Z Z (eN (ifc dp ?_ ?_)))
 intro bE dq
 refine zo (nC bE.out) (sR gDk Z (oM Z Z ?_))
 cases dq
 intro bE dr
 refine ZI (nF (bE.out)) (sR fL2 Z (oA Z Z (oA Z Z (eN (zV (zi (zR ?_)))))))
 cases dr
 exact ⟨rfl,_,(wGg rfl rfl),bP,_,(da.pick [] _ (by decide) rfl),rfl,rfl⟩
 intro bD dt
 refine cT Z bD (sR fL3 Z (oM Z Z (oA Z Z (oA Z Z (eN (zV (zi (zR ?_))))))))
 cases dt
 exact ⟨rfl,_,(wGg rfl rfl),U9,_,(bH.pick [] _ (by decide) rfl),rfl,rfl⟩
 try dsimp only at ba
 obtain ⟨bh,bo,bz,bp,bA,bq,bB,br,bC,ak,aq,ap,bd,bi,rfl,rfl,cE,cG,cH,cI,bT⟩:=bY
 let B1:Res:=.blk bh 146 [.slice bo ai.Race.Starts.length bz,.slice bp ai.Race.Splits.length bA,.slice bq ai.Race.Clocks.length bB,.slice br ai.Race.Readings.length bC,.map (some ak),.slice bd ai.edges.length bi]
 let B2:Res:=.row bd bi 212 7 (hH wAY ai.edges)
 have bI:sW w U U9 [B1,.obj ak (.map aq ap),B2,.blk b2 28 B0] bg:=cb
 refine oM Z Z (oR Z (zl Z Z (v:=.pointer (some ⟨bh,0,none⟩)) Z) (oR Z (zl Z Z (v:=jV x6) Z) (oA Z Z (oA Z Z (eN (zI (zU (sR fL3 Z (oM Z Z (oR Z (yC Z Z Z) (oA Z Z (eN (ifc ba ?_ ?_)))))))))))))
 intro bF du
 refine zo (ZQ (fun h=>h bF.out)) (sR (wEU gDh) Z (oM Z Z (oL Z (bI.ldBA (j:=3) Z Z Z ZH zu (vs:=B0) Z Z) (oR Z (Runs.mkf Z (zB Z zP) zP) ?_))))
 have cJ:=ci.le ae
 have cK:=bJ.le ae
 have cL:=bK.le ae
 have cM:=bL.le ae
 have cN:=bM.le ae
 have cX:FnOK Tryz.prog U9 (.func (.func 64) #[.agg B0.toArray] #[]) wRy wRz (fun x=>wAz p0 x):=⟨64,[.agg B0.toArray],[],rfl,Tryz.call64,fun U1 w1 x y vs le hs ha hm=>by obtain rfl:=ha;exact wDj p0 av aW az aX aU aY aV aZ x w1 U1 hs (cK.le le) (cL.le le) (cM.le le) (cN.le le) hm⟩
 refine bnK du fun dJ cP dv=>zM 0 Z Z Z Z (zK Z Z Tryz.call63 (zB Z (zB Z zP)) Z) bI (fun hs=>wDH p1 bm bn (fun x=>wAz p0 x) (.func (.func 64) #[.agg B0.toArray] #[]) bg U9 hs cJ cX cP) (.inr Z) ?_
 rintro bQ dC dH bv bj db ⟨rfl,rfl⟩
 have cf:sW w U bQ [B1,.obj ak (.map aq ap),B2,.blk b2 28 B0] bv:=db
 refine oR Z (Zf Z Z) (oA Z Z (eN (ifc dv ?_ ?_)))
 intro bG dw
 refine zo (nC bG.out) (sR gDk Z (oM Z Z ?_))
 have q:=cf.freezeR (k:=2) (n:=ai.edges.length) rfl (wAF (f:=wAY) (sz:=7) (fun _=>rfl) ai.edges) (by decide)
 obtain ⟨bR,bk,cj,de⟩:=q
 have df:sW w U bR [B1,.obj ak (.map aq ap),.blk b2 28 B0] bv:=de
 have cQ:=cE.le bj
 have bU:=cQ.le bk
 have cR:=cG.le bj
 have bV:=cR.le bk
 have cS:=cH.le bj
 have bW:=cS.le bk
 have cU:=cI.le bj
 have bX:=cU.le bk
 refine bnK dw fun dK cV dx=>zM 2 Z Z Z Z (zK Z Z Tryz.call65 (zB Z zP) Z) df (fun hs=>wGQ ai bh bo bz bp bA bq bB br bC ak aq ap bd bi bv bR hs bU bV bW bX bT cj cV) (.inl Z) ?_
 rintro bu dA dE cp bb cY ⟨rfl,rfl⟩
 have bZ:sW w U bu [B1,.obj ak (.map aq ap),.blk b2 28 B0] cp:=cY
 refine oR Z (Zf Z Z) (oA Z Z (eN (ifc dx ?_ ?_)))
 intro bw dg
 refine zo (nC bw.out) (ZT (zj (zG (sR fL3 Z (oM Z Z (oA Z Z (oA Z Z (eN (zV ?_)))))))))
 have cr:=bU.le bb
 have ct:=bV.le bb
 have cu:=bW.le bb
 have cw:=bX.le bb
 have cx:=cj.le bb
 cases dg
 exact ⟨rfl,_,(wGg rfl rfl),bu,_,(bZ.pick [0,1] _ (by decide) rfl),bh,bo,bz,bp,bA,bq,bB,br,bC,ak,aq,ap,bd,bi,rfl,rfl,cr,ct,cu,cw,bT,cx⟩
 intro bw dh
 refine ZI (nF (bw.out)) (sR fL2 Z (oA Z Z (oA Z Z (eN (zV (zi (zR ?_)))))))
 cases dh
 exact ⟨rfl,_,(wGg rfl rfl),bu,_,(bZ.pick [] _ (by decide) rfl),rfl,rfl⟩
 intro bG dk
 refine ZI (nF (bG.out)) (sR fL2 Z (oA Z Z (oA Z Z (eN (zV (zi (zR ?_)))))))
 cases dk
 exact ⟨rfl,_,(wGg rfl rfl),bQ,_,(cf.pick [] _ (by decide) rfl),rfl,rfl⟩
 intro bF dl
 refine cT Z bF (sR fL3 Z (oM Z Z (oA Z Z (oA Z Z (eN (zV (zi (zR ?_))))))))
 cases dl
 exact ⟨rfl,_,(wGg rfl rfl),U9,_,(bI.pick [] _ (by decide) rfl),rfl,rfl⟩
theorem wFy (p0:wAD) (aq:Option Addr) (aU:Nat) (au:Option Addr) (aV:Nat) (av:Option Addr) (aW:Nat) (az:Option Addr) (aX:Nat) (p1:Int) (w:World) (U:PHeap) (hS:St0 w U []) (bT:Sl U 1 aq aU p0.Starts.length (hH KL.encI p0.Starts)) (bU:Sl U 2 au aV p0.Splits.length (hH wAL p0.Splits)) (bV:Sl U 3 av aW p0.Clocks.length (hH wAA p0.Clocks)) (bW:Sl U 4 az aX p0.Readings.length (hH wAJ p0.Readings)) {r:(Option wAj) × Int} (hm:wCY p0 p1=some r):Gv Tryz.prog 30 [.agg #[.slice aq p0.Starts.length aU,.slice au p0.Splits.length aV,.slice av p0.Clocks.length aW,.slice az p0.Readings.length aX],jV p1] w (wCW w [] U (fun U_ L_ v=>match r.1 with | none=>v=.tuple #[.pointer none,jV r.2]/\L_=[] | some d=>∃ (b0:Nat) (A0p00:Option Addr) (c0p00:Nat) (A0p01:Option Addr) (c0p01:Nat) (A0p02:Option Addr) (c0p02:Nat) (A0p03:Option Addr) (c0p03:Nat) (m0p1:Nat) (es0p1:Array MapEntry) (ck0p1:Nat) (A0p2:Option Addr) (c0p2:Nat),v=.tuple #[.pointer (some ⟨b0,0,none⟩),jV r.2]/\L_=[.blk b0 146 [.slice A0p00 d.Race.Starts.length c0p00,.slice A0p01 d.Race.Splits.length c0p01,.slice A0p02 d.Race.Clocks.length c0p02,.slice A0p03 d.Race.Readings.length c0p03,.map (some m0p1),.slice A0p2 d.edges.length c0p2],.obj m0p1 (.map es0p1 ck0p1)]/\Sl U_ 1 A0p00 c0p00 d.Race.Starts.length (hH KL.encI d.Race.Starts)/\Sl U_ 2 A0p01 c0p01 d.Race.Splits.length (hH wAL d.Race.Splits)/\Sl U_ 3 A0p02 c0p02 d.Race.Clocks.length (hH wAA d.Race.Clocks)/\Sl U_ 4 A0p03 c0p03 d.Race.Readings.length (hH wAJ d.Race.Readings)/\MpR es0p1 wBO wBR d.number/\Sl U_ 7 A0p2 c0p2 d.edges.length (hH wAY d.edges))):=by
 unfold wCY at hm
 refine Gv.of Tryz.func30 Z Tryz.ntmps30 Tryz.results30 Z (sR gDd Z ?_)
 let B0:List Value:=[.slice aq p0.Starts.length aU,.slice au p0.Splits.length aV,.slice av p0.Clocks.length aW,.slice az p0.Readings.length aX]
 refine ZK (cs:=B0) rfl rfl rfl rfl rfl rfl (by rfl) hS ?_
 intro W1 b2 bA
 refine oA Z Z (oA Z Z (eN (sR (wEU (.fx 3 (.fx 4 (wUR (.nil)) .stop) .stop)) Z (oL Z (bA.ldBA (j:=0) Z Z Z ZH zu (vs:=B0) Z Z) (oM Z Z ?_)))))
 let B1:List Value:=[jV 0,jV p1]
 refine oR Z (zt (pv:=[(0,jV 0),(1,jV p1)]) (z:=[jV 0,jV 0]) (cs:=B1) Z (wAB Z (wAB Z wAT)) yb wGo Z Z) (zz (pv:=[(0,.agg B1.toArray)]) (zs:=[jV 0,jV 0]) (cs:=B1) Z Z Z Z Z (wAB Z wAT) Tryz.runUnderlying151 yG yb Z Z Z Z Z bA ?_)
 intro W5 b6 bR
 have bS:sW w U U [.row (some ⟨b6,0,none⟩) 1 57 2 (hH wCM [(⟨0,p1⟩:wAW)]),.blk b2 28 B0] W5:=bR
 have q:=bS.freezeR (k:=0) (n:=[(⟨0,p1⟩:wAW)].length) rfl (wAF (f:=wCM) (sz:=2) (fun _=>rfl) [(⟨0,p1⟩:wAW)]) (by decide)
 obtain ⟨bj,ap,bX,bN⟩:=q
 have bO:sW w U bj [.blk b2 28 B0] W5:=bN
 have bC:=bT.le ap
 have bD:=bU.le ap
 have bE:=bV.le ap
 have bF:=bW.le ap
 have q:=bnd hm
 obtain ⟨⟨bY,bB⟩,bG,ai⟩:=q
 try dsimp only at ai
 refine zM 0 Z Z Z Z (zK Z Z Tryz.call32 (zB Z (zB Z zP)) Z) bO (fun hs=>wGc p0 aq aU au aV av aW az aX [(⟨0,p1⟩:wAW)] (some ⟨b6,0,none⟩) 1 W5 bj hs bC bD bE bF bX bG) (.inr Z) ?_
 rintro ak bZ cf bk cd bz bw
 rcases bY with _ | aj
 try dsimp only at ai
 obtain ⟨rfl,rfl⟩:=bw
 have bP:sW w U ak [.blk b2 28 B0] bk:=bz
 refine oR Z (zl Z Z (v:=.pointer none) Z) (oR Z (zl Z Z (v:=jV bB) Z) (oA Z Z (oA Z Z (eN (zV ?_)))))
 cases ai
 exact ⟨rfl,_,(wGg rfl rfl),ak,_,(bP.pick [] _ (by decide) rfl),rfl,rfl⟩
 try dsimp only at ai
 obtain ⟨ba,bd,bo,be,bp,bg,bq,bh,br,bb,bv,bt,bi,bu,rfl,rfl,bH,bI,bJ,bK,bL,bM⟩:=bw
 have bQ:sW w U ak [.blk ba 146 [.slice bd aj.Race.Starts.length bo,.slice be aj.Race.Splits.length bp,.slice bg aj.Race.Clocks.length bq,.slice bh aj.Race.Readings.length br,.map (some bb),.slice bi aj.edges.length bu],.obj bb (.map bv bt),.blk b2 28 B0] bk:=bz
 refine oR Z (zl Z Z (v:=.pointer (some ⟨ba,0,none⟩)) Z) (oR Z (zl Z Z (v:=jV bB) Z) (oA Z Z (oA Z Z (eN (zV ?_)))))
 cases ai
 exact ⟨rfl,_,(wGg rfl rfl),ak,_,(bQ.pick [0,1] _ (by decide) rfl),ba,bd,bo,be,bp,bg,bq,bh,br,bb,bv,bt,bi,bu,rfl,rfl,bH,bI,bJ,bK,bL,bM⟩
theorem wDm (p0:wAj) (aV:Nat) (aU:Option Addr) (aW:Nat) (ba:Option Addr) (bg:Nat) (bb:Option Addr) (bh:Nat) (bd:Option Addr) (bi:Nat) (ab:Nat) (ae:Array MapEntry) (ai:Nat) (be:Option Addr) (bj:Nat) (p1:Int) (w:World) (U:PHeap) (hS:St0 w U [.blk aV 146 [.slice aU p0.Race.Starts.length aW,.slice ba p0.Race.Splits.length bg,.slice bb p0.Race.Clocks.length bh,.slice bd p0.Race.Readings.length bi,.map (some ab),.slice be p0.edges.length bj],.obj ab (.map ae ai)]) (dq:Sl U 1 aU aW p0.Race.Starts.length (hH KL.encI p0.Race.Starts)) (dr:Sl U 2 ba bg p0.Race.Splits.length (hH wAL p0.Race.Splits)) (dt:Sl U 3 bb bh p0.Race.Clocks.length (hH wAA p0.Race.Clocks)) (du:Sl U 4 bd bi p0.Race.Readings.length (hH wAJ p0.Race.Readings)) (bF:MpR ae wBO wBR p0.number) (dv:Sl U 7 be bj p0.edges.length (hH wAY p0.edges)) {r:(Arr Int 64)} (hm:wBQ p0 p1=some r):Gv Tryz.prog 31 [.pointer (some ⟨aV,0,none⟩),jV p1] w (wCW w [.blk aV 146 [.slice aU p0.Race.Starts.length aW,.slice ba p0.Race.Splits.length bg,.slice bb p0.Race.Clocks.length bh,.slice bd p0.Race.Readings.length bi,.map (some ab),.slice be p0.edges.length bj],.obj ab (.map ae ai)] U (fun U_ L_ v=>v=.agg (hH KL.encI r.l).toArray/\L_=[.blk aV 146 [.slice aU p0.Race.Starts.length aW,.slice ba p0.Race.Splits.length bg,.slice bb p0.Race.Clocks.length bh,.slice bd p0.Race.Readings.length bi,.map (some ab),.slice be p0.edges.length bj],.obj ab (.map ae ai)])):=by
 unfold wBQ at hm
 refine Gv.of Tryz.func31 Z Tryz.ntmps31 Tryz.results31 Z (sR (.fx 0 .nil .stop) Z (zW (cs:=hH KL.encI (Arr.fill 64 0).l) Z Z Z Z Z Tryz.zeroValue90 Z hS ?_))
 intro W3 b4 de
 let B0:Res:=.blk aV 146 [.slice aU p0.Race.Starts.length aW,.slice ba p0.Race.Splits.length bg,.slice bb p0.Race.Clocks.length bh,.slice bd p0.Race.Readings.length bi,.map (some ab),.slice be p0.edges.length bj]
 have dl:SW w [B0,.obj ab (.map ae ai)] U U [.blk b4 90 (hH KL.encI (Arr.fill 64 0).l),B0,.obj ab (.map ae ai)] W3:=de
 refine eN (sR (.fx 0 .nil .stop) Z (zW (cs:=hH KL.encI (Arr.fill 64 0).l) Z Z Z Z Z Tryz.zeroValue90 Z dl ?_))
 intro W8 b9 cX
 have cd:SW w [B0,.obj ab (.map ae ai)] U U [.blk b9 90 (hH KL.encI (Arr.fill 64 0).l),.blk b4 90 (hH KL.encI (Arr.fill 64 0).l),B0,.obj ab (.map ae ai)] W8:=cX
 refine eN (zI (sR fL7 Z (oM Z Z (oR Z (Zb Z Z) (oR Z (zH Z Z ZE Z zu) (oR Z (zH Z Z zQ Z zq) (oL Z (cd.ldB (j:=2) Z Z Z zw (v:=.slice aU p0.Race.Starts.length aW) Z) (oR Z (ZA Z Z zD) (oM Z Z (eN (zU (bnK hm fun au dw dH=>?_))))))))))))
 have q:=wBS dw
 obtain ⟨bI,dx⟩:=q
 replace bI:=zJ bI
 refine CK.forN' (fun ak bk σ_ w_=>∃ (U_:PHeap),σ_ 17=jV (↑ak:Int)/\σ_ 0=.pointer (some ⟨aV,0,none⟩)/\σ_ 1=jV p1/\σ_ 4=.pointer (some ⟨b4,0,none⟩)/\σ_ 5=.pointer (some ⟨b9,0,none⟩)/\σ_ 16=jV (↑p0.Race.Starts.length:Int)/\PHeap.Le U U_/\SW w [B0,.obj ab (.map ae ai)] U U_ [.blk b9 90 (hH KL.encI bk.l),.blk b4 90 (hH KL.encI (Arr.fill 64 0).l),B0,.obj ab (.map ae ai)] w_) dx ?_ ?_ ?_
 exact ⟨U,Z,Z,Z,Z,Z,Z,(zL _),cd⟩
 rintro ak bk d9 en bN bG ⟨bL,bC,bu,bU,cL,cM,bV,aZ,bE⟩ dJ
 have bQ:Hid ((↑ak:Int) < (↑p0.Race.Starts.length:Int)):=zJ (wBP bG)
 replace bG:=zJ bG
 have dD:Hid (w64 ((↑ak:Int) + 1)=(↑(ak + 1):Int)):=zJ (by have h1:=bI.out;have h2:=bQ.out;rw [wAa] <;> omega)
 refine sR fL1 Z (oR Z (zO Z bC bV) (eN (zI (cT Z bQ (kN (zI (zU (sR fL2 Z (oM Z bC (oA Z Z (eN (sR (wSX (.fx 9 (wSZ (.fx 14 (.fx 15 (.fl 16 (.fl 17 .nil)) .stop) .stop)) .stop)) Z (oM Z bu (oM Z bu (oR Z (Zb Z Z) (oR Z (zH Z Z ZE Z Zq) (oL Z (bE.ldB (j:=2) Z Z Z Zy (v:=.map (some ab)) Z) (oM Z Z (oM Z bU (oR Z (zt (pv:=[(0,jV (↑ak:Int)),(1,jV p1)]) (z:=[jV 0,jV 0]) (cs:=[jV (↑ak:Int),jV p1]) Z (wAB Z (wAB Z wAT)) zh wBo Z Z) (oL Z (bE.lookup1 (j:=3) (mk:=wBO) (mv:=wBR) (a:=(⟨(↑ak:Int),p1⟩:wAC)) (z:=0) Z Z Z Z (wBu ZD) wDG ZG bF) ?_)))))))))))))))))))))
 have cQ:=dq.le aZ
 have cR:=dr.le aZ
 have cS:=dt.le aZ
 have cU:=du.le aZ
 have cV:=dv.le aZ
 have q:=bnd dJ
 obtain ⟨⟨aq,dO,dP⟩,cW,cm⟩:=q
 try dsimp only at cm
 have df:SW w [B0,.obj ab (.map ae ai)] U bL [B0,.obj ab (.map ae ai),.blk b9 90 (hH KL.encI bk.l),.blk b4 90 (hH KL.encI (Arr.fill 64 0).l)] bN:=bE.pick [2,3,0,1] _ (by decide) rfl
 refine zM 2 Z Z Z Z (zK Z Z Tryz.call61 (zB Z (zB Z (zB Z zP))) Z) df (fun hs=>wBa p0 aV aU aW ba bg bb bh bd bi ab ae ai be bj (wAw p0.number (⟨(↑ak:Int),p1⟩:wAC) 0) false bN bL hs cQ cR cS cU bF cV cW) (.inl Z) ?_
 rintro bq dQ d7 ct dM dg ⟨bm,bt,bA,bB,rfl,rfl⟩
 let B1:Res:=.row bm bt 3 1 (hH KL.encI aq.far)
 let B2:Res:=.row bA bB 3 1 (hH KL.encI aq.by_)
 have dh:SW w [B0,.obj ab (.map ae ai)] U bq [B1,B2,B0,.obj ab (.map ae ai),.blk b9 90 (hH KL.encI bk.l),.blk b4 90 (hH KL.encI (Arr.fill 64 0).l)] ct:=dg
 refine oM Z Z (oR Z (zl Z Z (v:=.agg #[.slice bm aq.far.length bt,.slice bA aq.by_.length bB]) Z) (oR Z (zl Z Z (v:=jV dO) Z) (oR Z (zl Z Z (v:=.bool dP) Z) (zW (cs:=[.slice none 0 0,.slice none 0 0]) Z Z Z Z Z Zc Z dh ?_))))
 intro dU br dk
 let B3:List Value:=[.slice bm aq.far.length bt,.slice bA aq.by_.length bB]
 refine zY (j:=0) (vs:=B3) Z Z Z Z dk Z Z Z Z Zr (zA Z) Z Z Z ?_
 intro cu dm
 have cj:SW w [B0,.obj ab (.map ae ai)] U bq [.blk br 148 B3,B1,B2,B0,.obj ab (.map ae ai),.blk b9 90 (hH KL.encI bk.l),.blk b4 90 (hH KL.encI (Arr.fill 64 0).l)] cu:=dm
 refine oA Z Z (oA Z Z (eN (sR fL7 Z (oM Z bu (oR Z (Zb Z Z) (oR Z (zH Z Z ZE Z zu) (oR Z (zH Z Z zQ Z zq) (oL Z (cj.ldB (j:=3) Z Z Z zw (v:=.slice aU p0.Race.Starts.length aW) Z) (oR Z (ZA Z Z zD) (oM Z Z (eN (zU (bnK cm fun ef dy dI=>?_)))))))))))))
 have q:=wBS dy
 obtain ⟨bJ,dz⟩:=q
 replace bJ:=zJ bJ
 refine CK.forN' (fun am aY σ_ w_=>∃ (U_:PHeap),σ_ 40=jV (↑am:Int)/\σ_ 0=.pointer (some ⟨aV,0,none⟩)/\σ_ 1=jV p1/\σ_ 4=.pointer (some ⟨b4,0,none⟩)/\σ_ 5=.pointer (some ⟨b9,0,none⟩)/\σ_ 6=jV (↑ak:Int)/\σ_ 7=.pointer (some ⟨br,0,none⟩)/\σ_ 16=jV (↑p0.Race.Starts.length:Int)/\σ_ 17=jV (↑ak:Int)/\σ_ 39=jV (↑p0.Race.Starts.length:Int)/\PHeap.Le bq U_/\SW w [B0,.obj ab (.map ae ai)] U U_ [B1,B2,.blk br 148 B3,B0,.obj ab (.map ae ai),.blk b9 90 (hH KL.encI aY.l),.blk b4 90 (hH KL.encI (Arr.fill 64 0).l)] w_) dz ?_ ?_ ?_
 exact ⟨bq,rfl,bu,bU,cL,cM,rfl,rfl,bV,bC,rfl,(zL _),(cj.pick [1,2,0,3,4,5,6] _ (by decide) rfl)⟩
 rintro am aY ec eu bO bH ⟨bM,bD,bW,bX,cN,bY,bZ,bR,cz,cA,bS,dN,dp⟩ dK
 have bP:Hid ((↑am:Int) < (↑p0.Race.Starts.length:Int)):=zJ (wBP bH)
 replace bH:=zJ bH
 have dC:Hid (w64 ((↑am:Int) + 1)=(↑(am + 1):Int)):=zJ (by have h1:=bJ.out;have h2:=bP.out;rw [wAa] <;> omega)
 refine sR fL1 rfl (zZ rfl rfl rfl rfl (fun _=>zO rfl bD bS) (eN (zI (cT Z bP (kN (zI (zU (sR fL2 rfl (zN rfl rfl rfl rfl rfl bD (yK rfl rfl rfl rfl rfl rfl (eN (zx zr [3,3,3,1,3,3,3,1,3,3,3,1,3,1,3,3,0] (wUK (.fx 16 .nil .stop)) (by kernel_rfl) ?_))))))))))))
 have aX:=dp.drew
 generalize hw_W107:({ bO with drawn:=bO.drawn + 1 }:World)=dR at aX ⊢
 refine oM Z bZ (oM Z Z (oR Z (zH Z bR ZO Z zq) (oL Z (aX.ldB (j:=2) Z Z Z zw (v:=.slice bm aq.far.length bt) Z) (oM Z bW (oR Z (Zb Z Z) (oR Z (zH Z Z ZE Z Zq) (oL Z (aX.ldB (j:=3) Z Z Z Zy (v:=.map (some ab)) Z) (oM Z Z (oM Z bX (oR Z (zt (pv:=[(0,jV (↑am:Int)),(1,jV p1)]) (z:=[jV 0,jV 0]) (cs:=[jV (↑am:Int),jV p1]) Z (wAB Z (wAB Z wAT)) zh wBo Z Z) (oL Z (aX.lookup1 (j:=4) (mk:=wBO) (mv:=wBR) (a:=(⟨(↑am:Int),p1⟩:wAC)) (z:=0) Z Z Z Z (wBu ZD) wDG ZG bF) (bnK dK fun _ bv dE=>?_))))))))))))
 obtain ⟨dV,cb⟩:=aX.rowSome (j:=0) rfl (by rw [wAF (f:=KL.encI) (sz:=1) (fun _=>rfl) aq.far];have hz:=wAP bv;omega)
 refine oR Z (zm Z Z cb Z zD zC (wAp bv) (wAq bv)) ?_
 have dA:=wAy (xs:=aq.far) (wAP bv)
 refine ZF rfl rfl rfl rfl (aX.ldR (j:=0) rfl cb rfl rfl zE (wAR (sz:=1) (fun _=>rfl) _ _ 0 _ dA (by first | omega | rfl | simp) rfl)) rfl (bnK dE fun _ bw dF=>zZ rfl rfl rfl rfl (fun _=>Runs.iaA rfl bY rfl Tryz.runUnderlying90 Tryz.sizeOf89 (wAp bw) (wAq bw)) (bnK dF fun _ bz dG=>zZ rfl rfl rfl rfl (fun _=>Runs.iaA rfl rfl rfl Tryz.runUnderlying89 zC (wAp bz) (wAq bz)) ?_))
 have dB:=Arr.at_ aY (k:=(ak * 8 + am)) (by have hz0:=wAP bw;have hz1:=wAP bz;omega)
 refine zY (j:=5) (vs:=[jV (gd aq.far (wAw p0.number (⟨(↑am:Int),p1⟩:wAC) 0).toNat)]) (cs':=hH KL.encI (aY.set (ak * 8 + am) (gd aq.far (wAw p0.number (⟨(↑am:Int),p1⟩:wAC) 0).toNat)).l) rfl rfl rfl rfl aX rfl rfl rfl rfl zC (by have hz0:=wAP bw;have hz1:=wAP bz;simp only [List.length_append,List.length_cons,List.length_nil,wBU (f:=KL.encI) (sz:=1) (N:=64) aY (fun _=>rfl) rfl];omega) rfl (wBw (sz:=1) (fo:=0) (fun _=>rfl) _ _ _ _ dB (by first | omega | rfl | simp) (zA rfl) rfl) rfl ?_
 intro cp cY
 have cZ:SW w [B0,.obj ab (.map ae ai)] U bM [B1,B2,.blk br 148 B3,B0,.obj ab (.map ae ai),.blk b9 90 (hH KL.encI (aY.set (ak * 8 + am) (gd aq.far (wAw p0.number (⟨(↑am:Int),p1⟩:wAC) 0).toNat)).l),.blk b4 90 (hH KL.encI (Arr.fill 64 0).l)] cp:=cY
 refine zX (zj (zG (rR fL2 Z (oR Z (ZR (zS Z bD Z) (congrArg (jV) dC.out)) (oM Z Z (zX ?_))))))
 cases dG
 exact zG ⟨Z,⟨bM,Z,bW,bX,cN,bY,bZ,bR,cz,cA,bS,dN,cZ⟩⟩
 rintro eg dS ⟨cn,cO,cB,cC,cD,cE,dW,dX,cG,cH,cI,dL,da⟩
 have cx:Hid (¬ ((↑(((↑p0.Race.Starts.length:Int):Int) - 0).toNat:Int) < (↑p0.Race.Starts.length:Int))):=zJ (wAv)
 refine sR fL1 Z (oR Z (zO Z cO cI) (eN (zI (cF Z cx (ZP (zd (zd (ZJ (zj (zG (rR fL2 Z (oR Z (ZR (zS Z cH Z) (congrArg (jV) dD.out)) (oM Z Z (zX ?_))))))))))))))
 cases dI
 exact zG ⟨rfl,⟨cn,rfl,cB,cC,cD,cE,cG,((aZ.trans dM).trans dL),(da.pick [5,6,3,4] _ (by decide) rfl)⟩⟩
 rintro eh dT ⟨bK,cP,dY,dZ,bT,cJ,cK,d5,cf⟩
 have cy:Hid (¬ ((↑(((↑p0.Race.Starts.length:Int):Int) - 0).toNat:Int) < (↑p0.Race.Starts.length:Int))):=zJ (wAv)
 refine sR fL1 rfl (zZ rfl rfl rfl rfl (fun _=>zO rfl cP cK) (eN (zI (cF Z cy (ZP (zd (zd (ZJ (zG (sR (.fl 0 (.fx 1 .nil .stop)) rfl (ZF rfl rfl rfl rfl (cf.ldBA (j:=0) rfl rfl cJ Tryz.isAgg90 Tryz.sizeOf90 (vs:=hH KL.encI au.l) (wSq au (fun _=>rfl) rfl) (wBU au (fun _=>rfl) rfl)) rfl (zY (j:=1) (vs:=hH KL.encI au.l) rfl rfl rfl rfl cf rfl bT rfl rfl (fun w=>by rw [wBU (f:=KL.encI) (sz:=1) (N:=64) au (fun _=>rfl) rfl];exact Tryz.sizeOf90 w) (by rw [wBU (f:=KL.encI) (sz:=1) (N:=64) au (fun _=>rfl) rfl,wBU (f:=KL.encI) (sz:=1) (N:=64) (Arr.fill 64 0) (fun _=>rfl) rfl];exact zA rfl) (wEn (fun _=>rfl) _) (wIi _ _ (by rw [wBU (f:=KL.encI) (sz:=1) (N:=64) au (fun _=>rfl) rfl,wBU (f:=KL.encI) (sz:=1) (N:=64) (Arr.fill 64 0) (fun _=>rfl) rfl])) rfl ?_))))))))))))
 intro cq db
 have ci:SW w [B0,.obj ab (.map ae ai)] U bK [.blk b9 90 (hH KL.encI au.l),.blk b4 90 (hH KL.encI au.l),B0,.obj ab (.map ae ai)] cq:=db
 refine eN (zV ?_)
 have hE:=nA dH;first | subst r | cases hE
 exact ⟨rfl,_,(wKL (v:=.agg (hH KL.encI au.l).toArray) ⟨⟨_,bT,(wBX Tryz.isAgg90 Tryz.sizeOf90 (ci.blkAt (k:=1) rfl) (wSq au (fun _=>rfl) rfl) (wBU au (fun _=>rfl) rfl))⟩,trivial⟩),bK,_,(ci.pick [2,3] _ (by decide) rfl),rfl,rfl⟩
theorem wJo (p0:wAD) (bn:Option Addr) (bo:Nat) (bv:Option Addr) (bA:Nat) (bw:Option Addr) (bB:Nat) (bz:Option Addr) (bC:Nat) (p1:Int) (w:World) (U:PHeap) (hS:St0 w U []) (eh:Sl U 1 bn bo p0.Starts.length (hH KL.encI p0.Starts)) (en:Sl U 2 bv bA p0.Splits.length (hH wAL p0.Splits)) (eu:Sl U 3 bw bB p0.Clocks.length (hH wAA p0.Clocks)) (ez:Sl U 4 bz bC p0.Readings.length (hH wAJ p0.Readings)) {r:(List (List Int)) × Int} (hm:wCr p0 p1=some r):Gv Tryz.prog 8 [.agg #[.slice bn p0.Starts.length bo,.slice bv p0.Splits.length bA,.slice bw p0.Clocks.length bB,.slice bz p0.Readings.length bC],jV p1] w (wCW w [] U (fun U_ L_ v=>∃ (A0:Option Addr) (c0:Nat) (cM:List Hd),v=.tuple #[.slice A0 r.1.length c0,jV r.2]/\L_=[.row A0 c0 23 1 (hH wFo cM),inn 3 1 KL.encI cM r.1])):=by
 unfold wCr at hm
 refine Gv.of Tryz.func8 Z Tryz.ntmps8 Tryz.results8 Z (sR gDd Z ?_)
 let B0:List Value:=[.slice bn p0.Starts.length bo,.slice bv p0.Splits.length bA,.slice bw p0.Clocks.length bB,.slice bz p0.Readings.length bC]
 refine ZK (cs:=B0) rfl rfl rfl rfl rfl rfl (by rfl) hS ?_
 intro W1 b2 cG
 refine oA Z Z (oA Z Z (eN (sR (.fl 0 (.fl 1 (.fx 2 (wQH (.nil)) .stop))) Z (oL Z (cG.ldBA (j:=0) Z Z Z ZH zu (vs:=B0) Z Z) (oM Z Z ?_)))))
 have q:=bnd hm
 obtain ⟨⟨x5,x6⟩,h7,bm⟩:=q
 try dsimp only at bm
 refine zM 0 Z Z Z Z (zK Z Z Tryz.call30 (zB Z (zB Z zP)) Z) cG (fun hs=>wFy p0 bn bo bv bA bw bB bz bC p1 W1 U hs eh en eu ez h7) (.inr Z) ?_
 rintro U9 ft fG bi fC cC cB
 rcases x5 with _ | bg
 try dsimp only at bm
 obtain ⟨rfl,rfl⟩:=cB
 have dT:sW w U U9 [.blk b2 28 B0] bi:=cC
 refine oM Z Z (oR Z (zl Z Z (v:=.pointer none) Z) (oR Z (zl Z Z (v:=jV x6) Z) (oA Z Z (oA Z Z (eN (zI (sR fL2 Z (oM Z Z (oR Z (yC Z Z Z) (eN (ifc bm ?_ ?_)))))))))))
 intro bI eX
 refine zo (ZQ (fun h=>h bI.out)) (kN (sR gDr Z (oM Z Z (oM Z Z ?_))))
 cases eX
 intro bI eY
 refine cT Z bI (sR fL3 Z (oM Z Z (oA Z Z (oA Z Z (eN (zV (zR ?_)))))))
 have dU:=dT.nilrow 23 1
 have dV:=dU.innNil 3 1 KL.encI
 have dW:sW w U U9 [inn 3 1 KL.encI ([]:List Hd) ([]:List (List Int)),.row none 0 23 1 [],.blk b2 28 B0] bi:=dV
 cases eY
 exact ⟨rfl,_,(wGg rfl rfl),U9,_,(dW.pick [1,0] _ (by decide) rfl),none,0,([]:List Hd),rfl,rfl⟩
 try dsimp only at bm
 obtain ⟨bG,bU,cp,bV,cq,bW,cr,bX,ct,ak,ap,am,bY,cu,rfl,rfl,dv,dw,dx,dy,dz,dA⟩:=cB
 let B1:Res:=.blk bG 146 [.slice bU bg.Race.Starts.length cp,.slice bV bg.Race.Splits.length cq,.slice bW bg.Race.Clocks.length cr,.slice bX bg.Race.Readings.length ct,.map (some ak),.slice bY bg.edges.length cu]
 have cH:sW w U U9 [B1,.obj ak (.map ap am),.blk b2 28 B0] bi:=cC
 refine oM Z Z (oR Z (zl Z Z (v:=.pointer (some ⟨bG,0,none⟩)) Z) (oR Z (zl Z Z (v:=jV x6) Z) (oA Z Z (oA Z Z (eN (zI (sR fL2 Z (oM Z Z (oR Z (yC Z Z Z) (eN (ifc bm ?_ ?_)))))))))))
 intro bJ eZ
 refine zo (ZQ (fun h=>h bJ.out)) (kN (sR gDr Z (oM Z Z (oM Z Z (bnK eZ fun aq dB fb=>zM 2 Z Z Z Z (zK Z Z Tryz.call31 (zB Z (zB Z zP)) Z) cH (fun hs=>wDm bg bG bU cp bV cq bW cr bX ct ak ap am bY cu p1 bi U9 hs dv dw dx dy dz dA dB) (.inl Z) ?_)))))
 rintro aY fu fH cV fE dX ⟨rfl,rfl⟩
 have dY:sW w U aY [B1,.obj ak (.map ap am),.blk b2 28 B0] cV:=dX
 refine zW (cs:=hH KL.encI (Arr.fill 64 0).l) Z Z Z Z Z Tryz.zeroValue90 Z dY ?_
 intro cW av dZ
 have d5:sW w U aY [.blk av 90 (hH KL.encI (Arr.fill 64 0).l),B1,.obj ak (.map ap am),.blk b2 28 B0] cW:=dZ
 refine zY (j:=0) (vs:=hH KL.encI aq.l) rfl rfl rfl rfl d5 rfl rfl rfl rfl (fun w=>by rw [wBU (f:=KL.encI) (sz:=1) (N:=64) aq (fun _=>rfl) rfl];exact Tryz.sizeOf90 w) (by rw [wBU (f:=KL.encI) (sz:=1) (N:=64) aq (fun _=>rfl) rfl,wBU (f:=KL.encI) (sz:=1) (N:=64) (Arr.fill 64 0) (fun _=>rfl) rfl];exact zA rfl) (wEn (fun _=>rfl) _) (wIi _ _ (by rw [wBU (f:=KL.encI) (sz:=1) (N:=64) aq (fun _=>rfl) rfl,wBU (f:=KL.encI) (sz:=1) (N:=64) (Arr.fill 64 0) (fun _=>rfl) rfl])) rfl ?_
 intro cX d7
 have cI:sW w U aY [.blk av 90 (hH KL.encI aq.l),B1,.obj ak (.map ap am),.blk b2 28 B0] cX:=d7
 refine eN (sR (wEU gDa) Z (oR Z (zH Z Z zQ Z zq) (oL Z (cI.ldB (j:=3) Z Z Z zw (v:=.slice bn p0.Starts.length bo) Z) (oR Z (ZA Z Z zD) (bnK fb fun x69 cA fc=>OKS.makeSliceN Z Z Z Z Z (wBu ZV) wQh Z Z Z Z Z cA cI ?_)))))
 intro ci aV d9
 let B2:Res:=.row (some ⟨aV,0,none⟩) x69.length 23 1 (hH wFo (nM x69.length (⟨none,0,0⟩:Hd)))
 have ef:sW w U aY [B2,.blk av 90 (hH KL.encI aq.l),B1,.obj ak (.map ap am),.blk b2 28 B0] ci:=d9
 have ec:=ef.innMade 3 1 KL.encI cA
 have eg:sW w U aY [inn 3 1 KL.encI (nM x69.length (⟨none,0,0⟩:Hd)) x69,B2,.blk av 90 (hH KL.encI aq.l),B1,.obj ak (.map ap am),.blk b2 28 B0] ci:=ec
 refine oA Z Z (eN (zI (sR fL3 Z (oM Z Z (oR Z (ZA Z Z ZV) (oM Z Z (eN (zU (bnK fc fun fM eE fd=>?_)))))))))
 have q:=wBS eE
 obtain ⟨bS,eF⟩:=q
 replace bS:=zJ bS
 refine CK.forN' (fun aa bb σ_ w_=>∃ (U_:PHeap) (bt:List Hd),σ_ 30=jV (↑aa:Int)/\σ_ 8=.pointer (some ⟨av,0,none⟩)/\σ_ 9=.slice (some ⟨aV,0,none⟩) bb.length x69.length/\σ_ 29=jV (↑x69.length:Int)/\PHeap.Le aY U_/\sW w U U_ [.blk av 90 (hH KL.encI aq.l),B1,.obj ak (.map ap am),.blk b2 28 B0,.row (some ⟨aV,0,none⟩) x69.length 23 1 (hH wFo bt),inn 3 1 KL.encI bt bb] w_) eF ?_ ?_ ?_
 exact ⟨aY,(nM x69.length (⟨none,0,0⟩:Hd)),rfl,rfl,rfl,rfl,(zL _),(eg.pick [2,3,4,5,1,0] _ (by decide) rfl)⟩
 rintro aa bb fK fQ fz bP ⟨cd,bt,bM,db,cw,cx,fj,dD⟩ fg
 have cm:Hid ((↑aa:Int) < (↑x69.length:Int)):=zJ (wBP bP)
 replace bP:=zJ bP
 have eJ:Hid (w64 ((↑aa:Int) + 1)=(↑(aa + 1):Int)):=zJ (by have h1:=bS.out;have h2:=cm.out;rw [wAa] <;> omega)
 refine sR fL1 Z (oR Z (zO Z bM cx) (eN (zI (cT Z cm (kN (zI (zU (sR fL2 Z (oM Z bM (oA Z Z (eN (sR fL3 Z (oM Z cw (oR Z (ZA Z Z ZV) (oM Z Z (eN (zU (bnK fg fun fL eA eK=>?_))))))))))))))))))
 have q:=wBS eA
 obtain ⟨bR,eD⟩:=q
 replace bR:=zJ bR
 refine CK.forN' (fun aU az σ_ w_=>∃ (U_:PHeap) (ab:List Hd),σ_ 35=jV (↑aU:Int)/\σ_ 8=.pointer (some ⟨av,0,none⟩)/\σ_ 9=.slice (some ⟨aV,0,none⟩) az.length x69.length/\σ_ 10=jV (↑aa:Int)/\σ_ 29=jV (↑x69.length:Int)/\σ_ 30=jV (↑aa:Int)/\σ_ 34=jV (↑bb.length:Int)/\PHeap.Le cd U_/\sW w U U_ [.blk av 90 (hH KL.encI aq.l),B1,.obj ak (.map ap am),.blk b2 28 B0,.row (some ⟨aV,0,none⟩) x69.length 23 1 (hH wFo ab),inn 3 1 KL.encI ab az] w_) eD ?_ ?_ ?_
 exact ⟨cd,bt,Z,db,cw,Z,cx,bM,Z,(zL _),dD⟩
 rintro aU az fJ fN cf bQ ⟨aW,ab,br,bK,bq,bj,cy,cz,bL,cN,bk⟩ fh
 have cn:Hid ((↑aU:Int) < (↑bb.length:Int)):=zJ (wBP bQ)
 replace bQ:=zJ bQ
 have cL:Hid (w64 ((↑aU:Int) + 1)=(↑(aU + 1):Int)):=zJ (by have h1:=bR.out;have h2:=cn.out;rw [wAa] <;> omega)
 refine sR fL1 Z (oR Z (zO Z br bL) (eN (zI (cT Z cn (kN (zI (zU (sR fL2 Z (oM Z br (oA Z Z (eN (sR fL6 Z (oM Z bj (oM Z Z (bnK fh fun _ bN eL=>oR Z (Runs.iaA Z bK Z Tryz.runUnderlying90 Tryz.sizeOf89 (wAp bN) (wAq bN)) (bnK eL fun _ bO eM=>oR Z (Runs.iaA Z Z Z Tryz.runUnderlying89 zC (wAp bO) (wAq bO)) ?_))))))))))))))))
 have eG:=Arr.at_ aq (k:=(aa * 8 + aU)) (by have hz0:=wAP bN;have hz1:=wAP bO;omega)
 refine ZF rfl rfl rfl rfl (bk.ldB (j:=0) rfl rfl rfl zE (wAR (sz:=1) (fun _=>rfl) _ _ 0 _ eG (by first | omega | rfl | simp) rfl)) rfl (zZ rfl rfl rfl rfl (fun _=>zO rfl rfl rfl) (eN (ifc eM ?_ ?_)))
 intro bH eO
 refine cT Z bH (rR (wJK (.fx 7 (.fx 8 (.fl 9 (.fx 10 .nil .stop)) .stop) .stop)) Z (oM Z bq (oM Z bj (oM Z bq (oM Z bj (bnK eO fun _ ba eQ=>oR Z (Zp Z Z Z Z ZV zq (wAP ba)) ?_))))))
 have cJ:=bk.innFit (j:=5) rfl
 have eH:=wAy (xs:=ab) (k:=aa) (by rw [cJ.len];exact (wAP ba))
 have ff:Value.slice (gd ab aa).A (gd ab aa).n (gd ab aa).c=.slice ((gd ab aa).A) ((gd az aa).length) ((gd ab aa).c):=by rw [cJ.at_ (k:=aa) (wAP ba)]
 refine ZF rfl rfl rfl rfl (RunsK.to (bk.ldR (j:=4) rfl rfl rfl rfl zw (wAR (sz:=1) (fun _=>rfl) _ _ 0 _ eH (by first | omega | rfl | simp) rfl)) ff) rfl ?_
 let B3:Res:=.row (some ⟨aV,0,none⟩) x69.length 23 1 (hH wFo ab)
 have dE:sW w U aW [inn 3 1 KL.encI ab az,.blk av 90 (hH KL.encI aq.l),B1,.obj ak (.map ap am),.blk b2 28 B0,B3] cf:=bk.pick [5,0,1,2,3,4] _ (by decide) rfl
 have dF:=dE.innTake (k:=aa) (wAP ba)
 let B4:Res:=.row ((gd ab aa).A) ((gd ab aa).c) 3 1 (hH KL.encI (gd az aa))
 have dG:sW w U aW [B4,wQX 3 1 KL.encI ab az aa,.blk av 90 (hH KL.encI aq.l),B1,.obj ak (.map ap am),.blk b2 28 B0,B3] cf:=dF
 refine oM Z Z (zz (pv:=[(0,jV (↑aU:Int))]) (zs:=[jV 0]) (cs:=[jV (↑aU:Int)]) Z Z Z Z Z (wAB Z wAT) zD zC ZG Z Z Z Z Z dG ?_)
 intro cS cY dH
 let B5:Res:=.row (some ⟨cY,0,none⟩) 1 3 1 (hH KL.encI [(↑aU:Int)])
 have cD:sW w U aW [B5,B4,wQX 3 1 KL.encI ab az aa,.blk av 90 (hH KL.encI aq.l),B1,.obj ak (.map ap am),.blk b2 28 B0,B3] cS:=dH
 refine bnK eQ fun aX dr eU=>Zv (j:=1) (enc:=KL.encI) (xs:=(gd az aa)) (ys:=[(↑aU:Int)]) (zs:=aX) rfl rfl rfl rfl rfl yW wJk rfl rfl rfl rfl rfl rfl cD rfl rfl rfl (cD.srcR (j:=0) rfl (by decide) (wAF (f:=KL.encI) (sz:=1) (fun _=>rfl) [(↑aU:Int)])) (fun _=>rfl) (fun _=>rfl) dr rfl ?_
 intro bd be cU dI
 let B6:Res:=.row bd be 3 1 (hH KL.encI aX)
 have cE:sW w U aW [B5,B6,wQX 3 1 KL.encI ab az aa,.blk av 90 (hH KL.encI aq.l),B1,.obj ak (.map ap am),.blk b2 28 B0,B3] cU:=dI
 refine oR Z (Zp Z Z Z Z ZV zq (wAP ba)) ?_
 have cK:=(cE.innHFit (j:=2) rfl).1
 have eI:=wAy (xs:=ab) (k:=aa) (by rw [cK.len];exact wAP ba)
 refine yL (j:=7) (vs:=wFo (⟨bd,aX.length,be⟩:Hd)) (cs':=hH wFo (nH ab aa (⟨bd,aX.length,be⟩:Hd))) rfl rfl rfl rfl cE rfl rfl rfl rfl rfl zq (by rw [wAF (f:=wFo) (sz:=1) (fun _=>rfl),cK.len];have hz:=wAP ba;show _ + 1 <= _;first | omega | (simp only [nG];omega)) rfl (wBw (sz:=1) (fo:=0) (fun _=>rfl) _ _ _ _ eI (by first | omega | (simp only [nG];omega)) (zA rfl) rfl) rfl ?_
 intro bF dJ
 let B7:Res:=.row (some ⟨aV,0,none⟩) x69.length 23 1 (hH wFo (nH ab aa (⟨bd,aX.length,be⟩:Hd)))
 have dK:sW w U aW [B5,B6,wQX 3 1 KL.encI ab az aa,.blk av 90 (hH KL.encI aq.l),B1,.obj ak (.map ap am),.blk b2 28 B0,B7] bF:=dJ
 have dL:sW w U aW [B6,wQX 3 1 KL.encI ab az aa,B5,.blk av 90 (hH KL.encI aq.l),B1,.obj ak (.map ap am),.blk b2 28 B0,B7] bF:=dK.pick [1,2,0,3,4,5,6,7] _ (by decide) rfl
 have dM:=dL.innPut
 have dN:sW w U aW [inn 3 1 KL.encI (nH ab aa (⟨bd,aX.length,be⟩:Hd)) (nH az aa aX),B5,.blk av 90 (hH KL.encI aq.l),B1,.obj ak (.map ap am),.blk b2 28 B0,B7] bF:=dM
 refine zX (zj (zG (rR fL2 Z (oR Z (ZR (zS Z br Z) (congrArg (jV) cL.out)) (oM Z Z (zX ?_))))))
 cases eU
 exact zG ⟨rfl,⟨aW,(nH ab aa (⟨bd,aX.length,be⟩:Hd)),rfl,bK,(Eq.trans (b:=(.slice (some ⟨aV,0,none⟩) az.length x69.length:Value)) (c:=(.slice (some ⟨aV,0,none⟩) ((nH az aa aX).length) x69.length:Value)) bq (by simp only [nI])),bj,cy,cz,bL,cN,(dN.pick [2,3,4,5,6,0] _ (by decide) rfl)⟩⟩
 intro bH eV
 refine cF Z bH (ZT (zj (zG (rR fL2 Z (oR Z (ZR (zS Z br Z) (congrArg (jV) cL.out)) (oM Z Z (zX ?_)))))))
 cases eV
 exact zG ⟨Z,⟨aW,ab,Z,bK,bq,bj,cy,cz,bL,cN,bk⟩⟩
 rintro fO fw ⟨cP,dt,dp,de,df,fA,dg,dh,dk,fm,dO⟩
 have cZ:Hid (¬ ((↑(((↑bb.length:Int):Int) - 0).toNat:Int) < (↑bb.length:Int))):=zJ (wAv)
 refine sR fL1 Z (oR Z (zO Z dp dk) (eN (zI (cF Z cZ (ZP (zd (zd (ZJ (zj (zG (rR fL2 Z (oR Z (ZR (zS Z dh Z) (congrArg (jV) eJ.out)) (oM Z Z (zX ?_))))))))))))))
 cases eK
 exact zG ⟨Z,⟨cP,dt,Z,de,df,dg,(fj.trans fm),dO⟩⟩
 rintro fP fy ⟨cQ,du,dq,fB,dl,dm,fD,dP⟩
 have da:Hid (¬ ((↑(((↑x69.length:Int):Int) - 0).toNat:Int) < (↑x69.length:Int))):=zJ (wAv)
 refine sR fL1 Z (oR Z (zO Z dq dm) (eN (zI (cF Z da (ZP (zd (zd (ZJ (zG (sR fL3 Z (oM Z dl (oA Z Z (oA Z Z (eN (zV ?_)))))))))))))))
 cases fd
 exact ⟨rfl,_,(wGg rfl rfl),cQ,_,(dP.pick [4,5] _ (by decide) rfl),(some ⟨aV,0,none⟩),x69.length,du,rfl,rfl⟩
 intro bJ eW
 refine cT Z bJ (sR fL3 Z (oM Z Z (oA Z Z (oA Z Z (eN (zV (zR ?_)))))))
 have dQ:=cH.nilrow 23 1
 have dR:=dQ.innNil 3 1 KL.encI
 have dS:sW w U U9 [inn 3 1 KL.encI ([]:List Hd) ([]:List (List Int)),.row none 0 23 1 [],B1,.obj ak (.map ap am),.blk b2 28 B0] bi:=dR
 cases eW
 exact ⟨rfl,_,(wGg rfl rfl),U9,_,(dS.pick [1,0] _ (by decide) rfl),none,0,([]:List Hd),rfl,rfl⟩
end Go.Proofs.YtkedcbligiebkaaGreat
namespace Go.Proofs.YtkedcbligiebkaaGreat
open Go.KL
set_option maxHeartbeats 4000000
theorem wJA (p0:wAD) (bi:Option Addr) (bj:Nat) (bE:Option Addr) (bH:Nat) (bF:Option Addr) (bI:Nat) (bG:Option Addr) (bJ:Nat) (p1:Int) (w:World) (U:PHeap) (hS:St0 w U []) (en:Sl U 1 bi bj p0.Starts.length (hH KL.encI p0.Starts)) (eu:Sl U 2 bE bH p0.Splits.length (hH wAL p0.Splits)) (ez:Sl U 3 bF bI p0.Clocks.length (hH wAA p0.Clocks)) (eA:Sl U 4 bG bJ p0.Readings.length (hH wAJ p0.Readings)) {r:(List wAG) × Int} (hm:wCZ p0 p1=some r):Gv Tryz.prog 9 [.agg #[.slice bi p0.Starts.length bj,.slice bE p0.Splits.length bH,.slice bF p0.Clocks.length bI,.slice bG p0.Readings.length bJ],jV p1] w (wCW w [] U (fun U_ L_ v=>∃ (A0:Option Addr) (c0:Nat),v=.tuple #[.slice A0 r.1.length c0,jV r.2]/\L_=[.row A0 c0 53 2 (hH wAL r.1)])):=by
 unfold wCZ at hm
 refine Gv.of Tryz.func9 Z Tryz.ntmps9 Tryz.results9 Z (sR gDd Z ?_)
 let B0:List Value:=[.slice bi p0.Starts.length bj,.slice bE p0.Splits.length bH,.slice bF p0.Clocks.length bI,.slice bG p0.Readings.length bJ]
 refine ZK (cs:=B0) rfl rfl rfl rfl rfl rfl (by rfl) hS ?_
 intro W1 b2 cL
 refine oA Z Z (oA Z Z (eN (sR (.fl 0 (.fl 1 (.fx 2 (wQH (.nil)) .stop))) Z (oL Z (cL.ldBA (j:=0) Z Z Z ZH zu (vs:=B0) Z Z) (oM Z Z ?_)))))
 have q:=bnd hm
 obtain ⟨⟨x5,x6⟩,h7,bt⟩:=q
 try dsimp only at bt
 refine zM 0 Z Z Z Z (zK Z Z Tryz.call30 (zB Z (zB Z zP)) Z) cL (fun hs=>wFy p0 bi bj bE bH bF bI bG bJ p1 W1 U hs en eu ez eA h7) (.inr Z) ?_
 rintro U9 ft fK bQ fG cI cG
 rcases x5 with _ | bk
 try dsimp only at bt
 obtain ⟨rfl,rfl⟩:=cG
 have dZ:sW w U U9 [.blk b2 28 B0] bQ:=cI
 refine oM Z Z (oR Z (zl Z Z (v:=.pointer none) Z) (oR Z (zl Z Z (v:=jV x6) Z) (oA Z Z (oA Z Z (eN (zI (sR fL2 Z (oM Z Z (oR Z (yC Z Z Z) (eN (ifc bt ?_ ?_)))))))))))
 intro bV fb
 refine zo (ZQ (fun h=>h bV.out)) (kN (sR gDr Z (oM Z Z (oM Z Z ?_))))
 cases fb
 intro bV fc
 refine cT Z bV (sR fL3 Z (oM Z Z (oA Z Z (oA Z Z (eN (zV (zR ?_)))))))
 have d5:=dZ.nilrow 53 2
 cases fc
 exact ⟨rfl,_,(wGg rfl rfl),U9,_,(d5.pick [0] _ (by decide) rfl),none,0,rfl,rfl⟩
 try dsimp only at bt
 obtain ⟨bR,ci,cx,cj,cy,cm,cz,cp,cB,aj,am,ak,cq,cC,rfl,rfl,dE,dF,dG,dH,dI,dJ⟩:=cG
 let B1:Res:=.blk bR 146 [.slice ci bk.Race.Starts.length cx,.slice cj bk.Race.Splits.length cy,.slice cm bk.Race.Clocks.length cz,.slice cp bk.Race.Readings.length cB,.map (some aj),.slice cq bk.edges.length cC]
 have cM:sW w U U9 [B1,.obj aj (.map am ak),.blk b2 28 B0] bQ:=cI
 refine oM Z Z (oR Z (zl Z Z (v:=.pointer (some ⟨bR,0,none⟩)) Z) (oR Z (zl Z Z (v:=jV x6) Z) (oA Z Z (oA Z Z (eN (zI (sR fL2 Z (oM Z Z (oR Z (yC Z Z Z) (eN (ifc bt ?_ ?_)))))))))))
 intro bW fd
 refine zo (ZQ (fun h=>h bW.out)) (kN (sR gDr Z (oM Z Z (oM Z Z (bnK fd fun ab dK ff=>zM 2 Z Z Z Z (zK Z Z Tryz.call31 (zB Z (zB Z zP)) Z) cM (fun hs=>wDm bk bR ci cx cj cy cm cz cp cB aj am ak cq cC p1 bQ U9 hs dE dF dG dH dI dJ dK) (.inl Z) ?_)))))
 rintro bo fu fL de fJ d7 ⟨rfl,rfl⟩
 have d9:sW w U bo [B1,.obj aj (.map am ak),.blk b2 28 B0] de:=d7
 refine zW (cs:=hH KL.encI (Arr.fill 64 0).l) Z Z Z Z Z Tryz.zeroValue90 Z d9 ?_
 intro df aq ec
 have ef:sW w U bo [.blk aq 90 (hH KL.encI (Arr.fill 64 0).l),B1,.obj aj (.map am ak),.blk b2 28 B0] df:=ec
 refine zY (j:=0) (vs:=hH KL.encI ab.l) rfl rfl rfl rfl ef rfl rfl rfl rfl (fun w=>by rw [wBU (f:=KL.encI) (sz:=1) (N:=64) ab (fun _=>rfl) rfl];exact Tryz.sizeOf90 w) (by rw [wBU (f:=KL.encI) (sz:=1) (N:=64) ab (fun _=>rfl) rfl,wBU (f:=KL.encI) (sz:=1) (N:=64) (Arr.fill 64 0) (fun _=>rfl) rfl];exact zA rfl) (wEn (fun _=>rfl) _) (wIi _ _ (by rw [wBU (f:=KL.encI) (sz:=1) (N:=64) ab (fun _=>rfl) rfl,wBU (f:=KL.encI) (sz:=1) (N:=64) (Arr.fill 64 0) (fun _=>rfl) rfl])) rfl ?_
 intro dg eg
 have cN:sW w U bo [.blk aq 90 (hH KL.encI ab.l),B1,.obj aj (.map am ak),.blk b2 28 B0] dg:=eg
 refine eN (sR fL1 Z (oA Z Z (eN (zI (sR fL4 Z (oR Z (zH Z Z zQ Z zq) (oL Z (cN.ldB (j:=3) Z Z Z zw (v:=.slice bi p0.Starts.length bj) Z) (oR Z (ZA Z Z zD) (oM Z Z (eN (zU (bnK ff fun fO eF fg=>?_))))))))))))
 have q:=wBS eF
 obtain ⟨cd,eG⟩:=q
 replace cd:=zJ cd
 refine CK.forN' (fun av bh σ_ w_=>∃ (U_:PHeap) (bm:Option Addr) (bq:Nat),σ_ 28=jV (↑av:Int)/\σ_ 2=.pointer (some ⟨b2,0,none⟩)/\σ_ 8=.pointer (some ⟨aq,0,none⟩)/\σ_ 9=.slice bm bh.length bq/\σ_ 27=jV (↑p0.Starts.length:Int)/\PHeap.Le bo U_/\sW w U U_ [.blk aq 90 (hH KL.encI ab.l),B1,.obj aj (.map am ak),.blk b2 28 B0,.row bm bq 53 2 (hH wAL bh)] w_) eG ?_ ?_ ?_
 have eh:=cN.nilrow 53 2
 exact ⟨bo,none,0,rfl,rfl,rfl,rfl,rfl,(zL _),(eh.pick [1,2,3,4,0] _ (by decide) rfl)⟩
 rintro av bh fN fS fB bZ ⟨bP,bm,bq,bX,cD,dp,dq,cE,fm,dM⟩ fh
 have cu:Hid ((↑av:Int) < (↑p0.Starts.length:Int)):=zJ (wBP bZ)
 replace bZ:=zJ bZ
 have eK:Hid (w64 ((↑av:Int) + 1)=(↑(av + 1):Int)):=zJ (by have h1:=cd.out;have h2:=cu.out;rw [wAa] <;> omega)
 refine sR fL1 Z (oR Z (zO Z bX cE) (eN (zI (cT Z cu (kN (zI (zU (sR fL2 Z (oM Z bX (oA Z Z (eN (sR (.fl 0 gDb) Z ?_))))))))))))
 let B2:List Value:=[jV 0,jV 0]
 let B3:List Value:=[jV 1,jV 1]
 refine oR Z (zt (pv:=[(0,jV 1),(1,jV 1)]) (z:=B2) (cs:=B3) Z (wAB Z (wAB Z wAT)) Zj wEz Z Z) (zW (cs:=B2) Z Z Z Z Z Zj Z dM ?_)
 intro fw aW dN
 refine zY (j:=0) (vs:=B3) Z Z Z Z dN Z Z Z Z ZN (zA Z) Z Z Z ?_
 intro cW dO
 let B4:Res:=.row bm bq 53 2 (hH wAL bh)
 have cH:sW w U bP [.blk aW 53 B3,.blk aq 90 (hH KL.encI ab.l),B1,.obj aj (.map am ak),.blk b2 28 B0,B4] cW:=dO
 refine eN (zI (sR fL4 Z (oR Z (zH Z cD zQ Z zq) (oL Z (cH.ldB (j:=4) Z Z Z zw (v:=.slice bi p0.Starts.length bj) Z) (oR Z (ZA Z Z zD) (oM Z Z (eN (zU ?_))))))))
 have q:=bnd fh
 obtain ⟨⟨bK,bL⟩,eD,cO⟩:=q
 try dsimp only at cO
 have q:=wBS eD
 obtain ⟨cb,eE⟩:=q
 replace cb:=zJ cb
 refine CK.forN' (fun aX (bd,aV) σ_ w_=>∃ (U_:PHeap),σ_ 35=jV (↑aX:Int)/\σ_ 2=.pointer (some ⟨b2,0,none⟩)/\σ_ 8=.pointer (some ⟨aq,0,none⟩)/\σ_ 9=.slice bm bh.length bq/\σ_ 10=jV (↑av:Int)/\σ_ 11=.pointer (some ⟨aW,0,none⟩)/\σ_ 27=jV (↑p0.Starts.length:Int)/\σ_ 28=jV (↑av:Int)/\σ_ 34=jV (↑p0.Starts.length:Int)/\PHeap.Le bP U_/\sW w U U_ [.blk aW 53 [jV bd,jV aV],.blk aq 90 (hH KL.encI ab.l),B1,.obj aj (.map am ak),.blk b2 28 B0,B4] w_) eE ?_ ?_ ?_
 exact ⟨bP,Z,cD,dp,dq,Z,Z,cE,bX,Z,(zL _),cH⟩
 rintro aX ⟨bd,aV⟩ fM fP fy bY ⟨aY,bg,bu,aZ,bv,ba,au,bw,bz,br,bC,bb⟩ cP
 try dsimp only at cP
 have cw:Hid ((↑aX:Int) < (↑p0.Starts.length:Int)):=zJ (wBP bY)
 replace bY:=zJ bY
 have bB:Hid (w64 ((↑aX:Int) + 1)=(↑(aX + 1):Int)):=zJ (by have h1:=cb.out;have h2:=cw.out;rw [wAa] <;> omega)
 refine sR fL1 Z (oR Z (zO Z bg br) (eN (zI (cT Z cw (kN (zI (zU (sR fL2 Z (oM Z bg (oA Z Z (eN (zI (sR fL6 Z (oM Z ba (oM Z Z (bnK cP fun _ az eL=>oR Z (Runs.iaA Z aZ Z Tryz.runUnderlying90 Tryz.sizeOf89 (wAp az) (wAq az)) (bnK eL fun _ aU eM=>oR Z (Runs.iaA Z Z Z Tryz.runUnderlying89 zC (wAp aU) (wAq aU)) ?_)))))))))))))))))
 have eH:=Arr.at_ ab (k:=(av * 8 + aX)) (by have hz0:=wAP az;have hz1:=wAP aU;omega)
 refine ZF rfl rfl rfl rfl (bb.ldB (j:=1) rfl rfl rfl zE (wAR (sz:=1) (fun _=>rfl) _ _ 0 _ eH (by first | omega | rfl | simp) rfl)) rfl (zZ rfl rfl rfl rfl (fun _=>zO rfl rfl rfl) (eN (ifc eM ?_ ?_)))
 intro bS eO
 refine cT Z bS (rR (wEc (.fx 4 .nil .stop)) Z (oR Z (zH Z au ZL Z zC) (oL Z (bb.ldB (j:=0) Z Z Z zE (v:=jV bd) Z) (oR Z (zS Z Z Z) (oR Z (zH Z au ZL Z zC) (zY (j:=0) (vs:=[jV (w64 (bd + 1))]) Z Z Z Z bb Z Z Z Z zC (zA Z) Z Z Z ?_))))))
 intro cX dP
 have bA:sW w U aY [.blk aW 53 [jV (w64 (bd + 1)),jV aV],.blk aq 90 (hH KL.encI ab.l),B1,.obj aj (.map am ak),.blk b2 28 B0,B4] cX:=dP
 refine eN (sR fL6 Z (oM Z Z (oM Z ba (oR Z (Runs.iaA Z aZ Z Tryz.runUnderlying90 Tryz.sizeOf89 (wAp aU) (wAq aU)) (oR Z (Runs.iaA Z Z Z Tryz.runUnderlying89 zC (wAp az) (wAq az)) ?_)))))
 have eI:=Arr.at_ ab (k:=(aX * 8 + av)) (by have hz0:=wAP aU;have hz1:=wAP az;omega)
 refine ZF rfl rfl rfl rfl (bA.ldB (j:=1) rfl rfl rfl zE (wAR (sz:=1) (fun _=>rfl) _ _ 0 _ eI (by first | omega | rfl | simp) rfl)) rfl (zZ rfl rfl rfl rfl (fun _=>ya rfl rfl rfl) (eN (ifc eO ?_ ?_)))
 intro bT eQ
 refine cT Z bT (rR (wEc (.fx 4 .nil .stop)) Z (oR Z (zH Z au ZL Z zC) (oL Z (bA.ldB (j:=0) Z Z Z zE (v:=jV aV) Z) (oR Z (zS Z Z Z) (oR Z (zH Z au ZL Z zC) (zY (j:=0) (vs:=[jV (w64 (aV + 1))]) Z Z Z Z bA Z Z Z Z zC (zA Z) Z Z Z ?_))))))
 intro cY dQ
 have dR:sW w U aY [.blk aW 53 [jV (w64 (bd + 1)),jV (w64 (aV + 1))],.blk aq 90 (hH KL.encI ab.l),B1,.obj aj (.map am ak),.blk b2 28 B0,B4] cY:=dQ
 refine zX (zj (zG (rR fL2 Z (oR Z (ZR (zS Z bg Z) (congrArg (jV) bB.out)) (oM Z Z (zX ?_))))))
 cases eQ
 exact zG ⟨Z,⟨aY,Z,bu,aZ,bv,ba,au,bw,bz,br,bC,dR⟩⟩
 intro bT eU
 refine cF Z bT (ZT (zj (zG (rR fL2 Z (oR Z (ZR (zS Z bg Z) (congrArg (jV) bB.out)) (oM Z Z (zX ?_)))))))
 cases eU
 exact zG ⟨Z,⟨aY,Z,bu,aZ,bv,ba,au,bw,bz,br,bC,bA⟩⟩
 intro bS eV
 refine cF Z bS (kN (sR fL6 Z (oM Z Z (oM Z ba (oR Z (Runs.iaA Z aZ Z Tryz.runUnderlying90 Tryz.sizeOf89 (wAp aU) (wAq aU)) (oR Z (Runs.iaA Z Z Z Tryz.runUnderlying89 zC (wAp az) (wAq az)) ?_))))))
 have eJ:=Arr.at_ ab (k:=(aX * 8 + av)) (by have hz0:=wAP aU;have hz1:=wAP az;omega)
 refine ZF rfl rfl rfl rfl (bb.ldB (j:=1) rfl rfl rfl zE (wAR (sz:=1) (fun _=>rfl) _ _ 0 _ eJ (by first | omega | rfl | simp) rfl)) rfl (zZ rfl rfl rfl rfl (fun _=>ya rfl rfl rfl) (eN (ifc eV ?_ ?_)))
 intro bU eW
 refine cT Z bU (rR (wEc (.fx 4 .nil .stop)) Z (oR Z (zH Z au ZL Z zC) (oL Z (bb.ldB (j:=0) Z Z Z zE (v:=jV aV) Z) (oR Z (zS Z Z Z) (oR Z (zH Z au ZL Z zC) (zY (j:=0) (vs:=[jV (w64 (aV + 1))]) Z Z Z Z bb Z Z Z Z zC (zA Z) Z Z Z ?_))))))
 intro cZ dS
 have dT:sW w U aY [.blk aW 53 [jV bd,jV (w64 (aV + 1))],.blk aq 90 (hH KL.encI ab.l),B1,.obj aj (.map am ak),.blk b2 28 B0,B4] cZ:=dS
 refine zX (zj (zG (rR fL2 Z (oR Z (ZR (zS Z bg Z) (congrArg (jV) bB.out)) (oM Z Z (zX ?_))))))
 cases eW
 exact zG ⟨Z,⟨aY,Z,bu,aZ,bv,ba,au,bw,bz,br,bC,dT⟩⟩
 intro bU eX
 refine cF Z bU (ZT (zj (zG (rR fL2 Z (oR Z (ZR (zS Z bg Z) (congrArg (jV) bB.out)) (oM Z Z (zX ?_)))))))
 cases eX
 exact zG ⟨Z,⟨aY,Z,bu,aZ,bv,ba,au,bw,bz,br,bC,bb⟩⟩
 rintro fQ fz ⟨bO,dB,dr,dt,du,fC,dv,dw,dx,dy,fj,cJ⟩
 have dk:Hid (¬ ((↑(((↑p0.Starts.length:Int):Int) - 0).toNat:Int) < (↑p0.Starts.length:Int))):=zJ (wAv)
 refine sR fL1 Z (oR Z (zO Z dB dy) (eN (zI (cF Z dk (ZP (zd (zd (ZJ (zG (rR (.fl 0 (.fl 1 gDi)) Z (oM Z du ?_)))))))))))
 let B5:List Value:=[jV bK,jV bL]
 refine oL Z (cJ.ldBA (j:=0) Z Z dv yR ZN (vs:=B5) Z Z) (zz (pv:=[(0,.agg B5.toArray)]) (zs:=B2) (cs:=B5) Z Z Z Z Z (wAB Z wAT) ZY ZN Zj Z Z Z Z Z cJ ?_)
 intro da dh dU
 let B6:Res:=.row (some ⟨dh,0,none⟩) 1 53 2 (hH wAL [(⟨bK,bL⟩:wAG)])
 have cK:sW w U bO [B6,.blk aW 53 B5,.blk aq 90 (hH KL.encI ab.l),B1,.obj aj (.map am ak),.blk b2 28 B0,B4] da:=dU
 refine bnK cO fun cQ dD eY=>Zv (j:=6) (enc:=wAL) (xs:=bh) (ys:=[(⟨bK,bL⟩:wAG)]) (zs:=cQ) rfl rfl rfl rfl rfl Tryz.underlying24 wQi rfl rfl rfl rfl rfl rfl cK rfl rfl rfl (cK.srcR (j:=0) rfl (by decide) (wAF (f:=wAL) (sz:=2) (fun _=>rfl) [(⟨bK,bL⟩:wAG)])) (fun _=>rfl) (fun _=>rfl) dD rfl ?_
 intro cn cA db dV
 have dW:sW w U bO [B6,.blk aW 53 B5,.blk aq 90 (hH KL.encI ab.l),B1,.obj aj (.map am ak),.blk b2 28 B0,.row cn cA 53 2 (hH wAL cQ)] db:=dV
 refine oA Z Z (zX (zj (zG (rR fL2 Z (oR Z (ZR (zS Z dx Z) (congrArg (jV) eK.out)) (oM Z Z (zX ?_)))))))
 cases eY
 exact zG ⟨rfl,⟨bO,cn,cA,rfl,dr,dt,rfl,dw,(fm.trans fj),(dW.pick [2,3,4,5,6] _ (by decide) rfl)⟩⟩
 rintro fR fA ⟨cU,cS,dl,dC,fD,fE,dz,dA,fH,dX⟩
 have dm:Hid (¬ ((↑(((↑p0.Starts.length:Int):Int) - 0).toNat:Int) < (↑p0.Starts.length:Int))):=zJ (wAv)
 refine sR fL1 Z (oR Z (zO Z dC dA) (eN (zI (cF Z dm (ZP (zd (zd (ZJ (zG (sR fL3 Z (oM Z dz (oA Z Z (oA Z Z (eN (zV ?_)))))))))))))))
 cases fg
 exact ⟨rfl,_,(wGg rfl rfl),cU,_,(dX.pick [4] _ (by decide) rfl),cS,dl,rfl,rfl⟩
 intro bW eZ
 refine cT Z bW (sR fL3 Z (oM Z Z (oA Z Z (oA Z Z (eN (zV (zR ?_)))))))
 have dY:=cM.nilrow 53 2
 cases eZ
 exact ⟨rfl,_,(wGg rfl rfl),U9,_,(dY.pick [0] _ (by decide) rfl),none,0,rfl,rfl⟩
theorem wEA (p0:wAh) (p1:Int) (ai:Nat) (w:World) (U:PHeap) (hS:St0 w U []) (aj:Cl U ai 0 [jV p1]) {r:Bool} (hm:wAl p0 p1=some r):Gv Tryz.prog 12 [.agg #[jV p0.Bib,jV p0.Time,jV p0.Gate],.pointer (some ⟨ai,0,none⟩)] w (wCW w [] U (fun U_ L_ v=>v=.bool r/\L_=[])):=by
 unfold wAl at hm
 refine Gv.of Tryz.func12 rfl Tryz.ntmps12 Tryz.results12 rfl (sR gDc rfl (ZK (cs:=[jV p0.Bib,jV p0.Time,jV p0.Gate]) rfl rfl rfl rfl rfl rfl (by rfl) hS ?_))
 intro W1 b2 ab
 refine oA Z Z (eN (sR fL6 Z (oR Z (zH Z Z yV Z zC) (oL Z (ab.ldB (j:=0) Z Z Z zE (v:=jV p0.Bib) Z) (oL Z (ab.ldC (f:=0) aj (v:=jV p1) Z Z zE Z) (oR Z (zS Z Z Z) (oR Z (Runs.eql Z Z Z) (oA Z Z (eN (zV ?_))))))))))
 first | (obtain rfl:=nA hm) | cases hm
 exact ⟨rfl,_,(ZS rfl),U,_,(ab.pick [] _ (by decide) rfl),rfl,rfl⟩
theorem wCE (p0:List wAh) (av:Option Addr) (az:Nat) (p1:(wAh->Option Bool)) (aU:Value) (w:World) (U:PHeap) (hS:St0 w U []) (bw:Sl U 3 av az p0.length (hH wBA p0)) (bz:FnOK Tryz.prog U aU ar50 rr50 p1) {r:Int} (hm:wAg p0 p1=some r):Gv Tryz.prog 11 [.slice av p0.length az,aU] w (wCW w [] U (fun U_ L_ v=>v=jV r/\L_=[])):=by
 unfold wAg at hm
 refine Gv.of Tryz.func11 Z Tryz.ntmps11 Tryz.results11 Z (sR fL1 Z (oA Z Z (eN (zI (sR fL3 Z (oM Z Z (oR Z (ZA Z Z yB) (oM Z Z (eN (zU ?_))))))))))
 have q:=wCQ hm
 obtain ⟨r3,am⟩:=q
 have q:=wCP am
 obtain ⟨aq,bC⟩:=q
 replace aq:=zJ aq
 refine yX (fun k2 _ σ_ w_=>∃ (U_:PHeap),σ_ 8=jV (↑k2:Int)/\σ_ 0=.slice av p0.length az/\σ_ 1=aU/\σ_ 7=jV (↑p0.length:Int)/\PHeap.Le U U_/\sW w U U_ [] w_) bC ?_ ?_ ?_
 exact ⟨U,Z,Z,Z,Z,(zL _),hS⟩
 rintro k2 ⟨⟩ bX bZ W8 ap ⟨bM,ak,aW,aX,aY,au,ba⟩ be bA
 try dsimp only at be
 have aV:Hid ((↑k2:Int) < (↑p0.length:Int)):=zJ (wBP ap)
 replace ap:=zJ ap
 have bD:Hid (w64 ((↑k2:Int) + 1)=(↑(k2 + 1):Int)):=zJ (by have h1:=aq.out;have h2:=aV.out;rw [wAa] <;> omega)
 refine sR fL1 Z (oR Z (zO Z ak aY) (eN (zI (cT Z aV (kN (zI (zU (sR fL2 Z (oM Z ak (oA Z Z (eN (sR (wDh (.fx 5 .nil .stop)) Z (oM Z aX (oM Z aW (oM Z Z (bnK be fun ae aZ bE=>?_))))))))))))))))
 have bo:=bw.le au
 have q:=bo.el (fun _=>rfl) (wAi aZ)
 obtain ⟨bP,bT,br,bt⟩:=q
 refine oR Z (Zp Z Z br Z yB ye (wCv aZ)) (oL Z (ba.ldCA (f:=0) bt Z Z Tryz.isAgg49 ye (us:=[jV ae.Bib,jV ae.Time,jV ae.Gate]) Z Z) (bnK bE fun bW bp bF=>?_))
 have bq:=bz.le au
 refine yd (a:=ae) Z Z Z Z Z Z (zB Z zP) ba bq Z bp ?_
 rintro ai bL bV bi bJ bu ⟨rfl,rfl⟩
 have bb:sW w U ai [] bi:=bu
 refine eN (ifc bF ?_ ?_)
 intro aj bG
 refine ZI (congrArg nJ aj.out) (sR fL2 Z (oM Z Z (oA Z Z (eN (zV (zi (zR ?_)))))))
 have q:=wAb bG
 obtain ⟨bK,bH,bk⟩:=q
 have q:=wBf hm am (bA bK bk)
 obtain rfl:=q
 refine zR (zi (zR ?_))
 cases bH
 exact ⟨Z,_,(ZS Z),ai,_,bb,Z,Z⟩
 intro aj bI
 refine zo (congrArg nJ (nK.2 aj.out)) (ZT (zj (zG (rR fL2 Z (oR Z (ZR (zS Z ak Z) (congrArg (jV) bD.out)) (oM Z Z (zX ?_)))))))
 have q:=nA bI
 obtain rfl:=q
 exact zG ⟨Z,_,Z,⟨ai,Z,aW,aX,aY,(au.trans bJ),bb⟩⟩
 rintro ⟨⟩ bY bN ⟨bh,bn,bQ,bR,bm,bS,bv⟩ bB
 have bd:=wDd hm am bB
 try dsimp only at bd
 have bj:Hid (¬ ((↑(((↑p0.length:Int):Int) - 0).toNat:Int) < (↑p0.length:Int))):=zJ (wAv)
 refine sR fL1 Z (oR Z (zO Z bn bm) (eN (zI (cF Z bj (ZP (zd (zd (ZJ (zG (sR fL1 Z (oA Z Z (eN (zV ?_)))))))))))))
 cases bd
 exact ⟨Z,_,(ZS Z),bh,_,bv,Z,Z⟩
theorem wCt (p0:Int) (p1:List wAh) (az:Nat) (ak:Option Addr) (am:Nat) (w:World) (U:PHeap) (hS:St0 w U []) (bg:Cl U az 0 [.slice ak p1.length am]) (bh:Sl U 3 ak am p1.length (hH wBA p1)) {r:Int} (hm:wBC p0 p1=some r):Gv Tryz.prog 10 [jV p0,.pointer (some ⟨az,0,none⟩)] w (wCW w [] U (fun U_ L_ v=>v=jV r/\L_=[])):=by
 unfold wBC at hm
 refine Gv.of Tryz.func10 rfl Tryz.ntmps10 Tryz.results10 rfl (sR gDc rfl (ZK (cs:=[jV p0]) rfl rfl rfl rfl rfl rfl (by rfl) hS ?_))
 intro W1 b2 bd
 have q:=bd.freeze (k:=0) rfl
 obtain ⟨U5,av,ai,be⟩:=q
 replace ai:=Cl.of ai
 have au:sW w U U5 [] W1:=be
 replace ai:Cl U5 b2 0 [jV p0]:=ai
 refine oA Z Z (eN (sR gDl Z ?_))
 have aW:=bg.le av
 refine oL Z (au.ldC (f:=0) aW (v:=.slice ak p1.length am) Z Z Tryz.isAgg37 Z) (oR Z (Runs.mkf Z zP (zB Z zP)) ?_)
 have aX:=bh.le av
 have aZ:FnOK Tryz.prog U5 (.func (.func 12) #[] #[.pointer (some ⟨b2,0,none⟩)]) ar50 rr50 (fun x=>wAl x p0):=⟨12,[],[.pointer (some ⟨b2,0,none⟩)],rfl,Tryz.call12,fun U1 w1 x y vs le hs ha hm=>by obtain rfl:=ha;exact wEA x p0 b2 w1 U1 hs (ai.le le) hm⟩
 refine bnK hm fun bo aY bi=>zM 0 Z Z Z Z (zK Z Z Tryz.call11 (zB Z (zB Z zP)) Z) au (fun hs=>wCE p1 ak am (fun x=>wAl x p0) (.func (.func 12) #[] #[.pointer (some ⟨b2,0,none⟩)]) W1 U5 hs aX aZ aY) (.inr Z) ?_
 rintro ap bk bn aV bm ba ⟨rfl,rfl⟩
 have bb:sW w U ap [] aV:=ba
 refine oA Z Z (eN (zV ?_))
 have hE:=nA bi;first | subst r | cases hE
 exact ⟨Z,_,(ZS Z),ap,_,bb,Z,Z⟩
theorem wFz (p0:wAW) (w:World) (U:PHeap) (hS:St0 w U [])  {r:wAC} (hm:wDt p0=some r):Gv Tryz.prog 34 [.agg #[jV p0.Skier,jV p0.Mat]] w (wCW w [] U (fun U_ L_ v=>v=.agg #[jV r.skier,jV r.mat]/\L_=[])):=by
 unfold wDt at hm
 refine Gv.of Tryz.func34 Z Tryz.ntmps34 Tryz.results34 Z (sR gCx Z ?_)
 let B0:List Value:=[jV p0.Skier,jV p0.Mat]
 refine ZK (cs:=B0) rfl rfl rfl rfl rfl rfl (by rfl) hS ?_
 intro W1 b2 aq
 refine zW (cs:=[jV 0,jV 0]) Z Z Z Z Z zh Z aq ?_
 intro W5 b6 ae
 refine eN (sR (wDh (.fx 5 .nil .stop)) Z (oR Z (zH Z Z Tryz.runUnderlying57 Z zC) (oL Z (ae.ldB (j:=1) Z Z Z zE (v:=jV p0.Skier) Z) (oR Z (zH Z Z Tryz.runUnderlying57 Z zC) (oL Z (ae.ldB (j:=1) Z Z Z zE (v:=jV p0.Mat) Z) (oR Z (zt (pv:=[(0,jV p0.Skier),(1,jV p0.Mat)]) (z:=[jV 0,jV 0]) (cs:=B0) Z (wAB Z (wAB Z wAT)) zh wBo Z Z) (zY (j:=0) (vs:=B0) Z Z Z Z ae Z Z Z Z zF (zA Z) Z Z Z ?_)))))))
 intro W9 ap
 have ai:sW w U U [.blk b6 95 B0,.blk b2 57 B0] W9:=ap
 refine eN (zV ?_)
 cases hm
 exact ⟨rfl,_,(wKL (v:=.agg B0.toArray) ⟨⟨_,rfl,(wBX zg zF (ai.blkAt (k:=0) rfl) (vs:=B0) rfl rfl)⟩,trivial⟩),U,_,(ai.pick [] _ (by decide) rfl),rfl,rfl⟩
theorem wFa (p0:wAj) (aX:Nat) (bb:Option Addr) (bi:Nat) (bd:Option Addr) (bj:Nat) (be:Option Addr) (bk:Nat) (bg:Option Addr) (bm:Nat) (ab:Nat) (ae:Array MapEntry) (ai:Nat) (bh:Option Addr) (bn:Nat) (p1:wAC) (p2:wAC) (w:World) (U:PHeap) (hS:St0 w U [.blk aX 146 [.slice bb p0.Race.Starts.length bi,.slice bd p0.Race.Splits.length bj,.slice be p0.Race.Clocks.length bk,.slice bg p0.Race.Readings.length bm,.map (some ab),.slice bh p0.edges.length bn],.obj ab (.map ae ai)]) (cj:Sl U 1 bb bi p0.Race.Starts.length (hH KL.encI p0.Race.Starts)) (cm:Sl U 2 bd bj p0.Race.Splits.length (hH wAL p0.Race.Splits)) (cn:Sl U 3 be bk p0.Race.Clocks.length (hH wAA p0.Race.Clocks)) (cp:Sl U 4 bg bm p0.Race.Readings.length (hH wAJ p0.Race.Readings)) (bo:MpR ae wBO wBR p0.number) (cq:Sl U 7 bh bn p0.edges.length (hH wAY p0.edges)) {r:wAG} (hm:wBl p0 p1 p2=some r):Gv Tryz.prog 33 [.pointer (some ⟨aX,0,none⟩),.agg #[jV p1.skier,jV p1.mat],.agg #[jV p2.skier,jV p2.mat]] w (wCW w [.blk aX 146 [.slice bb p0.Race.Starts.length bi,.slice bd p0.Race.Splits.length bj,.slice be p0.Race.Clocks.length bk,.slice bg p0.Race.Readings.length bm,.map (some ab),.slice bh p0.edges.length bn],.obj ab (.map ae ai)] U (fun U_ L_ v=>v=.agg #[jV r.Lo,jV r.Hi]/\L_=[.blk aX 146 [.slice bb p0.Race.Starts.length bi,.slice bd p0.Race.Splits.length bj,.slice be p0.Race.Clocks.length bk,.slice bg p0.Race.Readings.length bm,.map (some ab),.slice bh p0.edges.length bn],.obj ab (.map ae ai)])):=by
 unfold wBl at hm
 refine Gv.of Tryz.func33 Z Tryz.ntmps33 Tryz.results33 Z (sR (.fx 0 gDb .stop) Z ?_)
 let B0:List Value:=[jV p1.skier,jV p1.mat]
 refine ZK (cs:=B0) rfl rfl rfl rfl rfl rfl (by rfl) hS ?_
 intro W3 b4 eG
 let B1:List Value:=[jV p2.skier,jV p2.mat]
 refine ZK (cs:=B1) rfl rfl rfl rfl rfl rfl (by rfl) eG ?_
 intro W7 b8 eQ
 let B2:List Value:=[jV 0,jV 0]
 refine zW (cs:=B2) Z Z Z Z Z Zj Z eQ ?_
 intro cS ap d5
 refine eN ?_
 have q:=bnd hm
 obtain ⟨⟨ba,ct⟩,fb,dt⟩:=q
 try dsimp only at dt
 let B3:Res:=.blk aX 146 [.slice bb p0.Race.Starts.length bi,.slice bd p0.Race.Splits.length bj,.slice be p0.Race.Clocks.length bk,.slice bg p0.Race.Readings.length bm,.map (some ab),.slice bh p0.edges.length bn]
 refine yA (fun σ_ w_=>∃ (U_:PHeap) (bE:Nat) (bu:Option Addr) (bw:Nat) (bC:Option Addr) (bG:Nat),σ_ 0=.pointer (some ⟨aX,0,none⟩)/\σ_ 4=.pointer (some ⟨b4,0,none⟩)/\σ_ 5=.pointer (some ⟨b8,0,none⟩)/\σ_ 6=.pointer (some ⟨ap,0,none⟩)/\σ_ 7=.pointer (some ⟨bE,0,none⟩)/\PHeap.Le U U_/\SW w [B3,.obj ab (.map ae ai)] U U_ [B3,.obj ab (.map ae ai),.blk ap 53 B2,.blk b8 95 B1,.blk b4 95 B0,.blk bE 148 [.slice bu ba.length bw,.slice bC ct.length bG],.row bu bw 3 1 (hH KL.encI ba),.row bC bG 3 1 (hH KL.encI ct)] w_) ?_ ?_
 have q:=bnd fb
 obtain ⟨⟨x26,dv,dw⟩,dl,cD⟩:=q
 try dsimp only at cD
 refine zx zr [3,3,3,3,1,1,1,0,3,3,3,3,2,0,3,3] (wJK (.fx 7 (wKF gDn) (.fx 12 (.fx 7 (wKF gDj) (.stop)) (.stop)))) (by kernel_rfl) ?_
 have bA:=d5.drew
 generalize hw_W54:({ cS with drawn:=cS.drawn + 1 }:World)=cX at bA ⊢
 refine oM Z Z (oM Z Z (oR Z (Zb Z Z) (oR Z (zH Z Z ZE Z Zq) (oL Z (bA.ldB (j:=3) Z Z Z Zy (v:=.map (some ab)) Z) (oL Z (bA.ldBA (j:=2) Z Z Z zg zF (vs:=B0) Z Z) (oL Z (bA.lookup1 (j:=4) (mk:=wBO) (mv:=wBR) (a:=p1) (z:=0) Z Z Z Z (wBu ZD) wDG ZG bo) (zk ?_ ?_)))))))
 have eH:SW w [B3,.obj ab (.map ae ai)] U U [B3,.obj ab (.map ae ai),.blk ap 53 B2,.blk b8 95 B1,.blk b4 95 B0] cX:=bA.pick [3,4,0,1,2] _ (by decide) rfl
 refine zM 2 Z Z Z Z (zK Z Z Tryz.call61 (zB Z (zB Z (zB Z zP))) Z) eH (fun hs=>wBa p0 aX bb bi bd bj be bk bg bm ab ae ai bh bn (wAw p0.number p1 0) false cX U hs cj cm cn cp bo cq dl) (.inl Z) ?_
 rintro cz fm fG dE ff eI ⟨bN,bZ,bO,cb,rfl,rfl⟩
 let B4:Res:=.row bN bZ 3 1 (hH KL.encI x26.far)
 let B5:Res:=.row bO cb 3 1 (hH KL.encI x26.by_)
 have eJ:SW w [B3,.obj ab (.map ae ai)] U cz [B4,B5,B3,.obj ab (.map ae ai),.blk ap 53 B2,.blk b8 95 B1,.blk b4 95 B0] dE:=eI
 refine oM Z Z (oR Z (zl Z Z (v:=.agg #[.slice bN x26.far.length bZ,.slice bO x26.by_.length cb]) Z) (oR Z (zl Z Z (v:=jV dv) Z) (oR Z (zl Z Z (v:=.bool dw) Z) (zW (cs:=[.slice none 0 0,.slice none 0 0]) Z Z Z Z Z Zc Z eJ ?_))))
 intro fz da eK
 let B6:List Value:=[.slice bN x26.far.length bZ,.slice bO x26.by_.length cb]
 refine zY (j:=0) (vs:=B6) Z Z Z Z eK Z Z Z Z Zr (zA Z) Z Z Z ?_
 intro dF eL
 have eM:SW w [B3,.obj ab (.map ae ai)] U cz [.blk da 148 B6,B4,B5,B3,.obj ab (.map ae ai),.blk ap 53 B2,.blk b8 95 B1,.blk b4 95 B0] dF:=eL
 refine oA Z Z (oA Z Z (zX ?_))
 cases cD
 exact zG ⟨rfl,⟨cz,da,bN,bZ,bO,cb,rfl,rfl,rfl,rfl,rfl,ff,(eM.pick [3,4,5,6,7,0,1,2] _ (by decide) rfl)⟩⟩
 let B7:List Value:=[.slice none 0 0,.slice none 0 0]
 refine zW (cs:=B7) Z Z Z Z Z Zc Z bA ?_
 intro cY bS eO
 have eU:SW w [B3,.obj ab (.map ae ai)] U U [B3,.obj ab (.map ae ai),.blk bS 148 B7,.blk ap 53 B2,.blk b8 95 B1,.blk b4 95 B0] cY:=eO.pick [4,5,0,1,2,3] _ (by decide) rfl
 refine zM 2 Z Z Z Z (zK Z Z Tryz.call61 (zB Z (zB Z (zB Z zP))) Z) eU (fun hs=>wBa p0 aX bb bi bd bj be bk bg bm ab ae ai bh bn (wAw p0.number p1 0) false cY U hs cj cm cn cp bo cq dl) (.inl Z) ?_
 rintro cA fq fH dG fg dV ⟨bH,bT,bI,bU,rfl,rfl⟩
 let B8:Res:=.row bH bT 3 1 (hH KL.encI x26.far)
 let B9:Res:=.row bI bU 3 1 (hH KL.encI x26.by_)
 have dW:SW w [B3,.obj ab (.map ae ai)] U cA [B8,B9,B3,.obj ab (.map ae ai),.blk bS 148 B7,.blk ap 53 B2,.blk b8 95 B1,.blk b4 95 B0] dG:=dV
 refine oM Z Z (oR Z (zl Z Z (v:=.agg #[.slice bH x26.far.length bT,.slice bI x26.by_.length bU]) Z) (oR Z (zl Z Z (v:=jV dv) Z) (oR Z (zl Z Z (v:=.bool dw) Z) ?_)))
 let cE:List Value:=[.slice bH x26.far.length bT,.slice bI x26.by_.length bU]
 refine zY (j:=4) (vs:=cE) Z Z Z Z dW Z Z Z Z Zr (zA Z) Z Z Z ?_
 intro dx dX
 have dY:SW w [B3,.obj ab (.map ae ai)] U cA [B8,B9,B3,.obj ab (.map ae ai),.blk bS 148 cE,.blk ap 53 B2,.blk b8 95 B1,.blk b4 95 B0] dx:=dX
 refine oA Z Z (oA Z Z (zX ?_))
 cases cD
 exact zG ⟨rfl,⟨cA,bS,bH,bT,bI,bU,rfl,rfl,rfl,rfl,rfl,fg,(dY.pick [2,3,5,6,7,4,0,1] _ (by decide) rfl)⟩⟩
 rintro fJ cU ⟨bP,bE,bu,bw,bC,bG,cd,db,cB,de,df,aY,dZ⟩
 have q:=bnd dt
 obtain ⟨⟨aZ,cr⟩,eZ,dr⟩:=q
 try dsimp only at dr
 let bp:Res:=.blk bE 148 [.slice bu ba.length bw,.slice bC ct.length bG]
 let bq:Res:=.row bu bw 3 1 (hH KL.encI ba)
 let br:Res:=.row bC bG 3 1 (hH KL.encI ct)
 refine yA (fun σ_ w_=>∃ (U_:PHeap) (bQ:Nat) (bt:Option Addr) (bv:Nat) (bB:Option Addr) (bF:Nat),σ_ 0=.pointer (some ⟨aX,0,none⟩)/\σ_ 4=.pointer (some ⟨b4,0,none⟩)/\σ_ 5=.pointer (some ⟨b8,0,none⟩)/\σ_ 6=.pointer (some ⟨ap,0,none⟩)/\σ_ 7=.pointer (some ⟨bE,0,none⟩)/\σ_ 10=.pointer (some ⟨bQ,0,none⟩)/\PHeap.Le bP U_/\SW w [B3,.obj ab (.map ae ai)] U U_ [B3,.obj ab (.map ae ai),.blk ap 53 B2,.blk b8 95 B1,.blk b4 95 B0,bq,br,bp,.blk bQ 148 [.slice bt aZ.length bv,.slice bB cr.length bF],.row bt bv 3 1 (hH KL.encI aZ),.row bB bF 3 1 (hH KL.encI cr)] w_) ?_ ?_
 have q:=bnd eZ
 obtain ⟨⟨aU,du,x147⟩,dk,cC⟩:=q
 try dsimp only at cC
 refine zx zr [3,3,3,3,1,1,1,0,3,3,3,3,2,0,3,3] (wJK (.fx 7 (wKF gDn) (.fx 12 (.fx 7 (wKF gDj) (.stop)) (.stop)))) (by kernel_rfl) ?_
 have bz:=dZ.drew
 generalize hw_W172:({ cU with drawn:=cU.drawn + 1 }:World)=dy at bz ⊢
 refine oM Z cd (oM Z cd (oR Z (Zb Z Z) (oR Z (zH Z Z ZE Z Zq) (oL Z (bz.ldB (j:=0) Z Z Z Zy (v:=.map (some ab)) Z) (oL Z (bz.ldBA (j:=3) Z Z cB zg zF (vs:=B1) Z Z) (oL Z (bz.lookup1 (j:=1) (mk:=wBO) (mv:=wBR) (a:=p2) (z:=0) Z Z Z Z (wBu ZD) wDG ZG bo) (zk ?_ ?_)))))))
 have dL:=cj.le aY
 have dM:=cm.le aY
 have dN:=cn.le aY
 have dO:=cp.le aY
 have dP:=cq.le aY
 refine zM 2 Z Z Z Z (zK Z Z Tryz.call61 (zB Z (zB Z (zB Z zP))) Z) bz (fun hs=>wBa p0 aX bb bi bd bj be bk bg bm ab ae ai bh bn (wAw p0.number p2 0) false dy bP hs dL dM dN dO bo dP dk) (.inl Z) ?_
 rintro cx fh fD dz fc d7 ⟨bJ,bV,bK,bW,rfl,rfl⟩
 let cG:Res:=.row bJ bV 3 1 (hH KL.encI aU.far)
 let cH:Res:=.row bK bW 3 1 (hH KL.encI aU.by_)
 have d9:SW w [B3,.obj ab (.map ae ai)] U cx [cG,cH,B3,.obj ab (.map ae ai),.blk ap 53 B2,.blk b8 95 B1,.blk b4 95 B0,bp,bq,br] dz:=d7
 refine oM Z Z (oR Z (zl Z Z (v:=.agg #[.slice bJ aU.far.length bV,.slice bK aU.by_.length bW]) Z) (oR Z (zl Z Z (v:=jV du) Z) (oR Z (zl Z Z (v:=.bool x147) Z) (zW (cs:=[.slice none 0 0,.slice none 0 0]) Z Z Z Z Z Zc Z d9 ?_))))
 intro ft cZ ec
 let cI:List Value:=[.slice bJ aU.far.length bV,.slice bK aU.by_.length bW]
 refine zY (j:=0) (vs:=cI) Z Z Z Z ec Z Z Z Z Zr (zA Z) Z Z Z ?_
 intro dA ef
 have eg:SW w [B3,.obj ab (.map ae ai)] U cx [.blk cZ 148 cI,cG,cH,B3,.obj ab (.map ae ai),.blk ap 53 B2,.blk b8 95 B1,.blk b4 95 B0,bp,bq,br] dA:=ef
 refine oA Z Z (oA Z Z (zX ?_))
 cases cC
 exact zG ⟨rfl,⟨cx,cZ,bJ,bV,bK,bW,cd,db,cB,de,df,rfl,fc,(eg.pick [3,4,5,6,7,9,10,8,0,1,2] _ (by decide) rfl)⟩⟩
 let cu:List Value:=[.slice none 0 0,.slice none 0 0]
 refine zW (cs:=cu) Z Z Z Z Z Zc Z bz ?_
 intro cV bR eh
 have dQ:=cj.le aY
 have dR:=cm.le aY
 have dS:=cn.le aY
 have dT:=cp.le aY
 have dU:=cq.le aY
 have en:SW w [B3,.obj ab (.map ae ai)] U bP [B3,.obj ab (.map ae ai),.blk bR 148 cu,.blk ap 53 B2,.blk b8 95 B1,.blk b4 95 B0,bp,bq,br] cV:=eh.pick [1,2,0,3,4,5,6,7,8] _ (by decide) rfl
 refine zM 2 Z Z Z Z (zK Z Z Tryz.call61 (zB Z (zB Z (zB Z zP))) Z) en (fun hs=>wBa p0 aX bb bi bd bj be bk bg bm ab ae ai bh bn (wAw p0.number p2 0) false cV bP hs dQ dR dS dT bo dU dk) (.inl Z) ?_
 rintro cy fj fE dB fd eu ⟨bL,bX,bM,bY,rfl,rfl⟩
 let cJ:Res:=.row bL bX 3 1 (hH KL.encI aU.far)
 let cK:Res:=.row bM bY 3 1 (hH KL.encI aU.by_)
 have ez:SW w [B3,.obj ab (.map ae ai)] U cy [cJ,cK,B3,.obj ab (.map ae ai),.blk bR 148 cu,.blk ap 53 B2,.blk b8 95 B1,.blk b4 95 B0,bp,bq,br] dB:=eu
 refine oM Z Z (oR Z (zl Z Z (v:=.agg #[.slice bL aU.far.length bX,.slice bM aU.by_.length bY]) Z) (oR Z (zl Z Z (v:=jV du) Z) (oR Z (zl Z Z (v:=.bool x147) Z) ?_)))
 let cL:List Value:=[.slice bL aU.far.length bX,.slice bM aU.by_.length bY]
 refine zY (j:=4) (vs:=cL) Z Z Z Z ez Z Z Z Z Zr (zA Z) Z Z Z ?_
 intro dC eA
 have eD:SW w [B3,.obj ab (.map ae ai)] U cy [cJ,cK,B3,.obj ab (.map ae ai),.blk bR 148 cL,.blk ap 53 B2,.blk b8 95 B1,.blk b4 95 B0,bp,bq,br] dC:=eA
 refine oA Z Z (oA Z Z (zX ?_))
 cases cC
 exact zG ⟨rfl,⟨cy,bR,bL,bX,bM,bY,cd,db,cB,de,df,rfl,fd,(eD.pick [2,3,5,6,7,9,10,8,4,0,1] _ (by decide) rfl)⟩⟩
 rintro fK cW ⟨cR,bQ,bt,bv,bB,bF,dg,dH,dI,dh,dJ,dK,fC,eE⟩
 refine zI (zx zr [3,1,3,3,3,1,1,1,3,1,3,3,1,3,3,3,1,1,1,3,1,3,0] (wUN (.fx 22 .nil .stop)) (by kernel_rfl) ?_)
 have az:=eE.drew
 generalize hw_W258:({ cW with drawn:=cW.drawn + 1 }:World)=fu at az ⊢
 refine oR Z (zH Z dK ZO Z zq) (oL Z (az.ldB (j:=8) Z Z Z zw (v:=.slice bt aZ.length bv) Z) (oM Z dg (oR Z (Zb Z Z) (oR Z (zH Z Z ZE Z Zq) (oL Z (az.ldB (j:=0) Z Z Z Zy (v:=.map (some ab)) Z) (oL Z (az.ldBA (j:=4) Z Z dH zg zF (vs:=B0) Z Z) (oL Z (az.lookup1 (j:=1) (mk:=wBO) (mv:=wBR) (a:=p1) (z:=0) Z Z Z Z (wBu ZD) wDG ZG bo) (bnK dr fun _ cf eX=>?_))))))))
 obtain ⟨fA,dm⟩:=az.rowSome (j:=9) rfl (by rw [wAF (f:=KL.encI) (sz:=1) (fun _=>rfl) aZ];have hz:=wAP cf;omega)
 refine oR Z (zm Z Z dm Z zD zC (wAp cf) (wAq cf)) ?_
 have eV:=wAy (xs:=aZ) (wAP cf)
 refine ZF rfl rfl rfl rfl (az.ldR (j:=9) rfl dm rfl rfl zE (wAR (sz:=1) (fun _=>rfl) _ _ 0 _ eV (by first | omega | rfl | simp) rfl)) rfl (zZ rfl rfl rfl rfl (fun _=>Runs.negw rfl rfl) (zZ rfl rfl rfl rfl (fun _=>zH rfl dJ ZO rfl zq) (ZF rfl rfl rfl rfl (az.ldB (j:=7) rfl rfl rfl zw (v:=.slice bu ba.length bw) rfl) rfl (zN rfl rfl rfl rfl rfl dg (zZ rfl rfl rfl rfl (fun _=>Zb rfl rfl) (zZ rfl rfl rfl rfl (fun _=>zH rfl rfl ZE rfl Zq) (ZF rfl rfl rfl rfl (az.ldB (j:=0) rfl rfl rfl Zy (v:=.map (some ab)) rfl) rfl (ZF rfl rfl rfl rfl (az.ldBA (j:=3) rfl rfl dI zg zF (vs:=B1) rfl rfl) rfl (ZF rfl rfl rfl rfl (az.lookup1 (j:=1) (mk:=wBO) (mv:=wBR) (a:=p2) (z:=0) rfl rfl rfl rfl (wBu ZD) wDG ZG bo) rfl (bnK eX fun _ ci eY=>?_))))))))))
 obtain ⟨fB,dp⟩:=az.rowSome (j:=5) rfl (by rw [wAF (f:=KL.encI) (sz:=1) (fun _=>rfl) ba];have hz:=wAP ci;omega)
 refine oR Z (zm Z Z dp Z zD zC (wAp ci) (wAq ci)) ?_
 have eW:=wAy (xs:=ba) (wAP ci)
 refine ZF rfl rfl rfl rfl (az.ldR (j:=5) rfl dp rfl rfl zE (wAR (sz:=1) (fun _=>rfl) _ _ 0 _ eW (by first | omega | rfl | simp) rfl)) rfl ?_
 let bD:List Value:=[jV (w64 (-(gd aZ (wAw p0.number p1 0).toNat))),jV (gd ba (wAw p0.number p2 0).toNat)]
 refine oR Z (zt (pv:=[(0,jV (w64 (-(gd aZ (wAw p0.number p1 0).toNat)))),(1,jV (gd ba (wAw p0.number p2 0).toNat))]) (z:=B2) (cs:=bD) Z (wAB Z (wAB Z wAT)) Zj wEz Z Z) (zY (j:=2) (vs:=bD) Z Z Z Z az Z dh Z Z ZN (zA Z) Z Z Z ?_)
 intro dD eF
 have dq:SW w [B3,.obj ab (.map ae ai)] U cR [B3,.obj ab (.map ae ai),.blk ap 53 bD,.blk b8 95 B1,.blk b4 95 B0,bq,br,bp,.blk bQ 148 [.slice bt aZ.length bv,.slice bB cr.length bF],.row bt bv 3 1 (hH KL.encI aZ),.row bB bF 3 1 (hH KL.encI cr)] dD:=eF
 refine eN (zV ?_)
 cases eY
 exact ⟨rfl,_,(wKL (v:=.agg bD.toArray) ⟨⟨_,dh,(wBX yR ZN (dq.blkAt (k:=2) rfl) (vs:=bD) rfl rfl)⟩,trivial⟩),cR,_,(dq.pick [0,1] _ (by decide) rfl),rfl,rfl⟩
end Go.Proofs.YtkedcbligiebkaaGreat
namespace Go.Proofs.YtkedcbligiebkaaGreat
open Go.KL
set_option maxHeartbeats 4000000
theorem wMY (p0:wAD) (bk:Option Addr) (bp:Nat) (bm:Option Addr) (bq:Nat) (bn:Option Addr) (br:Nat) (bo:Option Addr) (bt:Nat) (p1:wAW) (p2:wAW) (w:World) (U:PHeap) (hS:St0 w U []) (dw:Sl U 1 bk bp p0.Starts.length (hH KL.encI p0.Starts)) (dx:Sl U 2 bm bq p0.Splits.length (hH wAL p0.Splits)) (dy:Sl U 3 bn br p0.Clocks.length (hH wAA p0.Clocks)) (dz:Sl U 4 bo bt p0.Readings.length (hH wAJ p0.Readings)) {r:wAG × Int} (hm:wEP p0 p1 p2=some r):Gv Tryz.prog 13 [.agg #[.slice bk p0.Starts.length bp,.slice bm p0.Splits.length bq,.slice bn p0.Clocks.length br,.slice bo p0.Readings.length bt],.agg #[jV p1.Skier,jV p1.Mat],.agg #[jV p2.Skier,jV p2.Mat]] w (wCW w [] U (fun U_ L_ v=>v=.tuple #[.agg #[jV r.1.Lo,jV r.1.Hi],jV r.2]/\L_=[])):=by
 unfold wEP at hm
 refine Gv.of Tryz.func13 Z Tryz.ntmps13 Tryz.results13 Z (sR (.fx 0 (.fx 1 gDi .stop) .stop) Z ?_)
 let B0:List Value:=[.slice bk p0.Starts.length bp,.slice bm p0.Splits.length bq,.slice bn p0.Clocks.length br,.slice bo p0.Readings.length bt]
 refine ZK (cs:=B0) rfl rfl rfl rfl rfl rfl (by rfl) hS ?_
 intro W1 b2 dp
 let B1:List Value:=[jV p1.Skier,jV p1.Mat]
 refine ZK (cs:=B1) rfl rfl rfl rfl rfl rfl (by rfl) dp ?_
 intro W5 b6 dq
 let B2:List Value:=[jV p2.Skier,jV p2.Mat]
 refine ZK (cs:=B2) rfl rfl rfl rfl rfl rfl (by rfl) dq ?_
 intro W9 ap cY
 let B3:List Value:=[jV 0,jV 0]
 refine zW (cs:=B3) Z Z Z Z Z Zj Z cY ?_
 intro dT aq bg
 refine oA Z Z (eN (sR (wEU (.fx 3 (.fx 4 (wMw (.nil)) .stop) .stop)) Z (oL Z (bg.ldBA (j:=3) Z Z Z ZH zu (vs:=B0) Z Z) (oL Z (bg.ldBA (j:=2) Z Z Z yj yG (vs:=B1) Z Z) (oL Z (bg.ldBA (j:=1) Z Z Z yj yG (vs:=B2) Z Z) (zz (pv:=[(0,.agg B1.toArray),(1,.agg B2.toArray)]) (zs:=[jV 0,jV 0,jV 0,jV 0]) (cs:=[jV p1.Skier,jV p1.Mat,jV p2.Skier,jV p2.Mat]) Z Z Z Z Z (wAB Z (wAB Z wAT)) Tryz.runUnderlying151 yG yb Z Z Z Z Z bg ?_))))))
 intro bw bO dh
 have dk:sW w U U [.row (some ⟨bO,0,none⟩) 2 57 2 (hH wCM [p1,p2]),.blk aq 53 B3,.blk ap 57 B2,.blk b6 57 B1,.blk b2 28 B0] bw:=dh
 have q:=dk.freezeR (k:=0) (n:=[p1,p2].length) rfl (wAF (f:=wCM) (sz:=2) (fun _=>rfl) [p1,p2]) (by decide)
 obtain ⟨bJ,bj,dJ,dl⟩:=q
 have dm:sW w U bJ [.blk aq 53 B3,.blk ap 57 B2,.blk b6 57 B1,.blk b2 28 B0] bw:=dl
 have cI:=dw.le bj
 have cJ:=dx.le bj
 have cK:=dy.le bj
 have cL:=dz.le bj
 have q:=bnd hm
 obtain ⟨⟨dK,bu⟩,cM,ba⟩:=q
 try dsimp only at ba
 refine zM 0 Z Z Z Z (zK Z Z Tryz.call32 (zB Z (zB Z zP)) Z) dm (fun hs=>wGc p0 bk bp bm bq bn br bo bt [p1,p2] (some ⟨bO,0,none⟩) 2 bw bJ hs cI cJ cK cL dJ cM) (.inr Z) ?_
 rintro az dP ef aY dY bX bU
 rcases dK with _ | aZ
 try dsimp only at ba
 obtain ⟨rfl,rfl⟩:=bU
 have bY:sW w U az [.blk aq 53 B3,.blk ap 57 B2,.blk b6 57 B1,.blk b2 28 B0] aY:=bX
 refine oM Z Z (oR Z (zl Z Z (v:=.pointer none) Z) (oR Z (zl Z Z (v:=jV bu) Z) (oA Z Z (oA Z Z (eN (zI (sR fL2 Z (oM Z Z (oR Z (yC Z Z Z) (eN (ifc ba ?_ ?_)))))))))))
 intro bA dE
 refine zo (ZQ (fun h=>h bA.out)) (kN (zI (zx zr [3,1,2,1,2,0,0,3] gDv (by kernel_rfl) ?_)))
 have bh:=bY.drew
 generalize hw_W61:({ aY with drawn:=aY.drawn + 1 }:World)=cn at bh ⊢
 refine oM Z Z (oL Z (bh.ldBA (j:=2) Z Z Z yj yG (vs:=B1) Z Z) (oL Z (bh.ldBA (j:=1) Z Z Z yj yG (vs:=B2) Z Z) (bnK dE fun en cN dF=>zM 0 Z Z Z Z (zK Z Z Tryz.call34 (zB Z zP) Z) bh (fun hs=>wFz p1 cn az hs cN) (.inr Z) ?_)))
 rintro bK dQ eg bN dZ dr ⟨rfl,rfl⟩
 have dt:sW w U bK [.blk aq 53 B3,.blk ap 57 B2,.blk b6 57 B1,.blk b2 28 B0] bN:=dr
 refine bnK dF fun eu cO dG=>zM 0 Z Z Z Z (zK Z Z Tryz.call34 (zB Z zP) Z) dt (fun hs=>wFz p2 bN bK hs cO) (.inr Z) ?_
 rintro cf dR eh cp d5 du ⟨rfl,rfl⟩
 have dW:sW w U cf [.blk aq 53 B3,.blk ap 57 B2,.blk b6 57 B1,.blk b2 28 B0] cp:=du
 cases dG
 intro bA dH
 refine cT Z bA (sR gDl Z (oR Z (zt (pv:=[]) (z:=B3) (cs:=B3) Z wAT Zj wEz Z Z) (oM Z Z (zY (j:=0) (vs:=B3) Z Z Z Z bY Z Z Z Z ZN (zA Z) Z Z Z ?_))))
 intro cq dv
 have bZ:sW w U az [.blk aq 53 B3,.blk ap 57 B2,.blk b6 57 B1,.blk b2 28 B0] cq:=dv
 refine oA Z Z (eN (zV (zR ?_)))
 cases dH
 exact ⟨rfl,_,(wEV (rs:=[.cell 6 53,.tmp 7]) (vs:=[.agg B3.toArray,jV bu]) ⟨⟨_,rfl,(wBX yR ZN (bZ.blkAt (k:=0) rfl) (vs:=B3) rfl rfl)⟩,⟨rfl,trivial⟩⟩ rfl),az,_,(bZ.pick [] _ (by decide) rfl),rfl,rfl⟩
 try dsimp only at ba
 obtain ⟨bz,bC,bP,bD,bQ,bE,bR,bF,bS,aU,aW,aV,bG,bT,rfl,rfl,cP,cQ,cR,cS,cU,cV⟩:=bU
 let B4:Res:=.blk bz 146 [.slice bC aZ.Race.Starts.length bP,.slice bD aZ.Race.Splits.length bQ,.slice bE aZ.Race.Clocks.length bR,.slice bF aZ.Race.Readings.length bS,.map (some aU),.slice bG aZ.edges.length bT]
 have cb:sW w U az [B4,.obj aU (.map aW aV),.blk aq 53 B3,.blk ap 57 B2,.blk b6 57 B1,.blk b2 28 B0] aY:=bX
 refine oM Z Z (oR Z (zl Z Z (v:=.pointer (some ⟨bz,0,none⟩)) Z) (oR Z (zl Z Z (v:=jV bu) Z) (oA Z Z (oA Z Z (eN (zI (sR fL2 Z (oM Z Z (oR Z (yC Z Z Z) (eN (ifc ba ?_ ?_)))))))))))
 intro bB dI
 refine zo (ZQ (fun h=>h bB.out)) (kN (zI (zx zr [3,1,2,1,2,0,0,3] gDv (by kernel_rfl) ?_)))
 have bi:=cb.drew
 generalize hw_W98:({ aY with drawn:=aY.drawn + 1 }:World)=cr at bi ⊢
 refine oM Z Z (oL Z (bi.ldBA (j:=4) Z Z Z yj yG (vs:=B1) Z Z) (oL Z (bi.ldBA (j:=3) Z Z Z yj yG (vs:=B2) Z Z) (bnK dI fun dL ct dA=>zM 0 Z Z Z Z (zK Z Z Tryz.call34 (zB Z zP) Z) bi (fun hs=>wFz p1 cr az hs ct) (.inr Z) ?_)))
 rintro bH dM d7 bL bb cW ⟨rfl,rfl⟩
 have cX:sW w U bH [B4,.obj aU (.map aW aV),.blk aq 53 B3,.blk ap 57 B2,.blk b6 57 B1,.blk b2 28 B0] bL:=cW
 refine bnK dA fun x109 cu dB=>zM 0 Z Z Z Z (zK Z Z Tryz.call34 (zB Z zP) Z) cX (fun hs=>wFz p2 bL bH hs cu) (.inr Z) ?_
 rintro bI dN d9 bM bd cZ ⟨rfl,rfl⟩
 have da:sW w U bI [B4,.obj aU (.map aW aV),.blk aq 53 B3,.blk ap 57 B2,.blk b6 57 B1,.blk b2 28 B0] bM:=cZ
 have cw:=cP.le bb
 have cx:=cw.le bd
 have cy:=cQ.le bb
 have cz:=cy.le bd
 have cA:=cR.le bb
 have cB:=cA.le bd
 have cC:=cS.le bb
 have cD:=cC.le bd
 have cE:=cV.le bb
 have cG:=cE.le bd
 refine bnK dB fun cd cH dC=>zM 2 Z Z Z Z (zK Z Z Tryz.call33 (zB Z (zB Z (zB Z zP))) Z) da (fun hs=>wFa aZ bz bC bP bD bQ bE bR bF bS aU aW aV bG bT dL x109 bM bI hs cx cz cB cD cU cG cH) (.inl Z) ?_
 rintro bv dO ec ci dX db ⟨rfl,rfl⟩
 have de:sW w U bv [B4,.obj aU (.map aW aV),.blk aq 53 B3,.blk ap 57 B2,.blk b6 57 B1,.blk b2 28 B0] ci:=db
 let B5:List Value:=[jV cd.Lo,jV cd.Hi]
 refine zY (j:=2) (vs:=B5) Z Z Z Z de Z Z Z Z ZN (zA Z) Z Z Z ?_
 intro cj df
 have bV:sW w U bv [B4,.obj aU (.map aW aV),.blk aq 53 B5,.blk ap 57 B2,.blk b6 57 B1,.blk b2 28 B0] cj:=df
 refine oA Z Z (eN (zV ?_))
 cases dC
 exact ⟨rfl,_,(wEV (rs:=[.cell 6 53,.tmp 7]) (vs:=[.agg B5.toArray,jV 0]) ⟨⟨_,rfl,(wBX yR ZN (bV.blkAt (k:=2) rfl) (vs:=B5) rfl rfl)⟩,⟨rfl,trivial⟩⟩ rfl),bv,_,(bV.pick [] _ (by decide) rfl),rfl,rfl⟩
 intro bB dD
 refine cT Z bB (sR gDl Z (oR Z (zt (pv:=[]) (z:=B3) (cs:=B3) Z wAT Zj wEz Z Z) (oM Z Z (zY (j:=2) (vs:=B3) Z Z Z Z cb Z Z Z Z ZN (zA Z) Z Z Z ?_))))
 intro cm dg
 have bW:sW w U az [B4,.obj aU (.map aW aV),.blk aq 53 B3,.blk ap 57 B2,.blk b6 57 B1,.blk b2 28 B0] cm:=dg
 refine oA Z Z (eN (zV (zR ?_)))
 cases dD
 exact ⟨rfl,_,(wEV (rs:=[.cell 6 53,.tmp 7]) (vs:=[.agg B3.toArray,jV bu]) ⟨⟨_,rfl,(wBX yR ZN (bW.blkAt (k:=2) rfl) (vs:=B3) rfl rfl)⟩,⟨rfl,trivial⟩⟩ rfl),az,_,(bW.pick [] _ (by decide) rfl),rfl,rfl⟩
theorem wFE (w:World) (U:PHeap) (hS:St0 w U []) {r:Bool} (hm:wCc=some r):Gv Tryz.prog 14 [] w (wCW w [] U (fun U_ L_ v=>v=.bool r/\L_=[])):=by
 cases hm
 refine (xr14 w).mono ?_
 rintro v w' ⟨rfl,k⟩
 exact ⟨U,[],hS.grow k,Z,Z⟩
theorem wEi (p0:List Int) (dK:Option Addr) (dM:Nat) (w:World) (U:PHeap) (hS:St0 w U []) (mu:Sl U 1 dK dM p0.length (hH KL.encB8 p0)) {r:Bool} (hm:wBn p0=some r):Gv Tryz.prog 3 [.slice dK p0.length dM] w (wCW w [] U (fun U_ L_ v=>v=.bool r/\L_=[])):=by
 unfold wBn at hm
 refine Gv.of Tryz.func3 Z Tryz.ntmps3 Tryz.results3 Z (sR fL1 Z (oA Z Z (eN (sR (.fl 0 (.fx 1 (.fx 2 (wSY (.fx 7 (.fx 8 (.fl 9 (.fl 10 .nil)) .stop) .stop)) .stop) .stop)) Z (oM Z Z (bnK hm fun x1 h2 mQ=>zM 0 Z Z Z Z (zK Z Z Tryz.call6 (zB Z zP) Z) hS (fun hs=>wHa p0 dK dM w U hs mu h2) (.inr Z) ?_))))))
 rintro U4 L5 v6 W7 qu ms ⟨cY,dR,eg,rfl,rfl,jg⟩
 have lE:sW w U U4 [.blk cY 81 [.slice dR x1.bytes.length eg,jV x1.next,.int .u32 x1.state]] W7:=ms
 have q:=bnd mQ
 obtain ⟨⟨aa,au,ge,dO⟩,ji,fM⟩:=q
 try dsimp only at fM
 refine zM 1 Z Z Z Z (zK Z Z Tryz.call5 (zB Z (zB Z (zB Z (zB Z zP)))) Z) lE (fun hs=>wFY x1 cY dR eg 6 5 14 W7 U4 hs jg ji) (.inl Z) ?_
 rintro cA pH qG gG qq lX ⟨bQ,bU,bG,bM,bR,bV,bS,bW,cf,cj,dT,eu,gm,gS,rfl,rfl,j5,qk⟩
 let B0:Res:=.blk cY 81 [.slice gm dO.bytes.length gS,jV dO.next,.int .u32 dO.state]
 let B1:Res:=.row bS bW 78 4 (hH wAJ aa.Readings)
 let B2:Res:=.row bR bV 76 3 (hH wAA aa.Clocks)
 let B3:Res:=.row bG bM 53 2 (hH wAL aa.Splits)
 let B4:Res:=.row bQ bU 3 1 (hH KL.encI aa.Starts)
 let B5:Res:=.row dT eu 3 1 (hH KL.encI ge)
 have mf:sW w U cA [B4,B3,B2,B1,B5,B0] gG:=lX
 refine oM Z Z (oR Z (zl Z Z (v:=.agg #[.slice bQ aa.Starts.length bU,.slice bG aa.Splits.length bM,.slice bR aa.Clocks.length bV,.slice bS aa.Readings.length bW]) Z) (oR Z (zl Z Z (v:=.slice cf au.length cj) Z) (oR Z (zl Z Z (v:=.slice dT ge.length eu) Z) (zW (cs:=[.slice none 0 0,.slice none 0 0,.slice none 0 0,.slice none 0 0]) Z Z Z Z Z Tryz.zeroValue28 Z mf ?_))))
 intro pS ab mi
 let B6:List Value:=[.slice bQ aa.Starts.length bU,.slice bG aa.Splits.length bM,.slice bR aa.Clocks.length bV,.slice bS aa.Readings.length bW]
 refine zY (j:=0) (vs:=B6) Z Z Z Z mi Z Z Z Z zu (zA Z) Z Z Z ?_
 intro gK mj
 have fJ:sW w U cA [.blk ab 28 B6,B4,B3,B2,B1,B5,B0] gK:=mj
 refine oA Z Z (oA Z Z (eN (sR fL4 Z (oR Z (zH Z Z zQ Z yF) (oL Z (fJ.ldB (j:=0) Z Z Z yQ (v:=.slice bG aa.Splits.length bM) Z) (oR Z (ZA Z Z ZY) (oA Z Z (eN (sR fL1 Z (oA Z Z (eN (zI (sR fL3 Z (oM Z Z (oR Z (ZA Z Z ZV) (oM Z Z (eN (zU (bnK fM fun dQ mB oO=>?_)))))))))))))))))))
 have q:=wBS mB
 obtain ⟨dH,mC⟩:=q
 replace dH:=zJ dH
 refine CK.forN' (fun bg cq σ_ w_=>∃ (U_:PHeap) (cx:Option Addr) (cD:Nat),σ_ 37=jV (↑bg:Int)/\σ_ 3=.pointer (some ⟨ab,0,none⟩)/\σ_ 4=.slice cf au.length cj/\σ_ 6=jV (↑aa.Splits.length:Int)/\σ_ 7=.slice cx cq.length cD/\σ_ 35=.slice cf au.length cj/\σ_ 36=jV (↑au.length:Int)/\PHeap.Le cA U_/\sW w U U_ [B4,B3,B2,B1,.blk ab 28 B6,B0,.row cx cD 36 2 (hH wAm cq)] w_) mC ?_ ?_ ?_
 have mr:=fJ.nilrow 36 2
 exact ⟨cA,none,0,rfl,rfl,rfl,rfl,rfl,rfl,rfl,(zL _),(mr.pick [2,3,4,5,1,7,0] _ (by decide) rfl)⟩
 rintro bg cq qT ri pV dE ⟨cB,cx,cD,cI,i7,i8,eQ,i9,eU,eV,fW,dA⟩ o8
 have eA:Hid ((↑bg:Int) < (↑au.length:Int)):=zJ (wBP dE)
 replace dE:=zJ dE
 have fK:Hid (w64 ((↑bg:Int) + 1)=(↑(bg + 1):Int)):=zJ (by have h1:=dH.out;have h2:=eA.out;rw [wAa] <;> omega)
 refine sR fL1 Z (oR Z (zO Z cI eV) (eN (zI (cT Z eA (kN (zI (zU (sR fL5 Z (oM Z cI (bnK o8 fun x100 eW mG=>?_))))))))))
 have jd:=j5.le fW
 have q:=jd.el (wAi eW)
 obtain ⟨gN,pj,qN,j9,dx,oP⟩:=q
 obtain ⟨fY,fZ,rfl,je⟩:=oP
 replace dx:Cl cB gN (pj + bg * 1) [.slice fY x100.length fZ]:=dx
 refine oR Z (Zp Z eU j9 cI ZV zq (wCv eW)) (oL Z (dA.ldC (f:=0) dx (v:=.slice fY x100.length fZ) Z Z zw Z) (oA Z Z (oA Z Z (eN (rR (wUH (.fx 8 (.fx 9 (.fl 10 .nil) .stop) .stop)) Z (oM Z i9 (oM Z Z (oR Z (ZR (zS Z Z Z) (congrArg (jV) fK.out)) (oM Z Z (oM Z eQ (bnK mG fun bZ eX mH=>?_)))))))))))
 have q:=je.el (fun _=>rfl) (wAi eX)
 obtain ⟨pW,qv,k9,lp⟩:=q
 refine oR Z (Zp Z Z k9 Z zD zC (wCv eX)) (oL Z (dA.ldC (f:=0) lp (v:=jV bZ) Z Z zE Z) ?_)
 let B7:List Value:=[jV (↑(bg + 1):Int),jV bZ]
 refine oR Z (zt (pv:=[(0,jV (↑(bg + 1):Int)),(1,jV bZ)]) (z:=[jV 0,jV 0]) (cs:=B7) Z (wAB Z (wAB Z wAT)) yi wPi Z Z) (zz (pv:=[(0,.agg B7.toArray)]) (zs:=[jV 0,jV 0]) (cs:=B7) Z Z Z Z Z (wAB Z wAT) Ze Zk yi Z Z Z Z Z dA ?_)
 intro gD gO lA
 let B8:Res:=.row (some ⟨gO,0,none⟩) 1 36 2 (hH wAm [(⟨(↑(bg + 1):Int),bZ⟩:wAI)])
 have fD:sW w U cB [B8,B4,B3,B2,B1,.blk ab 28 B6,B0,.row cx cD 36 2 (hH wAm cq)] gD:=lA
 refine bnK mH fun ga jf mI=>Zv (j:=7) (enc:=wAm) (xs:=cq) (ys:=[(⟨(↑(bg + 1):Int),bZ⟩:wAI)]) (zs:=ga) rfl rfl rfl rfl rfl Tryz.underlying34 wTn rfl rfl rfl rfl rfl rfl fD rfl rfl rfl (fD.srcR (j:=0) rfl (by decide) (wAF (f:=wAm) (sz:=2) (fun _=>rfl) [(⟨(↑(bg + 1):Int),bZ⟩:wAI)])) (fun _=>rfl) (fun _=>rfl) jf rfl ?_
 intro dS eh gE lB
 have lC:sW w U cB [B8,B4,B3,B2,B1,.blk ab 28 B6,B0,.row dS eh 36 2 (hH wAm ga)] gE:=lB
 refine oA Z Z (zX (zj (zG (rR fL2 Z (oR Z (ZR (zS Z cI Z) (congrArg (jV) fK.out)) (oM Z Z (zX ?_)))))))
 cases mI
 exact zG ⟨rfl,⟨cB,dS,eh,rfl,i7,i8,eQ,rfl,eU,eV,fW,(lC.pick [1,2,3,4,5,6,7] _ (by decide) rfl)⟩⟩
 rintro qU d9 ⟨pO,gj,gQ,ja,dh,ig,dk,ii,qa,ij,qm,lD⟩
 have gR:Hid (¬ ((↑(((↑au.length:Int):Int) - 0).toNat:Int) < (↑au.length:Int))):=zJ (wAv)
 refine sR fL1 Z (oR Z (zO Z ja ij) (eN (zI (cF Z gR (ZP (zd (zd (ZJ (zG (sR (.fl 0 (.fl 1 (.fx 2 (wQG (.fx 6 (.fx 7 (.fl 8 .nil) .stop) .stop)) .stop))) Z (oM Z ii ?_)))))))))))
 let B9:List Value:=[jV 0,jV 0]
 refine oR Z (zt (pv:=[(0,jV 1),(1,jV 360000)]) (z:=B9) (cs:=[jV 1,jV 360000]) Z (wAB Z (wAB Z wAT)) Tryz.zeroValue42 wPj Z Z) ?_
 have q:=lD.freezeR (k:=6) (n:=dQ.length) rfl (wAF (f:=wAm) (sz:=2) (fun _=>rfl) dQ) (by decide)
 obtain ⟨dW,qn,oW,lF⟩:=q
 have lG:sW w U dW [B4,B3,B2,B1,.blk ab 28 B6,B0] d9:=lF
 have q:=bnd oO
 obtain ⟨⟨aW,gb⟩,jh,fL⟩:=q
 try dsimp only at fL
 refine zM 0 Z Z Z Z (zK Z Z Tryz.call7 (zB Z (zB Z zP)) Z) lG (fun hs=>wHc dQ gj gQ (⟨1,360000⟩:wAZ) d9 dW hs oW jh) (.inr Z) ?_
 rintro dX pF qE gF qo lH ⟨aY,bb,rfl,rfl⟩
 let bk:Res:=.row aY bb 49 3 (hH wBA aW)
 have lI:sW w U dX [bk,B4,B3,B2,B1,.blk ab 28 B6,B0] gF:=lH
 refine oM Z Z (oR Z (zl Z Z (v:=.slice aY aW.length bb) Z) (oR Z (zl Z Z (v:=jV gb) Z) (zW (cs:=[.slice none 0 0]) Z Z Z Z Z Tryz.zeroValue37 Z lI ?_)))
 intro pP ak lJ
 let ba:List Value:=[.slice aY aW.length bb]
 refine zY (j:=0) (vs:=ba) Z Z Z Z lJ Z Z Z Z Tryz.sizeOf37 (zA Z) Z Z Z ?_
 intro bT lK
 have fE:sW w U dX [.blk ak 37 ba,bk,B4,B3,B2,B1,.blk ab 28 B6,B0] bT:=lK
 refine oA Z Z (eN (sR (.fl 0 (.fl 1 (.fx 2 (wQH (.nil)) .stop))) Z (oL Z (fE.ldBA (j:=6) Z Z dh ZH zu (vs:=B6) Z Z) (oM Z dk ?_))))
 have q:=fE.freezeR (k:=2) (n:=aa.Starts.length) rfl (wAF (f:=KL.encI) (sz:=1) (fun _=>rfl) aa.Starts) (by decide)
 obtain ⟨gq,qp,o0,lL⟩:=q
 have lM:sW w U gq [.blk ak 37 ba,bk,B3,B2,B1,.blk ab 28 B6,B0] bT:=lL
 have q:=lM.freezeR (k:=2) (n:=aa.Splits.length) rfl (wAF (f:=wAL) (sz:=2) (fun _=>rfl) aa.Splits) (by decide)
 obtain ⟨gt,pg,o3,lN⟩:=q
 have lO:sW w U gt [.blk ak 37 ba,bk,B2,B1,.blk ab 28 B6,B0] bT:=lN
 have q:=lO.freezeR (k:=2) (n:=aa.Clocks.length) rfl (wAF (f:=wAA) (sz:=3) (fun _=>rfl) aa.Clocks) (by decide)
 obtain ⟨gu,fV,o5,lP⟩:=q
 have lQ:sW w U gu [.blk ak 37 ba,bk,B1,.blk ab 28 B6,B0] bT:=lP
 have q:=lQ.freezeR (k:=2) (n:=aa.Readings.length) rfl (wAF (f:=wAJ) (sz:=4) (fun _=>rfl) aa.Readings) (by decide)
 obtain ⟨dY,dI,fS,lR⟩:=q
 have lS:sW w U dY [.blk ak 37 ba,bk,.blk ab 28 B6,B0] bT:=lR
 have jj:=o0.le pg
 have jk:=jj.le fV
 have eY:=jk.le dI
 have jl:=o3.le fV
 have eZ:=jl.le dI
 have fb:=o5.le dI
 have q:=bnd fL
 obtain ⟨⟨bO,gf⟩,jm,fN⟩:=q
 try dsimp only at fN
 refine zM 0 Z Z Z Z (zK Z Z Tryz.call8 (zB Z (zB Z zP)) Z) lS (fun hs=>wJo aa bQ bU bG bM bR bV bS bW (↑aa.Splits.length:Int) bT dY hs eY eZ fb fS jm) (.inr Z) ?_
 rintro gv pG qF cU cL lT ⟨bF,bJ,fc,rfl,rfl⟩
 have lU:sW w U gv [.row bF bJ 23 1 (hH wFo fc),inn 3 1 KL.encI fc bO,.blk ak 37 ba,bk,.blk ab 28 B6,B0] cU:=lT
 have q:=St.freezeN (R:=wRt) lU (fun _ _ _ _ h=>⟨_,_,rfl,h⟩) (fun _=>rfl) (by decide) rfl
 obtain ⟨dZ,cM,o6,lV⟩:=q
 have fG:sW w U dZ [.blk ak 37 ba,bk,.blk ab 28 B6,B0] cU:=lV
 refine oM Z Z (oR Z (zl Z Z (v:=.slice bF bO.length bJ) Z) (oR Z (zl Z Z (v:=jV gf) Z) (oA Z Z (oA Z Z (eN (sR (.fl 0 (.fl 1 (.fx 2 (wQH (.nil)) .stop))) Z (oL Z (fG.ldBA (j:=2) Z Z dh ZH zu (vs:=B6) Z Z) (oM Z dk ?_))))))))
 have jo:=eY.le cL
 have fd:=jo.le cM
 have jp:=eZ.le cL
 have ff:=jp.le cM
 have jq:=fb.le cL
 have fg:=jq.le cM
 have jr:=fS.le cL
 have fh:=jr.le cM
 have q:=bnd fN
 obtain ⟨⟨cb,gg⟩,jt,fO⟩:=q
 try dsimp only at fO
 refine zM 0 Z Z Z Z (zK Z Z Tryz.call9 (zB Z (zB Z zP)) Z) fG (fun hs=>wJA aa bQ bU bG bM bR bV bS bW (↑aa.Splits.length:Int) cU dZ hs fd ff fg fh jt) (.inr Z) ?_
 rintro bH pI qH cV cr lW ⟨cw,cC,rfl,rfl⟩
 let cQ:Res:=.row cw cC 53 2 (hH wAL cb)
 have bz:sW w U bH [cQ,.blk ak 37 ba,bk,.blk ab 28 B6,B0] cV:=lW
 refine oM Z Z (oR Z (zl Z Z (v:=.slice cw cb.length cC) Z) (oR Z (zl Z Z (v:=jV gg) Z) (oA Z Z (oA Z Z (eN (zI (zI (yh fun bu bi=>?_))))))))
 have ik:bu 3=.pointer (some ⟨ab,0,none⟩):=(bi 3).trans dh
 have cE:bu 4=.slice cf au.length cj:=(bi 4).trans ig
 have il:bu 6=jV (↑aa.Splits.length:Int):=(bi 6).trans dk
 have cG:bu 10=.pointer (some ⟨ak,0,none⟩):=(bi 10).trans rfl
 have im:bu 11=jV gb:=(bi 11).trans rfl
 have eD:bu 12=.slice bF bO.length bJ:=(bi 12).trans rfl
 have io:bu 13=jV gf:=(bi 13).trans rfl
 have eE:bu 14=.slice cw cb.length cC:=(bi 14).trans rfl
 have ip:bu 15=jV gg:=(bi 15).trans rfl
 clear bi
 refine rR fL31 Z (oM Z im (oR Z (yC Z Z Z) (oM Z Z (ifc fO ?_ ?_))))
 intro bK mJ
 refine zN Z Z Z (ze Z Z (ZQ (fun h=>h bK.out))) Z io (zZ Z Z Z (ze Z Z (ZQ (fun h=>h bK.out))) (fun _=>yC Z Z Z) (oR Z (zn Z (ZQ (fun h=>h bK.out)) Z) (oM Z Z (ifc mJ ?_ ?_))))
 intro bL mK
 refine zN Z Z Z (ze Z Z (ZQ (fun h=>h bL.out))) Z ip (zZ Z Z Z (ze Z Z (ZQ (fun h=>h bL.out))) (fun _=>yC Z Z Z) (oR Z (zn Z (ZQ (fun h=>h bL.out)) Z) (oM Z Z (ifc mK ?_ ?_))))
 intro av mL
 refine ZF Z Z Z (ze Z Z (ZQ (fun h=>h av.out))) (bz.ldB (j:=1) Z Z cG Tryz.isAgg37 (v:=.slice aY aW.length bb) Z) Z (zZ Z Z Z (ze Z Z (ZQ (fun h=>h av.out))) (fun _=>ZA Z Z yB) (zN Z Z Z (ze Z Z (ZQ (fun h=>h av.out))) Z cE (zZ Z Z Z (ze Z Z (ZQ (fun h=>h av.out))) (fun _=>ZA Z Z ZV) (zZ Z Z Z (ze Z Z (ZQ (fun h=>h av.out))) (fun _=>yC Z Z Z) (oR Z (zn Z (ZQ (fun h=>h av.out)) Z) (oM Z Z (ifc mL ?_ ?_)))))))
 intro az mM
 refine zN Z Z Z (ze Z Z (ZQ (fun h=>h az.out))) Z eD (zZ Z Z Z (ze Z Z (ZQ (fun h=>h az.out))) (fun _=>ZA Z Z ZV) (zN Z Z Z (ze Z Z (ZQ (fun h=>h az.out))) Z cE (zZ Z Z Z (ze Z Z (ZQ (fun h=>h az.out))) (fun _=>ZA Z Z ZV) (zZ Z Z Z (ze Z Z (ZQ (fun h=>h az.out))) (fun _=>yC Z Z Z) (oR Z (zn Z (ZQ (fun h=>h az.out)) Z) (oM Z Z (ifc mM ?_ ?_)))))))
 intro aU mN
 refine zN Z Z Z (ze Z Z (ZQ (fun h=>h aU.out))) Z eE (zZ Z Z Z (ze Z Z (ZQ (fun h=>h aU.out))) (fun _=>ZA Z Z ZY) (zN Z Z Z (ze Z Z (ZQ (fun h=>h aU.out))) Z cE (zZ Z Z Z (ze Z Z (ZQ (fun h=>h aU.out))) (fun _=>ZA Z Z ZV) (zZ Z Z Z (ze Z Z (ZQ (fun h=>h aU.out))) (fun _=>yC Z Z Z) (oR Z (zn Z (ZQ (fun h=>h aU.out)) Z) (eN (ifc mN ?_ ?_)))))))
 intro da mO
 refine zo (ZQ (fun h=>h da.out)) (kN (sR fL2 Z ?_))
 have q:=bz.freezeR (k:=2) (n:=aW.length) rfl (wAF (f:=wBA) (sz:=3) (fun _=>rfl) aW) (by decide)
 obtain ⟨gw,ct,o7,lZ⟩:=q
 have l4:sW w U gw [cQ,.blk ak 37 ba,.blk ab 28 B6,B0] cV:=lZ
 have q:=l4.freeze (k:=1) rfl
 obtain ⟨bI,bY,bX,lY⟩:=q
 replace bX:=Cl.of bX
 have bA:sW w U bI [cQ,.blk ab 28 B6,B0] cV:=lY
 replace bX:Cl bI ak 0 ba:=bX
 refine oR Z (Runs.mkf Z zP (zB cG zP)) (oA Z Z (eN (sR fL6 Z (oL Z (bA.ldC (f:=0) bX (v:=.slice aY aW.length bb) Z cG Tryz.isAgg37 Z) (bnK mO fun bD fj mP=>?_)))))
 have fm:=o7.le bY
 have q:=fm.el (fun _=>rfl) (wAi fj)
 obtain ⟨pX,qw,lc,lq⟩:=q
 refine oR Z (Zp Z Z lc Z yB ye (wCv fj)) (oR Z (zH Z Z yV Z zC) (oL Z (bA.ldC (f:=0) lq (v:=jV bD.Bib) Z Z zE Z) (oR Z (ZX Z Z Z) (oA Z Z (eN (zI (zI (yh fun bE bt=>?_))))))))
 have iq:bE 3=.pointer (some ⟨ab,0,none⟩):=(bt 3).trans ik
 have eF:bE 4=.slice cf au.length cj:=(bt 4).trans cE
 have ir:bE 6=jV (↑aa.Splits.length:Int):=(bt 6).trans il
 have it:bE 10=.pointer (some ⟨ak,0,none⟩):=(bt 10).trans cG
 have iu:bE 12=.slice bF bO.length bJ:=(bt 12).trans eD
 have iv:bE 14=.slice cw cb.length cC:=(bt 14).trans eE
 have iw:bE 16=.func (.func 10) #[] #[.pointer (some ⟨ak,0,none⟩)]:=(bt 16).trans rfl
 have cH:bE 17=jV (w64 (bD.Bib - 1)):=(bt 17).trans rfl
 clear bt
 refine rR fL16 Z (oM Z cH (oR Z (zO Z Z Z) (oM Z Z (ifc mP ?_ ?_))))
 intro bd mR
 refine oT Z bd (oT Z bd (oT Z bd (oT Z bd (oR Z (zf Z (Zd bd.out) Z) (oM Z Z (oN Z (oN Z (oN Z (oN Z (oN Z (oN Z (oR Z (zf Z Z Z) (eN (ZI Z (sR fL1 Z (oA Z Z (eN (zV (zR ?_)))))))))))))))))))
 have hE:=nA mR;first | subst r | cases hE
 exact ⟨rfl,_,(ZS rfl),bI,_,(bA.pick [] _ (by decide) rfl),rfl,rfl⟩
 intro bd mS
 refine zN Z Z Z (wF Z bd) Z cH (zN Z Z Z (wF Z bd) Z eF (rU Z (wF Z bd) (ZA Z Z ZV) (rU Z (wF Z bd) (Runs.geq Z Z Z) (oR Z (zn Z (ZQ bd.out) Z) (oM Z Z (ifc mS ?_ ?_))))))
 intro aq mT
 refine oT Z aq (oT Z aq (oT Z aq (oT Z aq (oT Z aq (oT Z aq (oR Z (zf Z (Zd aq.out) Z) (eN (ZI Z (sR fL1 Z (oA Z Z (eN (zV (zR ?_)))))))))))))
 have hE:=nA mT;first | subst r | cases hE
 exact ⟨rfl,_,(ZS rfl),bI,_,(bA.pick [] _ (by decide) rfl),rfl,rfl⟩
 intro aq mU
 refine zN Z Z Z (wF Z aq) Z iv (zN Z Z Z (wF Z aq) Z cH (bnK mU fun _ cK mV=>?_))
 obtain ⟨pY,fC⟩:=bA.rowSome (j:=0) rfl (by rw [wAF (f:=wAL) (sz:=2) (fun _=>rfl) cb];have hz:=wAP cK;omega)
 refine rU Z (wF Z aq) (zm Z Z fC Z ZY ZN (wAp cK) (wAq cK)) (rU Z (wF Z aq) (zH Z Z ZL Z zC) ?_)
 have mD:=wAy (xs:=cb) (wAP cK)
 refine ZF rfl rfl rfl (ze rfl rfl (ZQ aq.out)) (bA.ldR (j:=0) rfl fC rfl rfl zE (wAR (sz:=2) (fun _=>rfl) _ _ 0 _ mD (by first | omega | rfl | simp) rfl)) rfl (zZ rfl rfl rfl (ze rfl rfl (ZQ aq.out)) (fun _=>yC rfl rfl rfl) (zZ rfl rfl rfl rfl (fun _=>zn rfl (ZQ aq.out) rfl) (eN (ifc mV ?_ ?_))))
 intro db br
 refine zo (ZQ (fun h=>h db.out)) (kN (zI (sR fL3 Z (oM Z eF (oR Z (ZA Z Z ZV) (oM Z Z (eN (zU ?_))))))))
 have q:=wCQ br
 obtain ⟨qC,bq⟩:=q
 have q:=wCP bq
 obtain ⟨dF,mz⟩:=q
 replace dF:=zJ dF
 refine yX (fun aV _ σ_ w_=>∃ (U_:PHeap),σ_ 126=jV (↑aV:Int)/\σ_ 3=.pointer (some ⟨ab,0,none⟩)/\σ_ 6=jV (↑aa.Splits.length:Int)/\σ_ 10=.pointer (some ⟨ak,0,none⟩)/\σ_ 12=.slice bF bO.length bJ/\σ_ 16=.func (.func 10) #[] #[.pointer (some ⟨ak,0,none⟩)]/\σ_ 17=jV (w64 (bD.Bib - 1))/\σ_ 125=jV (↑au.length:Int)/\PHeap.Le bI U_/\sW w U U_ [.blk ab 28 B6,B0] w_) mz ?_ ?_ ?_
 exact ⟨bI,rfl,iq,ir,it,iu,iw,cH,rfl,(zL _),(bA.pick [1,2] _ (by decide) rfl)⟩
 rintro aV ⟨⟩ qR qV gH dC ⟨gz,dr,eG,dl,dm,iz,eH,eI,eJ,bB,l5⟩ fT bN
 try dsimp only at fT
 have en:Hid ((↑aV:Int) < (↑au.length:Int)):=zJ (wBP dC)
 replace dC:=zJ dC
 have mE:Hid (w64 ((↑aV:Int) + 1)=(↑(aV + 1):Int)):=zJ (by have h1:=dF.out;have h2:=en.out;rw [wAa] <;> omega)
 refine sR fL1 Z (oR Z (zO Z dr eJ) (eN (zI (cT Z en (kN (zI (zU (sR fL2 Z (oM Z dr (oA Z Z (eN (sR gDl Z (oM Z eH (oM Z Z ?_))))))))))))))
 have fq:=bX.le bB
 have ft:=fm.le bB
 refine bnK fT fun gh ju mW=>zM 0 Z Z Z Z (zK Z Z Tryz.call10 (zB Z zP) Z) l5 (fun hs=>wCt (↑aV:Int) aW ak aY bb gH gz hs fq ft ju) (.inr Z) ?_
 rintro cS pJ qI ec bC l6 ⟨rfl,rfl⟩
 have dz:sW w U cS [.blk ab 28 B6,B0] ec:=l6
 refine oA Z Z (eN (zI (sR fL2 Z (oM Z Z (oR Z (zO Z Z Z) (eN (ifc mW ?_ ?_)))))))
 intro de mX
 refine cT Z de (sR fL1 Z (oA Z Z (eN (zV (zR (zi (zR ?_)))))))
 have q:=wAb mX
 obtain ⟨pm,mY,gW⟩:=q
 have q:=wBf br bq (bN pm gW)
 obtain rfl:=q
 refine zR (zi (zR ?_))
 have hE:=nA mY;first | subst r | cases hE
 exact ⟨rfl,_,(ZS rfl),cS,_,(dz.pick [] _ (by decide) rfl),rfl,rfl⟩
 intro de mZ
 refine cF Z de (kN (sR (wJK (.fx 7 (wQs (.fx 11 (.fx 12 (.fl 13 .nil) .stop) .stop)) .stop)) Z (oL Z (dz.ldBA (j:=0) Z Z eG ZH zu (vs:=B6) Z Z) (oM Z eI (oM Z dl (oR Z (zt (pv:=[(0,jV (w64 (bD.Bib - 1))),(1,jV (↑aa.Splits.length:Int))]) (z:=B9) (cs:=[jV (w64 (bD.Bib - 1)),jV (↑aa.Splits.length:Int)]) Z (wAB Z (wAB Z wAT)) yb wGo Z Z) (oM Z Z (oM Z dl (oR Z (zt (pv:=[(0,jV (↑aV:Int)),(1,jV (↑aa.Splits.length:Int))]) (z:=B9) (cs:=[jV (↑aV:Int),jV (↑aa.Splits.length:Int)]) Z (wAB Z (wAB Z wAT)) yb wGo Z Z) ?_)))))))))
 have jv:=fd.le cr
 have jw:=jv.le ct
 have jx:=jw.le bY
 have jy:=jx.le bB
 have jz:=jy.le bC
 have jA:=ff.le cr
 have jB:=jA.le ct
 have jC:=jB.le bY
 have jD:=jC.le bB
 have jE:=jD.le bC
 have jG:=fg.le cr
 have jH:=jG.le ct
 have jJ:=jH.le bY
 have jK:=jJ.le bB
 have jL:=jK.le bC
 have jM:=fh.le cr
 have jN:=jM.le ct
 have jO:=jN.le bY
 have jP:=jO.le bB
 have jQ:=jP.le bC
 have q:=bnd mZ
 obtain ⟨⟨cd,pD⟩,jR,fP⟩:=q
 try dsimp only at fP
 refine zM 0 Z Z Z Z (zK Z Z Tryz.call13 (zB Z (zB Z (zB Z zP))) Z) dz (fun hs=>wMY aa bQ bU bG bM bR bV bS bW (⟨w64 (bD.Bib - 1),(↑aa.Splits.length:Int)⟩:wAW) (⟨(↑aV:Int),(↑aa.Splits.length:Int)⟩:wAW) ec cS hs jz jE jL jQ jR) (.inr Z) ?_
 rintro bw pK qJ gI cN ma ⟨rfl,rfl⟩
 have mb:sW w U bw [.blk ab 28 B6,B0] gI:=ma
 refine oM Z Z (oR Z (zl Z Z (v:=.agg #[jV cd.Lo,jV cd.Hi]) Z) (oR Z (zl Z Z (v:=jV pD) Z) (zW (cs:=B9) Z Z Z Z Z Zj Z mb ?_)))
 intro pQ cZ mc
 let cy:List Value:=[jV cd.Lo,jV cd.Hi]
 refine zY (j:=0) (vs:=cy) Z Z Z Z mc Z Z Z Z ZN (zA Z) Z Z Z ?_
 intro cW md
 have me:sW w U bw [.blk cZ 53 cy,.blk ab 28 B6,B0] cW:=md
 refine yK rfl rfl rfl rfl rfl rfl (eN (zI (zI (zx zr [3,3,3,1,3,3,3,1,3,1,3,3,3,1,3,3,3,1,3,1,3,3] fL22 (by kernel_rfl) ?_))))
 have aX:=me.drew
 generalize hw_W396:({ cW with drawn:=cW.drawn + 1 }:World)=pR at aX ⊢
 refine oM Z Z (oR Z (yC Z Z Z) (oM Z Z (ifc fP ?_ ?_)))
 intro am m4
 have jS:=fq.le bC
 have du:=jS.le cN
 refine ZF Z Z Z (ze Z Z (ZQ (fun h=>h am.out))) (aX.ldC (f:=0) du (v:=.slice aY aW.length bb) Z dm Tryz.isAgg37 Z) Z (zN Z Z Z (ze Z Z (ZQ (fun h=>h am.out))) Z Z (bnK m4 fun dP bo m5=>?_))
 have jU:=ft.le bC
 have dv:=jU.le cN
 have q:=dv.el (fun _=>rfl) (wAi bo)
 obtain ⟨pZ,qx,lf,lu⟩:=q
 refine zZ Z Z Z (ze Z Z (ZQ (fun h=>h am.out))) (fun _=>zm Z Z lf Z yB ye (wBt bo) (wBv bo)) (zZ Z Z Z (ze Z Z (ZQ (fun h=>h am.out))) (fun _=>zH Z Z yV Z zC) (ZF Z Z Z (ze Z Z (ZQ (fun h=>h am.out))) (aX.ldC (f:=1) lu (v:=jV dP.Time) Z Z zE Z) Z (zZ Z Z Z (ze Z Z (ZQ (fun h=>h am.out))) (fun _=>zH Z Z ZL Z zC) (ZF Z Z Z (ze Z Z (ZQ (fun h=>h am.out))) (aX.ldB (j:=0) Z Z Z zE (v:=jV cd.Lo) Z) Z (zZ Z Z Z (ze Z Z (ZQ (fun h=>h am.out))) (fun _=>zO Z Z Z) (oR Z (zn Z (ZQ (fun h=>h am.out)) Z) (oM Z Z (ifc m5 ?_ ?_))))))))
 intro ap m6
 refine oT Z ap (oT Z ap (oT Z ap (oT Z ap (oT Z ap (oT Z ap (oT Z ap (oT Z ap (oR Z (zf Z (Zd ap.out) Z) (eN (ZI Z (zI (yh fun qW o9=>?_))))))))))))
 clear o9
 refine rR fL1 Z (oA Z Z (eN (zV (zR (zi (zR ?_))))))
 have q:=wAb m6
 obtain ⟨pn,m7,gX⟩:=q
 have q:=wBf br bq (bN pn gX)
 obtain rfl:=q
 refine zR (zi (zR ?_))
 have hE:=nA m7;first | subst r | cases hE
 exact ⟨rfl,_,(ZS rfl),bw,_,(aX.pick [] _ (by decide) rfl),rfl,rfl⟩
 intro ap m8
 refine ZF Z Z Z (wF Z ap) (aX.ldC (f:=0) du (v:=.slice aY aW.length bb) Z dm Tryz.isAgg37 Z) Z (zN Z Z Z (wF Z ap) Z Z ?_)
 have q:=dv.el (fun _=>rfl) (wAi bo)
 obtain ⟨p6,qy,lh,lv⟩:=q
 refine rU Z (wF Z ap) (zm Z Z lh Z yB ye (wBt bo) (wBv bo)) (rU Z (wF Z ap) (zH Z Z yV Z zC) (ZF Z Z Z (wF Z ap) (aX.ldC (f:=1) lv (v:=jV dP.Time) Z Z zE Z) Z (rU Z (wF Z ap) (zH Z Z ZL Z zC) (ZF Z Z Z (wF Z ap) (aX.ldB (j:=0) Z Z Z zE (v:=jV cd.Hi) Z) Z (rU Z (wF Z ap) (ya Z Z Z) (oR Z (zn Z (ZQ ap.out) Z) (eN (ifc m8 ?_ ?_))))))))
 intro df m9
 refine cT Z df (zI (yh fun qX pe=>?_))
 clear pe
 refine rR fL1 Z (oA Z Z (eN (zV (zR (zi (zR ?_))))))
 have q:=wAb m9
 obtain ⟨po,n5,gZ⟩:=q
 have q:=wBf br bq (bN po gZ)
 obtain rfl:=q
 refine zR (zi (zR ?_))
 have hE:=nA n5;first | subst r | cases hE
 exact ⟨rfl,_,(ZS rfl),bw,_,(aX.pick [] _ (by decide) rfl),rfl,rfl⟩
 intro df n6
 refine cF Z df (kN (zI (yh fun bj be=>?_)))
 have iA:bj 3=.pointer (some ⟨ab,0,none⟩):=(be 3).trans eG
 have iB:bj 6=jV (↑aa.Splits.length:Int):=(be 6).trans dl
 have iC:bj 10=.pointer (some ⟨ak,0,none⟩):=(be 10).trans dm
 have eK:bj 12=.slice bF bO.length bJ:=(be 12).trans iz
 have iD:bj 16=.func (.func 10) #[] #[.pointer (some ⟨ak,0,none⟩)]:=(be 16).trans eH
 have iE:bj 17=jV (w64 (bD.Bib - 1)):=(be 17).trans eI
 have iF:bj 18=jV (↑aV:Int):=(be 18).trans rfl
 have iG:bj 19=jV gh:=(be 19).trans rfl
 have iH:bj 125=jV (↑au.length:Int):=(be 125).trans eJ
 have iI:bj 126=jV (↑aV:Int):=(be 126).trans dr
 clear be
 refine rR fL6 Z (oM Z eK (oM Z iF (bnK n6 fun bP fu cn=>?_)))
 have jW:=o6.le cr
 have jX:=jW.le ct
 have jY:=jX.le bY
 have jZ:=jY.le bB
 have j0:=jZ.le bC
 have j3:=j0.le cN
 have q:=j3.el (wAi fu)
 obtain ⟨gP,pk,qO,li,dy,oU⟩:=q
 obtain ⟨dL,dN,rfl,j4⟩:=oU
 replace dy:Cl bw gP (pk + aV * 1) [.slice dL bP.length dN]:=dy
 refine oR Z (Zp Z Z li Z ZV zq (wCv fu)) (oL Z (aX.ldC (f:=0) dy (v:=.slice dL bP.length dN) Z Z zw Z) (oR Z (ZA Z Z zD) (oM Z Z (eN (zU ?_)))))
 have q:=wCQ cn
 obtain ⟨qD,cm⟩:=q
 have q:=wCP cm
 obtain ⟨dG,mA⟩:=q
 replace dG:=zJ dG
 refine yX (fun cp _ σ_ w_=>∃ (U_:PHeap),σ_ 172=jV (↑cp:Int)/\σ_ 3=.pointer (some ⟨ab,0,none⟩)/\σ_ 6=jV (↑aa.Splits.length:Int)/\σ_ 10=.pointer (some ⟨ak,0,none⟩)/\σ_ 12=.slice bF bO.length bJ/\σ_ 16=.func (.func 10) #[] #[.pointer (some ⟨ak,0,none⟩)]/\σ_ 17=jV (w64 (bD.Bib - 1))/\σ_ 19=jV gh/\σ_ 125=jV (↑au.length:Int)/\σ_ 126=jV (↑aV:Int)/\σ_ 170=.slice dL bP.length dN/\σ_ 171=jV (↑bP.length:Int)/\PHeap.Le bw U_/\sW w U U_ [.blk cZ 53 cy,.blk ab 28 B6,B0] w_) mA ?_ ?_ ?_
 exact ⟨bw,Z,iA,iB,iC,eK,iD,iE,iG,iH,iI,Z,Z,(zL _),aX⟩
 rintro cp ⟨⟩ qS qY gJ dD ⟨gA,dt,iJ,iK,dp,iL,eL,iM,dq,iN,iO,eM,eO,cO,fH⟩ fU dB
 try dsimp only at fU
 have ez:Hid ((↑cp:Int) < (↑bP.length:Int)):=zJ (wBP dD)
 replace dD:=zJ dD
 have mF:Hid (w64 ((↑cp:Int) + 1)=(↑(cp + 1):Int)):=zJ (by have h1:=dG.out;have h2:=ez.out;rw [wAa] <;> omega)
 refine sR fL1 Z (oR Z (zO Z dt eO) (eN (zI (cT Z ez (kN (zI (zU (sR fL3 Z (bnK fU fun gi fw n7=>?_)))))))))
 have j6:=j4.le cO
 have q:=j6.el (fun _=>rfl) (wAi fw)
 obtain ⟨p7,qz,lj,lw⟩:=q
 refine oR Z (Zp Z eM lj dt zD zC (wCv fw)) (oL Z (fH.ldC (f:=0) lw (v:=jV gi) Z Z zE Z) (oA Z Z (eN (sR gDl Z (oM Z eL (oM Z Z ?_))))))
 have fy:=du.le cO
 have fz:=dv.le cO
 refine bnK n7 fun qP j7 n8=>zM 0 Z Z Z Z (zK Z Z Tryz.call10 (zB Z zP) Z) fH (fun hs=>wCt gi aW ak aY bb gJ gA hs fy fz j7) (.inr Z) ?_
 rintro ci pM qK cX dJ mg ⟨rfl,rfl⟩
 have mh:sW w U ci [.blk cZ 53 cy,.blk ab 28 B6,B0] cX:=mg
 refine yK rfl rfl rfl rfl rfl rfl (eN (zI (zx zr [3,3,3,3,3,3,3,3,1,3,3,3,1,1,3,3,3,1,3,3] fL20 (by kernel_rfl) ?_)))
 have bp:=mh.drew
 generalize hw_W510:({ cX with drawn:=cX.drawn + 1 }:World)=pT at bp ⊢
 refine oM Z Z (oR Z (zO Z Z Z) (oM Z Z (ifc n8 ?_ ?_)))
 intro bn n9
 refine oT Z bn (oT Z bn (oT Z bn (oR Z (zf Z (Zd bn.out) Z) (oM Z Z (oN Z (oN Z (oN Z (oN Z (oN Z (oN Z (oN Z (oN Z (oN Z (oN Z (oN Z (oR Z (zf Z Z Z) (eN (ZI Z (sR fL1 Z (oA Z Z (eN (zV (zi (zR ?_))))))))))))))))))))))))
 have q:=wAb n9
 obtain ⟨pp,oa,g6⟩:=q
 have q:=wBf cn cm (dB pp g6)
 obtain rfl:=q
 refine zR (zi (zi (zR ?_)))
 have q:=wAb oa
 obtain ⟨pq,oc,g7⟩:=q
 have q:=wBf br bq (bN pq g7)
 obtain rfl:=q
 refine zR (zi (zR ?_))
 have hE:=nA oc;first | subst r | cases hE
 exact ⟨rfl,_,(ZS rfl),ci,_,(bp.pick [] _ (by decide) rfl),rfl,rfl⟩
 intro bn od
 refine zN Z Z Z (wF Z bn) Z Z (zN Z Z Z (wF Z bn) Z dq (rU Z (wF Z bn) (Runs.geq Z Z Z) (oR Z (zn Z (ZQ bn.out) Z) (oM Z Z (ifc od ?_ ?_)))))
 intro ai oe
 refine oT Z ai (oT Z ai (oT Z ai (oT Z ai (oT Z ai (oT Z ai (oT Z ai (oT Z ai (oT Z ai (oT Z ai (oT Z ai (oR Z (zf Z (Zd ai.out) Z) (eN (ZI Z (sR fL1 Z (oA Z Z (eN (zV (zi (zR ?_)))))))))))))))))))
 have q:=wAb oe
 obtain ⟨pu,og,g8⟩:=q
 have q:=wBf cn cm (dB pu g8)
 obtain rfl:=q
 refine zR (zi (zi (zR ?_)))
 have q:=wAb og
 obtain ⟨py,oh,g9⟩:=q
 have q:=wBf br bq (bN py g9)
 obtain rfl:=q
 refine zR (zi (zR ?_))
 have hE:=nA oh;first | subst r | cases hE
 exact ⟨rfl,_,(ZS rfl),ci,_,(bp.pick [] _ (by decide) rfl),rfl,rfl⟩
 intro ai oi
 have fA:=fy.le dJ
 refine ZF Z Z Z (wF Z ai) (bp.ldC (f:=0) fA (v:=.slice aY aW.length bb) Z dp Tryz.isAgg37 Z) Z (zN Z Z Z (wF Z ai) Z Z (bnK oi fun pE dw oj=>?_))
 have fB:=fz.le dJ
 have q:=fB.el (fun _=>rfl) (wAi dw)
 obtain ⟨p8,qA,lm,lx⟩:=q
 refine rU Z (wF Z ai) (zm Z Z lm Z yB ye (wBt dw) (wBv dw)) (rU Z (wF Z ai) (zH Z Z yV Z zC) (ZF Z Z Z (wF Z ai) (bp.ldC (f:=1) lx (v:=jV pE.Time) Z Z zE Z) Z (ZF Z Z Z (wF Z ai) (bp.ldC (f:=0) fA (v:=.slice aY aW.length bb) Z dp Tryz.isAgg37 Z) Z (zN Z Z Z (wF Z ai) Z dq ?_))))
 have q:=fB.el (fun _=>rfl) (wAi bo)
 obtain ⟨p9,qB,ln,ly⟩:=q
 refine rU Z (wF Z ai) (zm Z Z ln Z yB ye (wBt bo) (wBv bo)) (rU Z (wF Z ai) (zH Z Z yV Z zC) (ZF Z Z Z (wF Z ai) (bp.ldC (f:=1) ly (v:=jV dP.Time) Z Z zE Z) Z (rU Z (wF Z ai) (Runs.geq Z Z Z) (oR Z (zn Z (ZQ ai.out) Z) (eN (ifc oj ?_ ?_))))))
 intro dg ol
 refine cT Z dg (sR fL1 Z (oA Z Z (eN (zV (zi (zR ?_))))))
 have q:=wAb ol
 obtain ⟨pz,om,ib⟩:=q
 have q:=wBf cn cm (dB pz ib)
 obtain rfl:=q
 refine zR (zi (zi (zR ?_)))
 have q:=wAb om
 obtain ⟨pB,oq,ic⟩:=q
 have q:=wBf br bq (bN pB ic)
 obtain rfl:=q
 refine zR (zi (zR ?_))
 have hE:=nA oq;first | subst r | cases hE
 exact ⟨rfl,_,(ZS rfl),ci,_,(bp.pick [] _ (by decide) rfl),rfl,rfl⟩
 intro dg ot
 refine cF Z dg (ZT (zj (zG (rR fL2 Z (oR Z (ZR (zS Z dt Z) (congrArg (jV) mF.out)) (oM Z Z (zX ?_)))))))
 have q:=nA ot
 obtain rfl:=q
 exact zG ⟨Z,_,Z,⟨ci,Z,iJ,iK,dp,iL,eL,iM,dq,iN,iO,eM,eO,(cO.trans dJ),bp⟩⟩
 rintro ⟨⟩ qZ pU ⟨gB,jb,iP,iQ,iR,iT,iU,iV,qb,iW,iX,qc,iY,ph,ml⟩ mw
 have fQ:=wDd cn cm mw
 try dsimp only at fQ
 have gT:Hid (¬ ((↑(((↑bP.length:Int):Int) - 0).toNat:Int) < (↑bP.length:Int))):=zJ (wAv)
 refine sR fL1 Z (oR Z (zO Z jb iY) (eN (zI (cF Z gT (ZP (zd (zd (ZJ (zj (zG (rR fL2 Z (oR Z (ZR (zS Z iX Z) (congrArg (jV) mE.out)) (oM Z Z (zX ?_))))))))))))))
 have q:=nA fQ
 obtain rfl:=q
 exact zG ⟨rfl,_,rfl,⟨gB,rfl,iP,iQ,iR,iT,iU,iV,iW,(((bB.trans bC).trans cN).trans ph),(ml.pick [1,2] _ (by decide) rfl)⟩⟩
 intro am ou
 refine oT Z am (oT Z am (oT Z am (oT Z am (oT Z am (oT Z am (oT Z am (oT Z am (oR Z (zf Z (Zd am.out) Z) (oM Z Z (oN Z (oN Z (oN Z (oN Z (oN Z (oN Z (oN Z (oN Z (oR Z (zf Z Z Z) (eN (ZI Z (zI (yh fun rc pf=>?_))))))))))))))))))))))
 clear pf
 refine rR fL1 Z (oA Z Z (eN (zV (zR (zi (zR ?_))))))
 have q:=wAb ou
 obtain ⟨pC,ow,ie⟩:=q
 have q:=wBf br bq (bN pC ie)
 obtain rfl:=q
 refine zR (zi (zR ?_))
 have hE:=nA ow;first | subst r | cases hE
 exact ⟨rfl,_,(ZS rfl),bw,_,(aX.pick [] _ (by decide) rfl),rfl,rfl⟩
 rintro ⟨⟩ re gL ⟨gC,jc,qd,qe,qf,qh,qi,qj,iZ,qr,mo⟩ my
 have fR:=wDd br bq my
 try dsimp only at fR
 have gU:Hid (¬ ((↑(((↑au.length:Int):Int) - 0).toNat:Int) < (↑au.length:Int))):=zJ (wAv)
 refine sR fL1 Z (oR Z (zO Z jc iZ) (eN (zI (cF Z gU (ZP (zd (zd (ZJ (zG (sR gDc Z (bnK fR fun qQ j8 ox=>zM 0 Z Z Z Z (zK Z Z Tryz.call14 zP Z) mo (fun hs=>wFE gL gC hs j8) (.inr Z) ?_)))))))))))
 rintro d7 pN qL gM qt mp ⟨rfl,rfl⟩
 have mq:sW w U d7 [.blk ab 28 B6,B0] gM:=mp
 refine oA Z Z (eN (zV ?_))
 have hE:=nA ox;first | subst r | cases hE
 exact ⟨rfl,_,(ZS rfl),d7,_,(mq.pick [] _ (by decide) rfl),rfl,rfl⟩
 intro db oy
 refine cT Z db (sR fL1 Z (oA Z Z (eN (zV (zR ?_)))))
 have hE:=nA oy;first | subst r | cases hE
 exact ⟨rfl,_,(ZS rfl),bI,_,(bA.pick [] _ (by decide) rfl),rfl,rfl⟩
 intro da oz
 refine cT Z da (sR fL1 Z (oA Z Z (eN (zV (zR ?_)))))
 have hE:=nA oz;first | subst r | cases hE
 exact ⟨rfl,_,(ZS rfl),bH,_,(bz.pick [] _ (by decide) rfl),rfl,rfl⟩
 intro aU oB
 refine oT Z aU (oT Z aU (oT Z aU (oT Z aU (oT Z aU (oR Z (zf Z (Zd aU.out) Z) (eN (ZI Z (sR fL1 Z (oA Z Z (eN (zV (zR ?_))))))))))))
 have hE:=nA oB;first | subst r | cases hE
 exact ⟨rfl,_,(ZS rfl),bH,_,(bz.pick [] _ (by decide) rfl),rfl,rfl⟩
 intro az oG
 refine oT Z az (oT Z az (oT Z az (oT Z az (oT Z az (oR Z (zf Z (Zd az.out) Z) (oM Z Z (oN Z (oN Z (oN Z (oN Z (oN Z (oR Z (zf Z Z Z) (eN (ZI Z (sR fL1 Z (oA Z Z (eN (zV (zR ?_)))))))))))))))))))
 have hE:=nA oG;first | subst r | cases hE
 exact ⟨rfl,_,(ZS rfl),bH,_,(bz.pick [] _ (by decide) rfl),rfl,rfl⟩
 intro av oH
 refine oT Z av (oT Z av (oT Z av (oT Z av (oT Z av (oR Z (zf Z (Zd av.out) Z) (oM Z Z (oN Z (oN Z (oN Z (oN Z (oN Z (oR Z (zf Z Z Z) (oM Z Z (oN Z (oN Z (oN Z (oN Z (oN Z (oR Z (zf Z Z Z) (eN (ZI Z (sR fL1 Z (oA Z Z (eN (zV (zR ?_))))))))))))))))))))))))))
 have hE:=nA oH;first | subst r | cases hE
 exact ⟨rfl,_,(ZS rfl),bH,_,(bz.pick [] _ (by decide) rfl),rfl,rfl⟩
 intro bL oI
 refine oT Z bL (oT Z bL (oR Z (zf Z (Zd bL.out) Z) (oM Z Z (oN Z (oN Z (oN Z (oN Z (oN Z (oR Z (zf Z Z Z) (oM Z Z (oN Z (oN Z (oN Z (oN Z (oN Z (oR Z (zf Z Z Z) (oM Z Z (oN Z (oN Z (oN Z (oN Z (oN Z (oR Z (zf Z Z Z) (eN (ZI Z (sR fL1 Z (oA Z Z (eN (zV (zR ?_))))))))))))))))))))))))))))))
 have hE:=nA oI;first | subst r | cases hE
 exact ⟨rfl,_,(ZS rfl),bH,_,(bz.pick [] _ (by decide) rfl),rfl,rfl⟩
 intro bK oK
 refine oT Z bK (oT Z bK (oR Z (zf Z (Zd bK.out) Z) (oM Z Z (oN Z (oN Z (oR Z (zf Z Z Z) (oM Z Z (oN Z (oN Z (oN Z (oN Z (oN Z (oR Z (zf Z Z Z) (oM Z Z (oN Z (oN Z (oN Z (oN Z (oN Z (oR Z (zf Z Z Z) (oM Z Z (oN Z (oN Z (oN Z (oN Z (oN Z (oR Z (zf Z Z Z) (eN (ZI Z (sR fL1 Z (oA Z Z (eN (zV (zR ?_))))))))))))))))))))))))))))))))))
 have hE:=nA oK;first | subst r | cases hE
 exact ⟨rfl,_,(ZS rfl),bH,_,(bz.pick [] _ (by decide) rfl),rfl,rfl⟩
end Go.Proofs.YtkedcbligiebkaaGreat
