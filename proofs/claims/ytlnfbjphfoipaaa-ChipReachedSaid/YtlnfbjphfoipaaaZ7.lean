import Derived.Test.YtlnfbjphfoipaaaZ4
import Derived.Test.YtlnfbjphfoipaaaZ3
import Derived.Test.YtlnfbjphfoipaaaZ5
import Derived.Test.YtlnfbjphfoipaaaZ6
set_option linter.all false
open List renaming flatMap->hD,length_set->nB,getElem_cons_succ->nD,getElem_cons_zero->nE,set->nG,getElem_toArray->nH
open Option.some renaming inj->hH
open Go.Value renaming bool->hJ
open Bool renaming eq_false_iff->nA
namespace Go.Proofs.Ytlnfbjphfoipaaa
open Go.KL
def gEw:Sch:=.fl 0 (.fx 1 .nil .stop)
def gEx:Sch:=.fx 1 (.fx 2 .nil .stop) .stop
def gEy:Sch:=.fx 3 (.fl 4 .nil) .stop
def gEz:Sch:=.fx 0 (.fl 1 .nil) .stop
def gFa:Sch:=.fx 0 (.fx 1 .nil .stop) .stop
def gFb:Sch:=.fx 0 (.fl 1 (.fl 2 .nil)) .stop
def gFc:Sch:=.fl 0 gEx
def gFd:Sch:=.fl 0 (.fx 1 (.fl 2 .nil) .stop)
def gFe:Sch:=.fl 0 (.fl 1 (.fx 2 .nil .stop))
def gFf:Sch:=.fx 11 (.fx 12 (.fl 13 .nil) .stop) .stop
def gFg:Sch:=.fx 6 (.fx 7 (.fl 8 .nil) .stop) .stop
def gFh:Sch:=.fl 0 (.fl 1 (.fx 2 (.fl 3 .nil) .stop))
def gFi:Sch:=.fx 10 gFf .stop
def gFj:Sch:=.fx 9 gFf .stop
def gFk:Sch:=.fl 0 (.fl 1 (.fx 2 (.fx 3 .nil .stop) .stop))
def gFl:Sch:=.fl 0 (.fl 1 (.fx 2 (.fx 3 (.fx 4 .nil .stop) .stop) .stop))
def gFm:Sch:=.fl 0 (.fl 1 (.fx 2 gEy .stop))
def gFn:Sch:=.fl 0 (.fl 1 (.fx 2 (.fl 3 (.fl 4 .nil)) .stop))
set_option maxHeartbeats 4000000
theorem wHc (p0:wAC) (aj:Option Addr) (ao:Nat) (ak:Option Addr) (ap:Nat) (am:Option Addr) (aq:Nat) (an:Option Addr) (au:Nat) (p1:Int) (w:World) (U:PHeap) (hS:St0 w U []) (bp:Sl U 1 aj ao p0.Starts.length (hD KL.encI p0.Starts)) (bq:Sl U 2 ak ap p0.Splits.length (hD wAG p0.Splits)) (br:Sl U 3 am aq p0.Clocks.length (hD wAA p0.Clocks)) (bs:Sl U 4 an au p0.Readings.length (hD wAB p0.Readings)) {r:(Option wAY) × Int} (hm:wEj p0 p1=some r):Gv Try.prog 50 [.agg #[.slice aj p0.Starts.length ao,.slice ak p0.Splits.length ap,.slice am p0.Clocks.length aq,.slice an p0.Readings.length au],jV p1] w (wCB w [] U (fun U_ L_ v=>match r.1 with | none=>v=.tuple #[.pointer none,jV r.2]/\L_=[] | some d=>∃ (b0:Nat) (A0p00:Option Addr) (c0p00:Nat) (A0p01:Option Addr) (c0p01:Nat) (A0p02:Option Addr) (c0p02:Nat) (A0p03:Option Addr) (c0p03:Nat) (m0p1:Nat) (es0p1:Array MapEntry) (ck0p1:Nat) (A0p2:Option Addr) (c0p2:Nat),v=.tuple #[.pointer (some ⟨b0,0,none⟩),jV r.2]/\L_=[.blk b0 124 [.slice A0p00 d.Race.Starts.length c0p00,.slice A0p01 d.Race.Splits.length c0p01,.slice A0p02 d.Race.Clocks.length c0p02,.slice A0p03 d.Race.Readings.length c0p03,.map (some m0p1),.slice A0p2 d.edges.length c0p2],.obj m0p1 (.map es0p1 ck0p1)]/\Sl U_ 1 A0p00 c0p00 d.Race.Starts.length (hD KL.encI d.Race.Starts)/\Sl U_ 2 A0p01 c0p01 d.Race.Splits.length (hD wAG d.Race.Splits)/\Sl U_ 3 A0p02 c0p02 d.Race.Clocks.length (hD wAA d.Race.Clocks)/\Sl U_ 4 A0p03 c0p03 d.Race.Readings.length (hD wAB d.Race.Readings)/\MpR es0p1 wBB wBC d.number/\Sl U_ 7 A0p2 c0p2 d.edges.length (hD wAP d.edges))):=by
 unfold wEj at hm
 refine Gv.of Try.func50 Z Try.ntmps50 Try.results50 Z (sR gFb Z ?_)
 let B0:List Value:=[.slice aj p0.Starts.length ao,.slice ak p0.Splits.length ap,.slice am p0.Clocks.length aq,.slice an p0.Readings.length au]
 refine zu (cs:=B0) rfl rfl rfl rfl rfl rfl (by rfl) hS ?_
 intro W1 b2 a5
 refine oA Z Z (oA Z Z (eN (sR (wCa (.fx 3 (.fx 4 (wHI (.nil)) .stop) .stop)) Z (oL Z (a5.ldBA (j:=0) Z Z Z ze zZ (vs:=B0) Z Z) (oM Z Z ?_)))))
 let B1:List Value:=[jV 0,jV p1]
 refine oR Z (zo (pv:=[(0,jV 0),(1,jV p1)]) (z:=[jV 0,jV 0]) (cs:=B1) Z (wAF Z (wAF Z wAO)) Zb wFF Z Z) (ZE (pv:=[(0,.agg B1.toArray)]) (zs:=[jV 0,jV 0]) (cs:=B1) Z Z Z Z Z (wAF Z wAO) Zq ZC Zb Z Z Z Z Z a5 ?_)
 intro W5 b6 bn
 have bo:sW w U U [.row (some ⟨b6,0,none⟩) 1 45 2 (hD wAT [(⟨0,p1⟩:wAI)]),.blk b2 28 B0] W5:=bn
 have q:=bo.freezeR (k:=0) (n:=[(⟨0,p1⟩:wAI)].length) rfl (wAE (f:=wAT) (sz:=2) (fun _=>rfl) [(⟨0,p1⟩:wAI)]) (by decide)
 obtain ⟨aN,ai,bt,bi⟩:=q
 have bj:sW w U aN [.blk b2 28 B0] W5:=bi
 have a7:=bp.le ai
 have a8:=bq.le ai
 have a9:=br.le ai
 have ba:=bs.le ai
 have q:=bnd hm
 obtain ⟨⟨bu,a6⟩,bb,ae⟩:=q
 try dsimp only at ae
 refine zE 0 Z Z Z Z (zD Z Z Try.call46 (zB Z (zB Z zK)) Z) bj (fun hs=>wDL p0 aj ao ak ap am aq an au [(⟨0,p1⟩:wAI)] (some ⟨b6,0,none⟩) 1 W5 aN hs a7 a8 a9 ba bt bb) (.inr Z) ?_
 rintro ag bv bz aO bx aZ aY
 rcases bu with _ | af
 try dsimp only at ae
 obtain ⟨rfl,rfl⟩:=aY
 have bk:sW w U ag [.blk b2 28 B0] aO:=aZ
 refine oR Z (zP Z Z (v:=.pointer none) Z) (oR Z (zP Z Z (v:=jV a6) Z) (oA Z Z (oA Z Z (eN (zU ?_)))))
 cases ae
 exact ⟨rfl,_,(wDv rfl rfl),ag,_,(bk.pick [] _ (by decide) rfl),rfl,rfl⟩
 try dsimp only at ae
 obtain ⟨ax,az,aR,aJ,aS,aK,aT,aL,aU,ay,aX,aV,aM,aW,rfl,rfl,bc,bd,be,bf,bg,bh⟩:=aY
 have bm:sW w U ag [.blk ax 124 [.slice az af.Race.Starts.length aR,.slice aJ af.Race.Splits.length aS,.slice aK af.Race.Clocks.length aT,.slice aL af.Race.Readings.length aU,.map (some ay),.slice aM af.edges.length aW],.obj ay (.map aX aV),.blk b2 28 B0] aO:=aZ
 refine oR Z (zP Z Z (v:=.pointer (some ⟨ax,0,none⟩)) Z) (oR Z (zP Z Z (v:=jV a6) Z) (oA Z Z (oA Z Z (eN (zU ?_)))))
 cases ae
 exact ⟨rfl,_,(wDv rfl rfl),ag,_,(bm.pick [0,1] _ (by decide) rfl),ax,az,aR,aJ,aS,aK,aT,aL,aU,ay,aX,aV,aM,aW,rfl,rfl,bc,bd,be,bf,bg,bh⟩
theorem wFI (p0:wAY) (ap:Nat) (ao:Option Addr) (aq:Nat) (ax:Option Addr) (aK:Nat) (ay:Option Addr) (aL:Nat) (az:Option Addr) (aM:Nat) (ab:Nat) (ac:Array MapEntry) (ae:Nat) (aJ:Option Addr) (aN:Nat) (p1:Int) (w:World) (U:PHeap) (hS:St0 w U [.blk ap 124 [.slice ao p0.Race.Starts.length aq,.slice ax p0.Race.Splits.length aK,.slice ay p0.Race.Clocks.length aL,.slice az p0.Race.Readings.length aM,.map (some ab),.slice aJ p0.edges.length aN],.obj ab (.map ac ae)]) (cD:Sl U 1 ao aq p0.Race.Starts.length (hD KL.encI p0.Race.Starts)) (cE:Sl U 2 ax aK p0.Race.Splits.length (hD wAG p0.Race.Splits)) (cG:Sl U 3 ay aL p0.Race.Clocks.length (hD wAA p0.Race.Clocks)) (cH:Sl U 4 az aM p0.Race.Readings.length (hD wAB p0.Race.Readings)) (ba:MpR ac wBB wBC p0.number) (cI:Sl U 7 aJ aN p0.edges.length (hD wAP p0.edges)) {r:(Arr Int 64)} (hm:wCy p0 p1=some r):Gv Try.prog 51 [.pointer (some ⟨ap,0,none⟩),jV p1] w (wCB w [.blk ap 124 [.slice ao p0.Race.Starts.length aq,.slice ax p0.Race.Splits.length aK,.slice ay p0.Race.Clocks.length aL,.slice az p0.Race.Readings.length aM,.map (some ab),.slice aJ p0.edges.length aN],.obj ab (.map ac ae)] U (fun U_ L_ v=>v=.agg (hD KL.encI r.l).toArray/\L_=[.blk ap 124 [.slice ao p0.Race.Starts.length aq,.slice ax p0.Race.Splits.length aK,.slice ay p0.Race.Clocks.length aL,.slice az p0.Race.Readings.length aM,.map (some ab),.slice aJ p0.edges.length aN],.obj ab (.map ac ae)])):=by
 unfold wCy at hm
 refine Gv.of Try.func51 Z Try.ntmps51 Try.results51 Z (sR (.fx 0 .nil .stop) Z (zT (cs:=hD KL.encI (Arr.fill 64 0).l) Z Z Z Z Z Try.zeroValue109 Z hS ?_))
 intro W3 b4 cu
 let B0:Res:=.blk ap 124 [.slice ao p0.Race.Starts.length aq,.slice ax p0.Race.Splits.length aK,.slice ay p0.Race.Clocks.length aL,.slice az p0.Race.Readings.length aM,.map (some ab),.slice aJ p0.edges.length aN]
 have cA:SW w [B0,.obj ab (.map ac ae)] U U [.blk b4 109 (hD KL.encI (Arr.fill 64 0).l),B0,.obj ab (.map ac ae)] W3:=cu
 refine eN (sR (.fx 0 .nil .stop) Z (zT (cs:=hD KL.encI (Arr.fill 64 0).l) Z Z Z Z Z Try.zeroValue109 Z cA ?_))
 intro W8 b9 co
 have bx:SW w [B0,.obj ab (.map ac ae)] U U [.blk b9 109 (hD KL.encI (Arr.fill 64 0).l),.blk b4 109 (hD KL.encI (Arr.fill 64 0).l),B0,.obj ab (.map ac ae)] W8:=co
 refine eN (zM (sR fL7 Z (oM Z Z (oR Z (Za Z Z) (oR Z (zJ Z Z ZF Z zZ) (oR Z (zJ Z Z zQ Z zq) (oL Z (bx.ldB (j:=2) Z Z Z zy (v:=.slice ao p0.Race.Starts.length aq) Z) (oR Z (zz Z Z zH) (oM Z Z (eN (zc (bnK hm fun ak cJ cV=>?_))))))))))))
 have q:=wBn cJ
 obtain ⟨bd,cK⟩:=q
 replace bd:=zS bd
 refine CK.forN' (fun ag aO σ_ w_=>∃ (U_:PHeap),σ_ 17=jV (↑ag:Int)/\σ_ 0=.pointer (some ⟨ap,0,none⟩)/\σ_ 1=jV p1/\σ_ 4=.pointer (some ⟨b4,0,none⟩)/\σ_ 5=.pointer (some ⟨b9,0,none⟩)/\σ_ 16=jV (↑p0.Race.Starts.length:Int)/\PHeap.Le U U_/\SW w [B0,.obj ab (.map ac ae)] U U_ [.blk b9 109 (hD KL.encI aO.l),.blk b4 109 (hD KL.encI (Arr.fill 64 0).l),B0,.obj ab (.map ac ae)] w_) cK ?_ ?_ ?_
 exact ⟨U,Z,Z,Z,Z,Z,Z,(zW _),bx⟩
 rintro ag aO dr dx bi bb ⟨bg,a7,aW,bq,bZ,ca,br,aw,a9⟩ cX
 have bm:Hid ((↑ag:Int) < (↑p0.Race.Starts.length:Int)):=zS (wBD bb)
 replace bb:=zS bb
 have cQ:Hid (w64 ((↑ag:Int) + 1)=(↑(ag + 1):Int)):=zS (by have h1:=bd.out;have h2:=bm.out;rw [wAU] <;> omega)
 refine sR fL1 Z (oR Z (zh Z a7 br) (eN (zM (cT Z bm (kN (zM (zc (sR fL2 Z (oM Z a7 (oA Z Z (eN (sR (wMD (.fx 9 (wMG (.fx 14 (.fx 15 (.fl 16 (.fl 17 .nil)) .stop) .stop)) .stop)) Z (oM Z aW (oM Z aW (oR Z (Za Z Z) (oR Z (zJ Z Z ZF Z Zs) (oL Z (a9.ldB (j:=2) Z Z Z Zx (v:=.map (some ab)) Z) (oM Z Z (oM Z bq (oR Z (zo (pv:=[(0,jV (↑ag:Int)),(1,jV p1)]) (z:=[jV 0,jV 0]) (cs:=[jV (↑ag:Int),jV p1]) Z (wAF Z (wAF Z wAO)) za wBa Z Z) (oL Z (a9.lookup1 (j:=3) (mk:=wBB) (mv:=wBC) (a:=(⟨(↑ag:Int),p1⟩:wAH)) (z:=0) Z Z Z Z (wBV ZI) wCH zw ba) ?_)))))))))))))))))))))
 have cf:=cD.le aw
 have cg:=cE.le aw
 have ci:=cG.le aw
 have cj:=cH.le aw
 have cm:=cI.le aw
 have q:=bnd cX
 obtain ⟨⟨aj,da,db⟩,cn,bC⟩:=q
 try dsimp only at bC
 have cw:SW w [B0,.obj ab (.map ac ae)] U bg [B0,.obj ab (.map ac ae),.blk b9 109 (hD KL.encI aO.l),.blk b4 109 (hD KL.encI (Arr.fill 64 0).l)] bi:=a9.pick [2,3,0,1] _ (by decide) rfl
 refine zE 2 Z Z Z Z (zD Z Z ye (zB Z (zB Z (zB Z zK))) Z) cw (fun hs=>wAb p0 ap ao aq ax aK ay aL az aM ab ac ae aJ aN (wAr p0.number (⟨(↑ag:Int),p1⟩:wAH) 0) false bi bg hs cf cg ci cj ba cm cn) (.inl Z) ?_
 rintro aT dd dq bH c6 cx ⟨aP,aV,a5,a6,rfl,rfl⟩
 let B1:Res:=.row aP aV 3 1 (hD KL.encI aj.far)
 let B2:Res:=.row a5 a6 3 1 (hD KL.encI aj.by_)
 have cy:SW w [B0,.obj ab (.map ac ae)] U aT [B1,B2,B0,.obj ab (.map ac ae),.blk b9 109 (hD KL.encI aO.l),.blk b4 109 (hD KL.encI (Arr.fill 64 0).l)] bH:=cx
 refine oM Z Z (oR Z (zP Z Z (v:=.agg #[.slice aP aj.far.length aV,.slice a5 aj.by_.length a6]) Z) (oR Z (zP Z Z (v:=jV da) Z) (oR Z (zP Z Z (v:=.bool db) Z) (zT (cs:=[.slice none 0 0,.slice none 0 0]) Z Z Z Z Z Zd Z cy ?_))))
 intro dh aU cz
 let B3:List Value:=[.slice aP aj.far.length aV,.slice a5 aj.by_.length a6]
 refine zV (j:=0) (vs:=B3) Z Z Z Z cz Z Z Z Z Zj (zA Z) Z Z Z ?_
 intro bI cB
 have bB:SW w [B0,.obj ab (.map ac ae)] U aT [.blk aU 118 B3,B1,B2,B0,.obj ab (.map ac ae),.blk b9 109 (hD KL.encI aO.l),.blk b4 109 (hD KL.encI (Arr.fill 64 0).l)] bI:=cB
 refine oA Z Z (oA Z Z (eN (sR fL7 Z (oM Z aW (oR Z (Za Z Z) (oR Z (zJ Z Z ZF Z zZ) (oR Z (zJ Z Z zQ Z zq) (oL Z (bB.ldB (j:=3) Z Z Z zy (v:=.slice ao p0.Race.Starts.length aq) Z) (oR Z (zz Z Z zH) (oM Z Z (eN (zc (bnK bC fun du cL cW=>?_)))))))))))))
 have q:=wBn cL
 obtain ⟨be,cM⟩:=q
 replace be:=zS be
 refine CK.forN' (fun ah av σ_ w_=>∃ (U_:PHeap),σ_ 40=jV (↑ah:Int)/\σ_ 0=.pointer (some ⟨ap,0,none⟩)/\σ_ 1=jV p1/\σ_ 4=.pointer (some ⟨b4,0,none⟩)/\σ_ 5=.pointer (some ⟨b9,0,none⟩)/\σ_ 6=jV (↑ag:Int)/\σ_ 7=.pointer (some ⟨aU,0,none⟩)/\σ_ 16=jV (↑p0.Race.Starts.length:Int)/\σ_ 17=jV (↑ag:Int)/\σ_ 39=jV (↑p0.Race.Starts.length:Int)/\PHeap.Le aT U_/\SW w [B0,.obj ab (.map ac ae)] U U_ [B1,B2,.blk aU 118 B3,B0,.obj ab (.map ac ae),.blk b9 109 (hD KL.encI av.l),.blk b4 109 (hD KL.encI (Arr.fill 64 0).l)] w_) cM ?_ ?_ ?_
 exact ⟨aT,rfl,aW,bq,bZ,ca,rfl,rfl,br,a7,rfl,(zW _),(bB.pick [1,2,0,3,4,5,6] _ (by decide) rfl)⟩
 rintro ah av dt dz bj bc ⟨bh,a8,bs,bt,cb,bu,bv,bn,bM,bN,bo,c8,cC⟩ cY
 have bk:Hid ((↑ah:Int) < (↑p0.Race.Starts.length:Int)):=zS (wBD bc)
 replace bc:=zS bc
 have cP:Hid (w64 ((↑ah:Int) + 1)=(↑(ah + 1):Int)):=zS (by have h1:=be.out;have h2:=bk.out;rw [wAU] <;> omega)
 refine sR fL1 rfl (zY rfl rfl rfl rfl (fun _=>zh rfl a8 bo) (eN (zM (cT Z bk (kN (zM (zc (sR fL2 rfl (zr rfl rfl rfl rfl rfl a8 (yD rfl rfl rfl rfl rfl rfl (eN (ZA ZB [3,3,3,1,3,3,3,1,3,3,3,1,3,1,3,3,0] (wNC (.fx 16 .nil .stop)) (by kernel_rfl) ?_))))))))))))
 have au:=cC.drew
 generalize hw_W107:({ bj with drawn:=bj.drawn + 1 }:World)=de at au ⊢
 refine oM Z bv (oM Z Z (oR Z (zJ Z bn ZV Z zq) (oL Z (au.ldB (j:=2) Z Z Z zy (v:=.slice aP aj.far.length aV) Z) (oM Z bs (oR Z (Za Z Z) (oR Z (zJ Z Z ZF Z Zs) (oL Z (au.ldB (j:=3) Z Z Z Zx (v:=.map (some ab)) Z) (oM Z Z (oM Z bt (oR Z (zo (pv:=[(0,jV (↑ah:Int)),(1,jV p1)]) (z:=[jV 0,jV 0]) (cs:=[jV (↑ah:Int),jV p1]) Z (wAF Z (wAF Z wAO)) za wBa Z Z) (oL Z (au.lookup1 (j:=4) (mk:=wBB) (mv:=wBC) (a:=(⟨(↑ah:Int),p1⟩:wAH)) (z:=0) Z Z Z Z (wBV ZI) wCH zw ba) (bnK cY fun _ aX cR=>?_))))))))))))
 obtain ⟨di,bw⟩:=au.rowSome (j:=0) rfl (by rw [wAE (f:=KL.encI) (sz:=1) (fun _=>rfl) aj.far];have hz:=wAa aX;omega)
 refine oR Z (ZO Z Z bw Z zH zC (wBl aX) (wBm aX)) ?_
 have cN:=wBy (xs:=aj.far) (wAa aX)
 refine zl rfl rfl rfl rfl (au.ldR (j:=0) rfl bw rfl rfl zG (wAj (sz:=1) (fun _=>rfl) _ _ 0 _ cN (by first | omega | rfl | simp) rfl)) rfl (bnK cR fun _ aY cS=>zY rfl rfl rfl rfl (fun _=>Runs.iaA rfl bu rfl Try.runUnderlying109 Try.sizeOf108 (wBl aY) (wBm aY)) (bnK cS fun _ aZ cU=>zY rfl rfl rfl rfl (fun _=>Runs.iaA rfl rfl rfl Try.runUnderlying108 zC (wBl aZ) (wBm aZ)) ?_))
 have cO:=Arr.at_ av (k:=(ag * 8 + ah)) (by have hz0:=wAa aY;have hz1:=wAa aZ;omega)
 refine zV (j:=5) (vs:=[jV (gd aj.far (wAr p0.number (⟨(↑ah:Int),p1⟩:wAH) 0).toNat)]) (cs':=hD KL.encI (av.set (ag * 8 + ah) (gd aj.far (wAr p0.number (⟨(↑ah:Int),p1⟩:wAH) 0).toNat)).l) rfl rfl rfl rfl au rfl rfl rfl rfl zC (by have hz0:=wAa aY;have hz1:=wAa aZ;simp only [List.length_append,List.length_cons,List.length_nil,wCW (f:=KL.encI) (sz:=1) (N:=64) av (fun _=>rfl) rfl];omega) rfl (wDP (sz:=1) (fo:=0) (fun _=>rfl) _ _ _ _ cO (by first | omega | rfl | simp) (zA rfl) rfl) rfl ?_
 intro bE cp
 have cq:SW w [B0,.obj ab (.map ac ae)] U bh [B1,B2,.blk aU 118 B3,B0,.obj ab (.map ac ae),.blk b9 109 (hD KL.encI (av.set (ag * 8 + ah) (gd aj.far (wAr p0.number (⟨(↑ah:Int),p1⟩:wAH) 0).toNat)).l),.blk b4 109 (hD KL.encI (Arr.fill 64 0).l)] bE:=cp
 refine zg (ZH (zL (rR fL2 Z (oR Z (ZS (zf Z a8 Z) (congrArg (jV) cP.out)) (oM Z Z (zg ?_))))))
 cases cU
 exact zL ⟨Z,⟨bh,Z,bs,bt,cb,bu,bv,bn,bM,bN,bo,c8,cq⟩⟩
 rintro dv df ⟨bD,cc,bP,bQ,bR,bS,dk,dl,bU,bV,bW,cZ,cr⟩
 have bK:Hid (¬ ((↑(((↑p0.Race.Starts.length:Int):Int) - 0).toNat:Int) < (↑p0.Race.Starts.length:Int))):=zS (wAh)
 refine sR fL1 Z (oR Z (zh Z cc bW) (eN (zM (cF Z bK (Zf (zx (zx (Zc (ZH (zL (rR fL2 Z (oR Z (ZS (zf Z bV Z) (congrArg (jV) cQ.out)) (oM Z Z (zg ?_))))))))))))))
 cases cW
 exact zL ⟨rfl,⟨bD,rfl,bP,bQ,bR,bS,bU,((aw.trans c6).trans cZ),(cr.pick [5,6,3,4] _ (by decide) rfl)⟩⟩
 rintro dw dg ⟨bf,cd,dm,dn,bp,bX,bY,dp,bz⟩
 have bL:Hid (¬ ((↑(((↑p0.Race.Starts.length:Int):Int) - 0).toNat:Int) < (↑p0.Race.Starts.length:Int))):=zS (wAh)
 refine sR fL1 rfl (zY rfl rfl rfl rfl (fun _=>zh rfl cd bY) (eN (zM (cF Z bL (Zf (zx (zx (Zc (zL (sR gEw rfl (zl rfl rfl rfl rfl (bz.ldBA (j:=0) rfl rfl bX Try.isAgg109 Try.sizeOf109 (vs:=hD KL.encI ak.l) (wMb ak (fun _=>rfl) rfl) (wCW ak (fun _=>rfl) rfl)) rfl (zV (j:=1) (vs:=hD KL.encI ak.l) rfl rfl rfl rfl bz rfl bp rfl rfl (fun w=>by rw [wCW (f:=KL.encI) (sz:=1) (N:=64) ak (fun _=>rfl) rfl];exact Try.sizeOf109 w) (by rw [wCW (f:=KL.encI) (sz:=1) (N:=64) ak (fun _=>rfl) rfl,wCW (f:=KL.encI) (sz:=1) (N:=64) (Arr.fill 64 0) (fun _=>rfl) rfl];exact zA rfl) (wGD (fun _=>rfl) _) (wJG _ _ (by rw [wCW (f:=KL.encI) (sz:=1) (N:=64) ak (fun _=>rfl) rfl,wCW (f:=KL.encI) (sz:=1) (N:=64) (Arr.fill 64 0) (fun _=>rfl) rfl])) rfl ?_))))))))))))
 intro bF ct
 have bA:SW w [B0,.obj ab (.map ac ae)] U bf [.blk b9 109 (hD KL.encI ak.l),.blk b4 109 (hD KL.encI ak.l),B0,.obj ab (.map ac ae)] bF:=ct
 refine eN (zU ?_)
 have hE:=hH cV;first | subst r | cases hE
 exact ⟨rfl,_,(wGl (v:=.agg (hD KL.encI ak.l).toArray) ⟨⟨_,bp,(wAy Try.isAgg109 Try.sizeOf109 (bA.blkAt (k:=1) rfl) (wMb ak (fun _=>rfl) rfl) (wCW ak (fun _=>rfl) rfl))⟩,trivial⟩),bf,_,(bA.pick [2,3] _ (by decide) rfl),rfl,rfl⟩
theorem wHd (p0:wAC) (aM:Option Addr) (aN:Nat) (a9:Option Addr) (bc:Nat) (ba:Option Addr) (bd:Nat) (bb:Option Addr) (be:Nat) (p1:Int) (w:World) (U:PHeap) (hS:St0 w U []) (dx:Sl U 1 aM aN p0.Starts.length (hD KL.encI p0.Starts)) (dz:Sl U 2 a9 bc p0.Splits.length (hD wAG p0.Splits)) (dA:Sl U 3 ba bd p0.Clocks.length (hD wAA p0.Clocks)) (dB:Sl U 4 bb be p0.Readings.length (hD wAB p0.Readings)) {r:(List wAJ) × Int} (hm:wEk p0 p1=some r):Gv Try.prog 17 [.agg #[.slice aM p0.Starts.length aN,.slice a9 p0.Splits.length bc,.slice ba p0.Clocks.length bd,.slice bb p0.Readings.length be],jV p1] w (wCB w [] U (fun U_ L_ v=>∃ (A0:Option Addr) (c0:Nat),v=.tuple #[.slice A0 r.1.length c0,jV r.2]/\L_=[.row A0 c0 41 2 (hD wAG r.1)])):=by
 unfold wEk at hm
 refine Gv.of Try.func17 Z Try.ntmps17 Try.results17 Z (sR gFb Z ?_)
 let B0:List Value:=[.slice aM p0.Starts.length aN,.slice a9 p0.Splits.length bc,.slice ba p0.Clocks.length bd,.slice bb p0.Readings.length be]
 refine zu (cs:=B0) rfl rfl rfl rfl rfl rfl (by rfl) hS ?_
 intro W1 b2 bZ
 refine oA Z Z (oA Z Z (eN (sR (.fl 0 (.fl 1 (.fx 2 (fC3_7 (.nil)) .stop))) Z (oL Z (bZ.ldBA (j:=0) Z Z Z ze zZ (vs:=B0) Z Z) (oM Z Z ?_)))))
 have q:=bnd hm
 obtain ⟨⟨x5,x6⟩,h7,aV⟩:=q
 try dsimp only at aV
 refine zE 0 Z Z Z Z (zD Z Z Try.call50 (zB Z (zB Z zK)) Z) bZ (fun hs=>wHc p0 aM aN a9 bc ba bd bb be p1 W1 U hs dx dz dA dB h7) (.inr Z) ?_
 rintro U9 ef eB bm ew bW bU
 rcases x5 with _ | aO
 try dsimp only at aV
 obtain ⟨rfl,rfl⟩:=bU
 have dn:sW w U U9 [.blk b2 28 B0] bm:=bW
 refine oM Z Z (oR Z (zP Z Z (v:=.pointer none) Z) (oR Z (zP Z Z (v:=jV x6) Z) (oA Z Z (oA Z Z (eN (zM (sR fL2 Z (oM Z Z (oR Z (ZN Z Z Z) (eN (ifc aV ?_ ?_)))))))))))
 intro br dU
 refine zn (zd (fun h=>h br.out)) (kN (sR gFl Z (oM Z Z (oM Z Z ?_))))
 cases dU
 intro br dV
 refine cT Z br (sR fL3 Z (oM Z Z (oA Z Z (oA Z Z (eN (zU (zN ?_)))))))
 have dp:=dn.nilrow 41 2
 cases dV
 exact ⟨rfl,_,(wDv rfl rfl),U9,_,(dp.pick [0] _ (by decide) rfl),none,0,rfl,rfl⟩
 try dsimp only at aV
 obtain ⟨bn,bA,bK,bB,bL,bC,bM,bE,bP,af,ah,ag,bF,bQ,rfl,rfl,cR,cS,cU,cV,cW,cX⟩:=bU
 let B1:Res:=.blk bn 124 [.slice bA aO.Race.Starts.length bK,.slice bB aO.Race.Splits.length bL,.slice bC aO.Race.Clocks.length bM,.slice bE aO.Race.Readings.length bP,.map (some af),.slice bF aO.edges.length bQ]
 have ca:sW w U U9 [B1,.obj af (.map ah ag),.blk b2 28 B0] bm:=bW
 refine oM Z Z (oR Z (zP Z Z (v:=.pointer (some ⟨bn,0,none⟩)) Z) (oR Z (zP Z Z (v:=jV x6) Z) (oA Z Z (oA Z Z (eN (zM (sR fL2 Z (oM Z Z (oR Z (ZN Z Z Z) (eN (ifc aV ?_ ?_)))))))))))
 intro bs dW
 refine zn (zd (fun h=>h bs.out)) (kN (sR gFl Z (oM Z Z (oM Z Z (bnK dW fun ab cY dX=>zE 2 Z Z Z Z (zD Z Z Try.call51 (zB Z (zB Z zK)) Z) ca (fun hs=>wFI aO bn bA bK bB bL bC bM bE bP af ah ag bF bQ p1 bm U9 hs cR cS cU cV cW cX cY) (.inl Z) ?_)))))
 rintro aR eg eD cu eA dq ⟨rfl,rfl⟩
 have dr:sW w U aR [B1,.obj af (.map ah ag),.blk b2 28 B0] cu:=dq
 refine zT (cs:=hD KL.encI (Arr.fill 64 0).l) Z Z Z Z Z Try.zeroValue109 Z dr ?_
 intro cw aj dt
 have du:sW w U aR [.blk aj 109 (hD KL.encI (Arr.fill 64 0).l),B1,.obj af (.map ah ag),.blk b2 28 B0] cw:=dt
 refine zV (j:=0) (vs:=hD KL.encI ab.l) rfl rfl rfl rfl du rfl rfl rfl rfl (fun w=>by rw [wCW (f:=KL.encI) (sz:=1) (N:=64) ab (fun _=>rfl) rfl];exact Try.sizeOf109 w) (by rw [wCW (f:=KL.encI) (sz:=1) (N:=64) ab (fun _=>rfl) rfl,wCW (f:=KL.encI) (sz:=1) (N:=64) (Arr.fill 64 0) (fun _=>rfl) rfl];exact zA rfl) (wGD (fun _=>rfl) _) (wJG _ _ (by rw [wCW (f:=KL.encI) (sz:=1) (N:=64) ab (fun _=>rfl) rfl,wCW (f:=KL.encI) (sz:=1) (N:=64) (Arr.fill 64 0) (fun _=>rfl) rfl])) rfl ?_
 intro cx dv
 have cb:sW w U aR [.blk aj 109 (hD KL.encI ab.l),B1,.obj af (.map ah ag),.blk b2 28 B0] cx:=dv
 refine eN (sR fL1 Z (oA Z Z (eN (zM (sR fL4 Z (oR Z (zJ Z Z zQ Z zq) (oL Z (cb.ldB (j:=3) Z Z Z zy (v:=.slice aM p0.Starts.length aN) Z) (oR Z (zz Z Z zH) (oM Z Z (eN (zc (bnK dX fun eH dE dY=>?_))))))))))))
 have q:=wBn dE
 obtain ⟨bx,dF⟩:=q
 replace bx:=zS bx
 refine CK.forN' (fun am aL σ_ w_=>∃ (U_:PHeap) (aP:Option Addr) (aT:Nat),σ_ 28=jV (↑am:Int)/\σ_ 2=.pointer (some ⟨b2,0,none⟩)/\σ_ 8=.pointer (some ⟨aj,0,none⟩)/\σ_ 9=.slice aP aL.length aT/\σ_ 27=jV (↑p0.Starts.length:Int)/\PHeap.Le aR U_/\sW w U U_ [.blk aj 109 (hD KL.encI ab.l),B1,.obj af (.map ah ag),.blk b2 28 B0,.row aP aT 41 2 (hD wAG aL)] w_) dF ?_ ?_ ?_
 have dw:=cb.nilrow 41 2
 exact ⟨aR,none,0,rfl,rfl,rfl,rfl,rfl,(zW _),(dw.pick [1,2,3,4,0] _ (by decide) rfl)⟩
 rintro am aL eG eL eo bv ⟨bk,aP,aT,bt,bR,cC,cD,bS,d9,c6⟩ dZ
 have bI:Hid ((↑am:Int) < (↑p0.Starts.length:Int)):=zS (wBD bv)
 replace bv:=zS bv
 have dJ:Hid (w64 ((↑am:Int) + 1)=(↑(am + 1):Int)):=zS (by have h1:=bx.out;have h2:=bI.out;rw [wAU] <;> omega)
 refine sR fL1 Z (oR Z (zh Z bt bS) (eN (zM (cT Z bI (kN (zM (zc (sR fL2 Z (oM Z bt (oA Z Z (eN (sR gFc Z ?_))))))))))))
 let B2:List Value:=[jV 0,jV 0]
 let B3:List Value:=[jV 1,jV 1]
 refine oR Z (zo (pv:=[(0,jV 1),(1,jV 1)]) (z:=B2) (cs:=B3) Z (wAF Z (wAF Z wAO)) ZJ wBo Z Z) (zT (cs:=B2) Z Z Z Z Z ZJ Z c6 ?_)
 intro eh aq c8
 refine zV (j:=0) (vs:=B3) Z Z Z Z c8 Z Z Z Z zj (zA Z) Z Z Z ?_
 intro cn da
 let B4:Res:=.row aP aT 41 2 (hD wAG aL)
 have bV:sW w U bk [.blk aq 41 B3,.blk aj 109 (hD KL.encI ab.l),B1,.obj af (.map ah ag),.blk b2 28 B0,B4] cn:=da
 refine eN (zM (sR fL4 Z (oR Z (zJ Z bR zQ Z zq) (oL Z (bV.ldB (j:=4) Z Z Z zy (v:=.slice aM p0.Starts.length aN) Z) (oR Z (zz Z Z zH) (oM Z Z (eN (zc ?_))))))))
 have q:=bnd dZ
 obtain ⟨⟨bf,bg⟩,dC,cc⟩:=q
 try dsimp only at cc
 have q:=wBn dC
 obtain ⟨bw,dD⟩:=q
 replace bw:=zS bw
 refine CK.forN' (fun au (az,ap) σ_ w_=>∃ (U_:PHeap),σ_ 35=jV (↑au:Int)/\σ_ 2=.pointer (some ⟨b2,0,none⟩)/\σ_ 8=.pointer (some ⟨aj,0,none⟩)/\σ_ 9=.slice aP aL.length aT/\σ_ 10=jV (↑am:Int)/\σ_ 11=.pointer (some ⟨aq,0,none⟩)/\σ_ 27=jV (↑p0.Starts.length:Int)/\σ_ 28=jV (↑am:Int)/\σ_ 34=jV (↑p0.Starts.length:Int)/\PHeap.Le bk U_/\sW w U U_ [.blk aq 41 [jV az,jV ap],.blk aj 109 (hD KL.encI ab.l),B1,.obj af (.map ah ag),.blk b2 28 B0,B4] w_) dD ?_ ?_ ?_
 exact ⟨bk,Z,bR,cC,cD,Z,Z,bS,bt,Z,(zW _),bV⟩
 rintro au ⟨az,ap⟩ eE eI ej bu ⟨av,aK,aW,aw,aX,ax,ak,aY,aZ,aU,a7,ay⟩ cd
 try dsimp only at cd
 have bJ:Hid ((↑au:Int) < (↑p0.Starts.length:Int)):=zS (wBD bu)
 replace bu:=zS bu
 have a6:Hid (w64 ((↑au:Int) + 1)=(↑(au + 1):Int)):=zS (by have h1:=bw.out;have h2:=bJ.out;rw [wAU] <;> omega)
 refine sR fL1 Z (oR Z (zh Z aK aU) (eN (zM (cT Z bJ (kN (zM (zc (sR fL2 Z (oM Z aK (oA Z Z (eN (zM (sR fL6 Z (oM Z ax (oM Z Z (bnK cd fun _ an dK=>oR Z (Runs.iaA Z aw Z Try.runUnderlying109 Try.sizeOf108 (wBl an) (wBm an)) (bnK dK fun _ ao dL=>oR Z (Runs.iaA Z Z Z Try.runUnderlying108 zC (wBl ao) (wBm ao)) ?_)))))))))))))))))
 have dG:=Arr.at_ ab (k:=(am * 8 + au)) (by have hz0:=wAa an;have hz1:=wAa ao;omega)
 refine zl rfl rfl rfl rfl (ay.ldB (j:=1) rfl rfl rfl zG (wAj (sz:=1) (fun _=>rfl) _ _ 0 _ dG (by first | omega | rfl | simp) rfl)) rfl (zY rfl rfl rfl rfl (fun _=>zh rfl rfl rfl) (eN (ifc dL ?_ ?_)))
 intro bo dM
 refine cT Z bo (rR (wDe (.fx 4 .nil .stop)) Z (oR Z (zJ Z ak ZK Z zC) (oL Z (ay.ldB (j:=0) Z Z Z zG (v:=jV az) Z) (oR Z (zf Z Z Z) (oR Z (zJ Z ak ZK Z zC) (zV (j:=0) (vs:=[jV (w64 (az + 1))]) Z Z Z Z ay Z Z Z Z zC (zA Z) Z Z Z ?_))))))
 intro co db
 have a5:sW w U av [.blk aq 41 [jV (w64 (az + 1)),jV ap],.blk aj 109 (hD KL.encI ab.l),B1,.obj af (.map ah ag),.blk b2 28 B0,B4] co:=db
 refine eN (sR fL6 Z (oM Z Z (oM Z ax (oR Z (Runs.iaA Z aw Z Try.runUnderlying109 Try.sizeOf108 (wBl ao) (wBm ao)) (oR Z (Runs.iaA Z Z Z Try.runUnderlying108 zC (wBl an) (wBm an)) ?_)))))
 have dH:=Arr.at_ ab (k:=(au * 8 + am)) (by have hz0:=wAa ao;have hz1:=wAa an;omega)
 refine zl rfl rfl rfl rfl (a5.ldB (j:=1) rfl rfl rfl zG (wAj (sz:=1) (fun _=>rfl) _ _ 0 _ dH (by first | omega | rfl | simp) rfl)) rfl (zY rfl rfl rfl rfl (fun _=>yn rfl rfl rfl) (eN (ifc dM ?_ ?_)))
 intro bp dN
 refine cT Z bp (rR (wDe (.fx 4 .nil .stop)) Z (oR Z (zJ Z ak ZK Z zC) (oL Z (a5.ldB (j:=0) Z Z Z zG (v:=jV ap) Z) (oR Z (zf Z Z Z) (oR Z (zJ Z ak ZK Z zC) (zV (j:=0) (vs:=[jV (w64 (ap + 1))]) Z Z Z Z a5 Z Z Z Z zC (zA Z) Z Z Z ?_))))))
 intro cp dd
 have de:sW w U av [.blk aq 41 [jV (w64 (az + 1)),jV (w64 (ap + 1))],.blk aj 109 (hD KL.encI ab.l),B1,.obj af (.map ah ag),.blk b2 28 B0,B4] cp:=dd
 refine zg (ZH (zL (rR fL2 Z (oR Z (ZS (zf Z aK Z) (congrArg (jV) a6.out)) (oM Z Z (zg ?_))))))
 cases dN
 exact zL ⟨Z,⟨av,Z,aW,aw,aX,ax,ak,aY,aZ,aU,a7,de⟩⟩
 intro bp dO
 refine cF Z bp (Zl (ZH (zL (rR fL2 Z (oR Z (ZS (zf Z aK Z) (congrArg (jV) a6.out)) (oM Z Z (zg ?_)))))))
 cases dO
 exact zL ⟨Z,⟨av,Z,aW,aw,aX,ax,ak,aY,aZ,aU,a7,a5⟩⟩
 intro bo dP
 refine cF Z bo (kN (sR fL6 Z (oM Z Z (oM Z ax (oR Z (Runs.iaA Z aw Z Try.runUnderlying109 Try.sizeOf108 (wBl ao) (wBm ao)) (oR Z (Runs.iaA Z Z Z Try.runUnderlying108 zC (wBl an) (wBm an)) ?_))))))
 have dI:=Arr.at_ ab (k:=(au * 8 + am)) (by have hz0:=wAa ao;have hz1:=wAa an;omega)
 refine zl rfl rfl rfl rfl (ay.ldB (j:=1) rfl rfl rfl zG (wAj (sz:=1) (fun _=>rfl) _ _ 0 _ dI (by first | omega | rfl | simp) rfl)) rfl (zY rfl rfl rfl rfl (fun _=>yn rfl rfl rfl) (eN (ifc dP ?_ ?_)))
 intro bq dQ
 refine cT Z bq (rR (wDe (.fx 4 .nil .stop)) Z (oR Z (zJ Z ak ZK Z zC) (oL Z (ay.ldB (j:=0) Z Z Z zG (v:=jV ap) Z) (oR Z (zf Z Z Z) (oR Z (zJ Z ak ZK Z zC) (zV (j:=0) (vs:=[jV (w64 (ap + 1))]) Z Z Z Z ay Z Z Z Z zC (zA Z) Z Z Z ?_))))))
 intro cq df
 have dg:sW w U av [.blk aq 41 [jV az,jV (w64 (ap + 1))],.blk aj 109 (hD KL.encI ab.l),B1,.obj af (.map ah ag),.blk b2 28 B0,B4] cq:=df
 refine zg (ZH (zL (rR fL2 Z (oR Z (ZS (zf Z aK Z) (congrArg (jV) a6.out)) (oM Z Z (zg ?_))))))
 cases dQ
 exact zL ⟨Z,⟨av,Z,aW,aw,aX,ax,ak,aY,aZ,aU,a7,dg⟩⟩
 intro bq dR
 refine cF Z bq (Zl (ZH (zL (rR fL2 Z (oR Z (ZS (zf Z aK Z) (congrArg (jV) a6.out)) (oM Z Z (zg ?_)))))))
 cases dR
 exact zL ⟨Z,⟨av,Z,aW,aw,aX,ax,ak,aY,aZ,aU,a7,ay⟩⟩
 rintro eJ ek ⟨bj,cO,cE,cG,cH,ep,cI,cJ,cK,cL,d7,bX⟩
 have cz:Hid (¬ ((↑(((↑p0.Starts.length:Int):Int) - 0).toNat:Int) < (↑p0.Starts.length:Int))):=zS (wAh)
 refine sR fL1 Z (oR Z (zh Z cO cL) (eN (zM (cF Z cz (Zf (zx (zx (Zc (zL (rR gFm Z (oM Z cH ?_)))))))))))
 let B5:List Value:=[jV bf,jV bg]
 refine oL Z (bX.ldBA (j:=0) Z Z cI Zn zj (vs:=B5) Z Z) (ZE (pv:=[(0,.agg B5.toArray)]) (zs:=B2) (cs:=B5) Z Z Z Z Z (wAF Z wAO) ZQ zj ZJ Z Z Z Z Z bX ?_)
 intro cr cy dh
 let B6:Res:=.row (some ⟨cy,0,none⟩) 1 41 2 (hD wAG [(⟨bf,bg⟩:wAJ)])
 have bY:sW w U bj [B6,.blk aq 41 B5,.blk aj 109 (hD KL.encI ab.l),B1,.obj af (.map ah ag),.blk b2 28 B0,B4] cr:=dh
 refine bnK cc fun cf cQ dS=>yP (j:=6) (enc:=wAG) (xs:=aL) (ys:=[(⟨bf,bg⟩:wAJ)]) (zs:=cf) rfl rfl rfl rfl rfl Try.underlying24 wLO rfl rfl rfl rfl rfl rfl bY rfl rfl rfl (bY.srcR (j:=0) rfl (by decide) (wAE (f:=wAG) (sz:=2) (fun _=>rfl) [(⟨bf,bg⟩:wAJ)])) (fun _=>rfl) (fun _=>rfl) cQ rfl ?_
 intro bD bN ct di
 have dk:sW w U bj [B6,.blk aq 41 B5,.blk aj 109 (hD KL.encI ab.l),B1,.obj af (.map ah ag),.blk b2 28 B0,.row bD bN 41 2 (hD wAG cf)] ct:=di
 refine oA Z Z (zg (ZH (zL (rR fL2 Z (oR Z (ZS (zf Z cK Z) (congrArg (jV) dJ.out)) (oM Z Z (zg ?_)))))))
 cases dS
 exact zL ⟨rfl,⟨bj,bD,bN,rfl,cE,cG,rfl,cJ,(d9.trans d7),(dk.pick [2,3,4,5,6] _ (by decide) rfl)⟩⟩
 rintro eK en ⟨cj,ci,cA,cP,er,eu,cM,cN,ey,dl⟩
 have cB:Hid (¬ ((↑(((↑p0.Starts.length:Int):Int) - 0).toNat:Int) < (↑p0.Starts.length:Int))):=zS (wAh)
 refine sR fL1 Z (oR Z (zh Z cP cN) (eN (zM (cF Z cB (Zf (zx (zx (Zc (zL (sR fL3 Z (oM Z cM (oA Z Z (oA Z Z (eN (zU ?_)))))))))))))))
 cases dY
 exact ⟨rfl,_,(wDv rfl rfl),cj,_,(dl.pick [4] _ (by decide) rfl),ci,cA,rfl,rfl⟩
 intro bs dT
 refine cT Z bs (sR fL3 Z (oM Z Z (oA Z Z (oA Z Z (eN (zU (zN ?_)))))))
 have dm:=ca.nilrow 41 2
 cases dT
 exact ⟨rfl,_,(wDv rfl rfl),U9,_,(dm.pick [0] _ (by decide) rfl),none,0,rfl,rfl⟩
end Go.Proofs.Ytlnfbjphfoipaaa
namespace Go.Proofs.Ytlnfbjphfoipaaa
open Go.KL
set_option maxHeartbeats 4000000
theorem wGJ (p0:wAL) (p1:Int) (af:Nat) (p2:Int) (ag:Nat) (w:World) (U:PHeap) (hS:St0 w U []) (ah:Cl U af 0 [jV p1]) (ai:Cl U ag 0 [jV p2]) {r:Bool} (hm:wCd p0 p1 p2=some r):Gv Try.prog 87 [.agg #[jV p0.Skier,jV p0.Mat,jV p0.Clock,jV p0.Time],.pointer (some ⟨af,0,none⟩),.pointer (some ⟨ag,0,none⟩)] w (wCB w [] U (fun U_ L_ v=>v=.bool r/\L_=[])):=by
 unfold wCd at hm
 refine Gv.of Try.func87 rfl Try.ntmps87 Try.results87 rfl (sR gEz rfl (zu (cs:=[jV p0.Skier,jV p0.Mat,jV p0.Clock,jV p0.Time]) rfl rfl rfl rfl rfl rfl (by rfl) hS ?_))
 intro W1 b2 ae
 refine oA Z Z (eN (sR fL10 Z (oR Z (zJ Z Z ZM Z zC) (oL Z (ae.ldB (j:=0) Z Z Z zG (v:=jV p0.Skier) Z) (oR Z (zJ Z Z ZM Z zC) (oL Z (ae.ldB (j:=0) Z Z Z zG (v:=jV p0.Mat) Z) (oR Z (zo (pv:=[(0,jV p0.Skier),(1,jV p0.Mat)]) (z:=[jV 0,jV 0]) (cs:=[jV p0.Skier,jV p0.Mat]) Z (wAF Z (wAF Z wAO)) Zb wFF Z Z) (oL Z (ae.ldC (f:=0) ah (v:=jV p1) Z Z zG Z) (oL Z (ae.ldC (f:=0) ai (v:=jV p2) Z Z zG Z) (oR Z (zo (pv:=[(0,jV p1),(1,jV p2)]) (z:=[jV 0,jV 0]) (cs:=[jV p1,jV p2]) Z (wAF Z (wAF Z wAO)) Zb wFF Z Z) (oR Z (Runs.eqS (enc:=wAT) (a:=(⟨p0.Skier,p0.Mat⟩:wAI)) (b:=(⟨p1,p2⟩:wAI)) Z Z Z wMl wMk) (oA Z Z (eN (zU ?_))))))))))))))
 first | (obtain rfl:=hH hm) | cases hm
 exact ⟨rfl,_,(ZL rfl),U,_,(ae.pick [] _ (by decide) rfl),rfl,rfl⟩
theorem wCb (p0:List wAL) (am:Option Addr) (an:Nat) (p1:(wAL->Option Bool)) (ao:Value) (w:World) (U:PHeap) (hS:St0 w U []) (aY:Sl U 4 am an p0.length (hD wAB p0)) (aZ:FnOK Try.prog U ao wJe wJf p1) {r:Int} (hm:wAs p0 p1=some r):Gv Try.prog 106 [.slice am p0.length an,ao] w (wCB w [] U (fun U_ L_ v=>v=jV r/\L_=[])):=by
 unfold wAs at hm
 refine Gv.of Try.func106 Z Try.ntmps106 Try.results106 Z (sR fL1 Z (oA Z Z (eN (zM (sR fL3 Z (oM Z Z (oR Z (zz Z Z ZX) (oM Z Z (eN (zc ?_))))))))))
 have q:=wBg hm
 obtain ⟨r3,ah⟩:=q
 have q:=wBf ah
 obtain ⟨aj,a7⟩:=q
 replace aj:=zS aj
 refine yL (fun k2 _ σ_ w_=>∃ (U_:PHeap),σ_ 8=jV (↑k2:Int)/\σ_ 0=.slice am p0.length an/\σ_ 1=ao/\σ_ 7=jV (↑p0.length:Int)/\PHeap.Le U U_/\sW w U U_ [] w_) a7 ?_ ?_ ?_
 exact ⟨U,Z,Z,Z,Z,(zW _),hS⟩
 rintro k2 ⟨⟩ bt bv W8 ai ⟨bh,ag,aq,au,av,ak,ax⟩ aJ a5
 try dsimp only at aJ
 have ap:Hid ((↑k2:Int) < (↑p0.length:Int)):=zS (wBD ai)
 replace ai:=zS ai
 have a8:Hid (w64 ((↑k2:Int) + 1)=(↑(k2 + 1):Int)):=zS (by have h1:=aj.out;have h2:=ap.out;rw [wAU] <;> omega)
 refine sR fL1 Z (oR Z (zh Z ag av) (eN (zM (cT Z ap (kN (zM (zc (sR fL2 Z (oM Z ag (oA Z Z (eN (sR (wGL (.fx 5 .nil .stop)) Z (oM Z au (oM Z aq (oM Z Z (bnK aJ fun ac aw a9=>?_))))))))))))))))
 have aR:=aY.le ak
 have q:=aR.el (fun _=>rfl) (wAW aw)
 obtain ⟨bk,bp,aU,aV⟩:=q
 refine oR Z (Zi Z Z aU Z ZX Ze (wBi aw)) (oL Z (ax.ldCA (f:=0) aV Z Z yo Ze (us:=[jV ac.Skier,jV ac.Mat,jV ac.Clock,jV ac.Time]) Z Z) (bnK a9 fun bs aS ba=>?_))
 have aT:=aZ.le ak
 refine yv (a:=ac) Z Z Z Z Z Z (zB Z zK) ax aT Z aS ?_
 rintro ae bg br aM be aW ⟨rfl,rfl⟩
 have ay:sW w U ae [] aM:=aW
 refine eN (ifc ba ?_ ?_)
 intro af bb
 refine ZD (congrArg hJ af.out) (sR fL2 Z (oM Z Z (oA Z Z (eN (zU (zX (zN ?_)))))))
 have q:=wAV bb
 obtain ⟨bf,bc,aO⟩:=q
 obtain rfl:=wAk hm ah (a5 bf aO)
 refine zN (zX (zN ?_))
 cases bc
 exact ⟨Z,_,(ZL Z),ae,_,ay,Z,Z⟩
 intro af bd
 refine zn (congrArg hJ (nA.2 af.out)) (Zl (ZH (zL (rR fL2 Z (oR Z (ZS (zf Z ag Z) (congrArg (jV) a8.out)) (oM Z Z (zg ?_)))))))
 obtain rfl:=hH bd
 exact zL ⟨Z,_,Z,⟨ae,Z,aq,au,av,(ak.trans be),ay⟩⟩
 rintro ⟨⟩ bu bi ⟨aL,aQ,bm,bn,aP,bo,aX⟩ a6
 have az:=wCV hm ah a6
 try dsimp only at az
 have aN:Hid (¬ ((↑(((↑p0.length:Int):Int) - 0).toNat:Int) < (↑p0.length:Int))):=zS (wAh)
 refine sR fL1 Z (oR Z (zh Z aQ aP) (eN (zM (cF Z aN (Zf (zx (zx (Zc (zL (sR fL1 Z (oA Z Z (eN (zU ?_)))))))))))))
 cases az
 exact ⟨Z,_,(ZL Z),aL,_,aX,Z,Z⟩
theorem wCP (p0:List wAL) (ac:Option Addr) (ae:Nat) (p1:(wAL->Option Bool)) (af:Value) (w:World) (U:PHeap) (hS:St0 w U []) (an:Sl U 4 ac ae p0.length (hD wAB p0)) (ao:FnOK Try.prog U af wJe wJf p1) {r:Bool} (hm:wAo p0 p1=some r):Gv Try.prog 86 [.slice ac p0.length ae,af] w (wCB w [] U (fun U_ L_ v=>v=.bool r/\L_=[])):=by
 unfold wAo at hm
 refine Gv.of Try.func86 Z Try.ntmps86 Try.results86 Z (sR fL1 Z (oA Z Z (eN (sR gFn Z (oM Z Z (oM Z Z (bnK hm fun x1 h2 ah=>zE 0 Z Z Z Z (zD Z Z Try.call106 (zB Z (zB Z zK)) Z) hS (fun hs=>wCb p0 ac ae p1 af w U hs an ao h2) (.inr Z) ?_)))))))
 rintro U4 L5 v6 W7 aq am ⟨rfl,rfl⟩
 have ak:sW w U U4 [] W7:=am
 refine oR Z (Runs.geq Z Z Z) (oA Z Z (eN (zU ?_)))
 first | (obtain rfl:=hH ah) | cases ah
 exact ⟨Z,_,(ZL Z),U4,_,ak,Z,Z⟩
theorem wHD (p0:wAC) (aN:Option Addr) (aP:Nat) (aO:Option Addr) (aQ:Nat) (aZ:Option Addr) (a5:Nat) (ao:Option Addr) (ap:Nat) (w:World) (U:PHeap) (hS:St0 w U []) (db:Sl U 1 aN aP p0.Starts.length (hD KL.encI p0.Starts)) (dd:Sl U 2 aO aQ p0.Splits.length (hD wAG p0.Splits)) (de:Sl U 3 aZ a5 p0.Clocks.length (hD wAA p0.Clocks)) (bE:Sl U 4 ao ap p0.Readings.length (hD wAB p0.Readings)) {r:(List wAI) × Int} (hm:wET p0=some r):Gv Try.prog 53 [.agg #[.slice aN p0.Starts.length aP,.slice aO p0.Splits.length aQ,.slice aZ p0.Clocks.length a5,.slice ao p0.Readings.length ap]] w (wCB w [] U (fun U_ L_ v=>∃ (A0:Option Addr) (c0:Nat),v=.tuple #[.slice A0 r.1.length c0,jV r.2]/\L_=[.row A0 c0 45 2 (hD wAT r.1)])):=by
 unfold wET at hm
 refine Gv.of Try.func53 Z Try.ntmps53 Try.results53 Z (sR gFb Z ?_)
 let B0:List Value:=[.slice aN p0.Starts.length aP,.slice aO p0.Splits.length aQ,.slice aZ p0.Clocks.length a5,.slice ao p0.Readings.length ap]
 refine zu (cs:=B0) rfl rfl rfl rfl rfl rfl (by rfl) hS ?_
 intro W1 b2 bD
 refine oA Z Z (oA Z Z (eN (zM (sR gFd Z (oL Z (bD.ldBA (j:=0) Z Z Z ze zZ (vs:=B0) Z Z) (bnK hm fun x5 h6 du=>zE 0 Z Z Z Z (zD Z Z Try.call68 (zB Z zK) Z) bD (fun hs=>wDt p0 aN aP aO aQ aZ a5 ao ap W1 U hs db dd de bE h6) (.inr Z) ?_))))))
 rintro U8 L9 dK bQ dw cD ⟨rfl,rfl⟩
 have bi:sW w U U8 [.blk b2 28 B0] bQ:=cD
 refine oA Z Z (eN (sR fL2 Z (oM Z Z (oR Z (ZN Z Z Z) (eN (ifc du ?_ ?_))))))
 intro bd dn
 refine zn (zd (fun h=>h bd.out)) (kN (sR fL1 Z (oA Z Z (eN (zM (sR fL4 Z (oR Z (zJ Z Z zQ Z zq) (oL Z (bi.ldB (j:=0) Z Z Z zy (v:=.slice aN p0.Starts.length aP) Z) (oR Z (zz Z Z zH) (oM Z Z (eN (zc (bnK dn fun dQ dg dt=>?_)))))))))))))
 have q:=wBn dg
 obtain ⟨bk,dh⟩:=q
 replace bk:=zS bk
 refine CK.forN' (fun af aX σ_ w_=>∃ (U_:PHeap) (aq:Option Addr) (av:Nat),σ_ 16=jV (↑af:Int)/\σ_ 1=.pointer (some ⟨b2,0,none⟩)/\σ_ 5=.slice aq aX.length av/\σ_ 15=jV (↑p0.Starts.length:Int)/\PHeap.Le U8 U_/\sW w U U_ [.blk b2 28 B0,.row aq av 45 2 (hD wAT aX)] w_) dh ?_ ?_ ?_
 have cS:=bi.nilrow 45 2
 exact ⟨U8,none,0,rfl,rfl,rfl,rfl,(zW _),(cS.pick [1,0] _ (by decide) rfl)⟩
 rintro af aX dO dS dF bj ⟨bp,aq,av,bh,ci,cj,bv,bH,cU⟩ dv
 have bu:Hid ((↑af:Int) < (↑p0.Starts.length:Int)):=zS (wBD bj)
 replace bj:=zS bj
 have di:Hid (w64 ((↑af:Int) + 1)=(↑(af + 1):Int)):=zS (by have h1:=bk.out;have h2:=bu.out;rw [wAU] <;> omega)
 refine sR fL1 Z (oR Z (zh Z bh bv) (eN (zM (cT Z bu (kN (zM (zc (sR gFc Z (oM Z bh (zT (cs:=[jV 0]) Z Z Z Z Z zw Z cU ?_))))))))))
 intro dG ah cV
 let B1:List Value:=[jV (↑af:Int)]
 refine zV (j:=0) (vs:=B1) Z Z Z Z cV Z Z Z Z zC (zA Z) Z Z Z ?_
 intro bZ cW
 let B2:Res:=.row aq av 45 2 (hD wAT aX)
 have cX:sW w U bp [.blk ah 3 B1,.blk b2 28 B0,B2] bZ:=cW
 refine eN (sR gFa Z (zT (cs:=[jV 0]) Z Z Z Z Z zw Z cX ?_))
 intro dH bb cY
 refine zV (j:=0) (vs:=[jV 1]) Z Z Z Z cY Z Z Z Z zC (zA Z) Z Z Z ?_
 intro bq cZ
 have c6:sW w U bp [.blk bb 3 [jV 1],.blk ah 3 B1,.blk b2 28 B0,B2] bq:=cZ
 refine eN (zc ?_)
 have q:=c6.freeze (k:=1) rfl
 obtain ⟨aU,bI,ay,c8⟩:=q
 replace ay:=Cl.of ay
 have da:sW w U aU [.blk bb 3 [jV 1],.blk b2 28 B0,B2] bq:=c8
 replace ay:Cl aU ah 0 B1:=ay
 refine CK.iter (fun (aK,ab) σ_ w_=>∃ (U_:PHeap) (am:Option Addr) (an:Nat) (ai:Nat),σ_ 1=.pointer (some ⟨b2,0,none⟩)/\σ_ 5=.slice am aK.length an/\σ_ 6=.pointer (some ⟨ah,0,none⟩)/\σ_ 7=.pointer (some ⟨ai,0,none⟩)/\σ_ 15=jV (↑p0.Starts.length:Int)/\σ_ 16=jV (↑af:Int)/\PHeap.Le aU U_/\sW w U U_ [.blk b2 28 B0,.row am an 45 2 (hD wAT aK),.blk ai 3 [jV ab]] w_) dv ?_ ?_
 exact ⟨aU,aq,av,bb,ci,cj,rfl,rfl,bv,bh,(zW _),(da.pick [1,2,0] _ (by decide) rfl)⟩
 rintro ⟨aK,ab⟩ dP dT br ⟨bM,am,an,ai,aw,be,aW,ax,bf,bg,aL,az⟩ bm df
 try dsimp only at bm
 refine zM (sR fL5 Z (oL Z (az.ldB (j:=2) Z Z ax zG (v:=jV ab) Z) (oR Z (zJ Z aw zQ Z yE) (oL Z (az.ldB (j:=0) Z Z Z yS (v:=.slice aO p0.Splits.length aQ) Z) (oR Z (zz Z Z ZQ) (oR Z (Runs.leq Z Z Z) (eN ?_)))))))
 by_cases aj:ab <= (↑p0.Splits.length:Int)
 have bF:=bm;rw [if_pos aj] at bF;replace aj:=zS aj
 refine cT Z aj (kN (zM (zc (sR (wCa gEy) Z (oR Z (zJ Z aw zQ Z Zr) (oL Z (az.ldB (j:=0) Z Z Z yM (v:=.slice ao p0.Readings.length ap) Z) ?_))))))
 have q:=az.freeze (k:=2) rfl
 obtain ⟨aT,aY,ak,cB⟩:=q
 replace ak:=Cl.of ak
 let B3:Res:=.row am an 45 2 (hD wAT aK)
 have cC:sW w U aT [.blk b2 28 B0,B3] br:=cB
 replace ak:Cl aT ai 0 [jV ab]:=ak
 refine oR Z (yc Z zK (zB aW (zB ax zK))) ?_
 have cn:=bE.le dw
 have co:=cn.le bH
 have cp:=co.le bI
 have cq:=cp.le aL
 have cr:=cq.le aY
 have ct:=ay.le aL
 have bw:=ct.le aY
 have cA:FnOK Try.prog aT (.func (.func 87) #[] #[.pointer (some ⟨ah,0,none⟩),.pointer (some ⟨ai,0,none⟩)]) wJe wJf (fun x=>wCd x (↑af:Int) ab):=⟨87,[],[.pointer (some ⟨ah,0,none⟩),.pointer (some ⟨ai,0,none⟩)],rfl,Try.call87,fun U1 w1 x y vs le hs ha hm=>by obtain rfl:=ha;exact wGJ x (↑af:Int) ah ab ai w1 U1 hs (bw.le le) (ak.le le) hm⟩
 refine bnK bF fun dM cu dk=>zE 0 Z Z Z Z (zD Z Z Try.call86 (zB Z (zB Z zK)) Z) cC (fun hs=>wCP p0.Readings ao ap (fun x=>wCd x (↑af:Int) ab) (.func (.func 87) #[] #[.pointer (some ⟨ah,0,none⟩),.pointer (some ⟨ai,0,none⟩)]) br aT hs cr cA cu) (.inr Z) ?_
 rintro ag dA dL bR aM cE ⟨rfl,rfl⟩
 have aJ:sW w U ag [.blk b2 28 B0,B3] bR:=cE
 refine oR Z (ZT Z Z) (eN (ifc dk ?_ ?_))
 intro bc dl
 refine zn (nC bc.out) (Zl (ZH (zL (zM (sR fL1 Z ?_)))))
 have cw:=ak.le aM
 refine oL Z (aJ.ldC (f:=0) cw (v:=jV ab) Z ax zG Z) (eN (rR gFa Z (zT (cs:=[jV 0]) Z Z Z Z Z zw Z aJ ?_)))
 intro dC a9 cG
 refine zV (j:=0) (vs:=[jV ab]) Z Z Z Z cG Z Z Z Z zC (zA Z) Z Z Z ?_
 intro bS cH
 have bz:sW w U ag [.blk a9 3 [jV ab],.blk b2 28 B0,B3] bS:=cH
 refine eN (rR gFe Z (oL Z (bz.ldB (j:=0) Z Z Z zG (v:=jV ab) Z) (oR Z (zf Z Z Z) (zV (j:=0) (vs:=[jV (w64 (ab + 1))]) Z Z Z Z bz Z Z Z Z zC (zA Z) Z Z Z ?_))))
 intro bU cI
 have cJ:sW w U ag [.blk a9 3 [jV (w64 (ab + 1))],.blk b2 28 B0,B3] bU:=cI
 refine zg ?_
 obtain rfl:=hH dl
 exact zL ⟨rfl,_,rfl,⟨ag,am,an,a9,aw,be,aW,rfl,bf,bg,((aL.trans aY).trans aM),(cJ.pick [1,2,0] _ (by decide) rfl)⟩⟩
 intro bc dm
 refine ZD (nF (bc.out)) (rR (wDe (.fx 4 (.fx 5 (.fl 6 .nil) .stop) .stop)) Z (oM Z be ?_))
 have cx:=bw.le aM
 refine oL Z (aJ.ldC (f:=0) cx (v:=jV (↑af:Int)) Z aW zG Z) ?_
 have bx:=ak.le aM
 refine oL Z (aJ.ldC (f:=0) bx (v:=jV ab) Z ax zG Z) ?_
 let B4:List Value:=[jV (↑af:Int),jV ab]
 refine oR Z (zo (pv:=[(0,jV (↑af:Int)),(1,jV ab)]) (z:=[jV 0,jV 0]) (cs:=B4) Z (wAF Z (wAF Z wAO)) Zb wFF Z Z) (ZE (pv:=[(0,.agg B4.toArray)]) (zs:=[jV 0,jV 0]) (cs:=B4) Z Z Z Z Z (wAF Z wAO) Zq ZC Zb Z Z Z Z Z aJ ?_)
 intro bV ca cK
 let B5:Res:=.row (some ⟨ca,0,none⟩) 1 45 2 (hD wAT [(⟨(↑af:Int),ab⟩:wAI)])
 have bA:sW w U ag [B5,.blk b2 28 B0,B3] bV:=cK
 refine bnK dm fun bJ cy dp=>yP (j:=2) (enc:=wAT) (xs:=aK) (ys:=[(⟨(↑af:Int),ab⟩:wAI)]) (zs:=bJ) rfl rfl rfl rfl rfl Try.underlying112 wMi rfl rfl rfl rfl rfl rfl bA rfl rfl rfl (bA.srcR (j:=0) rfl (by decide) (wAE (f:=wAT) (sz:=2) (fun _=>rfl) [(⟨(↑af:Int),ab⟩:wAI)])) (fun _=>rfl) (fun _=>rfl) cy rfl ?_
 intro bo bt bW cL
 let B6:Res:=.row bo bt 45 2 (hD wAT bJ)
 have bB:sW w U ag [B5,.blk b2 28 B0,B6] bW:=cL
 refine oA Z Z (zg (ZH (zL (zM (sR fL1 Z (oL Z (bB.ldC (f:=0) bx (v:=jV ab) Z ax zG Z) (eN (rR gFa Z (zT (cs:=[jV 0]) Z Z Z Z Z zw Z bB ?_)))))))))
 intro dD ba cM
 refine zV (j:=0) (vs:=[jV ab]) Z Z Z Z cM Z Z Z Z zC (zA Z) Z Z Z ?_
 intro bX cN
 have bC:sW w U ag [.blk ba 3 [jV ab],B5,.blk b2 28 B0,B6] bX:=cN
 refine eN (rR gFe Z (oL Z (bC.ldB (j:=0) Z Z Z zG (v:=jV ab) Z) (oR Z (zf Z Z Z) (zV (j:=0) (vs:=[jV (w64 (ab + 1))]) Z Z Z Z bC Z Z Z Z zC (zA Z) Z Z Z ?_))))
 intro bY cO
 have cP:sW w U ag [.blk ba 3 [jV (w64 (ab + 1))],B5,.blk b2 28 B0,B6] bY:=cO
 refine zg ?_
 obtain rfl:=hH dp
 exact zL ⟨rfl,_,rfl,⟨ag,bo,bt,ba,aw,rfl,aW,rfl,bf,bg,((aL.trans aY).trans aM),(cP.pick [2,3,0] _ (by decide) rfl)⟩⟩
 have bG:=bm;rw [if_neg aj] at bG;replace aj:=zS aj
 refine cF Z aj (Zf (zx ?_))
 have q:=wAV bG
 obtain ⟨dx,dq,cd⟩:=q
 obtain rfl:=df dx cd
 refine zx (Zc (ZH (zL (rR fL2 Z (oR Z (ZS (zf Z bg Z) (congrArg (jV) di.out)) (oM Z Z (zg ?_)))))))
 cases dq
 exact zL ⟨rfl,⟨bM,am,an,rfl,aw,be,bf,((bH.trans bI).trans aL),(az.pick [0,1] _ (by decide) rfl)⟩⟩
 rintro dR dE ⟨bN,bK,cb,cm,dI,cf,cg,dJ,cQ⟩
 have cc:Hid (¬ ((↑(((↑p0.Starts.length:Int):Int) - 0).toNat:Int) < (↑p0.Starts.length:Int))):=zS (wAh)
 refine sR fL1 Z (oR Z (zh Z cm cg) (eN (zM (cF Z cc (Zf (zx (zx (Zc (zL (sR fL3 Z (oM Z cf (oA Z Z (oA Z Z (eN (zU ?_)))))))))))))))
 cases dt
 exact ⟨rfl,_,(wDv rfl rfl),bN,_,(cQ.pick [1] _ (by decide) rfl),bK,cb,rfl,rfl⟩
 intro bd dr
 refine cT Z bd (sR fL3 Z (oM Z Z (oA Z Z (oA Z Z (eN (zU (zN ?_)))))))
 have cR:=bi.nilrow 45 2
 cases dr
 exact ⟨rfl,_,(wDv rfl rfl),U8,_,(cR.pick [0] _ (by decide) rfl),none,0,rfl,rfl⟩
theorem wEK (p0:List wAJ) (ao:Option Addr) (aq:Nat) (p1:List wAJ) (ap:Option Addr) (au:Nat) (w:World) (U:PHeap) (hS:St0 w U []) (a9:Sl U 2 ao aq p0.length (hD wAG p0)) (ba:Sl U 2 ap au p1.length (hD wAG p1)) {r:Bool} (hm:wCF p0 p1=some r):Gv Try.prog 18 [.slice ao p0.length aq,.slice ap p1.length au] w (wCB w [] U (fun U_ L_ v=>v=.bool r/\L_=[])):=by
 unfold wCF at hm
 refine Gv.of Try.func18 Z Try.ntmps18 Try.results18 Z (sR fL1 Z (oA Z Z (eN (zM (sR fL5 Z (oM Z Z (oR Z (zz Z Z ZQ) (oM Z Z (oR Z (zz Z Z ZQ) (oR Z (ZN Z Z Z) (eN ?_)))))))))))
 by_cases c1:(↑p0.length:Int)=(↑p1.length:Int)
 have ag:=hm;rw [if_pos c1] at ag;replace c1:=zS c1
 refine zn (zd (fun h=>h c1.out)) (kN (zM (sR fL3 Z (oM Z Z (oR Z (zz Z Z ZQ) (oM Z Z (eN (zc ?_))))))))
 have q:=wBg ag
 obtain ⟨r5,aj⟩:=q
 have q:=wBf aj
 obtain ⟨am,bd⟩:=q
 replace am:=zS am
 refine yL (fun k4 _ σ_ w_=>∃ (U_:PHeap),σ_ 13=jV (↑k4:Int)/\σ_ 0=.slice ao p0.length aq/\σ_ 1=.slice ap p1.length au/\σ_ 12=jV (↑p0.length:Int)/\PHeap.Le U U_/\sW w U U_ [] w_) bd ?_ ?_ ?_
 exact ⟨U,Z,Z,Z,Z,(zW _),hS⟩
 rintro k4 ⟨⟩ bw bz ay ak ⟨ax,ai,aJ,aK,aL,an,a7⟩ aQ bb
 try dsimp only at aQ
 have az:Hid ((↑k4:Int) < (↑p0.length:Int)):=zS (wBD ak)
 replace ak:=zS ak
 have be:Hid (w64 ((↑k4:Int) + 1)=(↑(k4 + 1):Int)):=zS (by have h1:=am.out;have h2:=az.out;rw [wAU] <;> omega)
 refine sR fL1 rfl (zY rfl rfl rfl rfl (fun _=>zh rfl ai aL) (eN (zM (cT Z az (kN (zM (zc (sR fL2 rfl (zr rfl rfl rfl rfl rfl ai (yD rfl rfl rfl rfl rfl rfl (eN (zM (ZA ZB [3,3,3,1,3,3,3,1,3] fL9 (by kernel_rfl) ?_)))))))))))))
 have ae:=a7.drew
 generalize hw_W25:({ ay with drawn:=ay.drawn + 1 }:World)=bm at ae ⊢
 refine oM Z aJ (oM Z Z (bnK aQ fun av aM bf=>?_))
 have aW:=a9.le an
 have q:=aW.el (fun _=>rfl) (wAW aM)
 obtain ⟨bo,bt,aY,a5⟩:=q
 refine oR Z (Zi Z Z aY Z ZQ zj (wBi aM)) (oL Z (ae.ldCA (f:=0) a5 Z Z Zn zj (us:=[jV av.Lo,jV av.Hi]) Z Z) (oM Z aK (oM Z Z (bnK bf fun aw aN bg=>?_))))
 have aX:=ba.le an
 have q:=aX.el (fun _=>rfl) (wAW aN)
 obtain ⟨bp,bu,aZ,a6⟩:=q
 refine oR Z (Zi Z Z aZ Z ZQ zj (wBi aN)) (oL Z (ae.ldCA (f:=0) a6 Z Z Zn zj (us:=[jV aw.Lo,jV aw.Hi]) Z Z) (oR Z (ZS (Runs.neS (enc:=wAG) (a:=av) (b:=aw) Z Z Z wKo wKn) (congrArg hJ (decide_not).symm)) (eN (ifc bg ?_ ?_))))
 intro ah bh
 refine zn (zd (fun h=>h ah.out)) (Zl (ZH (zL (rR fL2 Z (oR Z (ZS (zf Z ai Z) (congrArg (jV) be.out)) (oM Z Z (zg ?_)))))))
 obtain rfl:=hH bh
 exact zL ⟨Z,_,Z,⟨ax,Z,aJ,aK,aL,an,ae⟩⟩
 intro ah bi
 refine cT Z ah (sR fL1 Z (oA Z Z (eN (zU (zX (zN ?_))))))
 have q:=wAV bi
 obtain ⟨bk,bj,aT⟩:=q
 obtain rfl:=wAk ag aj (bb bk aT)
 refine zN (zX (zN ?_))
 have hE:=hH bj;first | subst r | cases hE
 exact ⟨Z,_,(ZL Z),ax,_,ae,Z,Z⟩
 rintro ⟨⟩ bx bn ⟨aR,aV,bq,br,aU,bs,a8⟩ bc
 have aO:=wCV ag aj bc
 try dsimp only at aO
 have aS:Hid (¬ ((↑(((↑p0.length:Int):Int) - 0).toNat:Int) < (↑p0.length:Int))):=zS (wAh)
 refine sR fL1 Z (oR Z (zh Z aV aU) (eN (zM (cF Z aS (Zf (zx (zx (Zc (zL (sR fL1 Z (oA Z Z (eN (zU ?_)))))))))))))
 have hE:=hH aO;first | subst r | cases hE
 exact ⟨Z,_,(ZL Z),aR,_,a8,Z,Z⟩
 have aP:=hm;rw [if_neg c1] at aP;replace c1:=zS c1
 refine cT Z c1 (sR fL1 Z (oA Z Z (eN (zU (zN ?_)))))
 have hE:=hH aP;first | subst r | cases hE
 exact ⟨Z,_,(ZL Z),U,_,hS,Z,Z⟩
theorem wEB (p0:List wAI) (ao:Option Addr) (aq:Nat) (p1:List wAI) (ap:Option Addr) (au:Nat) (w:World) (U:PHeap) (hS:St0 w U []) (a9:Sl U 2 ao aq p0.length (hD wAT p0)) (ba:Sl U 2 ap au p1.length (hD wAT p1)) {r:Bool} (hm:wBv p0 p1=some r):Gv Try.prog 54 [.slice ao p0.length aq,.slice ap p1.length au] w (wCB w [] U (fun U_ L_ v=>v=.bool r/\L_=[])):=by
 unfold wBv at hm
 refine Gv.of Try.func54 Z Try.ntmps54 Try.results54 Z (sR fL1 Z (oA Z Z (eN (zM (sR fL5 Z (oM Z Z (oR Z (zz Z Z Zq) (oM Z Z (oR Z (zz Z Z Zq) (oR Z (ZN Z Z Z) (eN ?_)))))))))))
 by_cases c1:(↑p0.length:Int)=(↑p1.length:Int)
 have ag:=hm;rw [if_pos c1] at ag;replace c1:=zS c1
 refine zn (zd (fun h=>h c1.out)) (kN (zM (sR fL3 Z (oM Z Z (oR Z (zz Z Z Zq) (oM Z Z (eN (zc ?_))))))))
 have q:=wBg ag
 obtain ⟨r5,aj⟩:=q
 have q:=wBf aj
 obtain ⟨am,bd⟩:=q
 replace am:=zS am
 refine yL (fun k4 _ σ_ w_=>∃ (U_:PHeap),σ_ 13=jV (↑k4:Int)/\σ_ 0=.slice ao p0.length aq/\σ_ 1=.slice ap p1.length au/\σ_ 12=jV (↑p0.length:Int)/\PHeap.Le U U_/\sW w U U_ [] w_) bd ?_ ?_ ?_
 exact ⟨U,Z,Z,Z,Z,(zW _),hS⟩
 rintro k4 ⟨⟩ bw bz ay ak ⟨ax,ai,aJ,aK,aL,an,a7⟩ aQ bb
 try dsimp only at aQ
 have az:Hid ((↑k4:Int) < (↑p0.length:Int)):=zS (wBD ak)
 replace ak:=zS ak
 have be:Hid (w64 ((↑k4:Int) + 1)=(↑(k4 + 1):Int)):=zS (by have h1:=am.out;have h2:=az.out;rw [wAU] <;> omega)
 refine sR fL1 rfl (zY rfl rfl rfl rfl (fun _=>zh rfl ai aL) (eN (zM (cT Z az (kN (zM (zc (sR fL2 rfl (zr rfl rfl rfl rfl rfl ai (yD rfl rfl rfl rfl rfl rfl (eN (zM (ZA ZB [3,3,3,1,3,3,3,1,3] fL9 (by kernel_rfl) ?_)))))))))))))
 have ae:=a7.drew
 generalize hw_W25:({ ay with drawn:=ay.drawn + 1 }:World)=bm at ae ⊢
 refine oM Z aJ (oM Z Z (bnK aQ fun av aM bf=>?_))
 have aW:=a9.le an
 have q:=aW.el (fun _=>rfl) (wAW aM)
 obtain ⟨bo,bt,aY,a5⟩:=q
 refine oR Z (Zi Z Z aY Z Zq ZC (wBi aM)) (oL Z (ae.ldCA (f:=0) a5 Z Z ZW ZC (us:=[jV av.Skier,jV av.Mat]) Z Z) (oM Z aK (oM Z Z (bnK bf fun aw aN bg=>?_))))
 have aX:=ba.le an
 have q:=aX.el (fun _=>rfl) (wAW aN)
 obtain ⟨bp,bu,aZ,a6⟩:=q
 refine oR Z (Zi Z Z aZ Z Zq ZC (wBi aN)) (oL Z (ae.ldCA (f:=0) a6 Z Z ZW ZC (us:=[jV aw.Skier,jV aw.Mat]) Z Z) (oR Z (ZS (Runs.neS (enc:=wAT) (a:=av) (b:=aw) Z Z Z wMl wMk) (congrArg hJ (decide_not).symm)) (eN (ifc bg ?_ ?_))))
 intro ah bh
 refine zn (zd (fun h=>h ah.out)) (Zl (ZH (zL (rR fL2 Z (oR Z (ZS (zf Z ai Z) (congrArg (jV) be.out)) (oM Z Z (zg ?_)))))))
 obtain rfl:=hH bh
 exact zL ⟨Z,_,Z,⟨ax,Z,aJ,aK,aL,an,ae⟩⟩
 intro ah bi
 refine cT Z ah (sR fL1 Z (oA Z Z (eN (zU (zX (zN ?_))))))
 have q:=wAV bi
 obtain ⟨bk,bj,aT⟩:=q
 obtain rfl:=wAk ag aj (bb bk aT)
 refine zN (zX (zN ?_))
 have hE:=hH bj;first | subst r | cases hE
 exact ⟨Z,_,(ZL Z),ax,_,ae,Z,Z⟩
 rintro ⟨⟩ bx bn ⟨aR,aV,bq,br,aU,bs,a8⟩ bc
 have aO:=wCV ag aj bc
 try dsimp only at aO
 have aS:Hid (¬ ((↑(((↑p0.length:Int):Int) - 0).toNat:Int) < (↑p0.length:Int))):=zS (wAh)
 refine sR fL1 Z (oR Z (zh Z aV aU) (eN (zM (cF Z aS (Zf (zx (zx (Zc (zL (sR fL1 Z (oA Z Z (eN (zU ?_)))))))))))))
 have hE:=hH aO;first | subst r | cases hE
 exact ⟨Z,_,(ZL Z),aR,_,a8,Z,Z⟩
 have aP:=hm;rw [if_neg c1] at aP;replace c1:=zS c1
 refine cT Z c1 (sR fL1 Z (oA Z Z (eN (zU (zN ?_)))))
 have hE:=hH aP;first | subst r | cases hE
 exact ⟨Z,_,(ZL Z),U,_,hS,Z,Z⟩
theorem wCO  (w:World) (U:PHeap) (hS:St0 w U [])  {r:wAC} (hm:wBU =some r):Gv Try.prog 55 [] w (wCB w [] U (fun U_ L_ v=>∃ (aJ:Option Addr) (aP:Nat) (aK:Option Addr) (aQ:Nat) (aL:Option Addr) (aR:Nat) (aM:Option Addr) (aS:Nat),v=.agg #[.slice aJ r.Starts.length aP,.slice aK r.Splits.length aQ,.slice aL r.Clocks.length aR,.slice aM r.Readings.length aS]/\L_=[.row aJ aP 3 1 (hD KL.encI r.Starts),.row aK aQ 41 2 (hD wAG r.Splits),.row aL aR 43 3 (hD wAA r.Clocks),.row aM aS 39 4 (hD wAB r.Readings)])):=by
 unfold wBU at hm
 refine Gv.of Try.func55 Z Try.ntmps55 Try.results55 Z (sR (.fx 0 .nil .stop) Z ?_)
 let B0:List Value:=[.slice none 0 0,.slice none 0 0,.slice none 0 0,.slice none 0 0]
 refine zT (cs:=B0) Z Z Z Z Z yp Z hS ?_
 intro W1 b2 a9
 refine eN (sR (.fx 0 gEx .stop) Z (bnK hm fun x5 h6 bg=>zE 0 Z Z Z Z (zD Z Z Try.call52 zK Z) a9 (fun hs=>wBc W1 U hs h6) (.inr Z) ?_))
 rintro U8 L9 bm aX bk a6 ⟨am,av,an,aw,ao,ax,ae,aj,rfl,rfl⟩
 let B1:Res:=.row ao ax 43 3 (hD wAA x5.Clocks)
 let B2:Res:=.row an aw 41 2 (hD wAG x5.Splits)
 let B3:Res:=.row am av 3 1 (hD KL.encI x5.Starts)
 let B4:Res:=.row ae aj 39 4 (hD wAB x5.Readings)
 have a7:sW w U U8 [B3,B2,B1,B4,.blk b2 28 B0] aX:=a6
 refine zT (cs:=B0) Z Z Z Z Z yp Z a7 ?_
 intro bi au a8
 let B5:List Value:=[.slice am x5.Starts.length av,.slice an x5.Splits.length aw,.slice ao x5.Clocks.length ax,.slice ae x5.Readings.length aj]
 refine zV (j:=0) (vs:=B5) Z Z Z Z a8 Z Z Z Z zZ (zA Z) Z Z Z ?_
 intro aY ba
 have az:sW w U U8 [.blk au 28 B5,B3,B2,B1,B4,.blk b2 28 B0] aY:=ba
 refine eN (sR (wDe (.fx 4 .nil .stop)) Z (oR Z (zJ Z Z zQ Z Zr) (oL Z (az.ldB (j:=0) Z Z Z yM (v:=.slice ae x5.Readings.length aj) Z) (bnK bg fun _ ay bf=>?_))))
 obtain ⟨bj,aT⟩:=az.rowSome (j:=4) rfl (by rw [wAE (f:=wAB) (sz:=4) (fun _=>rfl) x5.Readings];have hz:=wAa ay;omega)
 refine oR Z (Zi Z Z aT Z ZX Ze (wAa ay)) (oR Z (zJ Z Z ZM Z zC) ?_)
 have be:=wBy (xs:=x5.Readings) (wAa ay)
 refine yu (j:=4) (vs:=[jV 1700]) (cs':=hD wAB (nG x5.Readings 1 (⟨(gd x5.Readings 1).Skier,(gd x5.Readings 1).Mat,(gd x5.Readings 1).Clock,1700⟩:wAL))) rfl rfl rfl rfl az rfl aT rfl rfl rfl zC (by rw [wAE (f:=wAB) (sz:=4) (fun _=>rfl)];try (have hz:=wAa ay;show _ + 1 <= _;first | omega | (simp only [Int.toNat_natCast];omega) | (simp only [nH,nD,nE];omega))) rfl (wDP (sz:=4) (fo:=3) (fun _=>rfl) _ _ _ _ be (by first | omega | rfl | (simp only [Int.toNat_natCast];omega) | (simp only [nH,nD,nE];omega)) (zA rfl) rfl) rfl ?_
 intro aO bb
 let B6:Res:=.row ae aj 39 4 (hD wAB (nG x5.Readings 1 (⟨(gd x5.Readings 1).Skier,(gd x5.Readings 1).Mat,(gd x5.Readings 1).Clock,1700⟩:wAL)))
 have bc:sW w U U8 [.blk au 28 B5,B3,B2,B1,B6,.blk b2 28 B0] aO:=bb
 let B7:List Value:=[.slice am x5.Starts.length av,.slice an x5.Splits.length aw,.slice ao x5.Clocks.length ax,.slice ae ((nG x5.Readings 1 (⟨(gd x5.Readings 1).Skier,(gd x5.Readings 1).Mat,(gd x5.Readings 1).Clock,1700⟩:wAL)).length) aj]
 have aU:sW w U U8 [.blk au 28 B7,B3,B2,B1,B6,.blk b2 28 B0] aO:=by simpa only [B0,B1,B2,B3,B5,B6,B7,nB] using bc
 refine eN (sR gEw Z (oL Z (aU.ldBA (j:=0) Z Z Z ze zZ (vs:=B7) Z Z) (zV (j:=5) (vs:=B7) Z Z Z Z aU Z Z Z Z zZ (zA Z) Z Z Z ?_)))
 intro aZ bd
 have aV:sW w U U8 [.blk au 28 B7,B3,B2,B1,B6,.blk b2 28 B7] aZ:=bd
 refine eN (zU ?_)
 cases bf
 exact ⟨rfl,_,(wGl (v:=.agg B7.toArray) ⟨⟨_,rfl,(wAy ze zZ (aV.blkAt (k:=5) rfl) (vs:=B7) rfl rfl)⟩,trivial⟩),U8,_,(aV.pick [1,2,3,4] _ (by decide) rfl),am,av,an,aw,ao,ax,ae,aj,rfl,rfl⟩
theorem wHE (p0:wAC) (ah:Option Addr) (am:Nat) (ai:Option Addr) (an:Nat) (aj:Option Addr) (ao:Nat) (ak:Option Addr) (ap:Nat) (p1:List wAD) (aZ:Option Addr) (a5:Nat) (w:World) (U:PHeap) (hS:St0 w U []) (bW:Sl U 1 ah am p0.Starts.length (hD KL.encI p0.Starts)) (bX:Sl U 2 ai an p0.Splits.length (hD wAG p0.Splits)) (bY:Sl U 3 aj ao p0.Clocks.length (hD wAA p0.Clocks)) (bZ:Sl U 4 ak ap p0.Readings.length (hD wAB p0.Readings)) (eK:Sl U 4 aZ a5 p1.length (hD wAQ p1)) {r:Int × Int} (hm:wEU p0 p1=some r):Gv Try.prog 34 [.agg #[.slice ah p0.Starts.length am,.slice ai p0.Splits.length an,.slice aj p0.Clocks.length ao,.slice ak p0.Readings.length ap],.slice aZ p1.length a5] w (wCB w [] U (fun U_ L_ v=>v=.tuple #[jV r.1,jV r.2]/\L_=[])):=by
 unfold wEU at hm
 refine Gv.of Try.func34 Z Try.ntmps34 Try.results34 Z (sR gFb Z ?_)
 let B0:List Value:=[.slice ah p0.Starts.length am,.slice ai p0.Splits.length an,.slice aj p0.Clocks.length ao,.slice ak p0.Readings.length ap]
 refine zu (cs:=B0) rfl rfl rfl rfl rfl rfl (by rfl) hS ?_
 intro W1 b2 bV
 refine oA Z Z (oA Z Z (eN (zM (sR gFd Z (oL Z (bV.ldBA (j:=0) Z Z Z ze zZ (vs:=B0) Z Z) (bnK hm fun x5 h6 ff=>zE 0 Z Z Z Z (zD Z Z Try.call68 (zB Z zK) Z) bV (fun hs=>wDt p0 ah am ai an aj ao ak ap W1 U hs bW bX bY bZ h6) (.inr Z) ?_))))))
 rintro U8 L9 fR bK aX dL ⟨rfl,rfl⟩
 have bz:sW w U U8 [.blk b2 28 B0] bK:=dL
 refine oA Z Z (eN (sR fL2 Z (oM Z Z (oR Z (ZN Z Z Z) (eN (ifc ff ?_ ?_))))))
 intro bt eL
 refine zn (zd (fun h=>h bt.out)) (kN (zM (sR gFh Z (oL Z (bz.ldBA (j:=0) Z Z Z ze zZ (vs:=B0) Z Z) (oM Z Z ?_)))))
 have aK:=bW.le aX
 have aL:=bX.le aX
 have aM:=bY.le aX
 have aN:=bZ.le aX
 have bx:=eK.le aX
 refine bnK eL fun f5 c8 eM=>zE 0 Z Z Z Z (zD Z Z Try.call69 (zB Z (zB Z zK)) Z) bz (fun hs=>wEJ p0 ah am ai an aj ao ak ap p1 aZ a5 bK U8 hs aK aL aM aN bx c8) (.inr Z) ?_
 rintro aq fB fZ bo ab eJ ⟨rfl,rfl⟩
 have bB:sW w U aq [.blk b2 28 B0] bo:=eJ
 refine oA Z Z (eN (sR fL2 Z (oM Z Z (oR Z (ZN Z Z Z) (eN (ifc eM ?_ ?_))))))
 intro bv fb
 refine zn (zd (fun h=>h bv.out)) (kN (zM (sR fL3 Z (oM Z Z (oR Z (zz Z Z Zo) (oR Z (yO Z Z Z) (eN (ifc fb ?_ ?_))))))))
 intro bw fc
 refine cT Z bw (sR fL2 Z (oA Z Z (oA Z Z (eN (zU (zN ?_))))))
 cases fc
 exact ⟨rfl,_,(wDv rfl rfl),aq,_,(bB.pick [] _ (by decide) rfl),rfl,rfl⟩
 intro bw fd
 refine cF Z bw (kN ?_)
 have q:=bnd fd
 obtain ⟨⟨bC,bD⟩,fh,cb⟩:=q
 try dsimp only at cb
 let B1:List Value:=[jV bC,jV bD]
 refine yN (fun σ_ w_=>∃ (U_:PHeap) (aV:Nat),σ_ 1=.slice aZ p1.length a5/\σ_ 2=.pointer (some ⟨b2,0,none⟩)/\σ_ 8=.pointer (some ⟨aV,0,none⟩)/\PHeap.Le aq U_/\sW w U U_ [.blk b2 28 B0,.blk aV 104 B1] w_) ?_ ?_
 refine bnK fh fun av bQ fg=>?_
 have q:=bnd fg
 obtain ⟨⟨af,ag,a7⟩,aW,aO⟩:=q
 try dsimp only at aO
 refine ZA ZB [1,3,3,1,2,3,3,3,3,2,2,0,0,3] (wDe (.fx 4 (wHI (.fx 9 gFi (.fx 10 gFj .stop))) (.fx 9 (.fx 4 (wHI gFi) (.fx 10 (.fx 4 (wHI gFf) (.stop)) (.stop))) (.fx 10 (.fx 4 (wHI gFj) (.fx 9 (.fx 4 (wHI gFf) (.stop)) (.stop))) (.stop))))) (by kernel_rfl) ?_
 have aT:=bB.drew
 generalize hw_W85:({ bo with drawn:=bo.drawn + 1 }:World)=cK at aT ⊢
 refine oL Z (aT.ldBA (j:=0) Z Z Z ze zZ (vs:=B0) Z Z) (oM Z Z ?_)
 have du:=bx.le ab
 have q:=du.el (fun _=>rfl) (wAW bQ)
 obtain ⟨fO,fQ,dA,dB⟩:=q
 refine oR Z (Zi Z Z dA Z Zo ZU (wBi bQ)) (oL Z (aT.ldCA (f:=0) dB Z Z Zt ZU (us:=[jV av.Kind,jV av.Skier,jV av.Index,.bool av.Up]) Z Z) (zk ?_ ?_))
 have dv:=aK.le ab
 have dw:=aL.le ab
 have dx:=aM.le ab
 have dz:=aN.le ab
 refine zE 0 Z Z Z Z (zD Z Z yk (zB Z (zB Z zK)) Z) aT (fun hs=>wAm p0 ah am ai an aj ao ak ap av cK aq hs dv dw dx dz aW) (.inr Z) ?_
 rintro az fG fS cg cc dC ⟨rfl,rfl⟩
 have bR:sW w U az [.blk b2 28 B0] cg:=dC
 refine oM Z Z (oR Z (zP Z Z (v:=.agg #[jV af.skier,jV af.mat]) Z) (oR Z (zP Z Z (v:=.agg #[jV ag.skier,jV ag.mat]) Z) (oR Z (zP Z Z (v:=jV a7) Z) (zk ?_ ?_))))
 let B2:List Value:=[jV 0,jV 0]
 refine zT (cs:=B2) Z Z Z Z Z za Z bR ?_
 intro fH bp dD
 refine zT (cs:=B2) Z Z Z Z Z za Z dD ?_
 intro fI bL dE
 let B3:List Value:=[jV af.skier,jV af.mat]
 refine zV (j:=1) (vs:=B3) Z Z Z Z dE Z Z Z Z zI (zA Z) Z Z Z ?_
 intro ci dF
 have dG:sW w U az [.blk bL 104 B2,.blk bp 104 B3,.blk b2 28 B0] ci:=dF
 let B4:List Value:=[jV ag.skier,jV ag.mat]
 refine zV (j:=0) (vs:=B4) Z Z Z Z dG Z Z Z Z zI (zA Z) Z Z Z ?_
 intro cj dH
 have dI:sW w U az [.blk bL 104 B4,.blk bp 104 B3,.blk b2 28 B0] cj:=dH
 refine oA Z Z (zg ?_)
 cases aO
 exact zL ⟨rfl,⟨az,bp,rfl,rfl,rfl,cc,(dI.pick [2,1] _ (by decide) rfl)⟩⟩
 let B5:List Value:=[jV 0,jV 0]
 refine zT (cs:=B5) Z Z Z Z Z za Z bR ?_
 intro fJ bM dJ
 refine zT (cs:=B5) Z Z Z Z Z za Z dJ ?_
 intro fK bq dK
 let B6:List Value:=[jV af.skier,jV af.mat]
 refine zV (j:=0) (vs:=B6) Z Z Z Z dK Z Z Z Z zI (zA Z) Z Z Z ?_
 intro cm dM
 have dN:sW w U az [.blk bq 104 B6,.blk bM 104 B5,.blk b2 28 B0] cm:=dM
 let B7:List Value:=[jV ag.skier,jV ag.mat]
 refine zV (j:=1) (vs:=B7) Z Z Z Z dN Z Z Z Z zI (zA Z) Z Z Z ?_
 intro cn dO
 have dP:sW w U az [.blk bq 104 B6,.blk bM 104 B7,.blk b2 28 B0] cn:=dO
 refine oA Z Z (zg ?_)
 cases aO
 exact zL ⟨rfl,⟨az,bq,rfl,rfl,rfl,cc,(dP.pick [2,0] _ (by decide) rfl)⟩⟩
 refine zk ?_ ?_
 let B8:List Value:=[jV 0,jV 0]
 refine zT (cs:=B8) Z Z Z Z Z za Z aT ?_
 intro co ay bS
 refine zk ?_ ?_
 have cO:=aK.le ab
 have cP:=aL.le ab
 have cQ:=aM.le ab
 have cR:=aN.le ab
 refine zE 0 Z Z Z Z (zD Z Z yk (zB Z (zB Z zK)) Z) bS (fun hs=>wAm p0 ah am ai an aj ao ak ap av co aq hs cO cP cQ cR aW) (.inr Z) ?_
 rintro a8 fw fT cp fj dQ ⟨rfl,rfl⟩
 have dR:sW w U a8 [.blk ay 104 B8,.blk b2 28 B0] cp:=dQ
 refine oM Z Z (oR Z (zP Z Z (v:=.agg #[jV af.skier,jV af.mat]) Z) (oR Z (zP Z Z (v:=.agg #[jV ag.skier,jV ag.mat]) Z) (oR Z (zP Z Z (v:=jV a7) Z) (zT (cs:=B8) Z Z Z Z Z za Z dR ?_))))
 intro fL bN dS
 let B9:List Value:=[jV af.skier,jV af.mat]
 refine zV (j:=1) (vs:=B9) Z Z Z Z dS Z Z Z Z zI (zA Z) Z Z Z ?_
 intro cq dT
 have dU:sW w U a8 [.blk bN 104 B8,.blk ay 104 B9,.blk b2 28 B0] cq:=dT
 let bE:List Value:=[jV ag.skier,jV ag.mat]
 refine zV (j:=0) (vs:=bE) Z Z Z Z dU Z Z Z Z zI (zA Z) Z Z Z ?_
 intro cr dV
 have dW:sW w U a8 [.blk bN 104 bE,.blk ay 104 B9,.blk b2 28 B0] cr:=dV
 refine oA Z Z (zg ?_)
 cases aO
 exact zL ⟨rfl,⟨a8,ay,rfl,rfl,rfl,fj,(dW.pick [2,1] _ (by decide) rfl)⟩⟩
 refine zT (cs:=B8) Z Z Z Z Z za Z bS ?_
 intro ct br dX
 have cS:=aK.le ab
 have cU:=aL.le ab
 have cV:=aM.le ab
 have cW:=aN.le ab
 refine zE 0 Z Z Z Z (zD Z Z yk (zB Z (zB Z zK)) Z) dX (fun hs=>wAm p0 ah am ai an aj ao ak ap av ct aq hs cS cU cV cW aW) (.inr Z) ?_
 rintro a9 fy fU cu fk dY ⟨rfl,rfl⟩
 have dZ:sW w U a9 [.blk br 104 B8,.blk ay 104 B8,.blk b2 28 B0] cu:=dY
 refine oM Z Z (oR Z (zP Z Z (v:=.agg #[jV af.skier,jV af.mat]) Z) (oR Z (zP Z Z (v:=.agg #[jV ag.skier,jV ag.mat]) Z) (oR Z (zP Z Z (v:=jV a7) Z) ?_)))
 let bd:List Value:=[jV af.skier,jV af.mat]
 refine zV (j:=1) (vs:=bd) Z Z Z Z dZ Z Z Z Z zI (zA Z) Z Z Z ?_
 intro cw d7
 have d9:sW w U a9 [.blk br 104 B8,.blk ay 104 bd,.blk b2 28 B0] cw:=d7
 let bF:List Value:=[jV ag.skier,jV ag.mat]
 refine zV (j:=0) (vs:=bF) Z Z Z Z d9 Z Z Z Z zI (zA Z) Z Z Z ?_
 intro cx ec
 have ef:sW w U a9 [.blk br 104 bF,.blk ay 104 bd,.blk b2 28 B0] cx:=ec
 refine oA Z Z (zg ?_)
 cases aO
 exact zL ⟨rfl,⟨a9,ay,rfl,rfl,rfl,fk,(ef.pick [2,1] _ (by decide) rfl)⟩⟩
 let aw:List Value:=[jV 0,jV 0]
 refine zT (cs:=aw) Z Z Z Z Z za Z aT ?_
 intro cy aR bU
 refine zk ?_ ?_
 have cX:=aK.le ab
 have cY:=aL.le ab
 have cZ:=aM.le ab
 have c6:=aN.le ab
 refine zE 0 Z Z Z Z (zD Z Z yk (zB Z (zB Z zK)) Z) bU (fun hs=>wAm p0 ah am ai an aj ao ak ap av cy aq hs cX cY cZ c6 aW) (.inr Z) ?_
 rintro ba fz fW cz fm eg ⟨rfl,rfl⟩
 have eh:sW w U ba [.blk aR 104 aw,.blk b2 28 B0] cz:=eg
 refine oM Z Z (oR Z (zP Z Z (v:=.agg #[jV af.skier,jV af.mat]) Z) (oR Z (zP Z Z (v:=.agg #[jV ag.skier,jV ag.mat]) Z) (oR Z (zP Z Z (v:=jV a7) Z) (zT (cs:=aw) Z Z Z Z Z za Z eh ?_))))
 intro fM bs ej
 let be:List Value:=[jV af.skier,jV af.mat]
 refine zV (j:=0) (vs:=be) Z Z Z Z ej Z Z Z Z zI (zA Z) Z Z Z ?_
 intro cA ek
 have en:sW w U ba [.blk bs 104 be,.blk aR 104 aw,.blk b2 28 B0] cA:=ek
 let bG:List Value:=[jV ag.skier,jV ag.mat]
 refine zV (j:=1) (vs:=bG) Z Z Z Z en Z Z Z Z zI (zA Z) Z Z Z ?_
 intro cB eo
 have ep:sW w U ba [.blk bs 104 be,.blk aR 104 bG,.blk b2 28 B0] cB:=eo
 refine oA Z Z (zg ?_)
 cases aO
 exact zL ⟨rfl,⟨ba,bs,rfl,rfl,rfl,fm,(ep.pick [2,0] _ (by decide) rfl)⟩⟩
 refine zT (cs:=aw) Z Z Z Z Z za Z bU ?_
 intro cC bc er
 have da:=aK.le ab
 have db:=aL.le ab
 have dd:=aM.le ab
 have de:=aN.le ab
 refine zE 0 Z Z Z Z (zD Z Z yk (zB Z (zB Z zK)) Z) er (fun hs=>wAm p0 ah am ai an aj ao ak ap av cC aq hs da db dd de aW) (.inr Z) ?_
 rintro bb fA fY cD fq eu ⟨rfl,rfl⟩
 have ew:sW w U bb [.blk bc 104 aw,.blk aR 104 aw,.blk b2 28 B0] cD:=eu
 refine oM Z Z (oR Z (zP Z Z (v:=.agg #[jV af.skier,jV af.mat]) Z) (oR Z (zP Z Z (v:=.agg #[jV ag.skier,jV ag.mat]) Z) (oR Z (zP Z Z (v:=jV a7) Z) ?_)))
 let bf:List Value:=[jV af.skier,jV af.mat]
 refine zV (j:=0) (vs:=bf) Z Z Z Z ew Z Z Z Z zI (zA Z) Z Z Z ?_
 intro cE ey
 have eA:sW w U bb [.blk bc 104 bf,.blk aR 104 aw,.blk b2 28 B0] cE:=ey
 let bH:List Value:=[jV ag.skier,jV ag.mat]
 refine zV (j:=1) (vs:=bH) Z Z Z Z eA Z Z Z Z zI (zA Z) Z Z Z ?_
 intro cG eB
 have eD:sW w U bb [.blk bc 104 bf,.blk aR 104 bH,.blk b2 28 B0] cG:=eB
 refine oA Z Z (zg ?_)
 cases aO
 exact zL ⟨rfl,⟨bb,bc,rfl,rfl,rfl,fq,(eD.pick [2,0] _ (by decide) rfl)⟩⟩
 rintro f8 cH ⟨cd,aV,cM,cN,bP,aY,bA⟩
 refine sR (wCa (.fx 3 (fC4_7 (.fx 8 (.fx 9 (.fl 10 (.fl 11 .nil)) .stop) .stop)) .stop)) Z (oL Z (bA.ldBA (j:=0) Z Z cN ze zZ (vs:=B0) Z Z) (oL Z (bA.ldBA (j:=1) Z Z bP zi zI (vs:=B1) Z Z) (oM Z cM ?_)))
 have df:=aK.le ab
 have dg:=df.le aY
 have dh:=aL.le ab
 have di:=dh.le aY
 have dk:=aM.le ab
 have dl:=dk.le aY
 have dm:=aN.le ab
 have dn:=dm.le aY
 have dp:=bx.le ab
 have dq:=dp.le aY
 have q:=bnd cb
 obtain ⟨⟨a6,ft,fu⟩,dr,ca⟩:=q
 try dsimp only at ca
 refine zE 0 Z Z Z Z (zD Z Z Try.call71 (zB Z (zB Z (zB Z zK))) Z) bA (fun hs=>wCn p0 ah am ai an aj ao ak ap (⟨bC,bD⟩:wAH) p1 aZ a5 cH cd hs dg di dl dn dq dr) (.inr Z) ?_
 rintro aQ fC f4 cI fP eE ⟨rfl,rfl⟩
 have eG:sW w U aQ [.blk b2 28 B0,.blk aV 104 B1] cI:=eE
 refine oM Z Z (oR Z (zP Z Z (v:=.agg #[jV a6.skier,jV a6.mat]) Z) (oR Z (zP Z Z (v:=jV ft) Z) (oR Z (zP Z Z (v:=.bool fu) Z) (zT (cs:=[jV 0,jV 0]) Z Z Z Z Z za Z eG ?_))))
 intro fN cL eH
 let bg:List Value:=[jV a6.skier,jV a6.mat]
 refine zV (j:=0) (vs:=bg) Z Z Z Z eH Z Z Z Z zI (zA Z) Z Z Z ?_
 intro cJ eI
 have aS:sW w U aQ [.blk cL 104 bg,.blk b2 28 B0,.blk aV 104 B1] cJ:=eI
 refine oA Z Z (oA Z Z (eN (zM (sR wMQ Z (oM Z Z (oR Z (ZT Z Z) (oM Z Z (ifc ca ?_ ?_))))))))
 intro au eO
 refine zl Z Z Z (zF Z Z (nC au.out)) (aS.ldBA (j:=0) Z Z Z zi zI (vs:=bg) Z Z) Z (zl Z Z Z (zF Z Z (nC au.out)) (aS.ldBA (j:=2) Z Z bP zi zI (vs:=B1) Z Z) Z (zY Z Z Z (zF Z Z (nC au.out)) (fun _=>ZS (Runs.neS (enc:=wBZ) (a:=a6) (b:=(⟨bC,bD⟩:wAH)) Z Z Z wJK wJJ) (congrArg hJ (decide_not).symm)) (oR Z (zb Z (nC au.out) Z) (oM Z Z (ifc eO ?_ ?_)))))
 intro aJ eQ
 refine zr Z Z Z (zF Z Z (zd (fun h=>h aJ.out))) Z Z (zY Z Z Z (zF Z Z (zd (fun h=>h aJ.out))) (fun _=>Runs.geq Z Z Z) (oR Z (zb Z (zd (fun h=>h aJ.out)) Z) (eN (ifc eQ ?_ ?_))))
 intro bu eU
 refine cT Z bu (sR fL2 Z (oA Z Z (oA Z Z (eN (zU (zN ?_))))))
 cases eU
 exact ⟨rfl,_,(wDv rfl rfl),aQ,_,(aS.pick [] _ (by decide) rfl),rfl,rfl⟩
 intro bu eV
 refine cF Z bu (kN (sR fL3 Z (oM Z Z (oA Z Z (oA Z Z (eN (zU ?_)))))))
 cases eV
 exact ⟨rfl,_,(wDv rfl rfl),aQ,_,(aS.pick [] _ (by decide) rfl),rfl,rfl⟩
 intro aJ eW
 refine oT Z aJ (oT Z aJ (oR Z (zR Z (Zh aJ.out) Z) (eN (ZD Z (sR fL2 Z (oA Z Z (oA Z Z (eN (zU (zN ?_))))))))))
 cases eW
 exact ⟨rfl,_,(wDv rfl rfl),aQ,_,(aS.pick [] _ (by decide) rfl),rfl,rfl⟩
 intro au eX
 refine zt Z Z Z (zO Z Z (nF (au.out)) Z) (zt Z Z Z (zO Z Z (nF (au.out)) Z) (zt Z Z Z (zO Z Z (nF (au.out)) Z) (oR Z (zR Z (nF (au.out)) Z) (oM Z Z (oN Z (oN Z (oR Z (zR Z Z Z) (eN (ZD Z (sR fL2 Z (oA Z Z (oA Z Z (eN (zU (zN ?_)))))))))))))))
 cases eX
 exact ⟨rfl,_,(wDv rfl rfl),aQ,_,(aS.pick [] _ (by decide) rfl),rfl,rfl⟩
 intro bv eY
 refine cT Z bv (sR fL3 Z (oM Z Z (oA Z Z (oA Z Z (eN (zU (zN ?_)))))))
 cases eY
 exact ⟨rfl,_,(wDv rfl rfl),aq,_,(bB.pick [] _ (by decide) rfl),rfl,rfl⟩
 intro bt eZ
 refine cT Z bt (sR fL3 Z (oM Z Z (oA Z Z (oA Z Z (eN (zU (zN ?_)))))))
 cases eZ
 exact ⟨rfl,_,(wDv rfl rfl),U8,_,(bz.pick [] _ (by decide) rfl),rfl,rfl⟩
end Go.Proofs.Ytlnfbjphfoipaaa
namespace Go.Proofs.Ytlnfbjphfoipaaa
open Go.KL
set_option maxHeartbeats 4000000
theorem wHF (p0:Int) (p1:wAL) (p2:Int) (af:Nat) (w:World) (U:PHeap) (hS:St0 w U []) (ag:Cl U af 0 [jV p2]) {r:Bool} (hm:wDA p0 p1 p2=some r):Gv Try.prog 65 [jV p0,.agg #[jV p1.Skier,jV p1.Mat,jV p1.Clock,jV p1.Time],.pointer (some ⟨af,0,none⟩)] w (wCB w [] U (fun U_ L_ v=>v=.bool r/\L_=[])):=by
 unfold wDA at hm
 refine Gv.of Try.func65 rfl Try.ntmps65 Try.results65 rfl (sR gEz rfl (zu (cs:=[jV p1.Skier,jV p1.Mat,jV p1.Clock,jV p1.Time]) rfl rfl rfl rfl rfl rfl (by rfl) hS ?_))
 intro W1 b2 ac
 refine oA Z Z (eN (sR fL4 Z (oM Z Z (oL Z (ac.ldC (f:=0) ag (v:=jV p2) Z Z zG Z) (oR Z (yO Z Z Z) (oA Z Z (eN (zU ?_))))))))
 first | (obtain rfl:=hH hm) | cases hm
 exact ⟨rfl,_,(ZL rfl),U,_,(ac.pick [] _ (by decide) rfl),rfl,rfl⟩
theorem wDI (p0:wAC) (aj:Option Addr) (an:Nat) (ak:Option Addr) (ao:Nat) (am:Option Addr) (ap:Nat) (az:Option Addr) (aJ:Nat) (p1:((Int × wAL)->Option Bool)) (bb:Value) (w:World) (U:PHeap) (hS:St0 w U []) (cS:Sl U 1 aj an p0.Starts.length (hD KL.encI p0.Starts)) (cU:Sl U 2 ak ao p0.Splits.length (hD wAG p0.Splits)) (cV:Sl U 3 am ap p0.Clocks.length (hD wAA p0.Clocks)) (cW:Sl U 4 az aJ p0.Readings.length (hD wAB p0.Readings)) (cX:FnOK Try.prog U bb wKj wKk p1) {r:wAY} (hm:wCG p0 p1=some r):Gv Try.prog 64 [.agg #[.slice aj p0.Starts.length an,.slice ak p0.Splits.length ao,.slice am p0.Clocks.length ap,.slice az p0.Readings.length aJ],bb] w (wCB w [] U (fun U_ L_ v=>∃ (b0:Nat) (A0p00:Option Addr) (c0p00:Nat) (A0p01:Option Addr) (c0p01:Nat) (A0p02:Option Addr) (c0p02:Nat) (A0p03:Option Addr) (c0p03:Nat) (m0p1:Nat) (es0p1:Array MapEntry) (ck0p1:Nat) (A0p2:Option Addr) (c0p2:Nat),v=.pointer (some ⟨b0,0,none⟩)/\L_=[.blk b0 124 [.slice A0p00 r.Race.Starts.length c0p00,.slice A0p01 r.Race.Splits.length c0p01,.slice A0p02 r.Race.Clocks.length c0p02,.slice A0p03 r.Race.Readings.length c0p03,.map (some m0p1),.slice A0p2 r.edges.length c0p2],.obj m0p1 (.map es0p1 ck0p1),.row A0p2 c0p2 130 7 (hD wAP r.edges)]/\Sl U_ 1 A0p00 c0p00 r.Race.Starts.length (hD KL.encI r.Race.Starts)/\Sl U_ 2 A0p01 c0p01 r.Race.Splits.length (hD wAG r.Race.Splits)/\Sl U_ 3 A0p02 c0p02 r.Race.Clocks.length (hD wAA r.Race.Clocks)/\Sl U_ 4 A0p03 c0p03 r.Race.Readings.length (hD wAB r.Race.Readings)/\MpR es0p1 wBB wBC r.number)):=by
 unfold wCG at hm
 refine Gv.of Try.func64 Z Try.ntmps64 Try.results64 Z (sR gEz Z ?_)
 let B0:List Value:=[.slice aj p0.Starts.length an,.slice ak p0.Splits.length ao,.slice am p0.Clocks.length ap,.slice az p0.Readings.length aJ]
 refine zu (cs:=B0) rfl rfl rfl rfl rfl rfl (by rfl) hS ?_
 intro W1 b2 bB
 refine yD rfl rfl rfl rfl rfl rfl (eN (sR (wCa gEy) rfl (zY rfl rfl rfl rfl (fun _=>zJ rfl rfl zQ rfl Zr) (zl rfl rfl rfl rfl (bB.ldB (j:=0) rfl rfl rfl yM (v:=.slice az p0.Readings.length aJ) rfl) rfl (zY rfl rfl rfl rfl (fun _=>zz rfl rfl ZX) (bnK hm fun x5 h6 de=>OKS.makeSliceZ (sz:=4) (enc:=wAB) (z:=(⟨0,0,0,0⟩:wAL)) (v:=jV 0) rfl rfl rfl rfl rfl (wBV ZX) wKH rfl rfl rfl rfl (by decide) (by decide) rfl rfl h6 bB ?_))))))
 intro W8 b9 cz
 have aY:sW w U U [.row (some ⟨b9,0,none⟩) x5.length 39 4 (hD wAB x5),.blk b2 28 B0] W8:=cz
 refine yD rfl rfl rfl rfl rfl rfl (eN (sR (wCa (.fx 3 .nil .stop)) rfl (zr rfl rfl rfl rfl rfl rfl (zY rfl rfl rfl rfl (fun _=>zJ rfl rfl zQ rfl Zr) (zl rfl rfl rfl rfl (aY.ldB (j:=1) rfl rfl rfl yM (v:=.slice az p0.Readings.length aJ) rfl) rfl (bnK de fun aq cn db=>OKS.copyM (j:=0) (f:=wAB) (m:=x5) (ys:=p0.Readings) (z:=aq) (a:=0) (n:=x5.length) rfl rfl rfl rfl rfl rfl ZX Ze aY rfl (fun _=>rfl) (fun _=>rfl) rfl cn rfl (by simp) (.inr (by simp)) rfl (aY.srcS cW) rfl ?_))))))
 intro bN cH a5
 let B1:Res:=.row (some ⟨b9,0,none⟩) x5.length 39 4 (hD wAB aq)
 have bA:sW w U U [B1,.blk b2 28 B0] bN:=cH
 refine eN (sR (wCa (.fx 3 .nil .stop)) rfl (zr rfl rfl rfl rfl rfl (Eq.trans (b:=(.slice (some ⟨b9,0,none⟩) x5.length x5.length:Value)) (c:=(.slice (some ⟨b9,0,none⟩) aq.length x5.length:Value)) rfl (by rw [a5])) ?_))
 have dk:=bA.rowCap (j:=0) rfl (by decide) (wAE (f:=wAB) (sz:=4) (fun _=>rfl) aq)
 refine zY (v:=.slice (some ⟨b9,0,none⟩) 0 x5.length) Z Z Z Z (fun _=>ZS (Runs.slc (sz:=4) (a:=0) (b:=0) Z Z (.inr ⟨Z,Z⟩) (.inl ⟨_,Z,Z⟩) ZX Ze (Int.le_refl _) (Int.le_refl _) (Int.natCast_nonneg _) dk) slc0) (oR Z (zJ Z Z zQ Z Zr) (zV (j:=1) (vs:=[.slice (some ⟨b9,0,none⟩) 0 x5.length]) Z Z Z Z bA Z Z Z Z Zr (zA Z) Z Z Z ?_))
 intro bP cI
 have cJ:sW w U U [B1,.blk b2 28 [.slice aj p0.Starts.length an,.slice ak p0.Splits.length ao,.slice am p0.Clocks.length ap,.slice (some ⟨b9,0,none⟩) 0 x5.length]] bP:=cI
 refine eN (zM (sR fL3 rfl (zr rfl rfl rfl rfl rfl (Eq.trans (b:=(.slice (some ⟨b9,0,none⟩) x5.length x5.length:Value)) (c:=(.slice (some ⟨b9,0,none⟩) aq.length x5.length:Value)) rfl (by rw [a5])) (zY rfl rfl rfl rfl (fun _=>zz rfl rfl ZX) (zr rfl rfl rfl rfl rfl rfl (eN (zc ?_)))))))
 have q:=bnd db
 obtain ⟨⟨dD,dm⟩,cY,bG⟩:=q
 try dsimp only at bG
 have q:=wBn cY
 obtain ⟨a6,cZ⟩:=q
 replace a6:=zS a6
 refine CK.forN' (fun af (ae,ai) σ_ w_=>∃ (U_:PHeap),σ_ 21=jV (↑af:Int)/\σ_ 1=bb/\σ_ 2=.pointer (some ⟨b2,0,none⟩)/\σ_ 19=.slice (some ⟨b9,0,none⟩) ae.length x5.length/\σ_ 20=jV (↑aq.length:Int)/\PHeap.Le U U_/\sW w U U_ [.row (some ⟨b9,0,none⟩) x5.length 39 4 (hD wAB ae),.blk b2 28 [.slice aj p0.Starts.length an,.slice ak p0.Splits.length ao,.slice am p0.Clocks.length ap,.slice (some ⟨b9,0,none⟩) ai x5.length]] w_/\ae.length=x5.length) cZ ?_ ?_ ?_
 exact ⟨U,Z,Z,Z,Z,Z,(zW _),cJ,a5⟩
 rintro af ⟨ae,ai⟩ dC dE dr aZ ⟨bL,ay,aV,aM,aW,aX,a9,bC,bw⟩ bH
 try dsimp only at bH
 have bt:Hid ((↑af:Int) < (↑aq.length:Int)):=zS (wBD aZ)
 replace aZ:=zS aZ
 have bF:Hid (w64 ((↑af:Int) + 1)=(↑(af + 1):Int)):=zS (by have h1:=a6.out;have h2:=bt.out;rw [wAU] <;> omega)
 refine sR fL1 Z (oR Z (zh Z ay aX) (eN (zM (cT Z bt (kN (zM (zc (sR (wCa (.fx 3 (.fl 4 (.fx 5 .nil .stop)) .stop)) Z (oM Z ay (bnK bH fun _ bx dd=>oR Z (Zi Z aW Z ay ZX Ze (wAa bx)) ?_))))))))))
 have c6:=wBy (xs:=ae) (wAa bx)
 let B2:List Value:=[jV ((gd ae af).Skier),jV ((gd ae af).Mat),jV ((gd ae af).Clock),jV ((gd ae af).Time)]
 refine zl rfl rfl rfl rfl (bC.ldRA (j:=0) rfl rfl rfl rfl yo Ze (vs:=B2) (wEh (sz:=4) (fun _=>rfl) _ _ _ c6 (by first | omega | rfl | simp) rfl) rfl) rfl ?_
 let B3:List Value:=[jV 0,jV 0,jV 0,jV 0]
 refine zT (cs:=B3) Z Z Z Z Z Zp Z bC ?_
 intro dt ax cK
 refine oA Z Z (zV (j:=0) (vs:=B2) Z Z Z Z cK Z Z Z Z Ze (zA Z) Z Z Z ?_)
 intro bQ cL
 let B4:Res:=.blk b2 28 [.slice aj p0.Starts.length an,.slice ak p0.Splits.length ao,.slice am p0.Clocks.length ap,.slice (some ⟨b9,0,none⟩) ai x5.length]
 let B5:Res:=.row (some ⟨b9,0,none⟩) x5.length 39 4 (hD wAB ae)
 have bD:sW w U bL [.blk ax 39 B2,B5,B4] bQ:=cL
 refine eN (sR (wCa gEy) Z (oM Z aV (oM Z Z (oL Z (bD.ldBA (j:=0) Z Z Z yo Ze (vs:=B2) Z Z) (bnK dd fun dB cw df=>?_)))))
 have cx:=cX.le a9
 refine yv (a:=((↑af:Int),(gd ae af))) Z Z Z Z Z Z (zB Z (zB Z zK)) bD cx Z cw ?_
 rintro au dp dA bR bI cM ⟨rfl,rfl⟩
 have aN:sW w U au [.blk ax 39 B2,B5,B4] bR:=cM
 refine oR Z (ZT Z Z) (eN (ifc df ?_ ?_))
 intro aU dg
 refine zn (nC aU.out) (Zl (ZH (zL (rR fL2 Z (oR Z (ZS (zf Z ay Z) (congrArg (jV) bF.out)) (oM Z Z (zg ?_)))))))
 cases dg
 exact zL ⟨rfl,⟨au,rfl,aV,aM,aW,aX,(a9.trans bI),(aN.pick [1,2] _ (by decide) rfl),bw⟩⟩
 intro aU dh
 refine ZD (nF (aU.out)) (rR (wCa (.fx 3 (.fx 4 (.fl 5 (.fx 6 .nil .stop)) .stop) .stop)) Z (oR Z (zJ Z aM zQ Z Zr) (oL Z (aN.ldB (j:=2) Z Z Z yM (v:=.slice (some ⟨b9,0,none⟩) ai x5.length) Z) (oL Z (aN.ldBA (j:=0) Z Z Z yo Ze (vs:=B2) Z Z) (ZE (pv:=[(0,.agg B2.toArray)]) (zs:=B3) (cs:=B2) Z Z Z Z Z (wAF Z wAO) ZX Ze Zp Z Z Z Z Z aN ?_)))))
 intro bU bX cN
 let B6:Res:=.row (some ⟨bX,0,none⟩) 1 39 4 (hD wAB [(gd ae af)])
 have bE:sW w U au [B6,.blk ax 39 B2,B5,B4] bU:=cN
 refine bnK dh fun _ cy di=>OKS.appendP (j:=2) (k:=ai) (enc:=wAB) (m:=ae) (v:=(gd ae af)) rfl rfl rfl rfl rfl Try.underlying26 wKH rfl rfl bE rfl rfl rfl (bE.srcR (j:=0) rfl (by decide) (wAE (f:=wAB) (sz:=4) (fun _=>rfl) [(gd ae af)])) (fun _=>rfl) (fun _=>rfl) cy rfl ?_
 intro bV cO
 let B7:Res:=.row (some ⟨b9,0,none⟩) x5.length 39 4 (hD wAB (nG ae ai (gd ae af)))
 have cP:sW w U au [B6,.blk ax 39 B2,B7,B4] bV:=cO
 refine oR Z (zJ Z aM zQ Z Zr) (zV (j:=3) (vs:=[.slice (some ⟨b9,0,none⟩) (ai + 1) x5.length]) Z Z Z Z cP Z Z Z Z Zr (zA Z) Z Z Z ?_)
 intro bW cQ
 have cR:sW w U au [B6,.blk ax 39 B2,B7,.blk b2 28 [.slice aj p0.Starts.length an,.slice ak p0.Splits.length ao,.slice am p0.Clocks.length ap,.slice (some ⟨b9,0,none⟩) (ai + 1) x5.length]] bW:=cQ
 refine zg (ZH (zL (rR fL2 Z (oR Z (ZS (zf Z ay Z) (congrArg (jV) bF.out)) (oM Z Z (zg ?_))))))
 cases di
 exact zL ⟨rfl,⟨au,rfl,aV,aM,(Eq.trans (b:=(.slice (some ⟨b9,0,none⟩) ae.length x5.length:Value)) (c:=(.slice (some ⟨b9,0,none⟩) ((nG ae ai (gd ae af)).length) x5.length:Value)) aW (by simp only [nB])),aX,(a9.trans bI),(cR.pick [2,3] _ (by decide) rfl),(nB.trans bw)⟩⟩
 rintro dF aS ⟨bK,cb,du,bZ,dv,ca,a7,cA,dw⟩
 have bY:Hid (¬ ((↑(((↑aq.length:Int):Int) - 0).toNat:Int) < (↑aq.length:Int))):=zS (wAh)
 refine sR fL1 Z (oR Z (zh Z cb ca) (eN (zM (cF Z bY (Zf (zx (zx (Zc (zL (sR gFd Z (bnK bG fun av bv c8=>?_)))))))))))
 obtain rfl:av.length=dm:=wMc bv
 have cB:=cA.cutRowC (enc:=wAB) (k:=0) rfl bv
 let B8:List Value:=[.slice aj p0.Starts.length an,.slice ak p0.Splits.length ao,.slice am p0.Clocks.length ap,.slice (some ⟨b9,0,none⟩) av.length x5.length]
 have bz:sW w U bK [.row (some ⟨b9,0,none⟩) x5.length 39 4 (hD wAB av),.blk b2 28 B8] aS:=cB
 refine oL Z (bz.ldBA (j:=1) Z Z bZ ze zZ (vs:=B8) Z Z) ?_
 have q:=bz.freezeR (k:=0) (n:=av.length) rfl (wAE (f:=wAB) (sz:=4) (fun _=>rfl) av) (by decide)
 obtain ⟨bj,a8,dl,cC⟩:=q
 have cD:sW w U bj [.blk b2 28 B8] aS:=cC
 have cc:=cS.le a7
 have cd:=cc.le a8
 have cf:=cU.le a7
 have cg:=cf.le a8
 have ci:=cV.le a7
 have cj:=ci.le a8
 refine bnK c8 fun aw cm da=>zE 0 Z Z Z Z (zD Z Z Try.call89 (zB Z zK) Z) cD (fun hs=>wFg (⟨p0.Starts,p0.Splits,p0.Clocks,av⟩:wAC) aj an ak ao am ap (some ⟨b9,0,none⟩) x5.length aS bj hs cd cg cj dl cm) (.inr Z) ?_
 rintro bk dn dz bM dx cE ⟨bn,bc,bo,bd,bp,be,bq,bf,br,ba,bu,bs,aO,aT,rfl,rfl,co,cp,cq,cr,ct⟩
 have cG:sW w U bk [.blk bn 124 [.slice bc aw.Race.Starts.length bo,.slice bd aw.Race.Splits.length bp,.slice be aw.Race.Clocks.length bq,.slice bf aw.Race.Readings.length br,.map (some ba),.slice aO aw.edges.length aT],.obj ba (.map bu bs),.row aO aT 130 7 (hD wAP aw.edges),.blk b2 28 B8] bM:=cE
 refine oA Z Z (eN (zU ?_))
 have hE:=hH da;first | subst r | cases hE
 exact ⟨rfl,_,(ZL rfl),bk,_,(cG.pick [0,1,2] _ (by decide) rfl),bn,bc,bo,bd,bp,be,bq,bf,br,ba,bu,bs,aO,aT,rfl,rfl,co,cp,cq,cr,ct⟩
theorem wHG (p0:Int) (p1:wAL) (p2:Int) (aj:Nat) (p3:Int) (ak:Nat) (w:World) (U:PHeap) (hS:St0 w U []) (am:Cl U aj 0 [jV p2]) (an:Cl U ak 0 [jV p3]) {r:Bool} (hm:wDB p0 p1 p2 p3=some r):Gv Try.prog 66 [jV p0,.agg #[jV p1.Skier,jV p1.Mat,jV p1.Clock,jV p1.Time],.pointer (some ⟨aj,0,none⟩),.pointer (some ⟨ak,0,none⟩)] w (wCB w [] U (fun U_ L_ v=>v=.bool r/\L_=[])):=by
 unfold wDB at hm
 refine Gv.of Try.func66 rfl Try.ntmps66 Try.results66 rfl (sR gEz rfl (zu (cs:=[jV p1.Skier,jV p1.Mat,jV p1.Clock,jV p1.Time]) rfl rfl rfl rfl rfl rfl (by rfl) hS ?_))
 intro W1 b2 ac
 refine oA Z Z (eN (sR fL9 Z (oM Z Z (oL Z (ac.ldC (f:=0) am (v:=jV p2) Z Z zG Z) (oR Z (yO Z Z Z) (oM Z Z ?_))))))
 by_cases c5:p0=p2
 have ai:=hm;rw [if_pos c5] at ai;replace c5:=zS c5
 refine oT Z c5 (oT Z c5 (oT Z c5 (oR Z (zR Z (Zh c5.out) Z) (oA Z Z (eN (zU ?_))))))
 have hE:=hH ai;first | subst r | cases hE
 exact ⟨rfl,_,(ZL rfl),U,_,(ac.pick [] _ (by decide) rfl),rfl,rfl⟩
 have af:=hm;rw [if_neg c5] at af;replace c5:=zS c5
 refine zr Z Z Z (wF Z c5) Z Z (zl Z Z Z (wF Z c5) (ac.ldC (f:=0) an (v:=jV p3) Z Z zG Z) Z (rU Z (wF Z c5) (yO Z Z Z) (oR Z (zb Z (zd c5.out) Z) (oA Z Z (eN (zU ?_))))))
 first | (obtain rfl:=hH af) | cases af
 exact ⟨rfl,_,(ZL rfl),U,_,(ac.pick [] _ (by decide) rfl),rfl,rfl⟩
theorem wIC (p0:wAC) (aW:Option Addr) (aZ:Nat) (aX:Option Addr) (a5:Nat) (aY:Option Addr) (a6:Nat) (an:Option Addr) (ao:Nat) (w:World) (U:PHeap) (hS:St0 w U []) (cb:Sl U 1 aW aZ p0.Starts.length (hD KL.encI p0.Starts)) (cc:Sl U 2 aX a5 p0.Splits.length (hD wAG p0.Splits)) (cd:Sl U 3 aY a6 p0.Clocks.length (hD wAA p0.Clocks)) (cf:Sl U 4 an ao p0.Readings.length (hD wAB p0.Readings)) {r:(List Int) × Int} (hm:wEy p0=some r):Gv Try.prog 29 [.agg #[.slice aW p0.Starts.length aZ,.slice aX p0.Splits.length a5,.slice aY p0.Clocks.length a6,.slice an p0.Readings.length ao]] w (wCB w [] U (fun U_ L_ v=>∃ (A0:Option Addr) (c0:Nat),v=.tuple #[.slice A0 r.1.length c0,jV r.2]/\L_=[.row A0 c0 3 1 (hD KL.encI r.1)])):=by
 unfold wEy at hm
 refine Gv.of Try.func29 Z Try.ntmps29 Try.results29 Z (sR gFb Z ?_)
 let B0:List Value:=[.slice aW p0.Starts.length aZ,.slice aX p0.Splits.length a5,.slice aY p0.Clocks.length a6,.slice an p0.Readings.length ao]
 refine zu (cs:=B0) rfl rfl rfl rfl rfl rfl (by rfl) hS ?_
 intro W1 b2 du
 refine oA Z Z (oA Z Z (eN (CK.scope (sR (.fl 0 (.fx 1 (wGM (.nil)) .stop)) Z (oL Z (du.ldBA (j:=0) Z Z Z ze zZ (vs:=B0) Z Z) ?_)))))
 have q:=bnd hm
 obtain ⟨⟨x5,x6⟩,h7,bc⟩:=q
 try dsimp only at bc
 refine zE 0 Z Z Z Z (zD Z Z Try.call60 (zB Z zK) Z) du (fun hs=>wDK p0 aW aZ aX a5 aY a6 an ao W1 U hs cb cc cd cf h7) (.inr Z) ?_
 rintro U9 jm jG br ay dq dp
 rcases x5 with _ | aq
 try dsimp only at bc
 obtain ⟨rfl,rfl⟩:=dp
 have io:sW w U U9 [.blk b2 28 B0] br:=dq
 refine oM Z Z (oR Z (zP Z Z (v:=.pointer none) Z) (oR Z (zP Z Z (v:=jV x6) Z) (oA Z Z (oA Z Z (eN (zM (zc (sR fL3 Z (oM Z Z (oR Z (ZN Z Z Z) (oA Z Z (eN (ifc bc ?_ ?_)))))))))))))
 intro bN i2
 refine zn (zd (fun h=>h bN.out)) (sR gFd Z (oM Z Z ?_))
 cases i2
 intro bN i3
 refine cT Z bN (sR fL3 Z (oM Z Z (oA Z Z (oA Z Z (eN (zU (zX (zN (wFE ?_)))))))))
 have iu:=io.nilrow 3 1
 cases i3
 exact ⟨rfl,_,(wDv rfl rfl),U9,_,(iu.pick [0] _ (by decide) rfl),none,0,rfl,rfl⟩
 try dsimp only at bc
 obtain ⟨bH,cw,cW,cx,cX,cy,cY,cz,c6,ae,ag,af,bA,bM,rfl,rfl,gH,gI,gJ,gK,gL⟩:=dp
 let B1:Res:=.blk bH 124 [.slice cw aq.Race.Starts.length cW,.slice cx aq.Race.Splits.length cX,.slice cy aq.Race.Clocks.length cY,.slice cz aq.Race.Readings.length c6,.map (some ae),.slice bA aq.edges.length bM]
 have dw:sW w U U9 [B1,.obj ae (.map ag af),.row bA bM 130 7 (hD wAP aq.edges),.blk b2 28 B0] br:=dq
 refine oM Z Z (oR Z (zP Z Z (v:=.pointer (some ⟨bH,0,none⟩)) Z) (oR Z (zP Z Z (v:=jV x6) Z) (oA Z Z (oA Z Z (eN (zM (zc (sR fL3 Z (oM Z Z (oR Z (ZN Z Z Z) (oA Z Z (eN (ifc bc ?_ ?_)))))))))))))
 intro bR jb
 refine zn (zd (fun h=>h bR.out)) (sR gFd Z (oM Z Z ?_))
 have q:=dw.freezeR (k:=2) (n:=aq.edges.length) rfl (wAE (f:=wAP) (sz:=7) (fun _=>rfl) aq.edges) (by decide)
 obtain ⟨cJ,am,jg,iG⟩:=q
 have iH:sW w U cJ [B1,.obj ae (.map ag af),.blk b2 28 B0] br:=iG
 have gM:=gH.le am
 have gN:=gI.le am
 have gO:=gJ.le am
 have gP:=gK.le am
 refine bnK jb fun jO gQ jc=>zE 2 Z Z Z Z (zD Z Z Try.call63 (zB Z zK) Z) iH (fun hs=>wCA aq bH cw cW cx cX cy cY cz c6 ae ag af bA bM br cJ hs gM gN gO gP gL jg gQ) (.inl Z) ?_
 rintro bp jt jL dX aJ iI ⟨rfl,rfl⟩
 have bY:sW w U bp [B1,.obj ae (.map ag af),.blk b2 28 B0] dX:=iI
 refine oA Z Z (eN (ifc jc ?_ ?_))
 intro bS jd
 refine ZD (congrArg hJ bS.out) (sR fL2 Z (oA Z Z (oA Z Z (eN (zU (zX (zN (wFE ?_))))))))
 have iJ:=bY.nilrow 3 1
 cases jd
 exact ⟨rfl,_,(wDv rfl rfl),bp,_,(iJ.pick [0] _ (by decide) rfl),none,0,rfl,rfl⟩
 intro bS cn
 refine zn (congrArg hJ (nA.2 bS.out)) (Zl (ZH (zL (sR fL1 Z (oA Z Z (eN (zM (sR fL4 Z (oR Z (zJ Z Z zQ Z Zr) (oL Z (bY.ldB (j:=2) Z Z Z yM (v:=.slice an p0.Readings.length ao) Z) (oR Z (zz Z Z ZX) (oM Z Z (eN (zc ?_))))))))))))))
 have q:=wBg cn
 obtain ⟨jF,ca⟩:=q
 have q:=wBf ca
 obtain ⟨cm,iS⟩:=q
 replace cm:=zS cm
 refine yL (fun ak _ σ_ w_=>∃ (U_:PHeap),σ_ 25=jV (↑ak:Int)/\σ_ 1=.pointer (some ⟨b2,0,none⟩)/\σ_ 6=.slice none 0 0/\σ_ 24=jV (↑p0.Readings.length:Int)/\PHeap.Le bp U_/\sW w U U_ [B1,.obj ae (.map ag af),.blk b2 28 B0] w_) iS ?_ ?_ ?_
 exact ⟨bp,Z,Z,Z,Z,(zW _),bY⟩
 rintro ak ⟨⟩ jR jX jA ci ⟨dO,bW,dl,ep,dm,bg,iK⟩ dG iQ
 try dsimp only at dG
 have de:Hid ((↑ak:Int) < (↑p0.Readings.length:Int)):=zS (wBD ci)
 replace ci:=zS ci
 have iT:Hid (w64 ((↑ak:Int) + 1)=(↑(ak + 1):Int)):=zS (by have h1:=cm.out;have h2:=de.out;rw [wAU] <;> omega)
 refine sR fL1 Z (oR Z (zh Z bW dm) (eN (zM (cT Z de (kN (zM (zc (sR gFc Z (oM Z bW (zT (cs:=[jV 0]) Z Z Z Z Z zw Z iK ?_))))))))))
 intro jB aR iL
 let B2:List Value:=[jV (↑ak:Int)]
 refine zV (j:=0) (vs:=B2) Z Z Z Z iL Z Z Z Z zC (zA Z) Z Z Z ?_
 intro bG iM
 have dx:sW w U dO [.blk aR 3 B2,B1,.obj ae (.map ag af),.blk b2 28 B0] bG:=iM
 refine eN (sR gFk Z (oL Z (dx.ldBA (j:=3) Z Z dl ze zZ (vs:=B0) Z Z) ?_))
 have q:=dx.freeze (k:=0) rfl
 obtain ⟨bk,bd,aS,gU⟩:=q
 replace aS:=Cl.of aS
 have gV:sW w U bk [B1,.obj ae (.map ag af),.blk b2 28 B0] bG:=gU
 replace aS:Cl bk aR 0 B2:=aS
 refine oR Z (yc Z zK (zB Z zK)) ?_
 have ew:=cb.le ay
 have ey:=ew.le am
 have eA:=ey.le aJ
 have eB:=eA.le bg
 have eD:=eB.le bd
 have eE:=cc.le ay
 have eG:=eE.le am
 have eH:=eG.le aJ
 have eI:=eH.le bg
 have eJ:=eI.le bd
 have eK:=cd.le ay
 have eL:=eK.le am
 have eM:=eL.le aJ
 have eO:=eM.le bg
 have eQ:=eO.le bd
 have eU:=cf.le ay
 have eV:=eU.le am
 have eW:=eV.le aJ
 have eX:=eW.le bg
 have eY:=eX.le bd
 have gS:FnOK Try.prog bk (.func (.func 65) #[] #[.pointer (some ⟨aR,0,none⟩)]) wKj wKk (fun x=>wDA x.1 x.2 (↑ak:Int)):=⟨65,[],[.pointer (some ⟨aR,0,none⟩)],rfl,Try.call65,fun U1 w1 x y vs le hs ha hm=>by obtain rfl:=ha;exact wHF x.1 x.2 (↑ak:Int) aR w1 U1 hs (aS.le le) hm⟩
 refine bnK dG fun ap eZ iU=>zE 0 Z Z Z Z (zD Z Z Try.call64 (zB Z (zB Z zK)) Z) gV (fun hs=>wDI p0 aW aZ aX a5 aY a6 an ao (fun x=>wDA x.1 x.2 (↑ak:Int)) (.func (.func 65) #[] #[.pointer (some ⟨aR,0,none⟩)]) bG bk hs eD eJ eQ eY gS eZ) (.inr Z) ?_
 rintro dK jo jH bE dH gW ⟨cM,cq,cR,cr,cS,ct,cU,cu,cV,aV,a8,a7,bz,bK,rfl,rfl,fb,fc,fd,ff,fg⟩
 let B3:Res:=.blk cM 124 [.slice cq ap.Race.Starts.length cR,.slice cr ap.Race.Splits.length cS,.slice ct ap.Race.Clocks.length cU,.slice cu ap.Race.Readings.length cV,.map (some aV),.slice bz ap.edges.length bK]
 have gX:sW w U dK [B3,.obj aV (.map a8 a7),.row bz bK 130 7 (hD wAP ap.edges),B1,.obj ae (.map ag af),.blk b2 28 B0] bE:=gW
 have q:=gX.freezeR (k:=2) (n:=ap.edges.length) rfl (wAE (f:=wAP) (sz:=7) (fun _=>rfl) ap.edges) (by decide)
 obtain ⟨cE,aT,je,gY⟩:=q
 have gZ:sW w U cE [B3,.obj aV (.map a8 a7),B1,.obj ae (.map ag af),.blk b2 28 B0] bE:=gY
 have fh:=fb.le aT
 have fj:=fc.le aT
 have fk:=fd.le aT
 have fm:=ff.le aT
 refine bnK iU fun jM fq iV=>zE 2 Z Z Z Z (zD Z Z Try.call63 (zB Z zK) Z) gZ (fun hs=>wCA ap cM cq cR cr cS ct cU cu cV aV a8 a7 bz bK bE cE hs fh fj fk fm fg je fq) (.inl Z) ?_
 rintro bm jp jI dQ dI g6 ⟨rfl,rfl⟩
 have bX:sW w U bm [B3,.obj aV (.map a8 a7),B1,.obj ae (.map ag af),.blk b2 28 B0] dQ:=g6
 refine eN (ifc iV ?_ ?_)
 intro bL iW
 refine ZD (congrArg hJ bL.out) (sR (.fl 0 (.fx 1 (.fl 2 (.fl 3 .nil)) .stop)) Z ?_)
 have ft:=aS.le dH
 have fu:=ft.le aT
 have fw:=fu.le dI
 refine oL Z (bX.ldC (f:=0) fw (v:=jV (↑ak:Int)) Z Z zG Z) (ZE (pv:=[(0,jV (↑ak:Int))]) (zs:=[jV 0]) (cs:=B2) Z Z Z Z Z (wAF Z wAO) zH zC zw Z Z Z Z Z bX ?_)
 intro dR cN g7
 have g8:sW w U bm [.row (some ⟨cN,0,none⟩) 1 3 1 (hD KL.encI [(↑ak:Int)]),B3,.obj aV (.map a8 a7),B1,.obj ae (.map ag af),.blk b2 28 B0] dR:=g7
 refine oA Z Z (oA Z Z (eN (zU (zX (zN ?_)))))
 have q:=wAV iW
 obtain ⟨jh,iX,d7⟩:=q
 obtain rfl:=wAk cn ca (iQ jh d7)
 refine zN (zX (zN (wFE ?_)))
 cases iX
 exact ⟨rfl,_,(wDv rfl rfl),bm,_,(g8.pick [0] _ (by decide) rfl),(some ⟨cN,0,none⟩),1,rfl,rfl⟩
 intro bL iY
 refine zn (congrArg hJ (nA.2 bL.out)) (Zl (ZH (zL (rR fL2 Z (oR Z (ZS (zf Z bW Z) (congrArg (jV) iT.out)) (oM Z Z (zg ?_)))))))
 obtain rfl:=hH iY
 exact zL ⟨rfl,_,rfl,⟨bm,rfl,dl,ep,dm,((((bg.trans bd).trans dH).trans aT).trans dI),(bX.pick [2,3,4] _ (by decide) rfl)⟩⟩
 rintro ⟨⟩ jS ju ⟨cG,er,df,eg,eh,bv,dr⟩ iN
 have bu:=wCV cn ca iN
 try dsimp only at bu
 have dY:Hid (¬ ((↑(((↑p0.Readings.length:Int):Int) - 0).toNat:Int) < (↑p0.Readings.length:Int))):=zS (wAh)
 refine sR fL1 Z (oR Z (zh Z er eh) (eN (zM (cF Z dY (Zf (zx (zx (Zc (zL (zM (CK.label (zL (zM (sR fL4 Z (oR Z (zJ Z df zQ Z Zr) (oL Z (dr.ldB (j:=2) Z Z Z yM (v:=.slice an p0.Readings.length ao) Z) (oR Z (zz Z Z ZX) (oM Z Z (eN (zc ?_))))))))))))))))))))
 have q:=wBg bu
 obtain ⟨jE,bZ⟩:=q
 have q:=wBf bZ
 obtain ⟨cj,iR⟩:=q
 replace cj:=zS cj
 refine yL (fun aj _ σ_ w_=>∃ (U_:PHeap),σ_ 38=jV (↑aj:Int)/\σ_ 1=.pointer (some ⟨b2,0,none⟩)/\σ_ 6=.slice none 0 0/\σ_ 37=jV (↑p0.Readings.length:Int)/\PHeap.Le cG U_/\sW w U U_ [B1,.obj ae (.map ag af),.blk b2 28 B0] w_) iR ?_ ?_ ?_
 exact ⟨cG,Z,df,eg,Z,(zW _),dr⟩
 rintro aj ⟨⟩ jP jT jv cg ⟨cH,bV,ej,ek,dg,be,g9⟩ dE iO
 try dsimp only at dE
 have cZ:Hid ((↑aj:Int) < (↑p0.Readings.length:Int)):=zS (wBD cg)
 replace cg:=zS cg
 have dA:Hid (w64 ((↑aj:Int) + 1)=(↑(aj + 1):Int)):=zS (by have h1:=cj.out;have h2:=cZ.out;rw [wAU] <;> omega)
 refine sR fL1 Z (oR Z (zh Z bV dg) (eN (zM (cT Z cZ (kN (zM (zc (sR gFc Z (oM Z bV (zT (cs:=[jV 0]) Z Z Z Z Z zw Z g9 ?_))))))))))
 intro jw av ib
 let B4:List Value:=[jV (↑aj:Int)]
 refine zV (j:=0) (vs:=B4) Z Z Z Z ib Z Z Z Z zC (zA Z) Z Z Z ?_
 intro dS ic
 have dt:sW w U cH [.blk av 3 B4,B1,.obj ae (.map ag af),.blk b2 28 B0] dS:=ic
 refine eN (sR gFk Z (oL Z (dt.ldB (j:=0) Z Z Z zG (v:=jV (↑aj:Int)) Z) (oR Z (ZS (zf Z Z Z) (congrArg (jV) dA.out)) (zT (cs:=[jV 0]) Z Z Z Z Z zw Z dt ?_))))
 intro jx bI ie
 let B5:List Value:=[jV (↑(aj + 1):Int)]
 refine zV (j:=0) (vs:=B5) Z Z Z Z ie Z Z Z Z zC (zA Z) Z Z Z ?_
 intro cK ig
 have ii:sW w U cH [.blk bI 3 B5,.blk av 3 B4,B1,.obj ae (.map ag af),.blk b2 28 B0] cK:=ig
 refine eN (zc ?_)
 have q:=ii.freeze (k:=1) rfl
 obtain ⟨bn,bf,a9,ij⟩:=q
 replace a9:=Cl.of a9
 have ik:sW w U bn [.blk bI 3 B5,B1,.obj ae (.map ag af),.blk b2 28 B0] cK:=ij
 replace a9:Cl bn av 0 B4:=a9
 refine CK.iter (fun ai σ_ w_=>∃ (U_:PHeap) (aw:Nat),σ_ 1=.pointer (some ⟨b2,0,none⟩)/\σ_ 6=.slice none 0 0/\σ_ 8=.pointer (some ⟨av,0,none⟩)/\σ_ 9=.pointer (some ⟨aw,0,none⟩)/\σ_ 37=jV (↑p0.Readings.length:Int)/\σ_ 38=jV (↑aj:Int)/\PHeap.Le bn U_/\sW w U U_ [B1,.obj ae (.map ag af),.blk b2 28 B0,.blk aw 3 [jV ai]] w_) dE ?_ ?_
 exact ⟨bn,bI,ej,ek,rfl,rfl,dg,bV,(zW _),(ik.pick [1,2,3,0] _ (by decide) rfl)⟩
 rintro ai jQ jU cL ⟨dL,aw,bs,dh,bU,bt,di,dk,aO,ba⟩ dF dz
 refine zM (sR fL5 Z (oL Z (ba.ldB (j:=3) Z Z bt zG (v:=jV ai) Z) (oR Z (zJ Z bs zQ Z Zr) (oL Z (ba.ldB (j:=2) Z Z Z yM (v:=.slice an p0.Readings.length ao) Z) (oR Z (zz Z Z ZX) (oR Z (zh Z Z Z) (eN ?_)))))))
 by_cases ax:ai < (↑p0.Readings.length:Int)
 have dB:=dF;rw [if_pos ax] at dB;replace ax:=zS ax
 refine cT Z ax (kN (zM (zc (sR gFk Z (oL Z (ba.ldBA (j:=2) Z Z bs ze zZ (vs:=B0) Z Z) ?_)))))
 have q:=ba.freeze (k:=3) rfl
 obtain ⟨bo,aU,aN,il⟩:=q
 replace aN:=Cl.of aN
 have im:sW w U bo [B1,.obj ae (.map ag af),.blk b2 28 B0] cL:=il
 replace aN:Cl bo aw 0 [jV ai]:=aN
 refine oR Z (yc Z zK (zB bU (zB bt zK))) ?_
 have fy:=cb.le ay
 have fz:=fy.le am
 have fA:=fz.le aJ
 have fB:=fA.le bv
 have fC:=fB.le be
 have fD:=fC.le bf
 have fG:=fD.le aO
 have fH:=fG.le aU
 have fI:=cc.le ay
 have fJ:=fI.le am
 have fK:=fJ.le aJ
 have fL:=fK.le bv
 have fM:=fL.le be
 have fN:=fM.le bf
 have fO:=fN.le aO
 have fP:=fO.le aU
 have fQ:=cd.le ay
 have fR:=fQ.le am
 have fS:=fR.le aJ
 have fT:=fS.le bv
 have fU:=fT.le be
 have fW:=fU.le bf
 have fY:=fW.le aO
 have fZ:=fY.le aU
 have f4:=cf.le ay
 have f5:=f4.le am
 have f6:=f5.le aJ
 have f8:=f6.le bv
 have f9:=f8.le be
 have ga:=f9.le bf
 have gb:=ga.le aO
 have ge:=gb.le aU
 have gf:=a9.le aO
 have dn:=gf.le aU
 have gT:FnOK Try.prog bo (.func (.func 66) #[] #[.pointer (some ⟨av,0,none⟩),.pointer (some ⟨aw,0,none⟩)]) wKj wKk (fun x=>wDB x.1 x.2 (↑aj:Int) ai):=⟨66,[],[.pointer (some ⟨av,0,none⟩),.pointer (some ⟨aw,0,none⟩)],rfl,Try.call66,fun U1 w1 x y vs le hs ha hm=>by obtain rfl:=ha;exact wHG x.1 x.2 (↑aj:Int) av ai aw w1 U1 hs (dn.le le) (aN.le le) hm⟩
 refine bnK dB fun au gg iZ=>zE 0 Z Z Z Z (zD Z Z Try.call64 (zB Z (zB Z zK)) Z) im (fun hs=>wDI p0 aW aZ aX a5 aY a6 an ao (fun x=>wDB x.1 x.2 (↑aj:Int) ai) (.func (.func 66) #[] #[.pointer (some ⟨av,0,none⟩),.pointer (some ⟨aw,0,none⟩)]) cL bo hs fH fP fZ ge gT gg) (.inr Z) ?_
 rintro dM jq jJ bF bw ip ⟨cO,cA,c8,cB,da,cC,db,cD,dd,aK,aM,aL,bB,bP,rfl,rfl,gh,gi,gj,gp,gq⟩
 let B6:Res:=.blk cO 124 [.slice cA au.Race.Starts.length c8,.slice cB au.Race.Splits.length da,.slice cC au.Race.Clocks.length db,.slice cD au.Race.Readings.length dd,.map (some aK),.slice bB au.edges.length bP]
 have iq:sW w U dM [B6,.obj aK (.map aM aL),.row bB bP 130 7 (hD wAP au.edges),B1,.obj ae (.map ag af),.blk b2 28 B0] bF:=ip
 have q:=iq.freezeR (k:=2) (n:=au.edges.length) rfl (wAE (f:=wAP) (sz:=7) (fun _=>rfl) au.edges) (by decide)
 obtain ⟨cI,az,jf,ir⟩:=q
 have it:sW w U cI [B6,.obj aK (.map aM aL),B1,.obj ae (.map ag af),.blk b2 28 B0] bF:=ir
 have gt:=gh.le az
 have gu:=gi.le az
 have gv:=gj.le az
 have gw:=gp.le az
 refine bnK iZ fun jN gx i4=>zE 2 Z Z Z Z (zD Z Z Try.call63 (zB Z zK) Z) it (fun hs=>wCA au cO cA c8 cB da cC db cD dd aK aM aL bB bP bF cI hs gt gu gv gw gq jf gx) (.inl Z) ?_
 rintro aQ jr jK dT bx iv ⟨rfl,rfl⟩
 have bb:sW w U aQ [B6,.obj aK (.map aM aL),B1,.obj ae (.map ag af),.blk b2 28 B0] dT:=iv
 refine eN (ifc i4 ?_ ?_)
 intro bQ i5
 refine ZD (congrArg hJ bQ.out) (sR gFh Z ?_)
 have gy:=dn.le bw
 have gz:=gy.le az
 have gA:=gz.le bx
 refine oL Z (bb.ldC (f:=0) gA (v:=jV (↑aj:Int)) Z bU zG Z) ?_
 have gB:=aN.le bw
 have gC:=gB.le az
 have gD:=gC.le bx
 refine oL Z (bb.ldC (f:=0) gD (v:=jV ai) Z bt zG Z) (ZE (pv:=[(0,jV (↑aj:Int)),(1,jV ai)]) (zs:=[jV 0,jV 0]) (cs:=[jV (↑aj:Int),jV ai]) Z Z Z Z Z (wAF Z (wAF Z wAO)) zH zC zw Z Z Z Z Z bb ?_)
 intro dU cP iw
 have iy:sW w U aQ [.row (some ⟨cP,0,none⟩) 2 3 1 (hD KL.encI [(↑aj:Int),ai]),B6,.obj aK (.map aM aL),B1,.obj ae (.map ag af),.blk b2 28 B0] dU:=iw
 refine oA Z Z (eN (Zf (wHV (zx ?_))))
 have q:=wAV i5
 obtain ⟨ji,i6,d9⟩:=q
 obtain rfl:=dz ji d9
 refine zx (wHV (wHV (zx ?_)))
 have q:=wAV i6
 obtain ⟨jj,i7,ec⟩:=q
 obtain rfl:=wAk bu bZ (iO jj ec)
 refine zx (Zc (zL (zM (sR fL3 rfl (zr rfl rfl rfl rfl rfl rfl (zY rfl rfl rfl rfl (fun _=>zz rfl rfl zH) (zY rfl rfl rfl rfl (fun _=>yO rfl rfl rfl) (eN (zn (zd (by decide)) (kN (sR fL3 rfl (zr rfl rfl rfl rfl rfl rfl (yD rfl rfl rfl rfl rfl rfl (yD rfl rfl rfl rfl rfl rfl (eN (zU (wFE ?_)))))))))))))))))
 cases i7
 exact ⟨rfl,_,(wDv rfl rfl),aQ,_,(iy.pick [0] _ (by decide) rfl),(some ⟨cP,0,none⟩),2,rfl,rfl⟩
 intro bQ i8
 refine zn (congrArg hJ (nA.2 bQ.out)) (Zl (ZH (zL (zM (sR fL1 Z ?_)))))
 have gE:=aN.le bw
 have gF:=gE.le az
 have gG:=gF.le bx
 refine oL Z (bb.ldC (f:=0) gG (v:=jV ai) Z bt zG Z) (eN (rR gFa Z (zT (cs:=[jV 0]) Z Z Z Z Z zw Z bb ?_)))
 intro jy bJ iz
 refine zV (j:=0) (vs:=[jV ai]) Z Z Z Z iz Z Z Z Z zC (zA Z) Z Z Z ?_
 intro dV iA
 have dv:sW w U aQ [.blk bJ 3 [jV ai],B6,.obj aK (.map aM aL),B1,.obj ae (.map ag af),.blk b2 28 B0] dV:=iA
 refine eN (rR gFe Z (oL Z (dv.ldB (j:=0) Z Z Z zG (v:=jV ai) Z) (oR Z (zf Z Z Z) (zV (j:=0) (vs:=[jV (w64 (ai + 1))]) Z Z Z Z dv Z Z Z Z zC (zA Z) Z Z Z ?_))))
 intro dW iB
 have iC:sW w U aQ [.blk bJ 3 [jV (w64 (ai + 1))],B6,.obj aK (.map aM aL),B1,.obj ae (.map ag af),.blk b2 28 B0] dW:=iB
 refine zg ?_
 obtain rfl:=hH i8
 exact zL ⟨rfl,_,rfl,⟨aQ,bJ,bs,dh,bU,rfl,di,dk,((((aO.trans aU).trans bw).trans az).trans bx),(iC.pick [3,4,5,0] _ (by decide) rfl)⟩⟩
 have dC:=dF;rw [if_neg ax] at dC;replace ax:=zS ax
 refine cF Z ax (Zf (zx ?_))
 have q:=wAV dC
 obtain ⟨jk,i9,ef⟩:=q
 obtain rfl:=dz jk ef
 refine zx (Zc (ZH (zL (rR fL2 Z (oR Z (ZS (zf Z dk Z) (congrArg (jV) dA.out)) (oM Z Z (zg ?_)))))))
 obtain rfl:=hH i9
 exact zL ⟨rfl,_,rfl,⟨dL,rfl,bs,dh,di,((be.trans bf).trans aO),(ba.pick [0,1,2] _ (by decide) rfl)⟩⟩
 rintro ⟨⟩ jW jz ⟨dN,eu,jC,en,eo,jD,iD⟩ iP
 have dD:=wCV bu bZ iP
 try dsimp only at dD
 have dZ:Hid (¬ ((↑(((↑p0.Readings.length:Int):Int) - 0).toNat:Int) < (↑p0.Readings.length:Int))):=zS (wAh)
 refine sR fL1 rfl (zY rfl rfl rfl rfl (fun _=>zh rfl eu eo) (eN (zM (cF Z dZ (Zf (zx (zx (Zc (zL (zM (sR fL3 rfl (zr rfl rfl rfl rfl rfl en (zY rfl rfl rfl rfl (fun _=>zz rfl rfl zH) (zY rfl rfl rfl rfl (fun _=>yO rfl rfl rfl) (eN (ZD (Zh (by decide)) (sR fL2 rfl (yD rfl rfl rfl rfl rfl rfl (yD rfl rfl rfl rfl rfl rfl (eN (zU (zN (wFE ?_)))))))))))))))))))))))
 have iE:=iD.nilrow 3 1
 cases dD
 exact ⟨rfl,_,(wDv rfl rfl),dN,_,(iE.pick [0] _ (by decide) rfl),none,0,rfl,rfl⟩
 intro bR ja
 refine cT Z bR (sR fL3 Z (oM Z Z (oA Z Z (oA Z Z (eN (zU (zX (zN (wFE ?_)))))))))
 have iF:=dw.nilrow 3 1
 cases ja
 exact ⟨rfl,_,(wDv rfl rfl),U9,_,(iF.pick [0] _ (by decide) rfl),none,0,rfl,rfl⟩
end Go.Proofs.Ytlnfbjphfoipaaa
namespace Go.Proofs.Ytlnfbjphfoipaaa
open Go.KL
set_option maxHeartbeats 4000000
theorem wHH (p0:Int) (p1:wAL) (p2:Int) (af:Nat) (w:World) (U:PHeap) (hS:St0 w U []) (ag:Cl U af 0 [jV p2]) {r:Bool} (hm:wDC p0 p1 p2=some r):Gv Try.prog 67 [jV p0,.agg #[jV p1.Skier,jV p1.Mat,jV p1.Clock,jV p1.Time],.pointer (some ⟨af,0,none⟩)] w (wCB w [] U (fun U_ L_ v=>v=.bool r/\L_=[])):=by
 unfold wDC at hm
 refine Gv.of Try.func67 rfl Try.ntmps67 Try.results67 rfl (sR gEz rfl (zu (cs:=[jV p1.Skier,jV p1.Mat,jV p1.Clock,jV p1.Time]) rfl rfl rfl rfl rfl rfl (by rfl) hS ?_))
 intro W1 b2 ab
 refine oA Z Z (eN (sR fL5 Z (oR Z (zJ Z Z ZM Z zC) (oL Z (ab.ldB (j:=0) Z Z Z zG (v:=jV p1.Skier) Z) (oL Z (ab.ldC (f:=0) ag (v:=jV p2) Z Z zG Z) (oR Z (yO Z Z Z) (oA Z Z (eN (zU ?_)))))))))
 first | (obtain rfl:=hH hm) | cases hm
 exact ⟨rfl,_,(ZL rfl),U,_,(ab.pick [] _ (by decide) rfl),rfl,rfl⟩
theorem wID (p0:wAC) (az:Option Addr) (aJ:Nat) (aQ:Option Addr) (aT:Nat) (aR:Option Addr) (aU:Nat) (aS:Option Addr) (aV:Nat) (w:World) (U:PHeap) (hS:St0 w U []) (cc:Sl U 1 az aJ p0.Starts.length (hD KL.encI p0.Starts)) (cd:Sl U 2 aQ aT p0.Splits.length (hD wAG p0.Splits)) (cf:Sl U 3 aR aU p0.Clocks.length (hD wAA p0.Clocks)) (cg:Sl U 4 aS aV p0.Readings.length (hD wAB p0.Readings)) {r:(List Int) × Int} (hm:wEz p0=some r):Gv Try.prog 30 [.agg #[.slice az p0.Starts.length aJ,.slice aQ p0.Splits.length aT,.slice aR p0.Clocks.length aU,.slice aS p0.Readings.length aV]] w (wCB w [] U (fun U_ L_ v=>∃ (A0:Option Addr) (c0:Nat),v=.tuple #[.slice A0 r.1.length c0,jV r.2]/\L_=[.row A0 c0 3 1 (hD KL.encI r.1)])):=by
 unfold wEz at hm
 refine Gv.of Try.func30 Z Try.ntmps30 Try.results30 Z (sR gFb Z ?_)
 let B0:List Value:=[.slice az p0.Starts.length aJ,.slice aQ p0.Splits.length aT,.slice aR p0.Clocks.length aU,.slice aS p0.Readings.length aV]
 refine zu (cs:=B0) rfl rfl rfl rfl rfl rfl (by rfl) hS ?_
 intro W1 b2 ca
 refine oA Z Z (oA Z Z (eN (sR (.fl 0 (.fx 1 (wGM (.nil)) .stop)) Z (oL Z (ca.ldBA (j:=0) Z Z Z ze zZ (vs:=B0) Z Z) ?_))))
 have q:=bnd hm
 obtain ⟨⟨x5,x6⟩,h7,aO⟩:=q
 try dsimp only at aO
 refine zE 0 Z Z Z Z (zD Z Z Try.call60 (zB Z zK) Z) ca (fun hs=>wDK p0 az aJ aQ aT aR aU aS aV W1 U hs cc cd cf cg h7) (.inr Z) ?_
 rintro U9 eI eW a5 a7 bY bW
 rcases x5 with _ | ak
 try dsimp only at aO
 obtain ⟨rfl,rfl⟩:=bW
 have dU:sW w U U9 [.blk b2 28 B0] a5:=bY
 refine oM Z Z (oR Z (zP Z Z (v:=.pointer none) Z) (oR Z (zP Z Z (v:=jV x6) Z) (oA Z Z (oA Z Z (eN (zM (zc (sR fL3 Z (oM Z Z (oR Z (ZN Z Z Z) (oA Z Z (eN (ifc aO ?_ ?_)))))))))))))
 intro bh eo
 refine zn (zd (fun h=>h bh.out)) (sR gFd Z (oM Z Z ?_))
 cases eo
 intro bh ep
 refine cT Z bh (sR fL3 Z (oM Z Z (oA Z Z (oA Z Z (eN (zU (zX (zN ?_))))))))
 have dV:=dU.nilrow 3 1
 cases ep
 exact ⟨rfl,_,(wDv rfl rfl),U9,_,(dV.pick [0] _ (by decide) rfl),none,0,rfl,rfl⟩
 try dsimp only at aO
 obtain ⟨bd,bx,bP,bA,bQ,bB,bR,bD,bU,af,ah,ag,ba,bg,rfl,rfl,dr,dt,du,dv,dw⟩:=bW
 let B1:Res:=.blk bd 124 [.slice bx ak.Race.Starts.length bP,.slice bA ak.Race.Splits.length bQ,.slice bB ak.Race.Clocks.length bR,.slice bD ak.Race.Readings.length bU,.map (some af),.slice ba ak.edges.length bg]
 have cb:sW w U U9 [B1,.obj af (.map ah ag),.row ba bg 130 7 (hD wAP ak.edges),.blk b2 28 B0] a5:=bY
 refine oM Z Z (oR Z (zP Z Z (v:=.pointer (some ⟨bd,0,none⟩)) Z) (oR Z (zP Z Z (v:=jV x6) Z) (oA Z Z (oA Z Z (eN (zM (zc (sR fL3 Z (oM Z Z (oR Z (ZN Z Z Z) (oA Z Z (eN (ifc aO ?_ ?_)))))))))))))
 intro bi er
 refine zn (zd (fun h=>h bi.out)) (sR gFd Z (oM Z Z ?_))
 have q:=cb.freezeR (k:=2) (n:=ak.edges.length) rfl (wAE (f:=wAP) (sz:=7) (fun _=>rfl) ak.edges) (by decide)
 obtain ⟨bG,am,eD,dW⟩:=q
 have dX:sW w U bG [B1,.obj af (.map ah ag),.blk b2 28 B0] a5:=dW
 have dx:=dr.le am
 have dz:=dt.le am
 have dA:=du.le am
 have dB:=dv.le am
 refine bnK er fun fc dC eu=>zE 2 Z Z Z Z (zD Z Z Try.call63 (zB Z zK) Z) dX (fun hs=>wCA ak bd bx bP bA bQ bB bR bD bU af ah ag ba bg a5 bG hs dx dz dA dB dw eD dC) (.inl Z) ?_
 rintro aY eL eZ cy a8 dY ⟨rfl,rfl⟩
 have bo:sW w U aY [B1,.obj af (.map ah ag),.blk b2 28 B0] cy:=dY
 refine oA Z Z (eN (ifc eu ?_ ?_))
 intro bj ew
 refine ZD (congrArg hJ bj.out) (sR fL2 Z (oA Z Z (oA Z Z (eN (zU (zX (zN ?_)))))))
 have dZ:=bo.nilrow 3 1
 cases ew
 exact ⟨rfl,_,(wDv rfl rfl),aY,_,(dZ.pick [0] _ (by decide) rfl),none,0,rfl,rfl⟩
 intro bj ey
 refine zn (congrArg hJ (nA.2 bj.out)) (Zl (ZH (zL (sR fL1 Z (oA Z Z (eN (zM (sR fL4 Z (oR Z (zJ Z Z zQ Z zq) (oL Z (bo.ldB (j:=2) Z Z Z zy (v:=.slice az p0.Starts.length aJ) Z) (oR Z (zz Z Z zH) (oM Z Z (eN (zc (bnK ey fun ff d9 eA=>?_)))))))))))))))
 have q:=wBn d9
 obtain ⟨bq,ec⟩:=q
 replace bq:=zS bq
 refine CK.forN' (fun ac aP σ_ w_=>∃ (U_:PHeap) (aK:Option Addr) (aN:Nat),σ_ 24=jV (↑ac:Int)/\σ_ 1=.pointer (some ⟨b2,0,none⟩)/\σ_ 6=.slice aK aP.length aN/\σ_ 23=jV (↑p0.Starts.length:Int)/\PHeap.Le aY U_/\sW w U U_ [B1,.obj af (.map ah ag),.blk b2 28 B0,.row aK aN 3 1 (hD KL.encI aP)] w_) ec ?_ ?_ ?_
 have d7:=bo.nilrow 3 1
 exact ⟨aY,none,0,rfl,rfl,rfl,rfl,(zW _),(d7.pick [1,2,3,0] _ (by decide) rfl)⟩
 rintro ac aP fd fh eQ bp ⟨cp,aK,aN,a6,bk,bV,bm,ax,dF⟩ eE
 have bJ:Hid ((↑ac:Int) < (↑p0.Starts.length:Int)):=zS (wBD bp)
 replace bp:=zS bp
 have ci:Hid (w64 ((↑ac:Int) + 1)=(↑(ac + 1):Int)):=zS (by have h1:=bq.out;have h2:=bJ.out;rw [wAU] <;> omega)
 refine sR fL1 Z (oR Z (zh Z a6 bm) (eN (zM (cT Z bJ (kN (zM (zc (sR gFc Z (oM Z a6 (zT (cs:=[jV 0]) Z Z Z Z Z zw Z dF ?_))))))))))
 intro eM aq dG
 let B2:List Value:=[jV (↑ac:Int)]
 refine zV (j:=0) (vs:=B2) Z Z Z Z dG Z Z Z Z zC (zA Z) Z Z Z ?_
 intro bb dH
 let B3:Res:=.row aK aN 3 1 (hD KL.encI aP)
 have bX:sW w U cp [.blk aq 3 B2,B1,.obj af (.map ah ag),.blk b2 28 B0,B3] bb:=dH
 refine eN (sR gFn Z (oL Z (bX.ldBA (j:=3) Z Z bk ze zZ (vs:=B0) Z Z) ?_))
 have q:=bX.freeze (k:=0) rfl
 obtain ⟨aX,ay,aw,dI⟩:=q
 replace aw:=Cl.of aw
 have dJ:sW w U aX [B1,.obj af (.map ah ag),.blk b2 28 B0,B3] bb:=dI
 replace aw:Cl aX aq 0 B2:=aw
 refine oR Z (yc Z zK (zB Z zK)) ?_
 have cG:=cc.le a7
 have cH:=cG.le am
 have cI:=cH.le a8
 have cJ:=cI.le ax
 have cK:=cJ.le ay
 have cL:=cd.le a7
 have cM:=cL.le am
 have cN:=cM.le a8
 have cO:=cN.le ax
 have cP:=cO.le ay
 have cQ:=cf.le a7
 have cR:=cQ.le am
 have cS:=cR.le a8
 have cU:=cS.le ax
 have cV:=cU.le ay
 have cW:=cg.le a7
 have cX:=cW.le am
 have cY:=cX.le a8
 have cZ:=cY.le ax
 have c6:=cZ.le ay
 have dE:FnOK Try.prog aX (.func (.func 67) #[] #[.pointer (some ⟨aq,0,none⟩)]) wKj wKk (fun x=>wDC x.1 x.2 (↑ac:Int)):=⟨67,[],[.pointer (some ⟨aq,0,none⟩)],rfl,Try.call67,fun U1 w1 x y vs le hs ha hm=>by obtain rfl:=ha;exact wHH x.1 x.2 (↑ac:Int) aq w1 U1 hs (aw.le le) hm⟩
 refine bnK eE fun aj c8 ef=>zE 0 Z Z Z Z (zD Z Z Try.call64 (zB Z (zB Z zK)) Z) dJ (fun hs=>wDI p0 az aJ aQ aT aR aU aS aV (fun x=>wDC x.1 x.2 (↑ac:Int)) (.func (.func 67) #[] #[.pointer (some ⟨aq,0,none⟩)]) bb aX hs cK cP cV c6 dE c8) (.inr Z) ?_
 rintro cq eJ eX bc br dK ⟨bH,bu,bK,bv,bL,bw,bM,bz,bN,ao,av,au,a9,be,rfl,rfl,da,db,dd,de,df⟩
 let B4:Res:=.blk bH 124 [.slice bu aj.Race.Starts.length bK,.slice bv aj.Race.Splits.length bL,.slice bw aj.Race.Clocks.length bM,.slice bz aj.Race.Readings.length bN,.map (some ao),.slice a9 aj.edges.length be]
 have dL:sW w U cq [B4,.obj ao (.map av au),.row a9 be 130 7 (hD wAP aj.edges),B1,.obj af (.map ah ag),.blk b2 28 B0,B3] bc:=dK
 refine oR Z (yc Z (zB Z zK) zK) (oA Z Z (eN (sR gEw Z (oM Z Z ?_))))
 have q:=dL.freezeR (k:=2) (n:=aj.edges.length) rfl (wAE (f:=wAP) (sz:=7) (fun _=>rfl) aj.edges) (by decide)
 obtain ⟨bF,an,eB,dM⟩:=q
 have dN:sW w U bF [B4,.obj ao (.map av au),B1,.obj af (.map ah ag),.blk b2 28 B0,B3] bc:=dM
 have dg:=da.le an
 have dh:=db.le an
 have di:=dd.le an
 have dk:=de.le an
 refine bnK ef fun fb dl eg=>zE 2 Z Z Z Z (zD Z Z Try.call63 zK Z) dN (fun hs=>wCA aj bH bu bK bv bL bw bM bz bN ao av au a9 be bc bF hs dg dh di dk df eB dl) (.inl Z) ?_
 rintro aM eK eY cu bs dO ⟨rfl,rfl⟩
 have bn:sW w U aM [B4,.obj ao (.map av au),B1,.obj af (.map ah ag),.blk b2 28 B0,B3] cu:=dO
 refine eN (ifc eg ?_ ?_)
 intro bf eh
 refine ZD (congrArg hJ bf.out) (rR gFm Z (oM Z bV ?_))
 have dm:=aw.le br
 have dn:=dm.le an
 have dp:=dn.le bs
 refine oL Z (bn.ldC (f:=0) dp (v:=jV (↑ac:Int)) Z Z zG Z) (ZE (pv:=[(0,jV (↑ac:Int))]) (zs:=[jV 0]) (cs:=B2) Z Z Z Z Z (wAF Z wAO) zH zC zw Z Z Z Z Z bn ?_)
 intro cw cz dP
 let B5:Res:=.row (some ⟨cz,0,none⟩) 1 3 1 (hD KL.encI [(↑ac:Int)])
 have bZ:sW w U aM [B5,B4,.obj ao (.map av au),B1,.obj af (.map ah ag),.blk b2 28 B0,B3] cw:=dP
 refine bnK eh fun cj dq ej=>yP (j:=6) (enc:=KL.encI) (xs:=aP) (ys:=[(↑ac:Int)]) (zs:=cj) rfl rfl rfl rfl rfl yr wIe rfl rfl rfl rfl rfl rfl bZ rfl rfl rfl (bZ.srcR (j:=0) rfl (by decide) (wAE (f:=KL.encI) (sz:=1) (fun _=>rfl) [(↑ac:Int)])) (fun _=>rfl) (fun _=>rfl) dq rfl ?_
 intro bC bS cx dQ
 have dR:sW w U aM [B5,B4,.obj ao (.map av au),B1,.obj af (.map ah ag),.blk b2 28 B0,.row bC bS 3 1 (hD KL.encI cj)] cx:=dQ
 refine oA Z Z (zg (ZH (zL (rR fL2 Z (oR Z (ZS (zf Z a6 Z) (congrArg (jV) ci.out)) (oM Z Z (zg ?_)))))))
 cases ej
 exact zL ⟨rfl,⟨aM,bC,bS,rfl,bk,rfl,bm,((((ax.trans ay).trans br).trans an).trans bs),(dR.pick [3,4,5,6] _ (by decide) rfl)⟩⟩
 intro bf ek
 refine zn (congrArg hJ (nA.2 bf.out)) (Zl (ZH (zL (rR fL2 Z (oR Z (ZS (zf Z a6 Z) (congrArg (jV) ci.out)) (oM Z Z (zg ?_)))))))
 cases ek
 exact zL ⟨rfl,⟨aM,aK,aN,rfl,bk,bV,bm,((((ax.trans ay).trans br).trans an).trans bs),(bn.pick [2,3,4,5] _ (by decide) rfl)⟩⟩
 rintro fg eO ⟨cr,cn,cA,cE,eU,cC,cD,eV,dS⟩
 have cB:Hid (¬ ((↑(((↑p0.Starts.length:Int):Int) - 0).toNat:Int) < (↑p0.Starts.length:Int))):=zS (wAh)
 refine sR fL1 Z (oR Z (zh Z cE cD) (eN (zM (cF Z cB (Zf (zx (zx (Zc (zL (sR fL3 Z (oM Z cC (oA Z Z (oA Z Z (eN (zU ?_)))))))))))))))
 cases eA
 exact ⟨rfl,_,(wDv rfl rfl),cr,_,(dS.pick [3] _ (by decide) rfl),cn,cA,rfl,rfl⟩
 intro bi en
 refine cT Z bi (sR fL3 Z (oM Z Z (oA Z Z (oA Z Z (eN (zU (zX (zN ?_))))))))
 have dT:=cb.nilrow 3 1
 cases en
 exact ⟨rfl,_,(wDv rfl rfl),U9,_,(dT.pick [0] _ (by decide) rfl),none,0,rfl,rfl⟩
theorem wDX (p0:List Int) (ao:Option Addr) (aq:Nat) (p1:List Int) (ap:Option Addr) (au:Nat) (w:World) (U:PHeap) (hS:St0 w U []) (a7:Sl U 1 ao aq p0.length (hD KL.encI p0)) (a8:Sl U 1 ap au p1.length (hD KL.encI p1)) {r:Bool} (hm:wCI p0 p1=some r):Gv Try.prog 56 [.slice ao p0.length aq,.slice ap p1.length au] w (wCB w [] U (fun U_ L_ v=>v=.bool r/\L_=[])):=by
 unfold wCI at hm
 refine Gv.of Try.func56 Z Try.ntmps56 Try.results56 Z (sR fL1 Z (oA Z Z (eN (zM (sR fL5 Z (oM Z Z (oR Z (zz Z Z zH) (oM Z Z (oR Z (zz Z Z zH) (oR Z (ZN Z Z Z) (eN ?_)))))))))))
 by_cases c1:(↑p0.length:Int)=(↑p1.length:Int)
 have ag:=hm;rw [if_pos c1] at ag;replace c1:=zS c1
 refine zn (zd (fun h=>h c1.out)) (kN (zM (sR fL3 Z (oM Z Z (oR Z (zz Z Z zH) (oM Z Z (eN (zc ?_))))))))
 have q:=wBg ag
 obtain ⟨r5,aj⟩:=q
 have q:=wBf aj
 obtain ⟨am,bb⟩:=q
 replace am:=zS am
 refine yL (fun k4 _ σ_ w_=>∃ (U_:PHeap),σ_ 13=jV (↑k4:Int)/\σ_ 0=.slice ao p0.length aq/\σ_ 1=.slice ap p1.length au/\σ_ 12=jV (↑p0.length:Int)/\PHeap.Le U U_/\sW w U U_ [] w_) bb ?_ ?_ ?_
 exact ⟨U,Z,Z,Z,Z,(zW _),hS⟩
 rintro k4 ⟨⟩ bw bz aw ak ⟨av,ai,ay,az,aJ,an,a5⟩ aO a9
 try dsimp only at aO
 have ax:Hid ((↑k4:Int) < (↑p0.length:Int)):=zS (wBD ak)
 replace ak:=zS ak
 have bc:Hid (w64 ((↑k4:Int) + 1)=(↑(k4 + 1):Int)):=zS (by have h1:=am.out;have h2:=ax.out;rw [wAU] <;> omega)
 refine sR fL1 rfl (zY rfl rfl rfl rfl (fun _=>zh rfl ai aJ) (eN (zM (cT Z ax (kN (zM (zc (sR fL2 rfl (zr rfl rfl rfl rfl rfl ai (yD rfl rfl rfl rfl rfl rfl (eN (zM (ZA ZB [3,3,3,1,3,3,3,1,3] fL9 (by kernel_rfl) ?_)))))))))))))
 have ae:=a5.drew
 generalize hw_W25:({ aw with drawn:=aw.drawn + 1 }:World)=bm at ae ⊢
 refine oM Z ay (oM Z Z (bnK aO fun bj aK bd=>?_))
 have aU:=a7.le an
 have q:=aU.el (fun _=>rfl) (wAW aK)
 obtain ⟨bo,bt,aW,aY⟩:=q
 refine oR Z (Zi Z Z aW Z zH zC (wBi aK)) (oL Z (ae.ldC (f:=0) aY (v:=jV bj) Z Z zG Z) (oM Z az (oM Z Z (bnK bd fun bk aL be=>?_))))
 have aV:=a8.le an
 have q:=aV.el (fun _=>rfl) (wAW aL)
 obtain ⟨bp,bu,aX,aZ⟩:=q
 refine oR Z (Zi Z Z aX Z zH zC (wBi aL)) (oL Z (ae.ldC (f:=0) aZ (v:=jV bk) Z Z zG Z) (oR Z (ZN Z Z Z) (eN (ifc be ?_ ?_))))
 intro ah bf
 refine zn (zd (fun h=>h ah.out)) (Zl (ZH (zL (rR fL2 Z (oR Z (ZS (zf Z ai Z) (congrArg (jV) bc.out)) (oM Z Z (zg ?_)))))))
 obtain rfl:=hH bf
 exact zL ⟨Z,_,Z,⟨av,Z,ay,az,aJ,an,ae⟩⟩
 intro ah bg
 refine cT Z ah (sR fL1 Z (oA Z Z (eN (zU (zX (zN ?_))))))
 have q:=wAV bg
 obtain ⟨bi,bh,aR⟩:=q
 obtain rfl:=wAk ag aj (a9 bi aR)
 refine zN (zX (zN ?_))
 have hE:=hH bh;first | subst r | cases hE
 exact ⟨Z,_,(ZL Z),av,_,ae,Z,Z⟩
 rintro ⟨⟩ bx bn ⟨aP,aT,bq,br,aS,bs,a6⟩ ba
 have aM:=wCV ag aj ba
 try dsimp only at aM
 have aQ:Hid (¬ ((↑(((↑p0.length:Int):Int) - 0).toNat:Int) < (↑p0.length:Int))):=zS (wAh)
 refine sR fL1 Z (oR Z (zh Z aT aS) (eN (zM (cF Z aQ (Zf (zx (zx (Zc (zL (sR fL1 Z (oA Z Z (eN (zU ?_)))))))))))))
 have hE:=hH aM;first | subst r | cases hE
 exact ⟨Z,_,(ZL Z),aP,_,a6,Z,Z⟩
 have aN:=hm;rw [if_neg c1] at aN;replace c1:=zS c1
 refine cT Z c1 (sR fL1 Z (oA Z Z (eN (zU (zN ?_)))))
 have hE:=hH aN;first | subst r | cases hE
 exact ⟨Z,_,(ZL Z),U,_,hS,Z,Z⟩
theorem wFJ  (w:World) (U:PHeap) (hS:St0 w U [])  {r:Bool} (hm:wBq =some r):Gv Try.prog 19 [] w (wCB w [] U (fun U_ L_ v=>v=.bool r/\L_=[])):=by
 unfold wBq at hm
 refine Gv.of Try.func19 Z Try.ntmps19 Try.results19 Z (sR fL1 Z (oA Z Z (eN (sR (.fx 0 (.fx 1 (.fx 2 (wJk gFg) .stop) .stop) .stop) Z (bnK hm fun x1 h2 ro=>zE 0 Z Z Z Z (zD Z Z Try.call52 zK Z) hS (fun hs=>wBc w U hs h2) (.inr Z) ?_)))))
 rintro U4 L5 v6 W7 vf qW ⟨cS,fK,cU,fL,cV,fM,cW,fR,rfl,rfl⟩
 let B0:Res:=.row cW fR 39 4 (hD wAB x1.Readings)
 let B1:Res:=.row cV fM 43 3 (hD wAA x1.Clocks)
 let B2:Res:=.row cU fL 41 2 (hD wAG x1.Splits)
 let B3:Res:=.row cS fK 3 1 (hD KL.encI x1.Starts)
 have m8:sW w U U4 [B3,B2,B1,B0] W7:=qW
 refine bnK ro fun tP j6 rj=>zE 0 Z Z Z Z (zD Z Z yq (zB Z (zB Z zK)) Z) m8 (fun hs=>wAp 0 2 W7 U4 hs j6) (.inr Z) ?_
 rintro iF t9 vx bn uQ oy ⟨rfl,rfl⟩
 have oB:sW w U iF [B3,B2,B1,B0] bn:=oy
 have q:=oB.freezeR (k:=0) (n:=x1.Starts.length) rfl (wAE (f:=KL.encI) (sz:=1) (fun _=>rfl) x1.Starts) (by decide)
 obtain ⟨iK,uS,sL,oG⟩:=q
 have oK:sW w U iK [B2,B1,B0] bn:=oG
 have q:=oK.freezeR (k:=0) (n:=x1.Splits.length) rfl (wAE (f:=wAG) (sz:=2) (fun _=>rfl) x1.Splits) (by decide)
 obtain ⟨iP,tC,sQ,oY⟩:=q
 have o3:sW w U iP [B1,B0] bn:=oY
 have q:=o3.freezeR (k:=0) (n:=x1.Clocks.length) rfl (wAE (f:=wAA) (sz:=3) (fun _=>rfl) x1.Clocks) (by decide)
 obtain ⟨iS,g8,sX,ph⟩:=q
 have pk:sW w U iS [B0] bn:=ph
 have q:=pk.freezeR (k:=0) (n:=x1.Readings.length) rfl (wAE (f:=wAB) (sz:=4) (fun _=>rfl) x1.Readings) (by decide)
 obtain ⟨eE,cL,sZ,py⟩:=q
 have pB:sW w U eE [] bn:=py
 have lG:=sL.le tC
 have lH:=lG.le g8
 have lK:=lH.le cL
 have lL:=sQ.le g8
 have lM:=lL.le cL
 have lN:=sX.le cL
 have q:=bnd rj
 obtain ⟨⟨bJ,cR⟩,lP,gR⟩:=q
 try dsimp only at gR
 refine zE 0 Z Z Z Z (zD Z Z Try.call15 (zB Z (zB Z zK)) Z) pB (fun hs=>wFB x1 cS fK cU fL cV fM cW fR tP bn eE hs lK lM lN sZ lP) (.inr Z) ?_
 rintro cA um vJ jp u7 p7 ⟨rfl,rfl⟩
 have qc:sW w U cA [] jp:=p7
 refine oM Z Z (oR Z (zP Z Z (v:=.agg #[jV bJ.Lo,jV bJ.Hi]) Z) (oR Z (zP Z Z (v:=jV cR) Z) ?_))
 let B4:List Value:=[jV 0,jV 0]
 refine zT (cs:=B4) Z Z Z Z Z ZJ Z qc ?_
 intro uC ab qm
 let B5:List Value:=[jV bJ.Lo,jV bJ.Hi]
 refine zV (j:=0) (vs:=B5) Z Z Z Z qm Z Z Z Z zj (zA Z) Z Z Z ?_
 intro fz qr
 have qw:sW w U cA [.blk ab 41 B5] fz:=qr
 refine oA Z Z (eN (sR (.fx 0 (.fx 1 (.fx 2 (wJk gFg) .stop) .stop) .stop) Z (bnK gR fun az mm r7=>zE 0 Z Z Z Z (zD Z Z Try.call52 zK Z) qw (fun hs=>wBc fz cA hs mm) (.inr Z) ?_)))
 rintro eX uw vP fB vh qO ⟨dI,gC,dJ,gD,dK,gE,dL,gF,rfl,rfl⟩
 let B6:Res:=.row dL gF 39 4 (hD wAB az.Readings)
 let B7:Res:=.row dK gE 43 3 (hD wAA az.Clocks)
 let B8:Res:=.row dJ gD 41 2 (hD wAG az.Splits)
 let B9:Res:=.row dI gC 3 1 (hD KL.encI az.Starts)
 have rc:sW w U eX [B9,B8,B7,B6,.blk ab 41 B5] fB:=qO
 refine bnK r7 fun tV jM rd=>zE 0 Z Z Z Z (zD Z Z yq (zB Z (zB Z zK)) Z) rc (fun hs=>wAp 0 1 fB eX hs jM) (.inr Z) ?_
 rintro iw tW vn bk uE mB ⟨rfl,rfl⟩
 have mC:sW w U iw [B9,B8,B7,B6,.blk ab 41 B5] bk:=mB
 have q:=mC.freezeR (k:=0) (n:=az.Starts.length) rfl (wAE (f:=KL.encI) (sz:=1) (fun _=>rfl) az.Starts) (by decide)
 obtain ⟨iy,uF,sv,mD⟩:=q
 have mE:sW w U iy [B8,B7,B6,.blk ab 41 B5] bk:=mD
 have q:=mE.freezeR (k:=0) (n:=az.Splits.length) rfl (wAE (f:=wAG) (sz:=2) (fun _=>rfl) az.Splits) (by decide)
 obtain ⟨iz,tx,sw,mF⟩:=q
 have mG:sW w U iz [B7,B6,.blk ab 41 B5] bk:=mF
 have q:=mG.freezeR (k:=0) (n:=az.Clocks.length) rfl (wAE (f:=wAA) (sz:=3) (fun _=>rfl) az.Clocks) (by decide)
 obtain ⟨iA,gX,sA,mH⟩:=q
 have mI:sW w U iA [B6,.blk ab 41 B5] bk:=mH
 have q:=mI.freezeR (k:=0) (n:=az.Readings.length) rfl (wAE (f:=wAB) (sz:=4) (fun _=>rfl) az.Readings) (by decide)
 obtain ⟨eh,cG,sB,mJ⟩:=q
 have mK:sW w U eh [.blk ab 41 B5] bk:=mJ
 have jN:=sv.le tx
 have jO:=jN.le gX
 have jP:=jO.le cG
 have jQ:=sw.le gX
 have jR:=jQ.le cG
 have jS:=sA.le cG
 have q:=bnd rd
 obtain ⟨⟨bF,ik⟩,jT,gK⟩:=q
 try dsimp only at gK
 refine zE 0 Z Z Z Z (zD Z Z Try.call15 (zB Z (zB Z zK)) Z) mK (fun hs=>wFB az dI gC dJ gD dK gE dL gF tV bk eh hs jP jR jS sB jT) (.inr Z) ?_
 rintro cx tX vo jh uG mL ⟨rfl,rfl⟩
 have mM:sW w U cx [.blk ab 41 B5] jh:=mL
 refine oM Z Z (oR Z (zP Z Z (v:=.agg #[jV bF.Lo,jV bF.Hi]) Z) (oR Z (zP Z Z (v:=jV ik) Z) (zT (cs:=B4) Z Z Z Z Z ZJ Z mM ?_)))
 intro uA ae mN
 let ac:List Value:=[jV bF.Lo,jV bF.Hi]
 refine zV (j:=0) (vs:=ac) Z Z Z Z mN Z Z Z Z zj (zA Z) Z Z Z ?_
 intro fd mO
 have mP:sW w U cx [.blk ae 41 ac,.blk ab 41 B5] fd:=mO
 refine oA Z Z (eN (sR (.fx 0 (.fx 1 (.fx 2 (.fx 3 (wMF (.fx 7 (.fx 8 (.fl 9 .nil) .stop) .stop)) .stop) .stop) .stop) .stop) Z (bnK gK fun ap jU re=>zE 0 Z Z Z Z (zD Z Z Try.call52 zK Z) mP (fun hs=>wBc fd cx hs jU) (.inr Z) ?_)))
 rintro ej tY vp ff uH mQ ⟨cX,fN,cY,fO,cZ,fP,c6,fQ,rfl,rfl⟩
 let bg:Res:=.row c6 fQ 39 4 (hD wAB ap.Readings)
 let bz:Res:=.row cZ fP 43 3 (hD wAA ap.Clocks)
 let bN:Res:=.row cY fO 41 2 (hD wAG ap.Splits)
 let cm:Res:=.row cX fN 3 1 (hD KL.encI ap.Starts)
 have mR:sW w U ej [cm,bN,bz,bg,.blk ae 41 ac,.blk ab 41 B5] ff:=mQ
 refine bnK re fun tN jW rf=>zE 0 Z Z Z Z (zD Z Z yq (zB Z (zB Z zK)) Z) mR (fun hs=>wAp 0 2 ff ej hs jW) (.inr Z) ?_
 rintro ek tZ vq fg uI mS ⟨rfl,rfl⟩
 have mT:sW w U ek [cm,bN,bz,bg,.blk ae 41 ac,.blk ab 41 B5] fg:=mS
 refine bnK rf fun tO jX rh=>zE 0 Z Z Z Z (zD Z Z yq (zB Z (zB Z zK)) Z) mT (fun hs=>wAp 1 2 fg ek hs jX) (.inr Z) ?_
 rintro iB t5 vr bm uJ mU ⟨rfl,rfl⟩
 have mV:sW w U iB [cm,bN,bz,bg,.blk ae 41 ac,.blk ab 41 B5] bm:=mU
 have q:=mV.freezeR (k:=0) (n:=ap.Starts.length) rfl (wAE (f:=KL.encI) (sz:=1) (fun _=>rfl) ap.Starts) (by decide)
 obtain ⟨iC,uK,sC,mW⟩:=q
 have mX:sW w U iC [bN,bz,bg,.blk ae 41 ac,.blk ab 41 B5] bm:=mW
 have q:=mX.freezeR (k:=0) (n:=ap.Splits.length) rfl (wAE (f:=wAG) (sz:=2) (fun _=>rfl) ap.Splits) (by decide)
 obtain ⟨iD,tz,sD,mY⟩:=q
 have mZ:sW w U iD [bz,bg,.blk ae 41 ac,.blk ab 41 B5] bm:=mY
 have q:=mZ.freezeR (k:=0) (n:=ap.Clocks.length) rfl (wAE (f:=wAA) (sz:=3) (fun _=>rfl) ap.Clocks) (by decide)
 obtain ⟨iE,gY,sE,m4⟩:=q
 have m5:sW w U iE [bg,.blk ae 41 ac,.blk ab 41 B5] bm:=m4
 have q:=m5.freezeR (k:=0) (n:=ap.Readings.length) rfl (wAE (f:=wAB) (sz:=4) (fun _=>rfl) ap.Readings) (by decide)
 obtain ⟨en,cH,sF,m6⟩:=q
 have m7:sW w U en [.blk ae 41 ac,.blk ab 41 B5] bm:=m6
 have jZ:=sC.le tz
 have j0:=jZ.le gY
 have j1:=j0.le cH
 have j2:=sD.le gY
 have j3:=j2.le cH
 have j4:=sE.le cH
 have q:=bnd rh
 obtain ⟨⟨bG,il⟩,j5,gL⟩:=q
 try dsimp only at gL
 refine zE 0 Z Z Z Z (zD Z Z Try.call25 (zB Z (zB Z (zB Z zK))) Z) m7 (fun hs=>wEb ap cX fN cY fO cZ fP c6 fQ tN tO bm en hs j1 j3 j4 sF j5) (.inr Z) ?_
 rintro cy t6 vt ji uL m9 ⟨rfl,rfl⟩
 have n3:sW w U cy [.blk ae 41 ac,.blk ab 41 B5] ji:=m9
 refine oM Z Z (oR Z (zP Z Z (v:=.agg #[jV bG.Lo,jV bG.Hi]) Z) (oR Z (zP Z Z (v:=jV il) Z) (zT (cs:=B4) Z Z Z Z Z ZJ Z n3 ?_)))
 intro uB ag n4
 let af:List Value:=[jV bG.Lo,jV bG.Hi]
 refine zV (j:=0) (vs:=af) Z Z Z Z n4 Z Z Z Z zj (zA Z) Z Z Z ?_
 intro fh n5
 have n6:sW w U cy [.blk ag 41 af,.blk ae 41 ac,.blk ab 41 B5] fh:=n5
 refine oA Z Z (eN (sR (.fx 0 (.fx 1 (.fx 2 (.fl 3 (.fl 4 (.fx 5 (.fx 6 (wLX (.nil)) .stop) .stop))) .stop) .stop) .stop) Z (bnK gL fun aq j7 ri=>zE 0 Z Z Z Z (zD Z Z Try.call52 zK Z) n6 (fun hs=>wBc fh cy hs j7) (.inr Z) ?_)))
 rintro eo t7 vu fj uM n7 ⟨c8,fS,da,fT,db,fU,dd,fW,rfl,rfl⟩
 let aW:Res:=.row dd fW 39 4 (hD wAB aq.Readings)
 let bh:Res:=.row db fU 43 3 (hD wAA aq.Clocks)
 let bA:Res:=.row da fT 41 2 (hD wAG aq.Splits)
 let bP:Res:=.row c8 fS 3 1 (hD KL.encI aq.Starts)
 have n8:sW w U eo [bP,bA,bh,aW,.blk ag 41 af,.blk ae 41 ac,.blk ab 41 B5] fj:=n7
 refine bnK ri fun tQ j8 rk=>zE 0 Z Z Z Z (zD Z Z yq (zB Z (zB Z zK)) Z) n8 (fun hs=>wAp 0 2 fj eo hs j8) (.inr Z) ?_
 rintro ep t8 vv fk uN n9 ⟨rfl,rfl⟩
 have oc:sW w U ep [bP,bA,bh,aW,.blk ag 41 af,.blk ae 41 ac,.blk ab 41 B5] fk:=n9
 refine bnK rk fun tR j9 rn=>zE 0 Z Z Z Z (zD Z Z yq (zB Z (zB Z zK)) Z) oc (fun hs=>wAp 1 2 fk ep hs j9) (.inr Z) ?_
 rintro er ua vw jj uO od ⟨rfl,rfl⟩
 have oe:sW w U er [bP,bA,bh,aW,.blk ag 41 af,.blk ae 41 ac,.blk ab 41 B5] jj:=od
 let bi:List Value:=[jV 0,jV 0,jV 0,.bool false]
 let dM:List Value:=[jV 3,jV 0,jV 0,.bool false]
 refine oR Z (zo (pv:=[(0,jV 3)]) (z:=bi) (cs:=dM) Z (wAF Z wAO) Zv wDo Z Z) ?_
 let dN:List Value:=[jV 3,jV 0,jV 2,.bool true]
 refine oR Z (zo (pv:=[(0,jV 3),(2,jV 2),(3,.bool true)]) (z:=bi) (cs:=dN) Z (wAF Z (wAF Z (wAF Z wAO))) Zv wDo Z Z) (ZE (pv:=[(0,.agg dM.toArray),(1,.agg dN.toArray)]) (zs:=[jV 0,jV 0,jV 0,.bool false,jV 0,jV 0,jV 0,.bool false]) (cs:=[jV 3,jV 0,jV 0,.bool false,jV 3,jV 0,jV 2,.bool true]) Z Z Z Z Z (wAF Z (wAF Z wAO)) Zo ZU Zv Z Z Z Z Z oe ?_)
 intro aZ fC og
 let bB:Res:=.row (some ⟨fC,0,none⟩) 2 78 4 (hD wAQ [(⟨3,0,0,false⟩:wAD),(⟨3,0,2,true⟩:wAD)])
 have oh:sW w U er [bB,bP,bA,bh,aW,.blk ag 41 af,.blk ae 41 ac,.blk ab 41 B5] aZ:=og
 have q:=oh.freezeR (k:=1) (n:=aq.Starts.length) rfl (wAE (f:=KL.encI) (sz:=1) (fun _=>rfl) aq.Starts) (by decide)
 obtain ⟨iG,uP,sG,oi⟩:=q
 have oj:sW w U iG [bB,bA,bh,aW,.blk ag 41 af,.blk ae 41 ac,.blk ab 41 B5] aZ:=oi
 have q:=oj.freezeR (k:=1) (n:=aq.Splits.length) rfl (wAE (f:=wAG) (sz:=2) (fun _=>rfl) aq.Splits) (by decide)
 obtain ⟨iH,tA,sH,om⟩:=q
 have oq:sW w U iH [bB,bh,aW,.blk ag 41 af,.blk ae 41 ac,.blk ab 41 B5] aZ:=om
 have q:=oq.freezeR (k:=1) (n:=aq.Clocks.length) rfl (wAE (f:=wAA) (sz:=3) (fun _=>rfl) aq.Clocks) (by decide)
 obtain ⟨iI,gZ,sI,ot⟩:=q
 have ou:sW w U iI [bB,aW,.blk ag 41 af,.blk ae 41 ac,.blk ab 41 B5] aZ:=ot
 have q:=ou.freezeR (k:=1) (n:=aq.Readings.length) rfl (wAE (f:=wAB) (sz:=4) (fun _=>rfl) aq.Readings) (by decide)
 obtain ⟨iJ,cI,sJ,ov⟩:=q
 have ow:sW w U iJ [bB,.blk ag 41 af,.blk ae 41 ac,.blk ab 41 B5] aZ:=ov
 have q:=ow.freezeR (k:=0) (n:=[(⟨3,0,0,false⟩:wAD),(⟨3,0,2,true⟩:wAD)].length) rfl (wAE (f:=wAQ) (sz:=4) (fun _=>rfl) [(⟨3,0,0,false⟩:wAD),(⟨3,0,2,true⟩:wAD)]) (by decide)
 obtain ⟨eu,cf,sK,ox⟩:=q
 have oz:sW w U eu [.blk ag 41 af,.blk ae 41 ac,.blk ab 41 B5] aZ:=ox
 have k3:=sG.le tA
 have k5:=k3.le gZ
 have k6:=k5.le cI
 have k7:=k6.le cf
 have k8:=sH.le gZ
 have k9:=k8.le cI
 have lc:=k9.le cf
 have lf:=sI.le cI
 have lg:=lf.le cf
 have lh:=sJ.le cf
 have q:=bnd rn
 obtain ⟨⟨im,io⟩,li,gM⟩:=q
 try dsimp only at gM
 refine zE 0 Z Z Z Z (zD Z Z Try.call41 (zB Z (zB Z (zB Z (zB Z zK)))) Z) oz (fun hs=>wEn aq c8 fS da fT db fU dd fW tQ tR [(⟨3,0,0,false⟩:wAD),(⟨3,0,2,true⟩:wAD)] (some ⟨fC,0,none⟩) 2 aZ eu hs k7 lc lg lh sK li) (.inr Z) ?_
 rintro ew ub vy fm uR oC ⟨rfl,rfl⟩
 have oD:sW w U ew [.blk ag 41 af,.blk ae 41 ac,.blk ab 41 B5] fm:=oC
 refine oM Z Z (oR Z (zP Z Z (v:=jV im) Z) (oR Z (zP Z Z (v:=jV io) Z) (oA Z Z (oA Z Z (eN (zM (yX fun aV aR=>?_)))))))
 have jx:aV 1=.pointer (some ⟨ab,0,none⟩):=(aR 1).trans rfl
 have jy:aV 2=jV cR:=(aR 2).trans rfl
 have jz:aV 3=.pointer (some ⟨ae,0,none⟩):=(aR 3).trans rfl
 have jA:aV 4=jV ik:=(aR 4).trans rfl
 have jB:aV 5=.pointer (some ⟨ag,0,none⟩):=(aR 5).trans rfl
 have jC:aV 6=jV il:=(aR 6).trans rfl
 have jD:aV 7=jV im:=(aR 7).trans rfl
 have jE:aV 8=jV io:=(aR 8).trans rfl
 clear aR
 refine rR (.fx 0 (.fx 1 (wGM (.nil)) .stop) .stop) Z (bnK gM fun au lj rp=>zE 0 Z Z Z Z (zD Z Z Try.call52 zK Z) oD (fun hs=>wBc fm ew hs lj) (.inr Z) ?_)
 rintro iL ud vz bo uT oE ⟨de,fY,df,fZ,dg,f4,dh,f5,rfl,rfl⟩
 let bQ:Res:=.row dh f5 39 4 (hD wAB au.Readings)
 let co:Res:=.row dg f4 43 3 (hD wAA au.Clocks)
 let dO:Res:=.row df fZ 41 2 (hD wAG au.Splits)
 have oH:sW w U iL [.row de fY 3 1 (hD KL.encI au.Starts),dO,co,bQ,.blk ag 41 af,.blk ae 41 ac,.blk ab 41 B5] bo:=oE
 have q:=oH.freezeR (k:=0) (n:=au.Starts.length) rfl (wAE (f:=KL.encI) (sz:=1) (fun _=>rfl) au.Starts) (by decide)
 obtain ⟨iM,uU,sM,oI⟩:=q
 have oJ:sW w U iM [dO,co,bQ,.blk ag 41 af,.blk ae 41 ac,.blk ab 41 B5] bo:=oI
 have q:=oJ.freezeR (k:=0) (n:=au.Splits.length) rfl (wAE (f:=wAG) (sz:=2) (fun _=>rfl) au.Splits) (by decide)
 obtain ⟨iN,tB,sN,oO⟩:=q
 have oP:sW w U iN [co,bQ,.blk ag 41 af,.blk ae 41 ac,.blk ab 41 B5] bo:=oO
 have q:=oP.freezeR (k:=0) (n:=au.Clocks.length) rfl (wAE (f:=wAA) (sz:=3) (fun _=>rfl) au.Clocks) (by decide)
 obtain ⟨iO,g6,sO,oQ⟩:=q
 have oS:sW w U iO [bQ,.blk ag 41 af,.blk ae 41 ac,.blk ab 41 B5] bo:=oQ
 have q:=oS.freezeR (k:=0) (n:=au.Readings.length) rfl (wAE (f:=wAB) (sz:=4) (fun _=>rfl) au.Readings) (by decide)
 obtain ⟨ey,cJ,sP,oU⟩:=q
 have oV:sW w U ey [.blk ag 41 af,.blk ae 41 ac,.blk ab 41 B5] bo:=oU
 have lk:=sM.le tB
 have lm:=lk.le g6
 have ln:=lm.le cJ
 have lp:=sN.le g6
 have lq:=lp.le cJ
 have ls:=sO.le cJ
 have q:=bnd rp
 obtain ⟨⟨bH,tS⟩,lu,gN⟩:=q
 try dsimp only at gN
 refine zE 0 Z Z Z Z (zD Z Z Try.call17 (zB Z (zB Z zK)) Z) oV (fun hs=>wHd au de fY df fZ dg f4 dh f5 2 bo ey hs ln lq ls sP lu) (.inr Z) ?_
 rintro eA ue vA fq uV oW ⟨ci,cC,rfl,rfl⟩
 let aS:Res:=.row ci cC 41 2 (hD wAG bH)
 have oX:sW w U eA [aS,.blk ag 41 af,.blk ae 41 ac,.blk ab 41 B5] fq:=oW
 refine oM Z Z (oR Z (zP Z Z (v:=.slice ci bH.length cC) Z) (oR Z (zP Z Z (v:=jV tS) Z) (oA Z Z (oA Z Z (eN (sR (.fx 0 (.fx 1 (wGM (.nil)) .stop) .stop) Z (bnK gN fun av lv rq=>zE 0 Z Z Z Z (zD Z Z Try.call52 zK Z) oX (fun hs=>wBc fq eA hs lv) (.inr Z) ?_)))))))
 rintro iQ uf vB bp uW oZ ⟨di,f6,dk,f8,dl,f9,dm,ga,rfl,rfl⟩
 let bR:Res:=.row dm ga 39 4 (hD wAB av.Readings)
 let cp:Res:=.row dl f9 43 3 (hD wAA av.Clocks)
 let dQ:Res:=.row dk f8 41 2 (hD wAG av.Splits)
 have o5:sW w U iQ [.row di f6 3 1 (hD KL.encI av.Starts),dQ,cp,bR,aS,.blk ag 41 af,.blk ae 41 ac,.blk ab 41 B5] bp:=oZ
 have q:=o5.freezeR (k:=0) (n:=av.Starts.length) rfl (wAE (f:=KL.encI) (sz:=1) (fun _=>rfl) av.Starts) (by decide)
 obtain ⟨iR,uX,sS,o6⟩:=q
 have o7:sW w U iR [dQ,cp,bR,aS,.blk ag 41 af,.blk ae 41 ac,.blk ab 41 B5] bp:=o6
 have q:=o7.freezeR (k:=0) (n:=av.Splits.length) rfl (wAE (f:=wAG) (sz:=2) (fun _=>rfl) av.Splits) (by decide)
 obtain ⟨iT,tD,sT,o8⟩:=q
 have o9:sW w U iT [cp,bR,aS,.blk ag 41 af,.blk ae 41 ac,.blk ab 41 B5] bp:=o8
 have q:=o9.freezeR (k:=0) (n:=av.Clocks.length) rfl (wAE (f:=wAA) (sz:=3) (fun _=>rfl) av.Clocks) (by decide)
 obtain ⟨iU,g7,sU,pd⟩:=q
 have pe:sW w U iU [bR,aS,.blk ag 41 af,.blk ae 41 ac,.blk ab 41 B5] bp:=pd
 have q:=pe.freezeR (k:=0) (n:=av.Readings.length) rfl (wAE (f:=wAB) (sz:=4) (fun _=>rfl) av.Readings) (by decide)
 obtain ⟨eD,cK,sV,pf⟩:=q
 have pg:sW w U eD [aS,.blk ag 41 af,.blk ae 41 ac,.blk ab 41 B5] bp:=pf
 have lw:=sS.le tD
 have lx:=lw.le g7
 have ly:=lx.le cK
 have lz:=sT.le g7
 have lA:=lz.le cK
 have lB:=sU.le cK
 have q:=bnd rq
 obtain ⟨⟨bI,tT⟩,lC,gO⟩:=q
 try dsimp only at gO
 refine zE 0 Z Z Z Z (zD Z Z Try.call53 (zB Z zK) Z) pg (fun hs=>wHD av di f6 dk f8 dl f9 dm ga bp eD hs ly lA lB sV lC) (.inr Z) ?_
 rintro am ug vC jk uY pj ⟨cj,cD,rfl,rfl⟩
 let aX:Res:=.row cj cD 45 2 (hD wAT bI)
 have ak:sW w U am [aX,aS,.blk ag 41 af,.blk ae 41 ac,.blk ab 41 B5] jk:=pj
 refine oM Z Z (oR Z (zP Z Z (v:=.slice cj bI.length cD) Z) (oR Z (zP Z Z (v:=jV tT) Z) (oA Z Z (oA Z Z (eN (zM (bnK gO fun jv gW rv=>yN (fun σ_ w_=>∃ (U_:PHeap),σ_ 110=.bool jv/\PHeap.Le am U_/\sW w U U_ [.blk ag 41 af,.blk ae 41 ac,.blk ab 41 B5] w_) ?_ ?_)))))))
 refine rR (wNI (.fx 45 (.fx 46 (wML (.fx 51 (.fx 52 (.fx 53 (.fl 54 (.fl 55 .nil)) .stop) .stop) .stop)) .stop) .stop)) Z (oM Z jy (oR Z (ZN Z Z Z) (oM Z Z ?_)))
 by_cases aK:cR=0
 have gP:=gW;rw [if_pos aK] at gP;replace aK:=zS aK
 refine zr Z Z Z (zF Z Z (zd (fun h=>h aK.out))) Z jA (zY Z Z Z (zF Z Z (zd (fun h=>h aK.out))) (fun _=>ZN Z Z Z) (oR Z (zb Z (zd (fun h=>h aK.out)) Z) (oM Z Z (ifc gP ?_ ?_))))
 intro a6 rx
 refine zr Z Z Z (zF Z Z (zd (fun h=>h a6.out))) Z jC (zY Z Z Z (zF Z Z (zd (fun h=>h a6.out))) (fun _=>ZN Z Z Z) (oR Z (zb Z (zd (fun h=>h a6.out)) Z) (oM Z Z (ifc rx ?_ ?_))))
 intro a7 ry
 refine zr Z Z Z (zF Z Z (zd (fun h=>h a7.out))) Z jE (zY Z Z Z (zF Z Z (zd (fun h=>h a7.out))) (fun _=>ZN Z Z Z) (oR Z (zb Z (zd (fun h=>h a7.out)) Z) (oM Z Z (ifc ry ?_ ?_))))
 intro a8 rz
 refine zr Z Z Z (zF Z Z (zd (fun h=>h a8.out))) Z Z (zY Z Z Z (zF Z Z (zd (fun h=>h a8.out))) (fun _=>ZN Z Z Z) (oR Z (zb Z (zd (fun h=>h a8.out)) Z) (oM Z Z (ifc rz ?_ ?_))))
 intro a9 rA
 refine zr Z Z Z (zF Z Z (zd (fun h=>h a9.out))) Z Z (zY Z Z Z (zF Z Z (zd (fun h=>h a9.out))) (fun _=>ZN Z Z Z) (oR Z (zb Z (zd (fun h=>h a9.out)) Z) (oM Z Z (ifc rA ?_ ?_))))
 intro aM rB
 refine zl Z Z Z (zF Z Z (zd (fun h=>h aM.out))) (ak.ldBA (j:=4) Z Z jx Zn zj (vs:=B5) Z Z) Z (zY Z Z Z (zF Z Z (zd (fun h=>h aM.out))) (fun _=>zo (pv:=[(0,jV 2244),(1,jV 2256)]) (z:=B4) (cs:=[jV 2244,jV 2256]) Z (wAF Z (wAF Z wAO)) ZJ wBo Z Z) (zY Z Z Z (zF Z Z (zd (fun h=>h aM.out))) (fun _=>ZS (Runs.neS (enc:=wAG) (a:=bJ) (b:=(⟨2244,2256⟩:wAJ)) Z Z Z wKo wKn) (congrArg hJ (decide_not).symm)) (oR Z (zb Z (zd (fun h=>h aM.out)) Z) (oM Z Z (ifc rB ?_ ?_)))))
 intro aN rC
 refine zl Z Z Z (zF Z Z (zd (fun h=>h aN.out))) (ak.ldBA (j:=3) Z Z jz Zn zj (vs:=ac) Z Z) Z (zY Z Z Z (zF Z Z (zd (fun h=>h aN.out))) (fun _=>zo (pv:=[(0,jV 1000),(1,jV 1200)]) (z:=B4) (cs:=[jV 1000,jV 1200]) Z (wAF Z (wAF Z wAO)) ZJ wBo Z Z) (zY Z Z Z (zF Z Z (zd (fun h=>h aN.out))) (fun _=>ZS (Runs.neS (enc:=wAG) (a:=bF) (b:=(⟨1000,1200⟩:wAJ)) Z Z Z wKo wKn) (congrArg hJ (decide_not).symm)) (oR Z (zb Z (zd (fun h=>h aN.out)) Z) (oM Z Z (ifc rC ?_ ?_)))))
 intro aO rD
 refine zl Z Z Z (zF Z Z (zd (fun h=>h aO.out))) (ak.ldBA (j:=2) Z Z jB Zn zj (vs:=af) Z Z) Z (zY Z Z Z (zF Z Z (zd (fun h=>h aO.out))) (fun _=>zo (pv:=[(0,jV 247),(1,jV 251)]) (z:=B4) (cs:=[jV 247,jV 251]) Z (wAF Z (wAF Z wAO)) ZJ wBo Z Z) (zY Z Z Z (zF Z Z (zd (fun h=>h aO.out))) (fun _=>ZS (Runs.neS (enc:=wAG) (a:=bG) (b:=(⟨247,251⟩:wAJ)) Z Z Z wKo wKn) (congrArg hJ (decide_not).symm)) (oR Z (zb Z (zd (fun h=>h aO.out)) Z) (oM Z Z (ifc rD ?_ ?_)))))
 intro ba rE
 refine zr Z Z Z (zF Z Z (zd (fun h=>h ba.out))) Z jD (zY Z Z Z (zF Z Z (zd (fun h=>h ba.out))) (fun _=>ZN Z Z Z) (oR Z (zb Z (zd (fun h=>h ba.out)) Z) (oM Z Z (ifc rE ?_ ?_))))
 intro aj rF
 refine zr Z Z Z (zF Z Z (zd (fun h=>h aj.out))) Z Z (zY Z Z Z (zF Z Z (zd (fun h=>h aj.out))) (fun _=>zo (pv:=[(0,jV 1),(1,jV 1)]) (z:=B4) (cs:=[jV 1,jV 1]) Z (wAF Z (wAF Z wAO)) ZJ wBo Z Z) (zY Z Z Z (zF Z Z (zd (fun h=>h aj.out))) (fun _=>zo (pv:=[(0,jV 2),(1,jV 2)]) (z:=B4) (cs:=[jV 2,jV 2]) Z (wAF Z (wAF Z wAO)) ZJ wBo Z Z) (ZE (pv:=[(0,.agg #[jV 1,jV 1]),(1,.agg #[jV 2,jV 2])]) (zs:=[jV 0,jV 0,jV 0,jV 0]) (cs:=[jV 1,jV 1,jV 2,jV 2]) Z Z Z (zF Z Z (zd (fun h=>h aj.out))) Z (wAF Z (wAF Z wAO)) ZQ zj ZJ Z Z Z Z Z ak ?_)))
 intro bY fD pm
 let dR:Res:=.row (some ⟨fD,0,none⟩) 2 41 2 (hD wAG [(⟨1,1⟩:wAJ),(⟨2,2⟩:wAJ)])
 have pn:sW w U am [dR,aX,aS,.blk ag 41 af,.blk ae 41 ac,.blk ab 41 B5] bY:=pm
 have q:=pn.freezeR (k:=2) (n:=bH.length) rfl (wAE (f:=wAG) (sz:=2) (fun _=>rfl) bH) (by decide)
 obtain ⟨iV,g9,sY,po⟩:=q
 have pp:sW w U iV [dR,aX,.blk ag 41 af,.blk ae 41 ac,.blk ab 41 B5] bY:=po
 have q:=pp.freezeR (k:=0) (n:=[(⟨1,1⟩:wAJ),(⟨2,2⟩:wAJ)].length) rfl (wAE (f:=wAG) (sz:=2) (fun _=>rfl) [(⟨1,1⟩:wAJ),(⟨2,2⟩:wAJ)]) (by decide)
 obtain ⟨eG,cM,s3,pq⟩:=q
 have pu:sW w U eG [aX,.blk ag 41 af,.blk ae 41 ac,.blk ab 41 B5] bY:=pq
 have lD:=sY.le cM
 refine bnK rF fun vT lE rG=>zE 0 Z Z Z (zF Z Z (zd (fun h=>h aj.out))) (zD Z Z Try.call18 (zB Z (zB Z zK)) Z) pu (fun hs=>wEK bH ci cC [(⟨1,1⟩:wAJ),(⟨2,2⟩:wAJ)] (some ⟨fD,0,none⟩) 2 bY eG hs lD s3 lE) (.inr Z) ?_
 rintro cz ui vD ft ib pz ⟨rfl,rfl⟩
 have gH:sW w U cz [aX,.blk ag 41 af,.blk ae 41 ac,.blk ab 41 B5] ft:=pz
 refine zY Z Z Z (zF Z Z (zd (fun h=>h aj.out))) (fun _=>ZT Z Z) (oR Z (zb Z (zd (fun h=>h aj.out)) Z) (oM Z Z (ifc rG ?_ ?_)))
 intro an rH
 refine zr Z Z Z (zF Z Z (nC an.out)) Z Z (bnK rH fun bu lF rI=>zE 0 Z Z Z (zF Z Z (nC an.out)) (zD Z Z yq (zB Z (zB Z zK)) Z) gH (fun hs=>wAp 0 1 ft cz hs lF) (.inr Z) ?_)
 rintro eH uj vE jl tE pC ⟨rfl,rfl⟩
 have pD:sW w U eH [aX,.blk ag 41 af,.blk ae 41 ac,.blk ab 41 B5] jl:=pC
 let dS:List Value:=[jV bu.Skier,jV bu.Mat]
 refine ZE (pv:=[(0,.agg dS.toArray)]) (zs:=B4) (cs:=dS) Z Z Z (zF Z Z (nC an.out)) Z (wAF Z wAO) Zq ZC Zb Z Z Z Z Z pD ?_
 intro bZ fG pE
 let dT:Res:=.row (some ⟨fG,0,none⟩) 1 45 2 (hD wAT [bu])
 have pF:sW w U eH [dT,aX,.blk ag 41 af,.blk ae 41 ac,.blk ab 41 B5] bZ:=pE
 have q:=pF.freezeR (k:=1) (n:=bI.length) rfl (wAE (f:=wAT) (sz:=2) (fun _=>rfl) bI) (by decide)
 obtain ⟨iW,tF,s4,pG⟩:=q
 have pH:sW w U iW [dT,.blk ag 41 af,.blk ae 41 ac,.blk ab 41 B5] bZ:=pG
 have q:=pH.freezeR (k:=0) (n:=[bu].length) rfl (wAE (f:=wAT) (sz:=2) (fun _=>rfl) [bu]) (by decide)
 obtain ⟨eI,ic,s5,pI⟩:=q
 have pJ:sW w U eI [.blk ag 41 af,.blk ae 41 ac,.blk ab 41 B5] bZ:=pI
 have lI:=s4.le ic
 refine bnK rI fun vU lJ rJ=>zE 0 Z Z Z (zF Z Z (nC an.out)) (zD Z Z Try.call54 (zB Z (zB Z zK)) Z) pJ (fun hs=>wEB bI cj cD [bu] (some ⟨fG,0,none⟩) 1 bZ eI hs lI s5 lJ) (.inr Z) ?_
 rintro eJ uk vF jm tG pK ⟨rfl,rfl⟩
 have pL:sW w U eJ [.blk ag 41 af,.blk ae 41 ac,.blk ab 41 B5] jm:=pK
 refine zY Z Z Z (zF Z Z (nC an.out)) (fun _=>ZT Z Z) (oR Z (zb Z (nC an.out) Z) (zg ?_))
 cases rJ
 exact zL ⟨Z,⟨eJ,Z,((((((g9.trans cM).trans ib).trans tE).trans tF).trans ic).trans tG),pL⟩⟩
 intro an rK
 refine zt Z Z Z (zO Z Z (nF (an.out)) Z) (ZG Z Z Z (zO Z Z (nF (an.out)) Z) (ZG Z Z Z (zO Z Z (nF (an.out)) Z) (ZG Z Z Z (zO Z Z (nF (an.out)) Z) (zt Z Z Z (zO Z Z (nF (an.out)) Z) (oR Z (zR Z (nF (an.out)) Z) (zg ?_))))))
 cases rK
 exact zL ⟨rfl,⟨cz,rfl,((g9.trans cM).trans ib),(gH.pick [1,2,3] _ (by decide) rfl)⟩⟩
 intro aj rL
 refine oT Z aj (oT Z aj (oT Z aj (ZG Z Z Z (zO Z Z (Zh aj.out) Z) (ZG Z Z Z (zO Z Z (Zh aj.out) Z) (oT Z aj (oR Z (zR Z (Zh aj.out) Z) (oM Z Z (oN Z (ZG Z Z Z (zO Z Z Z Z) (ZG Z Z Z (zO Z Z Z Z) (ZG Z Z Z (zO Z Z Z Z) (oN Z (oR Z (zR Z Z Z) (zg ?_))))))))))))))
 cases rL
 exact zL ⟨rfl,⟨am,rfl,(zW _),(ak.pick [2,3,4] _ (by decide) rfl)⟩⟩
 intro ba rM
 refine oT Z ba (oT Z ba (oR Z (zR Z (Zh ba.out) Z) (oM Z Z (oN Z (oN Z (oN Z (ZG Z Z Z (zO Z Z Z Z) (ZG Z Z Z (zO Z Z Z Z) (oN Z (oR Z (zR Z Z Z) (oM Z Z (oN Z (ZG Z Z Z (zO Z Z Z Z) (ZG Z Z Z (zO Z Z Z Z) (ZG Z Z Z (zO Z Z Z Z) (oN Z (oR Z (zR Z Z Z) (zg ?_))))))))))))))))))
 cases rM
 exact zL ⟨rfl,⟨am,rfl,(zW _),(ak.pick [2,3,4] _ (by decide) rfl)⟩⟩
 intro aO rN
 refine oT Z aO (oT Z aO (oT Z aO (oR Z (zR Z (Zh aO.out) Z) (oM Z Z (oN Z (oN Z (oR Z (zR Z Z Z) (oM Z Z (oN Z (oN Z (oN Z (ZG Z Z Z (zO Z Z Z Z) (ZG Z Z Z (zO Z Z Z Z) (oN Z (oR Z (zR Z Z Z) (oM Z Z (oN Z (ZG Z Z Z (zO Z Z Z Z) (ZG Z Z Z (zO Z Z Z Z) (ZG Z Z Z (zO Z Z Z Z) (oN Z (oR Z (zR Z Z Z) (zg ?_)))))))))))))))))))))))
 cases rN
 exact zL ⟨rfl,⟨am,rfl,(zW _),(ak.pick [2,3,4] _ (by decide) rfl)⟩⟩
 intro aN rO
 refine oT Z aN (oT Z aN (oT Z aN (oR Z (zR Z (Zh aN.out) Z) (oM Z Z (oN Z (oN Z (oN Z (oR Z (zR Z Z Z) (oM Z Z (oN Z (oN Z (oR Z (zR Z Z Z) (oM Z Z (oN Z (oN Z (oN Z (ZG Z Z Z (zO Z Z Z Z) (ZG Z Z Z (zO Z Z Z Z) (oN Z (oR Z (zR Z Z Z) (oM Z Z (oN Z (ZG Z Z Z (zO Z Z Z Z) (ZG Z Z Z (zO Z Z Z Z) (ZG Z Z Z (zO Z Z Z Z) (oN Z (oR Z (zR Z Z Z) (zg ?_))))))))))))))))))))))))))))
 cases rO
 exact zL ⟨rfl,⟨am,rfl,(zW _),(ak.pick [2,3,4] _ (by decide) rfl)⟩⟩
 intro aM rP
 refine oT Z aM (oT Z aM (oT Z aM (oR Z (zR Z (Zh aM.out) Z) (oM Z Z (oN Z (oN Z (oN Z (oR Z (zR Z Z Z) (oM Z Z (oN Z (oN Z (oN Z (oR Z (zR Z Z Z) (oM Z Z (oN Z (oN Z (oR Z (zR Z Z Z) (oM Z Z (oN Z (oN Z (oN Z (ZG Z Z Z (zO Z Z Z Z) (ZG Z Z Z (zO Z Z Z Z) (oN Z (oR Z (zR Z Z Z) (oM Z Z (oN Z (ZG Z Z Z (zO Z Z Z Z) (ZG Z Z Z (zO Z Z Z Z) (ZG Z Z Z (zO Z Z Z Z) (oN Z (oR Z (zR Z Z Z) (zg ?_)))))))))))))))))))))))))))))))))
 cases rP
 exact zL ⟨rfl,⟨am,rfl,(zW _),(ak.pick [2,3,4] _ (by decide) rfl)⟩⟩
 intro a9 rQ
 refine oT Z a9 (oT Z a9 (oR Z (zR Z (Zh a9.out) Z) (oM Z Z (oN Z (oN Z (oN Z (oR Z (zR Z Z Z) (oM Z Z (oN Z (oN Z (oN Z (oR Z (zR Z Z Z) (oM Z Z (oN Z (oN Z (oN Z (oR Z (zR Z Z Z) (oM Z Z (oN Z (oN Z (oR Z (zR Z Z Z) (oM Z Z (oN Z (oN Z (oN Z (ZG Z Z Z (zO Z Z Z Z) (ZG Z Z Z (zO Z Z Z Z) (oN Z (oR Z (zR Z Z Z) (oM Z Z (oN Z (ZG Z Z Z (zO Z Z Z Z) (ZG Z Z Z (zO Z Z Z Z) (ZG Z Z Z (zO Z Z Z Z) (oN Z (oR Z (zR Z Z Z) (zg ?_)))))))))))))))))))))))))))))))))))))
 cases rQ
 exact zL ⟨rfl,⟨am,rfl,(zW _),(ak.pick [2,3,4] _ (by decide) rfl)⟩⟩
 intro a8 rS
 refine oT Z a8 (oT Z a8 (oR Z (zR Z (Zh a8.out) Z) (oM Z Z (oN Z (oN Z (oR Z (zR Z Z Z) (oM Z Z (oN Z (oN Z (oN Z (oR Z (zR Z Z Z) (oM Z Z (oN Z (oN Z (oN Z (oR Z (zR Z Z Z) (oM Z Z (oN Z (oN Z (oN Z (oR Z (zR Z Z Z) (oM Z Z (oN Z (oN Z (oR Z (zR Z Z Z) (oM Z Z (oN Z (oN Z (oN Z (ZG Z Z Z (zO Z Z Z Z) (ZG Z Z Z (zO Z Z Z Z) (oN Z (oR Z (zR Z Z Z) (oM Z Z (oN Z (ZG Z Z Z (zO Z Z Z Z) (ZG Z Z Z (zO Z Z Z Z) (ZG Z Z Z (zO Z Z Z Z) (oN Z (oR Z (zR Z Z Z) (zg ?_)))))))))))))))))))))))))))))))))))))))))
 cases rS
 exact zL ⟨rfl,⟨am,rfl,(zW _),(ak.pick [2,3,4] _ (by decide) rfl)⟩⟩
 intro a7 rT
 refine oT Z a7 (oT Z a7 (oR Z (zR Z (Zh a7.out) Z) (oM Z Z (oN Z (oN Z (oR Z (zR Z Z Z) (oM Z Z (oN Z (oN Z (oR Z (zR Z Z Z) (oM Z Z (oN Z (oN Z (oN Z (oR Z (zR Z Z Z) (oM Z Z (oN Z (oN Z (oN Z (oR Z (zR Z Z Z) (oM Z Z (oN Z (oN Z (oN Z (oR Z (zR Z Z Z) (oM Z Z (oN Z (oN Z (oR Z (zR Z Z Z) (oM Z Z (oN Z (oN Z (oN Z (ZG Z Z Z (zO Z Z Z Z) (ZG Z Z Z (zO Z Z Z Z) (oN Z (oR Z (zR Z Z Z) (oM Z Z (oN Z (ZG Z Z Z (zO Z Z Z Z) (ZG Z Z Z (zO Z Z Z Z) (ZG Z Z Z (zO Z Z Z Z) (oN Z (oR Z (zR Z Z Z) (zg ?_)))))))))))))))))))))))))))))))))))))))))))))
 cases rT
 exact zL ⟨rfl,⟨am,rfl,(zW _),(ak.pick [2,3,4] _ (by decide) rfl)⟩⟩
 intro a6 rV
 refine oT Z a6 (oT Z a6 (oR Z (zR Z (Zh a6.out) Z) (oM Z Z (oN Z (oN Z (oR Z (zR Z Z Z) (oM Z Z (oN Z (oN Z (oR Z (zR Z Z Z) (oM Z Z (oN Z (oN Z (oR Z (zR Z Z Z) (oM Z Z (oN Z (oN Z (oN Z (oR Z (zR Z Z Z) (oM Z Z (oN Z (oN Z (oN Z (oR Z (zR Z Z Z) (oM Z Z (oN Z (oN Z (oN Z (oR Z (zR Z Z Z) (oM Z Z (oN Z (oN Z (oR Z (zR Z Z Z) (oM Z Z (oN Z (oN Z (oN Z (ZG Z Z Z (zO Z Z Z Z) (ZG Z Z Z (zO Z Z Z Z) (oN Z (oR Z (zR Z Z Z) (oM Z Z (oN Z (ZG Z Z Z (zO Z Z Z Z) (ZG Z Z Z (zO Z Z Z Z) (ZG Z Z Z (zO Z Z Z Z) (oN Z (oR Z (zR Z Z Z) (zg ?_)))))))))))))))))))))))))))))))))))))))))))))))))
 cases rV
 exact zL ⟨rfl,⟨am,rfl,(zW _),(ak.pick [2,3,4] _ (by decide) rfl)⟩⟩
 have gQ:=gW;rw [if_neg aK] at gQ;replace aK:=zS aK
 refine oT Z aK (oT Z aK (oR Z (zR Z (Zh aK.out) Z) (oM Z Z (oN Z (oN Z (oR Z (zR Z Z Z) (oM Z Z (oN Z (oN Z (oR Z (zR Z Z Z) (oM Z Z (oN Z (oN Z (oR Z (zR Z Z Z) (oM Z Z (oN Z (oN Z (oR Z (zR Z Z Z) (oM Z Z (oN Z (oN Z (oN Z (oR Z (zR Z Z Z) (oM Z Z (oN Z (oN Z (oN Z (oR Z (zR Z Z Z) (oM Z Z (oN Z (oN Z (oN Z (oR Z (zR Z Z Z) (oM Z Z (oN Z (oN Z (oR Z (zR Z Z Z) (oM Z Z (oN Z (oN Z (oN Z (ZG Z Z Z (zO Z Z Z Z) (ZG Z Z Z (zO Z Z Z Z) (oN Z (oR Z (zR Z Z Z) (oM Z Z (oN Z (ZG Z Z Z (zO Z Z Z Z) (ZG Z Z Z (zO Z Z Z Z) (ZG Z Z Z (zO Z Z Z Z) (oN Z (oR Z (zR Z Z Z) (zg ?_)))))))))))))))))))))))))))))))))))))))))))))))))))))
 cases gQ
 exact zL ⟨rfl,⟨am,rfl,(zW _),(ak.pick [2,3,4] _ (by decide) rfl)⟩⟩
 rintro vX jo ⟨eK,gG,uZ,gI⟩
 refine ifc rv ?_ ?_
 intro cE rW
 refine ZD (gG.trans (congrArg hJ cE.out)) (sR fL1 Z (oA Z Z (eN (zU (zN ?_)))))
 have hE:=hH rW;first | subst r | cases hE
 exact ⟨rfl,_,(ZL rfl),eK,_,(gI.pick [] _ (by decide) rfl),rfl,rfl⟩
 intro cE rX
 refine zn (gG.trans (congrArg hJ (nA.2 cE.out))) (kN (sR (.fx 0 (.fx 1 (wGM (.nil)) .stop) .stop) Z (bnK rX fun aw lO rY=>zE 0 Z Z Z Z (zD Z Z Try.call55 zK Z) gI (fun hs=>wCO jo eK hs lO) (.inr Z) ?_)))
 rintro iX ul vG bq u3 pM ⟨dn,gb,dp,ge,dq,gf,dr,gg,rfl,rfl⟩
 let bS:Res:=.row dr gg 39 4 (hD wAB aw.Readings)
 let cq:Res:=.row dq gf 43 3 (hD wAA aw.Clocks)
 let dU:Res:=.row dp ge 41 2 (hD wAG aw.Splits)
 have pN:sW w U iX [.row dn gb 3 1 (hD KL.encI aw.Starts),dU,cq,bS,.blk ag 41 af,.blk ae 41 ac,.blk ab 41 B5] bq:=pM
 have q:=pN.freezeR (k:=0) (n:=aw.Starts.length) rfl (wAE (f:=KL.encI) (sz:=1) (fun _=>rfl) aw.Starts) (by decide)
 obtain ⟨iY,u4,s6,pO⟩:=q
 have pP:sW w U iY [dU,cq,bS,.blk ag 41 af,.blk ae 41 ac,.blk ab 41 B5] bq:=pO
 have q:=pP.freezeR (k:=0) (n:=aw.Splits.length) rfl (wAE (f:=wAG) (sz:=2) (fun _=>rfl) aw.Splits) (by decide)
 obtain ⟨iZ,tH,s7,pQ⟩:=q
 have pR:sW w U iZ [cq,bS,.blk ag 41 af,.blk ae 41 ac,.blk ab 41 B5] bq:=pQ
 have q:=pR.freezeR (k:=0) (n:=aw.Clocks.length) rfl (wAE (f:=wAA) (sz:=3) (fun _=>rfl) aw.Clocks) (by decide)
 obtain ⟨i2,ie,s8,pS⟩:=q
 have pT:sW w U i2 [bS,.blk ag 41 af,.blk ae 41 ac,.blk ab 41 B5] bq:=pS
 have q:=pT.freezeR (k:=0) (n:=aw.Readings.length) rfl (wAE (f:=wAB) (sz:=4) (fun _=>rfl) aw.Readings) (by decide)
 obtain ⟨eL,cN,s9,pU⟩:=q
 have pV:sW w U eL [.blk ag 41 af,.blk ae 41 ac,.blk ab 41 B5] bq:=pU
 have lQ:=s6.le tH
 have lR:=lQ.le ie
 have lS:=lR.le cN
 have lT:=s7.le ie
 have lU:=lT.le cN
 have lV:=s8.le cN
 have q:=bnd rY
 obtain ⟨⟨tU,ip,iq⟩,lW,gS⟩:=q
 try dsimp only at gS
 refine zE 0 Z Z Z Z (zD Z Z Try.call27 (zB Z zK) Z) pV (fun hs=>wGE aw dn gb dp ge dq gf dr gg bq eL hs lS lU lV s9 lW) (.inr Z) ?_
 rintro eM un vI fu u5 pW ⟨dt,gh,jw,du,gi,rfl,rfl,uD⟩
 let ah:Res:=.row du gi 3 1 (hD KL.encI ip)
 let ai:Res:=.row dt gh 23 1 jw
 have pX:sW w U eM [ai,ah,.blk ag 41 af,.blk ae 41 ac,.blk ab 41 B5] fu:=pW
 refine oM Z Z (oR Z (zP Z Z (v:=.slice dt tU.length gh) Z) (oR Z (zP Z Z (v:=.slice du ip.length gi) Z) (oR Z (zP Z Z (v:=jV iq) Z) (oA Z Z (eN (sR (.fx 0 (fC1_4 (.fx 5 (.fx 6 (wLX (.nil)) .stop) .stop)) .stop) Z (bnK gS fun ax lX rZ=>zE 0 Z Z Z Z (zD Z Z Try.call55 zK Z) pX (fun hs=>wCO fu eM hs lX) (.inr Z) ?_)))))))
 rintro eO uo vK jq u6 pY ⟨dv,gj,dw,gp,dx,gq,dz,gt,rfl,rfl⟩
 let bC:Res:=.row dz gt 39 4 (hD wAB ax.Readings)
 let bU:Res:=.row dx gq 43 3 (hD wAA ax.Clocks)
 let cr:Res:=.row dw gp 41 2 (hD wAG ax.Splits)
 let dV:Res:=.row dv gj 3 1 (hD KL.encI ax.Starts)
 have pZ:sW w U eO [dV,cr,bU,bC,ai,ah,.blk ag 41 af,.blk ae 41 ac,.blk ab 41 B5] jq:=pY
 let dW:List Value:=[jV 0,jV 1,jV 0,.bool true]
 refine oR Z (zo (pv:=[(0,jV 0),(1,jV 1),(3,.bool true)]) (z:=bi) (cs:=dW) Z (wAF Z (wAF Z (wAF Z wAO))) Zv wDo Z Z) ?_
 let dX:List Value:=[jV 1,jV 1,jV 0,.bool true]
 refine oR Z (zo (pv:=[(0,jV 1),(1,jV 1),(3,.bool true)]) (z:=bi) (cs:=dX) Z (wAF Z (wAF Z (wAF Z wAO))) Zv wDo Z Z) ?_
 let dY:List Value:=[jV 3,jV 0,jV 1,.bool false]
 refine oR Z (zo (pv:=[(0,jV 3),(2,jV 1)]) (z:=bi) (cs:=dY) Z (wAF Z (wAF Z wAO)) Zv wDo Z Z) ?_
 let dZ:List Value:=[jV 2,jV 0,jV 0,.bool false]
 refine oR Z (zo (pv:=[(0,jV 2)]) (z:=bi) (cs:=dZ) Z (wAF Z wAO) Zv wDo Z Z) (ZE (pv:=[(0,.agg dW.toArray),(1,.agg dX.toArray),(2,.agg dY.toArray),(3,.agg dZ.toArray)]) (zs:=[jV 0,jV 0,jV 0,.bool false,jV 0,jV 0,jV 0,.bool false,jV 0,jV 0,jV 0,.bool false,jV 0,jV 0,jV 0,.bool false]) (cs:=[jV 0,jV 1,jV 0,.bool true,jV 1,jV 1,jV 0,.bool true,jV 3,jV 0,jV 1,.bool false,jV 2,jV 0,jV 0,.bool false]) Z Z Z Z Z (wAF Z (wAF Z (wAF Z (wAF Z wAO)))) Zo ZU Zv Z Z Z Z Z pZ ?_)
 intro a5 fH p6
 let bD:Res:=.row (some ⟨fH,0,none⟩) 4 78 4 (hD wAQ [(⟨0,1,0,true⟩:wAD),(⟨1,1,0,true⟩:wAD),(⟨3,0,1,false⟩:wAD),(⟨2,0,0,false⟩:wAD)])
 have p8:sW w U eO [bD,dV,cr,bU,bC,ai,ah,.blk ag 41 af,.blk ae 41 ac,.blk ab 41 B5] a5:=p6
 have q:=p8.freezeR (k:=1) (n:=ax.Starts.length) rfl (wAE (f:=KL.encI) (sz:=1) (fun _=>rfl) ax.Starts) (by decide)
 obtain ⟨i3,u9,ta,p9⟩:=q
 have qa:sW w U i3 [bD,cr,bU,bC,ai,ah,.blk ag 41 af,.blk ae 41 ac,.blk ab 41 B5] a5:=p9
 have q:=qa.freezeR (k:=1) (n:=ax.Splits.length) rfl (wAE (f:=wAG) (sz:=2) (fun _=>rfl) ax.Splits) (by decide)
 obtain ⟨i4,tI,tb,qb⟩:=q
 have qd:sW w U i4 [bD,bU,bC,ai,ah,.blk ag 41 af,.blk ae 41 ac,.blk ab 41 B5] a5:=qb
 have q:=qd.freezeR (k:=1) (n:=ax.Clocks.length) rfl (wAE (f:=wAA) (sz:=3) (fun _=>rfl) ax.Clocks) (by decide)
 obtain ⟨i5,ig,tc,qe⟩:=q
 have qf:sW w U i5 [bD,bC,ai,ah,.blk ag 41 af,.blk ae 41 ac,.blk ab 41 B5] a5:=qe
 have q:=qf.freezeR (k:=1) (n:=ax.Readings.length) rfl (wAE (f:=wAB) (sz:=4) (fun _=>rfl) ax.Readings) (by decide)
 obtain ⟨i6,cO,td,qh⟩:=q
 have qi:sW w U i6 [bD,ai,ah,.blk ag 41 af,.blk ae 41 ac,.blk ab 41 B5] a5:=qh
 have q:=qi.freezeR (k:=0) (n:=[(⟨0,1,0,true⟩:wAD),(⟨1,1,0,true⟩:wAD),(⟨3,0,1,false⟩:wAD),(⟨2,0,0,false⟩:wAD)].length) rfl (wAE (f:=wAQ) (sz:=4) (fun _=>rfl) [(⟨0,1,0,true⟩:wAD),(⟨1,1,0,true⟩:wAD),(⟨3,0,1,false⟩:wAD),(⟨2,0,0,false⟩:wAD)]) (by decide)
 obtain ⟨eQ,cg,te,qj⟩:=q
 have qk:sW w U eQ [ai,ah,.blk ag 41 af,.blk ae 41 ac,.blk ab 41 B5] a5:=qj
 have lY:=ta.le tI
 have lZ:=lY.le ig
 have l3:=lZ.le cO
 have l4:=l3.le cg
 have l5:=tb.le ig
 have l6:=l5.le cO
 have l7:=l6.le cg
 have l8:=tc.le cO
 have ma:=l8.le cg
 have mb:=td.le cg
 have q:=bnd rZ
 obtain ⟨⟨ir,it⟩,mc,gT⟩:=q
 try dsimp only at gT
 refine zE 0 Z Z Z Z (zD Z Z Try.call34 (zB Z (zB Z zK)) Z) qk (fun hs=>wHE ax dv gj dw gp dx gq dz gt [(⟨0,1,0,true⟩:wAD),(⟨1,1,0,true⟩:wAD),(⟨3,0,1,false⟩:wAD),(⟨2,0,0,false⟩:wAD)] (some ⟨fH,0,none⟩) 4 a5 eQ hs l4 l7 ma mb te mc) (.inr Z) ?_
 rintro eU uq vL fy va qn ⟨rfl,rfl⟩
 have qo:sW w U eU [ai,ah,.blk ag 41 af,.blk ae 41 ac,.blk ab 41 B5] fy:=qn
 refine oM Z Z (oR Z (zP Z Z (v:=jV ir) Z) (oR Z (zP Z Z (v:=jV it) Z) (oA Z Z (oA Z Z (eN (sR (.fx 0 (.fx 1 (wGM (.nil)) .stop) .stop) Z (bnK gT fun ay md r6=>zE 0 Z Z Z Z (zD Z Z Try.call55 zK Z) qo (fun hs=>wCO fy eU hs md) (.inr Z) ?_)))))))
 rintro i7 ur vM br vb qp ⟨dA,gu,dB,gv,dC,gw,dD,gx,rfl,rfl⟩
 let bV:Res:=.row dD gx 39 4 (hD wAB ay.Readings)
 let ct:Res:=.row dC gw 43 3 (hD wAA ay.Clocks)
 let d7:Res:=.row dB gv 41 2 (hD wAG ay.Splits)
 have qq:sW w U i7 [.row dA gu 3 1 (hD KL.encI ay.Starts),d7,ct,bV,ai,ah,.blk ag 41 af,.blk ae 41 ac,.blk ab 41 B5] br:=qp
 have q:=qq.freezeR (k:=0) (n:=ay.Starts.length) rfl (wAE (f:=KL.encI) (sz:=1) (fun _=>rfl) ay.Starts) (by decide)
 obtain ⟨i8,vc,tf,qs⟩:=q
 have qt:sW w U i8 [d7,ct,bV,ai,ah,.blk ag 41 af,.blk ae 41 ac,.blk ab 41 B5] br:=qs
 have q:=qt.freezeR (k:=0) (n:=ay.Splits.length) rfl (wAE (f:=wAG) (sz:=2) (fun _=>rfl) ay.Splits) (by decide)
 obtain ⟨i9,tJ,tg,qu⟩:=q
 have qv:sW w U i9 [ct,bV,ai,ah,.blk ag 41 af,.blk ae 41 ac,.blk ab 41 B5] br:=qu
 have q:=qv.freezeR (k:=0) (n:=ay.Clocks.length) rfl (wAE (f:=wAA) (sz:=3) (fun _=>rfl) ay.Clocks) (by decide)
 obtain ⟨ja,ii,th,qx⟩:=q
 have qy:sW w U ja [bV,ai,ah,.blk ag 41 af,.blk ae 41 ac,.blk ab 41 B5] br:=qx
 have q:=qy.freezeR (k:=0) (n:=ay.Readings.length) rfl (wAE (f:=wAB) (sz:=4) (fun _=>rfl) ay.Readings) (by decide)
 obtain ⟨eV,cP,tj,qz⟩:=q
 have qA:sW w U eV [ai,ah,.blk ag 41 af,.blk ae 41 ac,.blk ab 41 B5] br:=qz
 have me:=tf.le tJ
 have mf:=me.le ii
 have mg:=mf.le cP
 have mh:=tg.le ii
 have mi:=mh.le cP
 have mj:=th.le cP
 have q:=bnd r6
 obtain ⟨⟨bv,iu⟩,ml,gU⟩:=q
 try dsimp only at gU
 refine zE 0 Z Z Z Z (zD Z Z Try.call29 (zB Z zK) Z) qA (fun hs=>wIC ay dA gu dB gv dC gw dD gx br eV hs mg mi mj tj ml) (.inr Z) ?_
 rintro eW uu vN fA vd qB ⟨bK,cc,rfl,rfl⟩
 let aT:Res:=.row bK cc 3 1 (hD KL.encI bv)
 have qC:sW w U eW [aT,ai,ah,.blk ag 41 af,.blk ae 41 ac,.blk ab 41 B5] fA:=qB
 refine oM Z Z (oR Z (zP Z Z (v:=.slice bK bv.length cc) Z) (oR Z (zP Z Z (v:=jV iu) Z) (oA Z Z (oA Z Z (eN (sR (.fx 0 (.fx 1 (wGM (.nil)) .stop) .stop) Z (bnK gU fun aJ mn r8=>zE 0 Z Z Z Z (zD Z Z Try.call55 zK Z) qC (fun hs=>wCO fA eW hs mn) (.inr Z) ?_)))))))
 rintro jb uv vO bs ve qD ⟨dE,gy,dF,gz,dG,gA,dH,gB,rfl,rfl⟩
 let bW:Res:=.row dH gB 39 4 (hD wAB aJ.Readings)
 let cu:Res:=.row dG gA 43 3 (hD wAA aJ.Clocks)
 let d9:Res:=.row dF gz 41 2 (hD wAG aJ.Splits)
 have qE:sW w U jb [.row dE gy 3 1 (hD KL.encI aJ.Starts),d9,cu,bW,aT,ai,ah,.blk ag 41 af,.blk ae 41 ac,.blk ab 41 B5] bs:=qD
 have q:=qE.freezeR (k:=0) (n:=aJ.Starts.length) rfl (wAE (f:=KL.encI) (sz:=1) (fun _=>rfl) aJ.Starts) (by decide)
 obtain ⟨jc,vg,tk,qF⟩:=q
 have qG:sW w U jc [d9,cu,bW,aT,ai,ah,.blk ag 41 af,.blk ae 41 ac,.blk ab 41 B5] bs:=qF
 have q:=qG.freezeR (k:=0) (n:=aJ.Splits.length) rfl (wAE (f:=wAG) (sz:=2) (fun _=>rfl) aJ.Splits) (by decide)
 obtain ⟨jd,tK,tm,qH⟩:=q
 have qI:sW w U jd [cu,bW,aT,ai,ah,.blk ag 41 af,.blk ae 41 ac,.blk ab 41 B5] bs:=qH
 have q:=qI.freezeR (k:=0) (n:=aJ.Clocks.length) rfl (wAE (f:=wAA) (sz:=3) (fun _=>rfl) aJ.Clocks) (by decide)
 obtain ⟨je,ij,tn,qJ⟩:=q
 have qK:sW w U je [bW,aT,ai,ah,.blk ag 41 af,.blk ae 41 ac,.blk ab 41 B5] bs:=qJ
 have q:=qK.freezeR (k:=0) (n:=aJ.Readings.length) rfl (wAE (f:=wAB) (sz:=4) (fun _=>rfl) aJ.Readings) (by decide)
 obtain ⟨eY,cQ,tp,qL⟩:=q
 have qM:sW w U eY [aT,ai,ah,.blk ag 41 af,.blk ae 41 ac,.blk ab 41 B5] bs:=qL
 have mo:=tk.le tK
 have mp:=mo.le ij
 have mq:=mp.le cQ
 have mr:=tm.le ij
 have ms:=mr.le cQ
 have mu:=tn.le cQ
 have q:=bnd r8
 obtain ⟨⟨bw,iv⟩,mw,gV⟩:=q
 try dsimp only at gV
 refine zE 0 Z Z Z Z (zD Z Z Try.call30 (zB Z zK) Z) qM (fun hs=>wID aJ dE gy dF gz dG gA dH gB bs eY hs mq ms mu tp mw) (.inr Z) ?_
 rintro aY ux vQ jr vi qN ⟨bL,cd,rfl,rfl⟩
 let bj:Res:=.row bL cd 3 1 (hD KL.encI bw)
 have bt:sW w U aY [bj,aT,ai,ah,.blk ag 41 af,.blk ae 41 ac,.blk ab 41 B5] jr:=qN
 refine oM Z Z (oR Z (zP Z Z (v:=.slice bL bw.length cd) Z) (oR Z (zP Z Z (v:=jV iv) Z) (oA Z Z (oA Z Z (eN (zM (yX fun bf aU=>?_)))))))
 have jF:bf 2=jV iq:=(aU 2).trans rfl
 have jG:bf 4=jV it:=(aU 4).trans rfl
 have jH:bf 6=jV iu:=(aU 6).trans rfl
 have jI:bf 8=jV iv:=(aU 8).trans rfl
 have jJ:bf 13=jV ir:=(aU 13).trans rfl
 have jK:bf 14=.slice bK bv.length cc:=(aU 14).trans rfl
 have jL:bf 15=.slice bL bw.length cd:=(aU 15).trans rfl
 clear aU
 refine rR (wNG (.fx 20 (.fx 21 (wMK (.fx 25 (.fx 26 (.fl 27 (.fl 28 .nil)) .stop) .stop)) .stop) .stop)) Z (oM Z jF (oR Z (yO Z Z Z) (oM Z Z (ifc gV ?_ ?_))))
 intro bb r9
 refine zr Z Z Z (wT Z bb) Z jG (rU Z (wT Z bb) (yO Z Z Z) (oR Z (zR Z (Zh bb.out) Z) (oM Z Z (ifc r9 ?_ ?_))))
 intro bc sc
 refine zr Z Z Z (wT Z bc) Z jH (rU Z (wT Z bc) (yO Z Z Z) (oR Z (zR Z (Zh bc.out) Z) (oM Z Z (ifc sc ?_ ?_))))
 intro bd sd
 refine zr Z Z Z (wT Z bd) Z jI (rU Z (wT Z bd) (yO Z Z Z) (oR Z (zR Z (Zh bd.out) Z) (oM Z Z (ifc sd ?_ ?_))))
 intro be sf
 refine zr Z Z Z (wT Z be) Z jJ (rU Z (wT Z be) (yO Z Z Z) (oR Z (zR Z (Zh be.out) Z) (oM Z Z (ifc sf ?_ ?_))))
 intro aP sg
 refine zr Z Z Z (wT Z aP) Z jK (ZE (pv:=[(0,jV 1)]) (zs:=[jV 0]) (cs:=[jV 1]) Z Z Z (wT Z aP) Z (wAF Z wAO) zH zC zw Z Z Z Z Z bt ?_)
 intro ca fI qP
 let ec:Res:=.row (some ⟨fI,0,none⟩) 1 3 1 (hD KL.encI [1])
 have qQ:sW w U aY [ec,bj,aT,ai,ah,.blk ag 41 af,.blk ae 41 ac,.blk ab 41 B5] ca:=qP
 have q:=qQ.freezeR (k:=2) (n:=bv.length) rfl (wAE (f:=KL.encI) (sz:=1) (fun _=>rfl) bv) (by decide)
 obtain ⟨jf,vj,tq,qR⟩:=q
 have qS:sW w U jf [ec,bj,ai,ah,.blk ag 41 af,.blk ae 41 ac,.blk ab 41 B5] ca:=qR
 have q:=qS.freezeR (k:=0) (n:=[1].length) rfl (wAE (f:=KL.encI) (sz:=1) (fun _=>rfl) [1]) (by decide)
 obtain ⟨eZ,tL,tu,qT⟩:=q
 have qU:sW w U eZ [bj,ai,ah,.blk ag 41 af,.blk ae 41 ac,.blk ab 41 B5] ca:=qT
 have mx:=tq.le tL
 refine bnK sg fun vV my sh=>zE 0 Z Z Z (wT Z aP) (zD Z Z Try.call56 (zB Z (zB Z zK)) Z) qU (fun hs=>wDX bv bK cc [1] (some ⟨fI,0,none⟩) 1 ca eZ hs mx tu my) (.inr Z) ?_
 rintro cB uy vR jt vk qV ⟨rfl,rfl⟩
 have gJ:sW w U cB [bj,ai,ah,.blk ag 41 af,.blk ae 41 ac,.blk ab 41 B5] jt:=qV
 refine oR Z (zR Z (Zh aP.out) Z) (oM Z Z (ifc sh ?_ ?_))
 intro aQ sj
 refine zr Z Z Z (zF Z Z (congrArg hJ aQ.out)) Z jL (ZE (pv:=[(0,jV 1)]) (zs:=[jV 0]) (cs:=[jV 1]) Z Z Z (zF Z Z (congrArg hJ aQ.out)) Z (wAF Z wAO) zH zC zw Z Z Z Z Z gJ ?_)
 intro cb fJ qX
 let ef:Res:=.row (some ⟨fJ,0,none⟩) 1 3 1 (hD KL.encI [1])
 have qY:sW w U cB [ef,bj,ai,ah,.blk ag 41 af,.blk ae 41 ac,.blk ab 41 B5] cb:=qX
 have q:=qY.freezeR (k:=1) (n:=bw.length) rfl (wAE (f:=KL.encI) (sz:=1) (fun _=>rfl) bw) (by decide)
 obtain ⟨jg,vl,tv,qZ⟩:=q
 have q5:sW w U jg [ef,ai,ah,.blk ag 41 af,.blk ae 41 ac,.blk ab 41 B5] cb:=qZ
 have q:=q5.freezeR (k:=0) (n:=[1].length) rfl (wAE (f:=KL.encI) (sz:=1) (fun _=>rfl) [1]) (by decide)
 obtain ⟨fb,tM,tw,q6⟩:=q
 have q7:sW w U fb [ai,ah,.blk ag 41 af,.blk ae 41 ac,.blk ab 41 B5] cb:=q6
 have mz:=tv.le tM
 refine bnK sj fun vW mA sk=>zE 0 Z Z Z (zF Z Z (congrArg hJ aQ.out)) (zD Z Z Try.call56 (zB Z (zB Z zK)) Z) q7 (fun hs=>wDX bw bL cd [1] (some ⟨fJ,0,none⟩) 1 cb fb hs mz tw mA) (.inr Z) ?_
 rintro fc uz vS ju vm q8 ⟨rfl,rfl⟩
 have q9:sW w U fc [ai,ah,.blk ag 41 af,.blk ae 41 ac,.blk ab 41 B5] ju:=q8
 refine oR Z (zR Z (congrArg hJ aQ.out) Z) (oA Z Z (eN (zU ?_)))
 have hE:=hH sk;first | subst r | cases hE
 exact ⟨rfl,_,(ZL rfl),fc,_,(q9.pick [] _ (by decide) rfl),rfl,rfl⟩
 intro aQ sl
 refine zt Z Z Z (zO Z Z (congrArg hJ (nA.2 aQ.out)) Z) (ZG Z Z Z (zO Z Z (congrArg hJ (nA.2 aQ.out)) Z) (ZG Z Z Z (zO Z Z (congrArg hJ (nA.2 aQ.out)) Z) (oR Z (zb Z (congrArg hJ (nA.2 aQ.out)) Z) (oA Z Z (eN (zU ?_))))))
 have hE:=hH sl;first | subst r | cases hE
 exact ⟨rfl,_,(ZL rfl),cB,_,(gJ.pick [] _ (by decide) rfl),rfl,rfl⟩
 intro aP sm
 refine oF Z aP (ZG Z Z Z (zO Z Z (zd aP.out) Z) (ZG Z Z Z (zO Z Z (zd aP.out) Z) (oR Z (zb Z (zd aP.out) Z) (oM Z Z (oN Z (ZG Z Z Z (zO Z Z Z Z) (ZG Z Z Z (zO Z Z Z Z) (oR Z (zb Z Z Z) (oA Z Z (eN (zU ?_)))))))))))
 have hE:=hH sm;first | subst r | cases hE
 exact ⟨rfl,_,(ZL rfl),aY,_,(bt.pick [] _ (by decide) rfl),rfl,rfl⟩
 intro be sn
 refine oF Z be (oF Z be (oR Z (zb Z (zd be.out) Z) (oM Z Z (oN Z (ZG Z Z Z (zO Z Z Z Z) (ZG Z Z Z (zO Z Z Z Z) (oR Z (zb Z Z Z) (oM Z Z (oN Z (ZG Z Z Z (zO Z Z Z Z) (ZG Z Z Z (zO Z Z Z Z) (oR Z (zb Z Z Z) (oA Z Z (eN (zU ?_)))))))))))))))
 have hE:=hH sn;first | subst r | cases hE
 exact ⟨rfl,_,(ZL rfl),aY,_,(bt.pick [] _ (by decide) rfl),rfl,rfl⟩
 intro bd sq
 refine oF Z bd (oF Z bd (oR Z (zb Z (zd bd.out) Z) (oM Z Z (oN Z (oN Z (oR Z (zb Z Z Z) (oM Z Z (oN Z (ZG Z Z Z (zO Z Z Z Z) (ZG Z Z Z (zO Z Z Z Z) (oR Z (zb Z Z Z) (oM Z Z (oN Z (ZG Z Z Z (zO Z Z Z Z) (ZG Z Z Z (zO Z Z Z Z) (oR Z (zb Z Z Z) (oA Z Z (eN (zU ?_)))))))))))))))))))
 have hE:=hH sq;first | subst r | cases hE
 exact ⟨rfl,_,(ZL rfl),aY,_,(bt.pick [] _ (by decide) rfl),rfl,rfl⟩
 intro bc ss
 refine oF Z bc (oF Z bc (oR Z (zb Z (zd bc.out) Z) (oM Z Z (oN Z (oN Z (oR Z (zb Z Z Z) (oM Z Z (oN Z (oN Z (oR Z (zb Z Z Z) (oM Z Z (oN Z (ZG Z Z Z (zO Z Z Z Z) (ZG Z Z Z (zO Z Z Z Z) (oR Z (zb Z Z Z) (oM Z Z (oN Z (ZG Z Z Z (zO Z Z Z Z) (ZG Z Z Z (zO Z Z Z Z) (oR Z (zb Z Z Z) (oA Z Z (eN (zU ?_)))))))))))))))))))))))
 have hE:=hH ss;first | subst r | cases hE
 exact ⟨rfl,_,(ZL rfl),aY,_,(bt.pick [] _ (by decide) rfl),rfl,rfl⟩
 intro bb su
 refine oF Z bb (oF Z bb (oR Z (zb Z (zd bb.out) Z) (oM Z Z (oN Z (oN Z (oR Z (zb Z Z Z) (oM Z Z (oN Z (oN Z (oR Z (zb Z Z Z) (oM Z Z (oN Z (oN Z (oR Z (zb Z Z Z) (oM Z Z (oN Z (ZG Z Z Z (zO Z Z Z Z) (ZG Z Z Z (zO Z Z Z Z) (oR Z (zb Z Z Z) (oM Z Z (oN Z (ZG Z Z Z (zO Z Z Z Z) (ZG Z Z Z (zO Z Z Z Z) (oR Z (zb Z Z Z) (oA Z Z (eN (zU ?_)))))))))))))))))))))))))))
 have hE:=hH su;first | subst r | cases hE
 exact ⟨rfl,_,(ZL rfl),aY,_,(bt.pick [] _ (by decide) rfl),rfl,rfl⟩
end Go.Proofs.Ytlnfbjphfoipaaa
