import Derived.Test.YtnbcoenjobdplaaGreatC6
import Derived.Test.YtnbcoenjobdplaaGreatC5
import Derived.Test.YtnbcoenjobdplaaGreatC7
import Derived.Test.YtnbcoenjobdplaaGreatC8
import Derived.Test.YtnbcoenjobdplaaGreatC9
set_option linter.all false
open List renaming flatMap->hD
open Option.some renaming inj->nA
open Go.Value renaming bool->nB
namespace Go.Proofs.YtnbcoenjobdplaaGreat
open Go.KL
def gAa:Sch:=.fx 2 (.fl 3 .nil) .stop
def gAb:Sch:=.fx 0 (.fl 1 .nil) .stop
def gAc:Sch:=.fx 13 (.fl 14 (.fl 15 .nil)) .stop
def gAd:Sch:=.fx 10 (.fx 11 (.fl 12 .nil) .stop) .stop
def gAe:Sch:=.fx 12 gAc .stop
def gAf:Sch:=.fl 0 (.fl 1 gAa)
def gAg:Sch:=.fx 3 (.fx 4 (.fl 5 (.fx 6 .nil .stop)) .stop) .stop
def gAh:Sch:=.fl 0 (.fl 2 (.fx 1 (.fx 3 (.fx 4 (.fx 5 (.fl 6 .nil) .stop) .stop) .stop) .stop))
set_option maxHeartbeats 4000000
theorem wLM (O:wAa) (w:World) (U:PHeap) (hS:St0 w U [])  {r:wAK} (hm:wGg O=some r):Gv Tryz.prog 64 [.agg #[jV O.Skier,jV O.Mat]] w (wBD w [] U (fun U_ L_ v=>v=.agg #[jV r.skier,jV r.mat]/\L_=[])):=by
 unfold wGg at hm
 refine Gv.of Tryz.func64 Z Tryz.ntmps64 Tryz.results64 Z (sR (.fx 0 (.fx 1 .nil .stop) .stop) Z ?_)
 let B0:List Value:=[jV O.Skier,jV O.Mat]
 refine ZH (cs:=B0) rfl rfl rfl rfl rfl rfl (by rfl) hS ?_
 intro W1 b2 ai
 refine zm (cs:=[jV 0,jV 0]) Z Z Z Z Z ZP Z ai ?_
 intro W5 b6 ab
 refine eN (sR (wHg (.fx 5 .nil .stop)) Z (oR Z (zF Z Z Tryz.runUnderlying92 Z zC) (oL Z (ab.ldB (j:=1) Z Z Z zJ (v:=jV O.Skier) Z) (oR Z (zF Z Z Tryz.runUnderlying92 Z zC) (oL Z (ab.ldB (j:=1) Z Z Z zJ (v:=jV O.Mat) Z) (oR Z (zx (pv:=[(0,jV O.Skier),(1,jV O.Mat)]) (z:=[jV 0,jV 0]) (cs:=B0) Z (wAA Z (wAA Z wAI)) ZP wEg Z Z) (zh (j:=0) (vs:=B0) Z Z Z Z ab Z Z Z Z zV (zA Z) Z Z Z ?_)))))))
 intro W9 ah
 have ac:sW w U U [.blk b6 149 B0,.blk b2 92 B0] W9:=ah
 refine eN (zP ?_)
 cases hm
 exact ⟨rfl,_,(wFz (v:=.agg B0.toArray) ⟨⟨_,rfl,(wBL ZC zV (ac.blkAt (k:=0) rfl) (vs:=B0) rfl rfl)⟩,trivial⟩),U,_,(ac.pick [] _ (by decide) rfl),rfl,rfl⟩
theorem wHd (O:wAu) (au:Nat) (ay:Option Addr) (a8:Nat) (az:Option Addr) (ba:Nat) (aY:Option Addr) (bb:Nat) (aZ:Option Addr) (bd:Nat) (aa:Nat) (ab:Array MapEntry) (ac:Nat) (a7:Option Addr) (be:Nat) (p1:wAK) (p2:wAK) (w:World) (U:PHeap) (hS:St0 w U [.blk au 180 [.slice ay O.Race.Starts.length a8,.slice az O.Race.Splits.length ba,.slice aY O.Race.Clocks.length bb,.slice aZ O.Race.Readings.length bd,.map (some aa),.slice a7 O.edges.length be],.obj aa (.map ab ac)]) (bW:Sl U 1 ay a8 O.Race.Starts.length (hD KL.encI O.Race.Starts)) (bX:Sl U 2 az ba O.Race.Splits.length (hD wAH O.Race.Splits)) (bY:Sl U 3 aY bb O.Race.Clocks.length (hD wAU O.Race.Clocks)) (bZ:Sl U 4 aZ bd O.Race.Readings.length (hD wAG O.Race.Readings)) (bf:MpR ab wEA wEI O.number) (ca:Sl U 7 a7 be O.edges.length (hD wAf O.edges)) {r:wAD} (hm:wCG O p1 p2=some r):Gv Tryz.prog 62 [.pointer (some ⟨au,0,none⟩),.agg #[jV p1.skier,jV p1.mat],.agg #[jV p2.skier,jV p2.mat]] w (wBD w [.blk au 180 [.slice ay O.Race.Starts.length a8,.slice az O.Race.Splits.length ba,.slice aY O.Race.Clocks.length bb,.slice aZ O.Race.Readings.length bd,.map (some aa),.slice a7 O.edges.length be],.obj aa (.map ab ac)] U (fun U_ L_ v=>v=.agg #[jV r.Lo,jV r.Hi]/\L_=[.blk au 180 [.slice ay O.Race.Starts.length a8,.slice az O.Race.Splits.length ba,.slice aY O.Race.Clocks.length bb,.slice aZ O.Race.Readings.length bd,.map (some aa),.slice a7 O.edges.length be],.obj aa (.map ab ac)])):=by
 unfold wCG at hm
 refine Gv.of Tryz.func62 Z Tryz.ntmps62 Tryz.results62 Z (sR (.fx 0 (.fx 1 (.fx 2 .nil .stop) .stop) .stop) Z ?_)
 let B0:List Value:=[jV p1.skier,jV p1.mat]
 refine ZH (cs:=B0) rfl rfl rfl rfl rfl rfl (by rfl) hS ?_
 intro W3 b4 d9
 let B1:List Value:=[jV p2.skier,jV p2.mat]
 refine ZH (cs:=B1) rfl rfl rfl rfl rfl rfl (by rfl) d9 ?_
 intro W7 b8 ey
 let B2:List Value:=[jV 0,jV 0]
 refine zm (cs:=B2) Z Z Z Z Z ZY Z ey ?_
 intro cK ah dO
 refine eN ?_
 have q:=bnd hm
 obtain ⟨⟨ax,cd⟩,eF,db⟩:=q
 try dsimp only at db
 let B3:Res:=.blk au 180 [.slice ay O.Race.Starts.length a8,.slice az O.Race.Splits.length ba,.slice aY O.Race.Clocks.length bb,.slice aZ O.Race.Readings.length bd,.map (some aa),.slice a7 O.edges.length be]
 refine yd (fun σ_ w_=>∃ (U_:PHeap) (bv:Nat) (bm:Option Addr) (bp:Nat) (bt:Option Addr) (bx:Nat),σ_ 0=.pointer (some ⟨au,0,none⟩)/\σ_ 4=.pointer (some ⟨b4,0,none⟩)/\σ_ 5=.pointer (some ⟨b8,0,none⟩)/\σ_ 6=.pointer (some ⟨ah,0,none⟩)/\σ_ 7=.pointer (some ⟨bv,0,none⟩)/\PHeap.Le U U_/\SW w [B3,.obj aa (.map ab ac)] U U_ [B3,.obj aa (.map ab ac),.blk ah 76 B2,.blk b8 149 B1,.blk b4 149 B0,.blk bv 182 [.slice bm ax.length bp,.slice bt cd.length bx],.row bm bp 3 1 (hD KL.encI ax),.row bt bx 3 1 (hD KL.encI cd)] w_) ?_ ?_
 have q:=bnd eF
 obtain ⟨⟨ao,df,dg⟩,cZ,cr⟩:=q
 try dsimp only at cr
 refine ZN ZD [3,3,3,3,1,1,1,0,3,3,3,3,2,0,3,3] (wNd (.fx 7 (wNJ gAe) (.fx 12 (.fx 7 (wNJ gAc) (.stop)) (.stop)))) (by kernel_rfl) ?_
 have br:=dO.drew
 generalize hw_W54:({ cK with drawn:=cK.drawn + 1 }:World)=cO at br ⊢
 refine oM Z Z (oM Z Z (oR Z (ZR Z Z) (oR Z (zF Z Z Zc Z yP) (oL Z (br.ldB (j:=3) Z Z Z yY (v:=.map (some aa)) Z) (oL Z (br.ldBA (j:=2) Z Z Z ZC zV (vs:=B0) Z Z) (oL Z (br.lookup1 (j:=4) (mk:=wEA) (mv:=wEI) (a:=p1) (z:=0) Z Z Z Z (wBr Zp) wFi zw bf) (yp ?_ ?_)))))))
 have eh:SW w [B3,.obj aa (.map ab ac)] U U [B3,.obj aa (.map ab ac),.blk ah 76 B2,.blk b8 149 B1,.blk b4 149 B0] cO:=br.pick [3,4,0,1,2] _ (by decide) rfl
 refine zM 2 Z Z Z Z (zK Z Z Tryz.call94 (zD Z (zD Z (zD Z zO))) Z) eh (fun hs=>wCU O au ay a8 az ba aY bb aZ bd aa ab ac a7 be (wBE O.number p1 0) false cO U hs bW bX bY bZ bf ca cZ) (.inl Z) ?_
 rintro cn eO e9 dr eI ej ⟨bF,bR,bG,bS,rfl,rfl⟩
 let B4:Res:=.row bF bR 3 1 (hD KL.encI ao.far)
 let B5:Res:=.row bG bS 3 1 (hD KL.encI ao.by_)
 have eo:SW w [B3,.obj aa (.map ab ac)] U cn [B4,B5,B3,.obj aa (.map ab ac),.blk ah 76 B2,.blk b8 149 B1,.blk b4 149 B0] dr:=ej
 refine oM Z Z (oR Z (zi Z Z (v:=.agg #[.slice bF ao.far.length bR,.slice bG ao.by_.length bS]) Z) (oR Z (zi Z Z (v:=jV df) Z) (oR Z (zi Z Z (v:=.bool dg) Z) (zm (cs:=[.slice none 0 0,.slice none 0 0]) Z Z Z Z Z yl Z eo ?_))))
 intro eV cR ep
 let B6:List Value:=[.slice bF ao.far.length bR,.slice bG ao.by_.length bS]
 refine zh (j:=0) (vs:=B6) Z Z Z Z ep Z Z Z Z yZ (zA Z) Z Z Z ?_
 intro dt er
 have eu:SW w [B3,.obj aa (.map ab ac)] U cn [.blk cR 182 B6,B4,B5,B3,.obj aa (.map ab ac),.blk ah 76 B2,.blk b8 149 B1,.blk b4 149 B0] dt:=er
 refine oA Z Z (oA Z Z (zg ?_))
 cases cr
 exact zG ⟨rfl,⟨cn,cR,bF,bR,bG,bS,rfl,rfl,rfl,rfl,rfl,eI,(eu.pick [3,4,5,6,7,0,1,2] _ (by decide) rfl)⟩⟩
 let B7:List Value:=[.slice none 0 0,.slice none 0 0]
 refine zm (cs:=B7) Z Z Z Z Z yl Z br ?_
 intro cP bK ew
 have ez:SW w [B3,.obj aa (.map ab ac)] U U [B3,.obj aa (.map ab ac),.blk bK 182 B7,.blk ah 76 B2,.blk b8 149 B1,.blk b4 149 B0] cP:=ew.pick [4,5,0,1,2,3] _ (by decide) rfl
 refine zM 2 Z Z Z Z (zK Z Z Tryz.call94 (zD Z (zD Z (zD Z zO))) Z) ez (fun hs=>wCU O au ay a8 az ba aY bb aZ bd aa ab ac a7 be (wBE O.number p1 0) false cP U hs bW bX bY bZ bf ca cZ) (.inl Z) ?_
 rintro co eQ fb du eJ dJ ⟨bz,bL,bA,bM,rfl,rfl⟩
 let B8:Res:=.row bz bL 3 1 (hD KL.encI ao.far)
 let B9:Res:=.row bA bM 3 1 (hD KL.encI ao.by_)
 have dK:SW w [B3,.obj aa (.map ab ac)] U co [B8,B9,B3,.obj aa (.map ab ac),.blk bK 182 B7,.blk ah 76 B2,.blk b8 149 B1,.blk b4 149 B0] du:=dJ
 refine oM Z Z (oR Z (zi Z Z (v:=.agg #[.slice bz ao.far.length bL,.slice bA ao.by_.length bM]) Z) (oR Z (zi Z Z (v:=jV df) Z) (oR Z (zi Z Z (v:=.bool dg) Z) ?_)))
 let ct:List Value:=[.slice bz ao.far.length bL,.slice bA ao.by_.length bM]
 refine zh (j:=4) (vs:=ct) Z Z Z Z dK Z Z Z Z yZ (zA Z) Z Z Z ?_
 intro dh dL
 have dM:SW w [B3,.obj aa (.map ab ac)] U co [B8,B9,B3,.obj aa (.map ab ac),.blk bK 182 ct,.blk ah 76 B2,.blk b8 149 B1,.blk b4 149 B0] dh:=dL
 refine oA Z Z (oA Z Z (zg ?_))
 cases cr
 exact zG ⟨rfl,⟨co,bK,bz,bL,bA,bM,rfl,rfl,rfl,rfl,rfl,eJ,(dM.pick [2,3,5,6,7,4,0,1] _ (by decide) rfl)⟩⟩
 rintro fc cL ⟨bH,bv,bm,bp,bt,bx,bT,cS,cp,cU,cV,av,dN⟩
 have q:=bnd db
 obtain ⟨⟨aw,cc⟩,eE,da⟩:=q
 try dsimp only at da
 let bg:Res:=.blk bv 182 [.slice bm ax.length bp,.slice bt cd.length bx]
 let bh:Res:=.row bm bp 3 1 (hD KL.encI ax)
 let bi:Res:=.row bt bx 3 1 (hD KL.encI cd)
 refine yd (fun σ_ w_=>∃ (U_:PHeap) (bI:Nat) (bj:Option Addr) (bn:Nat) (bs:Option Addr) (bw:Nat),σ_ 0=.pointer (some ⟨au,0,none⟩)/\σ_ 4=.pointer (some ⟨b4,0,none⟩)/\σ_ 5=.pointer (some ⟨b8,0,none⟩)/\σ_ 6=.pointer (some ⟨ah,0,none⟩)/\σ_ 7=.pointer (some ⟨bv,0,none⟩)/\σ_ 10=.pointer (some ⟨bI,0,none⟩)/\PHeap.Le bH U_/\SW w [B3,.obj aa (.map ab ac)] U U_ [B3,.obj aa (.map ab ac),.blk ah 76 B2,.blk b8 149 B1,.blk b4 149 B0,bh,bi,bg,.blk bI 182 [.slice bj aw.length bn,.slice bs cc.length bw],.row bj bn 3 1 (hD KL.encI aw),.row bs bw 3 1 (hD KL.encI cc)] w_) ?_ ?_
 have q:=bnd eE
 obtain ⟨⟨an,dd,de⟩,cY,cq⟩:=q
 try dsimp only at cq
 refine ZN ZD [3,3,3,3,1,1,1,0,3,3,3,3,2,0,3,3] (wNd (.fx 7 (wNJ gAe) (.fx 12 (.fx 7 (wNJ gAc) (.stop)) (.stop)))) (by kernel_rfl) ?_
 have bq:=dN.drew
 generalize hw_W172:({ cL with drawn:=cL.drawn + 1 }:World)=di at bq ⊢
 refine oM Z bT (oM Z bT (oR Z (ZR Z Z) (oR Z (zF Z Z Zc Z yP) (oL Z (bq.ldB (j:=0) Z Z Z yY (v:=.map (some aa)) Z) (oL Z (bq.ldBA (j:=3) Z Z cp ZC zV (vs:=B1) Z Z) (oL Z (bq.lookup1 (j:=1) (mk:=wEA) (mv:=wEI) (a:=p2) (z:=0) Z Z Z Z (wBr Zp) wFi zw bf) (yp ?_ ?_)))))))
 have dz:=bW.le av
 have dA:=bX.le av
 have dB:=bY.le av
 have dC:=bZ.le av
 have dD:=ca.le av
 refine zM 2 Z Z Z Z (zK Z Z Tryz.call94 (zD Z (zD Z (zD Z zO))) Z) bq (fun hs=>wCU O au ay a8 az ba aY bb aZ bd aa ab ac a7 be (wBE O.number p2 0) false di bH hs dz dA dB dC bf dD cY) (.inl Z) ?_
 rintro cj eK eZ dl eG dP ⟨bB,bN,bC,bO,rfl,rfl⟩
 let cu:Res:=.row bB bN 3 1 (hD KL.encI an.far)
 let cw:Res:=.row bC bO 3 1 (hD KL.encI an.by_)
 have dQ:SW w [B3,.obj aa (.map ab ac)] U cj [cu,cw,B3,.obj aa (.map ab ac),.blk ah 76 B2,.blk b8 149 B1,.blk b4 149 B0,bg,bh,bi] dl:=dP
 refine oM Z Z (oR Z (zi Z Z (v:=.agg #[.slice bB an.far.length bN,.slice bC an.by_.length bO]) Z) (oR Z (zi Z Z (v:=jV dd) Z) (oR Z (zi Z Z (v:=.bool de) Z) (zm (cs:=[.slice none 0 0,.slice none 0 0]) Z Z Z Z Z yl Z dQ ?_))))
 intro eR cQ dR
 let cy:List Value:=[.slice bB an.far.length bN,.slice bC an.by_.length bO]
 refine zh (j:=0) (vs:=cy) Z Z Z Z dR Z Z Z Z yZ (zA Z) Z Z Z ?_
 intro dm dS
 have dT:SW w [B3,.obj aa (.map ab ac)] U cj [.blk cQ 182 cy,cu,cw,B3,.obj aa (.map ab ac),.blk ah 76 B2,.blk b8 149 B1,.blk b4 149 B0,bg,bh,bi] dm:=dS
 refine oA Z Z (oA Z Z (zg ?_))
 cases cq
 exact zG ⟨rfl,⟨cj,cQ,bB,bN,bC,bO,bT,cS,cp,cU,cV,rfl,eG,(dT.pick [3,4,5,6,7,9,10,8,0,1,2] _ (by decide) rfl)⟩⟩
 let cg:List Value:=[.slice none 0 0,.slice none 0 0]
 refine zm (cs:=cg) Z Z Z Z Z yl Z bq ?_
 intro cM bJ dU
 have dE:=bW.le av
 have dF:=bX.le av
 have dG:=bY.le av
 have dH:=bZ.le av
 have dI:=ca.le av
 have dV:SW w [B3,.obj aa (.map ab ac)] U bH [B3,.obj aa (.map ab ac),.blk bJ 182 cg,.blk ah 76 B2,.blk b8 149 B1,.blk b4 149 B0,bg,bh,bi] cM:=dU.pick [1,2,0,3,4,5,6,7,8] _ (by decide) rfl
 refine zM 2 Z Z Z Z (zK Z Z Tryz.call94 (zD Z (zD Z (zD Z zO))) Z) dV (fun hs=>wCU O au ay a8 az ba aY bb aZ bd aa ab ac a7 be (wBE O.number p2 0) false cM bH hs dE dF dG dH bf dI cY) (.inl Z) ?_
 rintro cm eM e8 dn eH dW ⟨bD,bP,bE,bQ,rfl,rfl⟩
 let cz:Res:=.row bD bP 3 1 (hD KL.encI an.far)
 let cA:Res:=.row bE bQ 3 1 (hD KL.encI an.by_)
 have dX:SW w [B3,.obj aa (.map ab ac)] U cm [cz,cA,B3,.obj aa (.map ab ac),.blk bJ 182 cg,.blk ah 76 B2,.blk b8 149 B1,.blk b4 149 B0,bg,bh,bi] dn:=dW
 refine oM Z Z (oR Z (zi Z Z (v:=.agg #[.slice bD an.far.length bP,.slice bE an.by_.length bQ]) Z) (oR Z (zi Z Z (v:=jV dd) Z) (oR Z (zi Z Z (v:=.bool de) Z) ?_)))
 let cC:List Value:=[.slice bD an.far.length bP,.slice bE an.by_.length bQ]
 refine zh (j:=4) (vs:=cC) Z Z Z Z dX Z Z Z Z yZ (zA Z) Z Z Z ?_
 intro dp dY
 have dZ:SW w [B3,.obj aa (.map ab ac)] U cm [cz,cA,B3,.obj aa (.map ab ac),.blk bJ 182 cC,.blk ah 76 B2,.blk b8 149 B1,.blk b4 149 B0,bg,bh,bi] dp:=dY
 refine oA Z Z (oA Z Z (zg ?_))
 cases cq
 exact zG ⟨rfl,⟨cm,bJ,bD,bP,bE,bQ,bT,cS,cp,cU,cV,rfl,eH,(dZ.pick [2,3,5,6,7,9,10,8,4,0,1] _ (by decide) rfl)⟩⟩
 rintro fd cN ⟨cJ,bI,bj,bn,bs,bw,cW,dv,dw,cX,dx,dy,eY,d7⟩
 refine zI (ZN ZD [3,1,3,3,3,1,1,1,3,1,3,3,1,3,3,3,1,1,1,3,1,3,0] (wSB (.fx 22 .nil .stop)) (by kernel_rfl) ?_)
 have am:=d7.drew
 generalize hw_W258:({ cN with drawn:=cN.drawn + 1 }:World)=eS at am ⊢
 refine oR Z (zF Z dy Zf Z zS) (oL Z (am.ldB (j:=8) Z Z Z zZ (v:=.slice bj aw.length bn) Z) (oM Z cW (oR Z (ZR Z Z) (oR Z (zF Z Z Zc Z yP) (oL Z (am.ldB (j:=0) Z Z Z yY (v:=.map (some aa)) Z) (oL Z (am.ldBA (j:=4) Z Z dv ZC zV (vs:=B0) Z Z) (oL Z (am.lookup1 (j:=1) (mk:=wEA) (mv:=wEI) (a:=p1) (z:=0) Z Z Z Z (wBr Zp) wFi zw bf) (bnK da fun _ bU eC=>?_))))))))
 have q:=am.rowSome (j:=9) rfl (by rw [wAB (f:=KL.encI) (sz:=1) (fun _=>rfl) aw];have hz:=wAS bU;omega)
 obtain ⟨eW,c6⟩:=q
 refine oR Z (Za Z Z c6 Z zB zC (wBa bU) (wBb bU)) ?_
 have eA:=wBK (xs:=aw) (wAS bU)
 refine ZB rfl rfl rfl rfl (am.ldR (j:=9) rfl c6 rfl rfl zJ (wAW (sz:=1) (fun _=>rfl) _ _ 0 _ eA (by first | omega | rfl | simp) rfl)) rfl (zY rfl rfl rfl rfl (fun _=>Runs.negw rfl rfl) (zY rfl rfl rfl rfl (fun _=>zF rfl dx Zf rfl zS) (ZB rfl rfl rfl rfl (am.ldB (j:=7) rfl rfl rfl zZ (v:=.slice bm ax.length bp) rfl) rfl (zj rfl rfl rfl rfl rfl cW (zY rfl rfl rfl rfl (fun _=>ZR rfl rfl) (zY rfl rfl rfl rfl (fun _=>zF rfl rfl Zc rfl yP) (ZB rfl rfl rfl rfl (am.ldB (j:=0) rfl rfl rfl yY (v:=.map (some aa)) rfl) rfl (ZB rfl rfl rfl rfl (am.ldBA (j:=3) rfl rfl dw ZC zV (vs:=B1) rfl rfl) rfl (ZB rfl rfl rfl rfl (am.lookup1 (j:=1) (mk:=wEA) (mv:=wEI) (a:=p2) (z:=0) rfl rfl rfl rfl (wBr Zp) wFi zw bf) rfl (bnK eC fun _ bV eD=>?_))))))))))
 have q:=am.rowSome (j:=5) rfl (by rw [wAB (f:=KL.encI) (sz:=1) (fun _=>rfl) ax];have hz:=wAS bV;omega)
 obtain ⟨eX,c8⟩:=q
 refine oR Z (Za Z Z c8 Z zB zC (wBa bV) (wBb bV)) ?_
 have eB:=wBK (xs:=ax) (wAS bV)
 refine ZB rfl rfl rfl rfl (am.ldR (j:=5) rfl c8 rfl rfl zJ (wAW (sz:=1) (fun _=>rfl) _ _ 0 _ eB (by first | omega | rfl | simp) rfl)) rfl ?_
 let bu:List Value:=[jV (w64 (-(gd aw (wBE O.number p1 0).toNat))),jV (gd ax (wBE O.number p2 0).toNat)]
 refine oR Z (zx (pv:=[(0,jV (w64 (-(gd aw (wBE O.number p1 0).toNat)))),(1,jV (gd ax (wBE O.number p2 0).toNat))]) (z:=B2) (cs:=bu) Z (wAA Z (wAA Z wAI)) ZY wDU Z Z) (zh (j:=2) (vs:=bu) Z Z Z Z am Z cX Z Z ZK (zA Z) Z Z Z ?_)
 intro dq d8
 have c9:SW w [B3,.obj aa (.map ab ac)] U cJ [B3,.obj aa (.map ab ac),.blk ah 76 bu,.blk b8 149 B1,.blk b4 149 B0,bh,bi,bg,.blk bI 182 [.slice bj aw.length bn,.slice bs cc.length bw],.row bj bn 3 1 (hD KL.encI aw),.row bs bw 3 1 (hD KL.encI cc)] dq:=d8
 refine eN (zP ?_)
 cases eD
 exact ⟨rfl,_,(wFz (v:=.agg bu.toArray) ⟨⟨_,cX,(wBL yF ZK (c9.blkAt (k:=2) rfl) (vs:=bu) rfl rfl)⟩,trivial⟩),cJ,_,(c9.pick [0,1] _ (by decide) rfl),rfl,rfl⟩
theorem wIl (p0:wAF) (ay:Option Addr) (a7:Nat) (az:Option Addr) (a8:Nat) (aY:Option Addr) (ba:Nat) (aZ:Option Addr) (bb:Nat) (p1:wAa) (w:World) (U:PHeap) (hS:St0 w U []) (c9:Sl U 1 ay a7 p0.Starts.length (hD KL.encI p0.Starts)) (da:Sl U 2 az a8 p0.Splits.length (hD wAH p0.Splits)) (db:Sl U 3 aY ba p0.Clocks.length (hD wAU p0.Clocks)) (dd:Sl U 4 aZ bb p0.Readings.length (hD wAG p0.Readings)) {r:wAD × Int} (hm:wBy p0 p1=some r):Gv Tryz.prog 24 [.agg #[.slice ay p0.Starts.length a7,.slice az p0.Splits.length a8,.slice aY p0.Clocks.length ba,.slice aZ p0.Readings.length bb],.agg #[jV p1.Skier,jV p1.Mat]] w (wBD w [] U (fun U_ L_ v=>v=.tuple #[.agg #[jV r.1.Lo,jV r.1.Hi],jV r.2]/\L_=[])):=by
 unfold wBy at hm
 refine Gv.of Tryz.func24 Z Tryz.ntmps24 Tryz.results24 Z (sR (.fx 0 (.fx 1 gAa .stop) .stop) Z ?_)
 let B0:List Value:=[.slice ay p0.Starts.length a7,.slice az p0.Splits.length a8,.slice aY p0.Clocks.length ba,.slice aZ p0.Readings.length bb]
 refine ZH (cs:=B0) rfl rfl rfl rfl rfl rfl (by rfl) hS ?_
 intro W1 b2 cW
 let B1:List Value:=[jV p1.Skier,jV p1.Mat]
 refine ZH (cs:=B1) rfl rfl rfl rfl rfl rfl (by rfl) cW ?_
 intro W5 b6 cZ
 let O:List Value:=[jV 0,jV 0]
 refine zm (cs:=O) Z Z Z Z Z ZY Z cZ ?_
 intro W9 ae bj
 refine oA Z Z (eN (sR (.fl 0 (.fl 1 (.fx 2 (.fx 3 (wSI (.nil)) .stop) .stop))) Z (oL Z (bj.ldBA (j:=2) Z Z Z Zv Zg (vs:=B0) Z Z) (oL Z (bj.ldBA (j:=1) Z Z Z Tryz.isAgg92 YP (vs:=B1) Z Z) (zb (pv:=[(0,.agg B1.toArray)]) (zs:=O) (cs:=B1) Z Z Z Z Z (wAA Z wAI) Tryz.runUnderlying185 YP YS Z Z Z Z Z bj ?_)))))
 intro bf bC cR
 have cS:sW w U U [.row (some ⟨bC,0,none⟩) 1 92 2 (hD wDg [p1]),.blk ae 76 O,.blk b6 92 B1,.blk b2 83 B0] bf:=cR
 have q:=cS.freezeR (k:=0) (n:=[p1].length) rfl (wAB (f:=wDg) (sz:=2) (fun _=>rfl) [p1]) (by decide)
 obtain ⟨bv,ax,dq,cU⟩:=q
 have cV:sW w U bv [.blk ae 76 O,.blk b6 92 B1,.blk b2 83 B0] bf:=cU
 have cq:=c9.le ax
 have cr:=da.le ax
 have ct:=db.le ax
 have cu:=dd.le ax
 have q:=bnd hm
 obtain ⟨⟨dt,bd⟩,cw,aq⟩:=q
 try dsimp only at aq
 refine zM 0 Z Z Z Z (zK Z Z Tryz.call61 (zD Z (zD Z zO)) Z) cV (fun hs=>wIk p0 ay a7 az a8 aY ba aZ bb [p1] (some ⟨bC,0,none⟩) 1 bf bv hs cq cr ct cu dq cw) (.inr Z) ?_
 rintro ai dx dM ao dG bL bI
 rcases dt with _ | ap
 try dsimp only at aq
 obtain ⟨rfl,rfl⟩:=bI
 have bM:sW w U ai [.blk ae 76 O,.blk b6 92 B1,.blk b2 83 B0] ao:=bL
 refine oM Z Z (oR Z (zi Z Z (v:=.pointer none) Z) (oR Z (zi Z Z (v:=jV bd) Z) (oA Z Z (oA Z Z (eN (zI (sR fL2 Z (oM Z Z (oR Z (ZX Z Z Z) (eN (ifc aq ?_ ?_)))))))))))
 intro bh dh
 refine zn (zt (fun h=>h bh.out)) (kN (zI (ZN ZD [3,2,1,2,0,0,3] gAh (by kernel_rfl) ?_)))
 have bm:=bM.drew
 generalize hw_W57:({ ao with drawn:=ao.drawn + 1 }:World)=bU at bm ⊢
 refine oM Z Z (oL Z (bm.ldBA (j:=1) Z Z Z Tryz.isAgg92 YP (vs:=B1) Z Z) (bnK dh fun dP cy di=>zM 0 Z Z Z Z (zK Z Z Tryz.call63 zO Z) bm (fun hs=>wFn bU ai hs cy) (.inr Z) ?_))
 rintro bw dy dN bB dH cX ⟨rfl,rfl⟩
 have cY:sW w U bw [.blk ae 76 O,.blk b6 92 B1,.blk b2 83 B0] bB:=cX
 refine bnK di fun dQ cz dl=>zM 0 Z Z Z Z (zK Z Z Tryz.call64 (zD Z zO) Z) cY (fun hs=>wLM p1 bB bw hs cz) (.inr Z) ?_
 rintro bQ dz dO bV dI c6 ⟨rfl,rfl⟩
 have dE:sW w U bQ [.blk ae 76 O,.blk b6 92 B1,.blk b2 83 B0] bV:=c6
 cases dl
 intro bh dm
 refine cT Z bh (sR gAf Z (oR Z (zx (pv:=[]) (z:=O) (cs:=O) Z wAI ZY wDU Z Z) (oM Z Z (zh (j:=0) (vs:=O) Z Z Z Z bM Z Z Z Z ZK (zA Z) Z Z Z ?_))))
 intro bW c8
 have bN:sW w U ai [.blk ae 76 O,.blk b6 92 B1,.blk b2 83 B0] bW:=c8
 refine oA Z Z (eN (zP (zR ?_)))
 cases dm
 exact ⟨rfl,_,(wFY (rs:=[.cell 4 76,.tmp 5]) (vs:=[.agg O.toArray,jV bd]) ⟨⟨_,rfl,(wBL yF ZK (bN.blkAt (k:=0) rfl) (vs:=O) rfl rfl)⟩,⟨rfl,trivial⟩⟩ rfl),ai,_,(bN.pick [] _ (by decide) rfl),rfl,rfl⟩
 try dsimp only at aq
 obtain ⟨bg,bp,bD,bq,bE,br,bF,bs,bG,aj,am,ak,bt,bH,rfl,rfl,cA,cC,cD,cE,cG,cH⟩:=bI
 let B3:Res:=.blk bg 180 [.slice bp ap.Race.Starts.length bD,.slice bq ap.Race.Splits.length bE,.slice br ap.Race.Clocks.length bF,.slice bs ap.Race.Readings.length bG,.map (some aj),.slice bt ap.edges.length bH]
 have bO:sW w U ai [B3,.obj aj (.map am ak),.blk ae 76 O,.blk b6 92 B1,.blk b2 83 B0] ao:=bL
 refine oM Z Z (oR Z (zi Z Z (v:=.pointer (some ⟨bg,0,none⟩)) Z) (oR Z (zi Z Z (v:=jV bd) Z) (oA Z Z (oA Z Z (eN (zI (sR fL2 Z (oM Z Z (oR Z (ZX Z Z Z) (eN (ifc aq ?_ ?_)))))))))))
 intro bi dn
 refine zn (zt (fun h=>h bi.out)) (kN (zI (ZN ZD [3,2,1,2,0,0,3] gAh (by kernel_rfl) ?_)))
 have bn:=bO.drew
 generalize hw_W94:({ ao with drawn:=ao.drawn + 1 }:World)=bX at bn ⊢
 refine oM Z Z (oL Z (bn.ldBA (j:=3) Z Z Z Tryz.isAgg92 YP (vs:=B1) Z Z) (bnK dn fun du cI dp=>zM 0 Z Z Z Z (zK Z Z Tryz.call63 zO Z) bn (fun hs=>wFn bX ai hs cI) (.inr Z) ?_))
 rintro bx dA dJ bz au cJ ⟨rfl,rfl⟩
 have cK:sW w U bx [B3,.obj aj (.map am ak),.blk ae 76 O,.blk b6 92 B1,.blk b2 83 B0] bz:=cJ
 refine bnK dp fun dr bY de=>zM 0 Z Z Z Z (zK Z Z Tryz.call64 (zD Z zO) Z) cK (fun hs=>wLM p1 bz bx hs bY) (.inr Z) ?_
 rintro bu dv dK bA av cL ⟨rfl,rfl⟩
 have cM:sW w U bu [B3,.obj aj (.map am ak),.blk ae 76 O,.blk b6 92 B1,.blk b2 83 B0] bA:=cL
 have bZ:=cA.le au
 have ca:=bZ.le av
 have cc:=cC.le au
 have cd:=cc.le av
 have cg:=cD.le au
 have ci:=cg.le av
 have cj:=cE.le au
 have cm:=cj.le av
 have cn:=cH.le au
 have co:=cn.le av
 refine bnK de fun bP cp df=>zM 2 Z Z Z Z (zK Z Z Tryz.call62 (zD Z (zD Z (zD Z zO))) Z) cM (fun hs=>wHd ap bg bp bD bq bE br bF bs bG aj am ak bt bH du dr bA bu hs ca cd ci cm cG co cp) (.inl Z) ?_
 rintro be dw dL bR dF cN ⟨rfl,rfl⟩
 have cO:sW w U be [B3,.obj aj (.map am ak),.blk ae 76 O,.blk b6 92 B1,.blk b2 83 B0] bR:=cN
 let B4:List Value:=[jV bP.Lo,jV bP.Hi]
 refine zh (j:=2) (vs:=B4) Z Z Z Z cO Z Z Z Z ZK (zA Z) Z Z Z ?_
 intro bS cP
 have bJ:sW w U be [B3,.obj aj (.map am ak),.blk ae 76 B4,.blk b6 92 B1,.blk b2 83 B0] bS:=cP
 refine oA Z Z (eN (zP ?_))
 cases df
 exact ⟨rfl,_,(wFY (rs:=[.cell 4 76,.tmp 5]) (vs:=[.agg B4.toArray,jV 0]) ⟨⟨_,rfl,(wBL yF ZK (bJ.blkAt (k:=2) rfl) (vs:=B4) rfl rfl)⟩,⟨rfl,trivial⟩⟩ rfl),be,_,(bJ.pick [] _ (by decide) rfl),rfl,rfl⟩
 intro bi dg
 refine cT Z bi (sR gAf Z (oR Z (zx (pv:=[]) (z:=O) (cs:=O) Z wAI ZY wDU Z Z) (oM Z Z (zh (j:=2) (vs:=O) Z Z Z Z bO Z Z Z Z ZK (zA Z) Z Z Z ?_))))
 intro bT cQ
 have bK:sW w U ai [B3,.obj aj (.map am ak),.blk ae 76 O,.blk b6 92 B1,.blk b2 83 B0] bT:=cQ
 refine oA Z Z (eN (zP (zR ?_)))
 cases dg
 exact ⟨rfl,_,(wFY (rs:=[.cell 4 76,.tmp 5]) (vs:=[.agg O.toArray,jV bd]) ⟨⟨_,rfl,(wBL yF ZK (bK.blkAt (k:=2) rfl) (vs:=O) rfl rfl)⟩,⟨rfl,trivial⟩⟩ rfl),ai,_,(bK.pick [] _ (by decide) rfl),rfl,rfl⟩
theorem wFM (p0:Int) (p1:wAD) (w:World) (U:PHeap) (hS:St0 w U [])  {r:Bool} (hm:wAy p0 p1=some r):Gv Tryz.prog 25 [jV p0,.agg #[jV p1.Lo,jV p1.Hi]] w (wBD w [] U (fun U_ L_ v=>v=.bool r/\L_=[])):=by
 unfold wAy at hm
 refine Gv.of Tryz.func25 rfl Tryz.ntmps25 Tryz.results25 rfl (sR gAb rfl (ZH (cs:=[jV p1.Lo,jV p1.Hi]) rfl rfl rfl rfl rfl rfl (by rfl) hS ?_))
 intro W1 b2 ab
 refine oA Z Z (eN (sR wRx Z (oM Z Z (oR Z (zF Z Z ZM Z zC) (oL Z (ab.ldB (j:=0) Z Z Z zJ (v:=jV p1.Lo) Z) (oR Z (YJ Z Z Z) (oM Z Z ?_)))))))
 by_cases O:p1.Lo <= p0
 have ac:=hm;rw [if_pos O] at ac;replace O:=zH O
 refine zj Z Z Z (wT Z O) Z Z (rU Z (wT Z O) (zF Z Z ZM Z zC) (ZB Z Z Z (wT Z O) (ab.ldB (j:=0) Z Z Z zJ (v:=jV p1.Hi) Z) Z (rU Z (wT Z O) (Runs.leq Z Z Z) (oR Z (zT Z (ZZ O.out) Z) (oA Z Z (eN (zP ?_)))))))
 first | (obtain rfl:=nA ac) | cases ac
 exact ⟨rfl,_,(zz rfl),U,_,(ab.pick [] _ (by decide) rfl),rfl,rfl⟩
 have af:=hm;rw [if_neg O] at af;replace O:=zH O
 refine oF Z O (oF Z O (oF Z O (oF Z O (oR Z (za Z (zt O.out) Z) (oA Z Z (eN (zP ?_)))))))
 have hE:=nA af;first | subst r | cases hE
 exact ⟨rfl,_,(zz rfl),U,_,(ab.pick [] _ (by decide) rfl),rfl,rfl⟩
theorem wFo (p0:List Int) (ig:Option Addr) (ij:Nat) (p1:List Int) (ii:Option Addr) (il:Nat) (w:World) (U:PHeap) (hS:St0 w U []) (uX:Sl U 1 ig ij p0.length (hD KL.encB8 p0)) (uY:Sl U 1 ii il p1.length (hD KL.encB8 p1)) {r:Bool} (hm:wBl p0 p1=some r):Gv Tryz.prog 5 [.slice ig p0.length ij,.slice ii p1.length il] w (wBD w [] U (fun U_ L_ v=>v=.bool r/\L_=[])):=by
 unfold wBl at hm
 refine Gv.of Tryz.func5 Z Tryz.ntmps5 Tryz.results5 Z (sR fL1 Z (oA Z Z (eN (sR (.fl 0 (.fx 1 (.fx 2 (.fx 3 (.fx 4 .nil .stop) .stop) .stop) .stop)) Z (oM Z Z (bnK hm fun x1 h2 wm=>zM 0 Z Z Z Z (zK Z Z Tryz.call7 (zD Z zO) Z) hS (fun hs=>wGi p0 ig ij w U hs uX h2) (.inr Z) ?_))))))
 rintro U4 L5 v6 W7 xu uQ ⟨gh,iv,jp,rfl,rfl,rC⟩
 have tH:sW w U U4 [.blk gh 100 [.slice iv x1.bytes.length jp,jV x1.next,.int .u32 x1.state]] W7:=uQ
 have q:=bnd wm
 obtain ⟨⟨ah,im⟩,rP,lY⟩:=q
 try dsimp only at lY
 refine zM 1 Z Z Z Z (zK Z Z Tryz.call6 (zD Z (zD Z (zD Z zO))) Z) tH (fun hs=>wHV x1 gh iv jp 6 1 W7 U4 hs rC rP) (.inl Z) ?_
 rintro fY xX Bg oa xq tV ⟨eJ,fc,dm,du,oP,ms,oQ,rfl,rfl,rV,AX⟩
 let B0:Res:=.blk gh 100 [.slice ms im.bytes.length oQ,jV im.next,.int .u32 im.state]
 let B1:Res:=.row eJ fc 3 1 (hD KL.encI ah.Rules.Classes)
 let B2:Res:=.row dm du 43 3 oP
 have tZ:sW w U fY [B1,B2,B0] oa:=tV
 refine zm (cs:=[.slice none 0 0,jV 0,jV 0,jV 0,jV 0,jV 0,jV 0,.slice none 0 0]) Z Z Z Z Z Ya Z tZ ?_
 intro Af O ub
 let B3:List Value:=[.slice eJ ah.Rules.Classes.length fc,jV ah.Rules.Each,jV ah.Rules.Laps,jV ah.Rules.Spare,jV ah.Rules.Loop,jV ah.Rules.Unused,jV ah.Start,.slice dm ah.Teams.length du]
 refine zh (j:=0) (vs:=B3) Z Z Z Z ub Z Z Z Z Zk (zA Z) Z Z Z ?_
 intro jg uc
 have ud:sW w U fY [.blk O 28 B3,B1,B2,B0] jg:=uc
 refine eN (sR (.fl 0 (.fx 1 (.fl 2 .nil) .stop)) Z (oM Z Z ?_))
 have sa:=uY.le xu
 have sb:=sa.le xq
 refine bnK lY fun iq sc wr=>zM 0 Z Z Z Z (zK Z Z Tryz.call7 (zD Z zO) Z) ud (fun hs=>wGi p1 ii il jg fY hs sb sc) (.inr Z) ?_
 rintro mM xZ Bh eX xt uk ⟨bx,iz,jw,rfl,rfl,sh⟩
 let B4:Res:=.blk bx 100 [.slice iz iq.bytes.length jw,jV iq.next,.int .u32 iq.state]
 have lJ:sW w U mM [B4,.blk O 28 B3,B1,B2,B0] eX:=uk
 refine oA Z Z (eN (sR (.fl 0 (.fx 1 (wOp (.fx 5 (.fx 6 (.fl 7 .nil) .stop) .stop)) .stop)) Z (oL Z (lJ.ldBA (j:=1) Z Z Z ya Zk (vs:=B3) Z Z) ?_)))
 have q:=lJ.freezeR (k:=2) (n:=ah.Rules.Classes.length) rfl (wAB (f:=KL.encI) (sz:=1) (fun _=>rfl) ah.Rules.Classes) (by decide)
 obtain ⟨mN,mi,wM,uF⟩:=q
 have uG:sW w U mN [B4,.blk O 28 B3,B2,B0] eX:=uF
 have so:=rV.le xt
 have su:=so.le mi
 have q:=uG.freezeRR (R:=wHM) (k:=2) rfl su rfl (by decide)
 obtain ⟨jb,ml,l7,uI⟩:=q
 have uJ:sW w U jb [B4,.blk O 28 B3,B0] eX:=uI
 have li:=wM.le ml
 have q:=bnd wr
 obtain ⟨⟨bm,mp⟩,sw,l4⟩:=q
 try dsimp only at l4
 refine zM 0 Z Z Z Z (zK Z Z Tryz.call8 (zD Z zO) Z) uJ (fun hs=>wLH ah eJ fc dm du eX jb hs li l7 sw) (.inr Z) ?_
 rintro ge z6 Bk ow ie uK ⟨fL,gz,ct,cC,oU,rfl,rfl,sC⟩
 let B5:Res:=.row fL gz 3 1 (hD KL.encI bm.Bibs)
 let B6:Res:=.row ct cC 23 1 oU
 have uT:sW w U ge [B5,B6,B4,.blk O 28 B3,B0] ow:=uK
 refine oM Z Z (oR Z (zi Z Z (v:=.agg #[jV bm.Laps,.slice fL bm.Bibs.length gz,.slice ct bm.Times.length cC]) Z) (oR Z (zi Z Z (v:=jV mp) Z) (zm (cs:=[jV 0,.slice none 0 0,.slice none 0 0]) Z Z Z Z Z YB Z uT ?_)))
 intro Ak ac uU
 let B7:List Value:=[jV bm.Laps,.slice fL bm.Bibs.length gz,.slice ct bm.Times.length cC]
 refine zh (j:=0) (vs:=B7) Z Z Z Z uU Z Z Z Z Zm (zA Z) Z Z Z ?_
 intro ji uW
 have lq:sW w U ge [.blk ac 34 B7,B5,B6,B4,.blk O 28 B3,B0] ji:=uW
 refine oA Z Z (eN (sR (.fl 0 (.fx 1 (wIK (.nil)) .stop)) Z (oL Z (lq.ldBA (j:=4) Z Z Z ya Zk (vs:=B3) Z Z) ?_)))
 have qS:=li.le ie
 have qU:=l7.le ie
 have q:=bnd l4
 obtain ⟨⟨a7,mm⟩,qV,lO⟩:=q
 try dsimp only at lO
 refine zM 0 Z Z Z Z (zK Z Z Tryz.call21 (zD Z (zD Z zO)) Z) lq (fun hs=>wJp ah eJ fc dm du 0 ji ge hs qS qU qV) (.inr Z) ?_
 rintro cj xO A7 mU mc sS ⟨bO,bR,rfl,rfl⟩
 let B8:Res:=.row bO bR 3 1 (hD KL.encI a7)
 have cD:sW w U cj [B8,.blk ac 34 B7,B5,B6,B4,.blk O 28 B3,B0] mU:=sS
 refine oM Z Z (oR Z (zi Z Z (v:=.slice bO a7.length bR) Z) (oR Z (zi Z Z (v:=jV mm) Z) (oA Z Z (oA Z Z (eN (zI (zI (yL fun dE de=>?_))))))))
 have fj:dE 5=.pointer (some ⟨O,0,none⟩):=(de 5).trans rfl
 have pj:dE 6=.pointer (some ⟨bx,0,none⟩):=(de 6).trans rfl
 have jz:dE 7=.pointer (some ⟨ac,0,none⟩):=(de 7).trans rfl
 have pn:dE 8=jV mp:=(de 8).trans rfl
 have jA:dE 9=.slice bO a7.length bR:=(de 9).trans rfl
 have py:dE 10=jV mm:=(de 10).trans rfl
 clear de
 refine rR fL23 Z (oM Z pn (oR Z (ZX Z Z Z) (oM Z Z (ifc lO ?_ ?_))))
 intro cW vu
 refine zj Z Z Z (zN Z Z (zt (fun h=>h cW.out))) Z py (zY Z Z Z (zN Z Z (zt (fun h=>h cW.out))) (fun _=>ZX Z Z Z) (oR Z (za Z (zt (fun h=>h cW.out)) Z) (oM Z Z (ifc vu ?_ ?_))))
 intro bp vv
 refine zY Z Z Z (zN Z Z (zt (fun h=>h bp.out))) (fun _=>zF Z jz ZS Z Zq) (ZB Z Z Z (zN Z Z (zt (fun h=>h bp.out))) (cD.ldB (j:=1) Z Z Z yE (v:=.slice ct bm.Times.length cC) Z) Z (zY Z Z Z (zN Z Z (zt (fun h=>h bp.out))) (fun _=>ze Z Z zu) (zY Z Z Z (zN Z Z (zt (fun h=>h bp.out))) (fun _=>zF Z fj zo Z Zw) (ZB Z Z Z (zN Z Z (zt (fun h=>h bp.out))) (cD.ldB (j:=5) Z Z Z yO (v:=.slice dm ah.Teams.length du) Z) Z (zY Z Z Z (zN Z Z (zt (fun h=>h bp.out))) (fun _=>ze Z Z ZW) (zY Z Z Z (zN Z Z (zt (fun h=>h bp.out))) (fun _=>ZX Z Z Z) (oR Z (za Z (zt (fun h=>h bp.out)) Z) (oM Z Z (ifc vv ?_ ?_)))))))))
 intro bs vw
 refine zj Z Z Z (zN Z Z (zt (fun h=>h bs.out))) Z jA (zY Z Z Z (zN Z Z (zt (fun h=>h bs.out))) (fun _=>ze Z Z zB) (zY Z Z Z (zN Z Z (zt (fun h=>h bs.out))) (fun _=>zF Z fj zo Z Zw) (ZB Z Z Z (zN Z Z (zt (fun h=>h bs.out))) (cD.ldB (j:=5) Z Z Z yO (v:=.slice dm ah.Teams.length du) Z) Z (zY Z Z Z (zN Z Z (zt (fun h=>h bs.out))) (fun _=>ze Z Z ZW) (zY Z Z Z (zN Z Z (zt (fun h=>h bs.out))) (fun _=>ZX Z Z Z) (oR Z (za Z (zt (fun h=>h bs.out)) Z) (eN (ifc vw ?_ ?_))))))))
 intro gm vx
 refine zn (zt (fun h=>h gm.out)) (kN (sR (.fl 0 (.fl 1 (.fx 2 (.fl 3 (.fx 4 (.fx 5 .nil .stop) .stop)) .stop))) Z ?_))
 let B9:List Value:=[jV 0,jV 0]
 refine oR Z (zx (pv:=[(0,jV (-30)),(1,jV 30)]) (z:=B9) (cs:=[jV (-30),jV 30]) Z (wAA Z (wAA Z wAI)) ZY wDU Z Z) ?_
 let cO:List Value:=[jV 0,jV 0,jV 0]
 let fN:List Value:=[jV (-30),jV 30,jV 0]
 refine oR Z (zx (pv:=[(0,.agg #[jV (-30),jV 30])]) (z:=cO) (cs:=fN) Z (wAA Z wAI) Tryz.zeroValue78 wMk Z Z) (zb (pv:=[(0,.agg fN.toArray)]) (zs:=cO) (cs:=fN) Z Z Z Z Z (wAA Z wAI) yK yy Tryz.zeroValue78 Z Z Z Z Z cD ?_)
 intro mZ bj tp
 let ai:Res:=.row (some ⟨bj,0,none⟩) 1 78 3 (hD wAU [(⟨(⟨-30,30⟩:wAD),0⟩:wAR)])
 have tq:sW w U cj [ai,B8,.blk ac 34 B7,B5,B6,B4,.blk O 28 B3,B0] mZ:=tp
 let eR:List Value:=[.slice none 0 0,.slice none 0 0,.slice none 0 0,.slice none 0 0]
 let fO:List Value:=[.slice none 0 0,.slice none 0 0,.slice (some ⟨bj,0,none⟩) 1 1,.slice none 0 0]
 refine oR Z (zx (pv:=[(2,.slice (some ⟨bj,0,none⟩) 1 1)]) (z:=eR) (cs:=fO) Z (wAA Z wAI) Tryz.zeroValue83 wMl Z Z) (zm (cs:=eR) Z Z Z Z Z Tryz.zeroValue83 Z tq ?_)
 intro z8 aj tw
 refine zh (j:=0) (vs:=fO) Z Z Z Z tw Z Z Z Z Zg (zA Z) Z Z Z ?_
 intro m7 tE
 have ly:sW w U cj [.blk aj 83 fO,ai,B8,.blk ac 34 B7,B5,B6,B4,.blk O 28 B3,B0] m7:=tE
 refine eN (zI (sR fL4 Z (oR Z (zF Z fj zo Z ZO) (oR Z (zF Z Z ZA Z zC) (oL Z (ly.ldB (j:=7) Z Z Z zJ (v:=jV ah.Rules.Laps) Z) (oM Z Z (eN (zU (bnK vx fun av u7 wk=>?_)))))))))
 have q:=wAn u7
 obtain ⟨gZ,u9⟩:=q
 replace gZ:=zH gZ
 refine CK.forN' (fun d9 df σ_ w_=>∃ (U_:PHeap) (dl:Option Addr) (dt:Nat),σ_ 73=jV (↑d9:Int)/\σ_ 5=.pointer (some ⟨O,0,none⟩)/\σ_ 6=.pointer (some ⟨bx,0,none⟩)/\σ_ 7=.pointer (some ⟨ac,0,none⟩)/\σ_ 9=.slice bO a7.length bR/\σ_ 11=.pointer (some ⟨aj,0,none⟩)/\σ_ 72=jV ah.Rules.Laps/\PHeap.Le cj U_/\sW w U U_ [.row dl dt 76 2 (hD wAH df),ai,.blk aj 83 [.slice none 0 0,.slice dl df.length dt,.slice (some ⟨bj,0,none⟩) ([(⟨(⟨-30,30⟩:wAD),0⟩:wAR)].length) 1,.slice none 0 0],B5,B6,.blk ac 34 B7,B4,.blk O 28 B3,B0,B8] w_) u9 ?_ ?_ ?_
 have tL:=ly.nilrow 76 2
 exact ⟨cj,none,0,rfl,fj,pj,jz,jA,rfl,rfl,(zL _),(tL.pick [0,2,1,5,6,4,7,8,9,3] _ (by decide) rfl)⟩
 rintro d9 df Bs BF Ac gV ⟨eV,dl,dt,j5,pS,pT,pU,pV,gE,jJ,xp,lB⟩ wN
 have jr:Hid ((↑d9:Int) < ah.Rules.Laps):=zH (wAj gV)
 replace gV:=zH gV
 have vp:Hid (w64 ((↑d9:Int) + 1)=(↑(d9 + 1):Int)):=zH (by have h1:=gZ.out;have h2:=jr.out;rw [wAX] <;> omega)
 refine sR fL1 Z (oR Z (zW Z j5 jJ) (eN (zI (cT Z jr (kN (zI (zU (rR (wCK gAg) Z (oR Z (zF Z gE zq Z yz) (oL Z (lB.ldB (j:=2) Z Z Z Yb (v:=.slice dl df.length dt) Z) ?_))))))))))
 let fP:List Value:=[jV 1,jV 9000]
 refine oR Z (zx (pv:=[(0,jV 1),(1,jV 9000)]) (z:=B9) (cs:=fP) Z (wAA Z (wAA Z wAI)) ZY wDU Z Z) (zb (pv:=[(0,.agg fP.toArray)]) (zs:=B9) (cs:=fP) Z Z Z Z Z (wAA Z wAI) ZQ ZK ZY Z Z Z Z Z lB ?_)
 intro n5 oz tM
 let fQ:Res:=.row (some ⟨oz,0,none⟩) 1 76 2 (hD wAH [(⟨1,9000⟩:wAD)])
 let iC:Res:=.blk aj 83 [.slice none 0 0,.slice dl df.length dt,.slice (some ⟨bj,0,none⟩) ([(⟨(⟨-30,30⟩:wAD),0⟩:wAR)].length) 1,.slice none 0 0]
 have lC:sW w U eV [fQ,.row dl dt 76 2 (hD wAH df),ai,iC,B5,B6,.blk ac 34 B7,B4,.blk O 28 B3,B0,B8] n5:=tM
 refine bnK wN fun fC rQ wl=>Zr (j:=1) (enc:=wAH) (xs:=df) (ys:=[(⟨1,9000⟩:wAD)]) (zs:=fC) rfl rfl rfl rfl rfl Tryz.underlying80 wOO rfl rfl rfl rfl rfl rfl lC rfl rfl rfl (lC.srcR (j:=0) rfl (by decide) (wAB (f:=wAH) (sz:=2) (fun _=>rfl) [(⟨1,9000⟩:wAD)])) (fun _=>rfl) (fun _=>rfl) rQ rfl ?_
 intro eI fb n7 tN
 let iD:Res:=.row eI fb 76 2 (hD wAH fC)
 have tO:sW w U eV [fQ,iD,ai,iC,B5,B6,.blk ac 34 B7,B4,.blk O 28 B3,B0,B8] n7:=tN
 refine oR Z (zF Z gE zq Z yz) (zh (j:=3) (vs:=[.slice eI fC.length fb]) Z Z Z Z tO Z Z Z Z yz (zA Z) Z Z Z ?_)
 intro n8 tP
 have tQ:sW w U eV [fQ,iD,ai,.blk aj 83 [.slice none 0 0,.slice eI fC.length fb,.slice (some ⟨bj,0,none⟩) ([(⟨(⟨-30,30⟩:wAD),0⟩:wAR)].length) 1,.slice none 0 0],B5,B6,.blk ac 34 B7,B4,.blk O 28 B3,B0,B8] n8:=tP
 refine zg (zf (zG (rR fL2 Z (oR Z (zr (zX Z j5 Z) (congrArg (jV) vp.out)) (oM Z Z (zg ?_))))))
 cases wl
 exact zG ⟨rfl,⟨eV,eI,fb,rfl,pS,pT,pU,pV,gE,jJ,xp,(tQ.pick [1,2,3,4,5,6,7,8,9,10] _ (by decide) rfl)⟩⟩
 rintro BG Ad ⟨iZ,ax,aY,qv,pY,pZ,p6,p7,jK,p8,mf,lD⟩
 have oO:Hid (¬ ((↑((ah.Rules.Laps:Int) - 0).toNat:Int) < ah.Rules.Laps)):=zH (wAc)
 refine sR fL1 Z (oR Z (zW Z qv p8) (eN (zI (cF Z oO (ZJ (zd (zd (ZG (zG (sR (wCK (.fx 3 (.fl 4 (.fx 5 (.fx 6 .nil .stop) .stop)) .stop)) Z (oR Z (zF Z jK zq Z yz) (oL Z (lD.ldB (j:=2) Z Z Z Yb (v:=.slice ax av.length aY) Z) (oR Z (zx (pv:=[]) (z:=cO) (cs:=cO) Z wAI Tryz.zeroValue78 wMk Z Z) (zb (pv:=[(0,.agg cO.toArray)]) (zs:=cO) (cs:=cO) Z Z Z Z Z (wAA Z wAI) yK yy Tryz.zeroValue78 Z Z Z Z Z lD ?_))))))))))))))
 intro n9 bF tR
 let ak:Res:=.row (some ⟨bF,0,none⟩) 1 78 3 (hD wAU [(⟨(⟨0,0⟩:wAD),0⟩:wAR)])
 let an:Res:=.row ax aY 76 2 (hD wAH av)
 let fR:Res:=.blk aj 83 [.slice none 0 0,.slice ax av.length aY,.slice (some ⟨bj,0,none⟩) ([(⟨(⟨-30,30⟩:wAD),0⟩:wAR)].length) 1,.slice none 0 0]
 have tS:sW w U iZ [ak,an,ai,fR,B5,B6,.blk ac 34 B7,B4,.blk O 28 B3,B0,B8] n9:=tR
 let eT:List Value:=[.slice none 0 0,.slice ax av.length aY,.slice (some ⟨bF,0,none⟩) 1 1,.slice none 0 0]
 refine oR Z (zx (pv:=[(1,.slice ax av.length aY),(2,.slice (some ⟨bF,0,none⟩) 1 1)]) (z:=eR) (cs:=eT) Z (wAA Z (wAA Z wAI)) Tryz.zeroValue83 wMl Z Z) (zm (cs:=eR) Z Z Z Z Z Tryz.zeroValue83 Z tS ?_)
 intro Ae ao tT
 refine zh (j:=0) (vs:=eT) Z Z Z Z tT Z Z Z Z Zg (zA Z) Z Z Z ?_
 intro jf tU
 have lE:sW w U iZ [.blk ao 83 eT,ak,an,ai,fR,B5,B6,.blk ac 34 B7,B4,.blk O 28 B3,B0,B8] jf:=tU
 refine eN (sR fL2 Z (oA Z Z (oA Z Z (eN (zI (sR fL4 Z (oR Z (zF Z p6 ZS Z Zq) (oL Z (lE.ldB (j:=7) Z Z Z yE (v:=.slice ct bm.Times.length cC) Z) (oR Z (ze Z Z zu) (oM Z Z (eN (zU ?_))))))))))))
 have rS:=sC.le mc
 have rT:=rS.le mf
 have q:=lE.freezeRR (R:=wDl) (k:=6) rfl rT rfl (by decide)
 obtain ⟨fZ,xr,wL,tW⟩:=q
 have tX:sW w U fZ [.blk ao 83 eT,ak,an,ai,fR,B5,.blk ac 34 B7,B4,.blk O 28 B3,B0,B8] jf:=tW
 have q:=bnd wk
 obtain ⟨⟨dC,bG,dD,xG,xH,xI,bt,bn⟩,va,lZ⟩:=q
 try dsimp only at lZ
 have q:=wAn va
 obtain ⟨g8,vb⟩:=q
 replace g8:=zH g8
 refine CK.forN' (fun bb (eh,au,ej,eo,io,ip,cH,cI) σ_ w_=>∃ (U_:PHeap) (cJ:Option Addr) (cZ:Nat) (bu:Option Addr) (bz:Nat) (cK:Option Addr) (c6:Nat) (dn:Option Addr) (dv:Nat) (cq:Option Addr) (cz:Nat) (cr:Option Addr) (cA:Nat),σ_ 90=jV (↑bb:Int)/\σ_ 5=.pointer (some ⟨O,0,none⟩)/\σ_ 6=.pointer (some ⟨bx,0,none⟩)/\σ_ 9=.slice bO a7.length bR/\σ_ 11=.pointer (some ⟨aj,0,none⟩)/\σ_ 12=.pointer (some ⟨ao,0,none⟩)/\σ_ 13=.slice cq cH.length cz/\σ_ 14=.slice cr cI.length cA/\σ_ 88=.slice ct bm.Times.length cC/\σ_ 89=jV (↑bm.Times.length:Int)/\PHeap.Le fZ U_/\sW w U U_ [an,ak,.row cJ cZ 85 4 (hD wAG eh),.blk ao 83 [.slice none 0 0,.slice ax av.length aY,.slice (some ⟨bF,0,none⟩) ([(⟨(⟨0,0⟩:wAD),0⟩:wAR)].length) 1,.slice cJ eh.length cZ],.row bu bz 3 1 (hD KL.encI au),ai,.row cK c6 85 4 (hD wAG ej),.blk aj 83 [.slice bu au.length bz,.slice ax av.length aY,.slice (some ⟨bj,0,none⟩) ([(⟨(⟨-30,30⟩:wAD),0⟩:wAR)].length) 1,.slice cK ej.length c6],B5,.blk ac 34 B7,.blk bx 100 [.slice dn eo.length dv,jV io,.int .u32 ip],.blk O 28 B3,B0,B8,.row cq cz 3 1 (hD KL.encI cH),.row cr cA 3 1 (hD KL.encI cI)] w_/\Sl U_ 1 dn dv eo.length (hD KL.encB8 eo)) vb ?_ ?_ ?_
 have tY:=tX.nilrow 85 4
 have t6:=tY.nilrow 3 1
 have t7:=t6.nilrow 85 4
 have t8:=t7.nilrow 3 1
 have ua:=t8.nilrow 3 1
 have rW:=sh.le mi
 have rX:=rW.le ml
 have rY:=rX.le ie
 have rZ:=rY.le mc
 have r6:=rZ.le mf
 have r7:=r6.le xr
 exact ⟨fZ,none,0,none,0,none,0,iz,jw,none,0,none,0,rfl,pY,pZ,p7,jK,rfl,rfl,rfl,rfl,rfl,(zL _),(ua.pick [7,6,4,5,3,8,2,9,10,11,12,13,14,15,1,0] _ (by decide) rfl),r7⟩
 rintro bb ⟨eh,au,ej,eo,io,ip,cH,cI⟩ Bt BH Ag gW ⟨dr,cJ,cZ,bu,bz,cK,c6,dn,dv,cq,cz,cr,cA,dU,ft,jL,jM,jN,jO,jP,jQ,gF,gG,ic,d7,lb⟩ ma
 try dsimp only at ma
 have jt:Hid ((↑bb:Int) < (↑bm.Times.length:Int)):=zH (wAj gW)
 replace gW:=zH gW
 have lM:Hid (w64 ((↑bb:Int) + 1)=(↑(bb + 1):Int)):=zH (by have h1:=g8.out;have h2:=jt.out;rw [wAX] <;> omega)
 refine sR fL1 Z (oR Z (zW Z dU gG) (eN (zI (cT Z jt (kN (zI (zU (sR fL5 Z (oM Z dU (bnK ma fun dB lc wn=>?_))))))))))
 have r8:=wL.le ic
 have q:=r8.el (wAV lc)
 obtain ⟨oB,xv,Bl,sD,gP,wG⟩:=q
 obtain ⟨ey,ez,rfl,lf⟩:=wG
 replace gP:Cl dr oB (xv + bb * 1) [.slice ey dB.length ez]:=gP
 refine oR Z (ZE Z gF sD dU zu zS (wAq lc)) (oL Z (d7.ldC (f:=0) gP (v:=.slice ey dB.length ez) Z Z zZ Z) (oA Z Z (oA Z Z (eN (zI (sR fL6 Z (oM Z Z (oR Z (ze Z Z zB) (oR Z (zF Z ft zo Z ZO) (oR Z (zF Z Z ZA Z zC) (oL Z (d7.ldB (j:=11) Z Z Z zJ (v:=jV ah.Rules.Laps) Z) (oR Z (zW Z Z Z) (eN (ifc wn ?_ ?_))))))))))))))
 intro gv wo
 refine cT Z gv (ZJ (zd (ZG (zG (rR fL2 Z (oR Z (zr (zX Z dU Z) (congrArg (jV) lM.out)) (oM Z Z (zg ?_))))))))
 cases wo
 exact zG ⟨Z,⟨dr,cJ,cZ,bu,bz,cK,c6,dn,dv,cq,cz,cr,cA,Z,ft,jL,jM,jN,jO,jP,jQ,gF,gG,ic,d7,lb⟩⟩
 intro gv wp
 refine cF Z gv (kN (zI (sR (.fl 0 (.fl 1 (.fx 2 (.fl 3 (.fx 4 (.fl 5 (.fl 6 .nil)) .stop)) .stop))) Z (oR Z (zF Z ft zo Z zC) (oL Z (d7.ldB (j:=11) Z Z Z zJ (v:=jV ah.Start) Z) (zb (pv:=[(0,jV ah.Start)]) (zs:=[jV 0]) (cs:=[jV ah.Start]) Z Z Z Z Z (wAA Z wAI) zB zC zw Z Z Z Z Z d7 ?_))))))
 intro oc oC ue
 let bd:Res:=.row bu bz 3 1 (hD KL.encI au)
 let be:Res:=.row cq cz 3 1 (hD KL.encI cH)
 let bf:Res:=.row cr cA 3 1 (hD KL.encI cI)
 let iE:Res:=.blk aj 83 [.slice bu au.length bz,.slice ax av.length aY,.slice (some ⟨bj,0,none⟩) ([(⟨(⟨-30,30⟩:wAD),0⟩:wAR)].length) 1,.slice cK ej.length c6]
 let iF:Res:=.blk ao 83 [.slice none 0 0,.slice ax av.length aY,.slice (some ⟨bF,0,none⟩) ([(⟨(⟨0,0⟩:wAD),0⟩:wAR)].length) 1,.slice cJ eh.length cZ]
 let iG:Res:=.blk bx 100 [.slice dn eo.length dv,jV io,.int .u32 ip]
 let iH:Res:=.row cJ cZ 85 4 (hD wAG eh)
 let iI:Res:=.row cK c6 85 4 (hD wAG ej)
 have lF:sW w U dr [.row (some ⟨oC,0,none⟩) 1 3 1 (hD KL.encI [ah.Start]),an,ak,iH,iF,bd,ai,iI,iE,B5,.blk ac 34 B7,iG,.blk O 28 B3,B0,B8,be,bf] oc:=ue
 refine oM Z Z (bnK wp fun aw r9 wq=>Zr (j:=0) (enc:=KL.encI) (xs:=[ah.Start]) (ys:=dB) (zs:=aw) Z Z Z Z Z Zn wFr Z Z Z Z Z Z lF Z Z Z (lF.srcS lf) (fun _=>Z) (fun _=>Z) r9 Z ?_)
 intro iy ju od uf
 let ay:Res:=.row iy ju 3 1 (hD KL.encI aw)
 have ug:sW w U dr [ay,an,ak,iH,iF,bd,ai,iI,iE,B5,.blk ac 34 B7,iG,.blk O 28 B3,B0,B8,be,bf] od:=uf
 refine oR Z (ze Z Z zB) (oM Z Z (eN (zU ?_)))
 have q:=bnd wq
 obtain ⟨⟨mq,it,xJ,xK,xM⟩,vc,l0⟩:=q
 try dsimp only at l0
 have q:=wAn vc
 obtain ⟨g9,vd⟩:=q
 replace g9:=zH g9
 refine CK.forN' (fun am (dg,cp,dz,fD,fE) σ_ w_=>∃ (U_:PHeap) (cL:Option Addr) (c8:Nat) (cM:Option Addr) (c9:Nat) (dH:Option Addr) (dR:Nat),σ_ 107=jV (↑am:Int)/\σ_ 5=.pointer (some ⟨O,0,none⟩)/\σ_ 6=.pointer (some ⟨bx,0,none⟩)/\σ_ 9=.slice bO a7.length bR/\σ_ 11=.pointer (some ⟨aj,0,none⟩)/\σ_ 12=.pointer (some ⟨ao,0,none⟩)/\σ_ 13=.slice cq cH.length cz/\σ_ 14=.slice cr cI.length cA/\σ_ 15=jV (↑bb:Int)/\σ_ 16=.slice ey dB.length ez/\σ_ 88=.slice ct bm.Times.length cC/\σ_ 89=jV (↑bm.Times.length:Int)/\σ_ 90=jV (↑bb:Int)/\σ_ 105=.slice iy aw.length ju/\σ_ 106=jV (↑aw.length:Int)/\PHeap.Le dr U_/\sW w U U_ [an,ak,.row cL c8 85 4 (hD wAG dg),.blk ao 83 [.slice none 0 0,.slice ax av.length aY,.slice (some ⟨bF,0,none⟩) ([(⟨(⟨0,0⟩:wAD),0⟩:wAR)].length) 1,.slice cL dg.length c8],bd,ai,.row cM c9 85 4 (hD wAG cp),.blk aj 83 [.slice bu au.length bz,.slice ax av.length aY,.slice (some ⟨bj,0,none⟩) ([(⟨(⟨-30,30⟩:wAD),0⟩:wAR)].length) 1,.slice cM cp.length c9],B5,.blk ac 34 B7,.blk bx 100 [.slice dH dz.length dR,jV fD,.int .u32 fE],.blk O 28 B3,B0,B8,be,bf,ay] w_/\Sl U_ 1 dH dR dz.length (hD KL.encB8 dz)) vd ?_ ?_ ?_
 exact ⟨dr,cJ,cZ,cK,c6,dn,dv,rfl,ft,jL,jM,jN,jO,jP,jQ,rfl,rfl,gF,gG,dU,rfl,rfl,(zL _),(ug.pick [1,2,3,4,5,6,7,8,9,10,11,12,13,14,15,16,0] _ (by decide) rfl),lb⟩
 rintro am ⟨dg,cp,dz,fD,fE⟩ Bu BI Ah gX ⟨gb,cL,c8,cM,c9,dH,dR,dV,jR,gH,jS,db,fu,jT,jU,jW,jX,jY,jZ,j0,gI,gJ,mg,fy,sd⟩ mb
 try dsimp only at mb
 have jv:Hid ((↑am:Int) < (↑aw.length:Int)):=zH (wAj gX)
 replace gX:=zH gX
 have lN:Hid (w64 ((↑am:Int) + 1)=(↑(am + 1):Int)):=zH (by have h1:=g9.out;have h2:=jv.out;rw [wAX] <;> omega)
 refine sR fL1 Z (oR Z (zW Z dV gJ) (eN (zI (cT Z jv (kN (zI (zU (sR fL5 Z (oM Z dV (bnK mb fun _ gN wt=>?_))))))))))
 have q:=fy.rowSome (j:=16) rfl (by rw [wAB (f:=KL.encI) (sz:=1) (fun _=>rfl) aw];have hz:=wAS gN;omega)
 obtain ⟨Aq,lm⟩:=q
 refine oR Z (ZE Z gI lm dV zB zC (wAS gN)) ?_
 have vn:=wBK (xs:=aw) (wAS gN)
 refine ZB rfl rfl rfl rfl (fy.ldR (j:=16) rfl lm rfl rfl zJ (wAW (sz:=1) (fun _=>rfl) _ _ 0 _ vn (by first | omega | rfl | simp) rfl)) rfl (yU rfl rfl rfl rfl rfl rfl (yU rfl rfl rfl rfl rfl rfl (eN (sR (wGx (.fx 6 (.fx 7 .nil .stop) .stop)) rfl (zY rfl rfl rfl rfl (fun _=>zF rfl db zq rfl zS) (ZB rfl rfl rfl rfl (fy.ldB (j:=7) rfl rfl rfl zZ (v:=.slice bu au.length bz) rfl) rfl (zY rfl rfl rfl rfl (fun _=>ze rfl rfl zB) (zj rfl rfl rfl rfl rfl rfl (zj rfl rfl rfl rfl rfl rfl ?_)))))))))
 let bH:List Value:=[jV (↑au.length:Int),jV (↑am:Int),jV 0,jV (gd aw am)]
 let dK:List Value:=[jV 0,jV 0,jV 0,jV 0]
 refine oR Z (zx (pv:=[(0,jV (↑au.length:Int)),(1,jV (↑am:Int)),(3,jV (gd aw am))]) (z:=dK) (cs:=bH) Z (wAA Z (wAA Z (wAA Z wAI))) YD wPD Z Z) (zm (cs:=dK) Z Z Z Z Z YD Z fy ?_)
 intro Ai bw uh
 refine zh (j:=0) (vs:=bH) Z Z Z Z uh Z Z Z Z yI (zA Z) Z Z Z ?_
 intro gg ui
 let bC:Res:=.blk aj 83 [.slice bu au.length bz,.slice ax av.length aY,.slice (some ⟨bj,0,none⟩) ([(⟨(⟨-30,30⟩:wAD),0⟩:wAR)].length) 1,.slice cM cp.length c9]
 let bY:Res:=.blk ao 83 [.slice none 0 0,.slice ax av.length aY,.slice (some ⟨bF,0,none⟩) ([(⟨(⟨0,0⟩:wAD),0⟩:wAR)].length) 1,.slice cL dg.length c8]
 let bQ:Res:=.row cM c9 85 4 (hD wAG cp)
 let cu:Res:=.row cL c8 85 4 (hD wAG dg)
 let iJ:Res:=.blk bx 100 [.slice dH dz.length dR,jV fD,.int .u32 fE]
 have uj:sW w U gb [.blk bw 85 bH,an,ak,cu,bY,bd,ai,bQ,bC,B5,.blk ac 34 B7,iJ,.blk O 28 B3,B0,B8,be,bf,ay] gg:=ui
 refine eN (zI (sR (.fl 0 (.fx 1 .nil .stop)) Z (oM Z gH ?_)))
 have q:=bnd wt
 obtain ⟨⟨Bq,ir⟩,se,l3⟩:=q
 try dsimp only at l3
 have ul:sW w U gb [iJ,.blk bw 85 bH,an,ak,cu,bY,bd,ai,bQ,bC,B5,.blk ac 34 B7,.blk O 28 B3,B0,B8,be,bf,ay] gg:=uj.pick [11,0,1,2,3,4,5,6,7,8,9,10,12,13,14,15,16,17] _ (by decide) rfl
 refine zM 1 Z Z Z Z (zK Z Z Tryz.call22 (zD Z (zD Z zO)) Z) ul (fun hs=>wCD (⟨dz,fD,fE⟩:wAC) bx dH dR 2 gg gb hs sd se) (.inl Z) ?_
 rintro bv x8 Bi oe mh um ⟨fJ,gw,rfl,rfl,lh⟩
 let bD:Res:=.blk bx 100 [.slice fJ ir.bytes.length gw,jV ir.next,.int .u32 ir.state]
 have d8:sW w U bv [bD,.blk bw 85 bH,an,ak,cu,bY,bd,ai,bQ,bC,B5,.blk ac 34 B7,.blk O 28 B3,B0,B8,be,bf,ay] oe:=um
 refine eN (ifc l3 ?_ ?_)
 intro gx wu
 refine zy (congrArg nB gx.out) (rR (wCK gAg) Z (oR Z (zF Z fu zq Z yQ) (oL Z (d8.ldB (j:=5) Z Z Z YU (v:=.slice cL dg.length c8) Z) (oL Z (d8.ldBA (j:=1) Z Z Z Tryz.isAgg85 yI (vs:=bH) Z Z) (zb (pv:=[(0,.agg bH.toArray)]) (zs:=dK) (cs:=bH) Z Z Z Z Z (wAA Z wAI) yb yI YD Z Z Z Z Z d8 ?_)))))
 intro og oD un
 let cP:Res:=.row (some ⟨oD,0,none⟩) 1 85 4 (hD wAG [(⟨(↑au.length:Int),(↑am:Int),0,(gd aw am)⟩:wAP)])
 have lG:sW w U bv [cP,bD,.blk bw 85 bH,an,ak,cu,bY,bd,ai,bQ,bC,B5,.blk ac 34 B7,.blk O 28 B3,B0,B8,be,bf,ay] og:=un
 refine bnK wu fun fG sf wv=>Zr (j:=5) (enc:=wAG) (xs:=dg) (ys:=[(⟨(↑au.length:Int),(↑am:Int),0,(gd aw am)⟩:wAP)]) (zs:=fG) rfl rfl rfl rfl rfl Tryz.underlying81 wOP rfl rfl rfl rfl rfl rfl lG rfl rfl rfl (lG.srcR (j:=0) rfl (by decide) (wAB (f:=wAG) (sz:=4) (fun _=>rfl) [(⟨(↑au.length:Int),(↑am:Int),0,(gd aw am)⟩:wAP)])) (fun _=>rfl) (fun _=>rfl) sf rfl ?_
 intro eK fd oh uo
 let dp:Res:=.row eK fd 85 4 (hD wAG fG)
 have uq:sW w U bv [cP,bD,.blk bw 85 bH,an,ak,dp,bY,bd,ai,bQ,bC,B5,.blk ac 34 B7,.blk O 28 B3,B0,B8,be,bf,ay] oh:=uo
 refine oR Z (zF Z fu zq Z yQ) (zh (j:=6) (vs:=[.slice eK fG.length fd]) Z Z Z Z uq Z Z Z Z yQ (zA Z) Z Z Z ?_)
 intro oi ur
 let dL:Res:=.blk ao 83 [.slice none 0 0,.slice ax av.length aY,.slice (some ⟨bF,0,none⟩) ([(⟨(⟨0,0⟩:wAD),0⟩:wAR)].length) 1,.slice eK fG.length fd]
 have lH:sW w U bv [cP,bD,.blk bw 85 bH,an,ak,dp,dL,bd,ai,bQ,bC,B5,.blk ac 34 B7,.blk O 28 B3,B0,B8,be,bf,ay] oi:=ur
 refine eN (sR (wEL (.fx 4 .nil .stop)) Z (oR Z (zF Z Z Zt Z zC) (oL Z (lH.ldB (j:=2) Z Z Z zJ (v:=jV (gd aw am)) Z) (oR Z (zX Z Z Z) (oR Z (zF Z Z Zt Z zC) (zh (j:=2) (vs:=[jV (w64 ((gd aw am) + 17))]) Z Z Z Z lH Z Z Z Z zC (zA Z) Z Z Z ?_))))))
 intro oj ut
 let cQ:List Value:=[jV (↑au.length:Int),jV (↑am:Int),jV 0,jV (w64 ((gd aw am) + 17))]
 have gS:sW w U bv [cP,bD,.blk bw 85 cQ,an,ak,dp,dL,bd,ai,bQ,bC,B5,.blk ac 34 B7,.blk O 28 B3,B0,B8,be,bf,ay] oj:=ut
 refine eN (rR (wCK gAg) Z (oR Z (zF Z db zq Z yQ) (oL Z (gS.ldB (j:=10) Z Z Z YU (v:=.slice cM cp.length c9) Z) (oL Z (gS.ldBA (j:=2) Z Z Z Tryz.isAgg85 yI (vs:=cQ) Z Z) (zb (pv:=[(0,.agg cQ.toArray)]) (zs:=dK) (cs:=cQ) Z Z Z Z Z (wAA Z wAI) yb yI YD Z Z Z Z Z gS ?_)))))
 intro ol oE uu
 let fS:Res:=.row (some ⟨oE,0,none⟩) 1 85 4 (hD wAG [(⟨(↑au.length:Int),(↑am:Int),0,w64 ((gd aw am) + 17)⟩:wAP)])
 have lI:sW w U bv [fS,cP,bD,.blk bw 85 cQ,an,ak,dp,dL,bd,ai,bQ,bC,B5,.blk ac 34 B7,.blk O 28 B3,B0,B8,be,bf,ay] ol:=uu
 refine bnK wv fun fH sg ww=>Zr (j:=10) (enc:=wAG) (xs:=cp) (ys:=[(⟨(↑au.length:Int),(↑am:Int),0,w64 ((gd aw am) + 17)⟩:wAP)]) (zs:=fH) rfl rfl rfl rfl rfl Tryz.underlying81 wOP rfl rfl rfl rfl rfl rfl lI rfl rfl rfl (lI.srcR (j:=0) rfl (by decide) (wAB (f:=wAG) (sz:=4) (fun _=>rfl) [(⟨(↑au.length:Int),(↑am:Int),0,w64 ((gd aw am) + 17)⟩:wAP)])) (fun _=>rfl) (fun _=>rfl) sg rfl ?_
 intro eM ff om uv
 let iK:Res:=.row eM ff 85 4 (hD wAG fH)
 have uw:sW w U bv [fS,cP,bD,.blk bw 85 cQ,an,ak,dp,dL,bd,ai,iK,bC,B5,.blk ac 34 B7,.blk O 28 B3,B0,B8,be,bf,ay] om:=uv
 refine oR Z (zF Z db zq Z yQ) (zh (j:=11) (vs:=[.slice eM fH.length ff]) Z Z Z Z uw Z Z Z Z yQ (zA Z) Z Z Z ?_)
 intro oo ux
 have uy:sW w U bv [fS,cP,bD,.blk bw 85 cQ,an,ak,dp,dL,bd,ai,iK,.blk aj 83 [.slice bu au.length bz,.slice ax av.length aY,.slice (some ⟨bj,0,none⟩) ([(⟨(⟨-30,30⟩:wAD),0⟩:wAR)].length) 1,.slice eM fH.length ff],B5,.blk ac 34 B7,.blk O 28 B3,B0,B8,be,bf,ay] oo:=ux
 refine zg (zf (zG (rR fL2 Z (oR Z (zr (zX Z dV Z) (congrArg (jV) lN.out)) (oM Z Z (zg ?_))))))
 cases ww
 exact zG ⟨rfl,⟨bv,eK,fd,eM,ff,fJ,gw,rfl,jR,gH,jS,db,fu,jT,jU,jW,jX,jY,jZ,j0,gI,gJ,(mg.trans mh),(uy.pick [4,5,6,7,8,9,10,11,12,13,2,14,15,16,17,18,19] _ (by decide) rfl),lh⟩⟩
 intro gx wy
 refine zn (congrArg nB (Bool.eq_false_iff.2 gx.out)) (kN (sR (wEL (.fx 4 .nil .stop)) Z (oR Z (zF Z Z Zt Z zC) (oL Z (d8.ldB (j:=1) Z Z Z zJ (v:=jV (gd aw am)) Z) (oR Z (zX Z Z Z) (oR Z (zF Z Z Zt Z zC) (zh (j:=1) (vs:=[jV (w64 ((gd aw am) + 17))]) Z Z Z Z d8 Z Z Z Z zC (zA Z) Z Z Z ?_)))))))
 intro oq uz
 let cR:List Value:=[jV (↑au.length:Int),jV (↑am:Int),jV 0,jV (w64 ((gd aw am) + 17))]
 have gT:sW w U bv [bD,.blk bw 85 cR,an,ak,cu,bY,bd,ai,bQ,bC,B5,.blk ac 34 B7,.blk O 28 B3,B0,B8,be,bf,ay] oq:=uz
 refine eN (rR (wCK gAg) Z (oR Z (zF Z db zq Z yQ) (oL Z (gT.ldB (j:=9) Z Z Z YU (v:=.slice cM cp.length c9) Z) (oL Z (gT.ldBA (j:=1) Z Z Z Tryz.isAgg85 yI (vs:=cR) Z Z) (zb (pv:=[(0,.agg cR.toArray)]) (zs:=dK) (cs:=cR) Z Z Z Z Z (wAA Z wAI) yb yI YD Z Z Z Z Z gT ?_)))))
 intro ot oG uA
 let fT:Res:=.row (some ⟨oG,0,none⟩) 1 85 4 (hD wAG [(⟨(↑au.length:Int),(↑am:Int),0,w64 ((gd aw am) + 17)⟩:wAP)])
 have lK:sW w U bv [fT,bD,.blk bw 85 cR,an,ak,cu,bY,bd,ai,bQ,bC,B5,.blk ac 34 B7,.blk O 28 B3,B0,B8,be,bf,ay] ot:=uA
 refine bnK wy fun fI sj wz=>Zr (j:=9) (enc:=wAG) (xs:=cp) (ys:=[(⟨(↑au.length:Int),(↑am:Int),0,w64 ((gd aw am) + 17)⟩:wAP)]) (zs:=fI) rfl rfl rfl rfl rfl Tryz.underlying81 wOP rfl rfl rfl rfl rfl rfl lK rfl rfl rfl (lK.srcR (j:=0) rfl (by decide) (wAB (f:=wAG) (sz:=4) (fun _=>rfl) [(⟨(↑au.length:Int),(↑am:Int),0,w64 ((gd aw am) + 17)⟩:wAP)])) (fun _=>rfl) (fun _=>rfl) sj rfl ?_
 intro eO fg ou uB
 let iL:Res:=.row eO fg 85 4 (hD wAG fI)
 have uC:sW w U bv [fT,bD,.blk bw 85 cR,an,ak,cu,bY,bd,ai,iL,bC,B5,.blk ac 34 B7,.blk O 28 B3,B0,B8,be,bf,ay] ou:=uB
 refine oR Z (zF Z db zq Z yQ) (zh (j:=10) (vs:=[.slice eO fI.length fg]) Z Z Z Z uC Z Z Z Z yQ (zA Z) Z Z Z ?_)
 intro ov uD
 have uE:sW w U bv [fT,bD,.blk bw 85 cR,an,ak,cu,bY,bd,ai,iL,.blk aj 83 [.slice bu au.length bz,.slice ax av.length aY,.slice (some ⟨bj,0,none⟩) ([(⟨(⟨-30,30⟩:wAD),0⟩:wAR)].length) 1,.slice eO fI.length fg],B5,.blk ac 34 B7,.blk O 28 B3,B0,B8,be,bf,ay] ov:=uD
 refine zg (zf (zG (rR fL2 Z (oR Z (zr (zX Z dV Z) (congrArg (jV) lN.out)) (oM Z Z (zg ?_))))))
 cases wz
 exact zG ⟨rfl,⟨bv,cL,c8,eO,fg,fJ,gw,rfl,jR,gH,jS,db,fu,jT,jU,jW,jX,jY,jZ,j0,gI,gJ,(mg.trans mh),(uE.pick [3,4,5,6,7,8,9,10,11,12,1,13,14,15,16,17,18] _ (by decide) rfl),lh⟩⟩
 rintro BJ Aj ⟨mO,fK,gy,eQ,fh,iA,jx,qw,p9,qa,qb,qc,qd,qe,qf,qh,qi,qj,qk,qm,AG,qn,mj,uH,sm⟩
 have oS:Hid (¬ ((↑(((↑aw.length:Int):Int) - 0).toNat:Int) < (↑aw.length:Int))):=zH (wAc)
 refine sR fL1 Z (oR Z (zW Z qw qn) (eN (zI (cF Z oS (ZJ (zd (zd (ZG (zG (bnK l0 fun di sn wA=>bnK wA fun bN gO wC=>bnK wC fun eC sq wD=>bnK wD fun eD sv wE=>?_))))))))))
 have sA:=lf.le mj
 have q:=sA.el (fun _=>rfl) (wAV gO)
 obtain ⟨oH,xw,sE,sF⟩:=q
 let bZ:Res:=.blk ao 83 [.slice none 0 0,.slice ax av.length aY,.slice (some ⟨bF,0,none⟩) ([(⟨(⟨0,0⟩:wAD),0⟩:wAR)].length) 1,.slice fK mq.length gy]
 let cw:Res:=.blk aj 83 [.slice bu au.length bz,.slice ax av.length aY,.slice (some ⟨bj,0,none⟩) ([(⟨(⟨-30,30⟩:wAD),0⟩:wAR)].length) 1,.slice eQ it.length fh]
 let ca:Res:=.blk bx 100 [.slice iA xJ.length jx,jV xK,.int .u32 xM]
 let cc:Res:=.row fK gy 85 4 (hD wAG mq)
 let cd:Res:=.row eQ fh 85 4 (hD wAG it)
 refine CK.webp (U0:=mO) (L0:=[an,ak,cc,bZ,ai,cd,cw,B5,.blk ac 34 B7,ca,.blk O 28 B3,B0,B8,ay]) ZD [pW 137 [] (.pointer (some ⟨aj,0,none⟩)),pW 138 [0] (.slice bu au.length bz),pW 139 [] (.pointer (some ⟨O,6,none⟩)),pW 140 [2] (jV ah.Start),⟨some 141,[141],[3],false,[],true,[],fun σ R=>∃ cm,σ 141=.slice (some ⟨cm,0,none⟩) 1 1/\R=[.row (some ⟨cm,0,none⟩) 1 3 1 (hD KL.encI [ah.Start])]⟩,⟨some 142,[142],[1],false,[4],false,[bd],fun σ R=>∃ cN da cm,σ 142=.slice cN di.length da/\R=[.row cN da 3 1 (hD KL.encI di),.row (some ⟨cm,0,none⟩) 1 3 1 (hD KL.encI [ah.Start])]⟩,pW 143 [] (.slice cq cH.length cz),pW 144 [] (.slice ey dB.length ez),pW 145 [] (.pointer (some ⟨O,0,none⟩)),pW 146 [8] (.pointer (some ⟨O,2,none⟩)),pX 147 [9] (jV ah.Rules.Laps),pW 148 [10] (jV (w64 (ah.Rules.Laps - 1))),pW 149 [7,11] (.pointer (some ⟨oH,xw + (w64 (ah.Rules.Laps - 1)).toNat * 1,none⟩)),pX 150 [12] (jV bN),⟨some 151,[151],[13],false,[],true,[],fun σ R=>∃ cn,σ 151=.slice (some ⟨cn,0,none⟩) 1 1/\R=[.row (some ⟨cn,0,none⟩) 1 3 1 (hD KL.encI [bN])]⟩,⟨some 152,[152],[6],false,[14],false,[be],fun σ R=>∃ dI dS cn,σ 152=.slice dI eC.length dS/\R=[.row dI dS 3 1 (hD KL.encI eC),.row (some ⟨cn,0,none⟩) 1 3 1 (hD KL.encI [bN])]⟩,pW 153 [] (.slice cr cI.length cA),pW 154 [] (jV (↑bb:Int)),⟨some 155,[155],[17],false,[],true,[],fun σ R=>∃ co,σ 155=.slice (some ⟨co,0,none⟩) 1 1/\R=[.row (some ⟨co,0,none⟩) 1 3 1 (hD KL.encI [(↑bb:Int)])]⟩,⟨some 156,[156],[16],false,[18],false,[bf],fun σ R=>∃ dJ dT co,σ 156=.slice dJ eD.length dT/\R=[.row dJ dT 3 1 (hD KL.encI eD),.row (some ⟨co,0,none⟩) 1 3 1 (hD KL.encI [(↑bb:Int)])]⟩,pW 157 [] (.pointer (some ⟨aj,0,none⟩))] [false,true,true] [(5,.pointer (some ⟨O,0,none⟩)),(6,.pointer (some ⟨bx,0,none⟩)),(9,.slice bO a7.length bR),(11,.pointer (some ⟨aj,0,none⟩)),(12,.pointer (some ⟨ao,0,none⟩)),(13,.slice cq cH.length cz),(14,.slice cr cI.length cA),(15,jV (↑bb:Int)),(16,.slice ey dB.length ez),(88,.slice ct bm.Times.length cC),(89,jV (↑bm.Times.length:Int)),(90,jV (↑bb:Int))] (by kernel_rfl) ⟨p9,qa,qb,qc,qd,qe,qf,qh,qi,qj,qk,qm,trivial⟩ (uH.pick [4,14,15,0,1,2,3,5,6,7,8,9,10,11,12,13,16] _ (by decide) rfl) ⟨?_,?_,?_,?_,?_,?_,?_,?_,?_,?_,?_,?_,?_,?_,?_,?_,?_,?_,?_,?_,?_,trivial⟩ ?_
 refine wpW ?_
 rintro _ _ _ _ _ ⟨_,_,_,qo,_⟩ _ _ _ w7
 exact oR Z (zF Z qo zq Z zS) w7
 refine wpW ?_
 rintro _ _ _ _ _ _ _ ⟨⟨_,⟨qK,_⟩⟩,_⟩ uL w8
 exact oL Z (uL.ldB (j:=6) Z Z qK zZ (v:=.slice bu au.length bz) Z) w8
 refine wpW ?_
 rintro _ _ _ _ _ ⟨qp,_⟩ _ _ _ w9
 exact oR Z (zF Z qp zo Z zC) w9
 refine wpW ?_
 rintro _ _ _ _ _ _ _ ⟨⟨_,⟨qL,_⟩⟩,_⟩ uM xa
 exact oL Z (uM.ldB (j:=10) Z Z qL zJ (v:=jV ah.Start) Z) xa
 rintro _ _ _ mP mz _ _ _ ⟨⟨_,⟨qM,_⟩⟩,_⟩ rfl uN xb
 refine zb (pv:=[(0,jV ah.Start)]) (zs:=[jV 0]) (cs:=[jV ah.Start]) Z Z Z Z Z (wAA qM wAI) zB zC zw Z Z Z Z Z uN ?_
 intro ox jl uO
 have uP:sW w U mP (.row (some ⟨jl,0,none⟩) 1 3 1 (hD KL.encI [ah.Start]) :: an :: ak :: cc :: bZ :: ai :: cd :: cw :: B5 :: .blk ac 34 B7 :: ca :: .blk O 28 B3 :: B0 :: B8 :: ay :: mz) ox:=uO
 exact xb _ _ _ _ (zL _) uP ⟨jl,Z,Z⟩
 rintro _ _ _ mQ mA _ _ _ ⟨⟨_,⟨qO,_⟩⟩,_⟩ ⟨_,_,⟨cm,qN,rfl⟩,rfl,rfl⟩ lL xc
 refine Zr (j:=0) (enc:=KL.encI) (xs:=au) (ys:=[ah.Start]) (zs:=di) rfl rfl rfl rfl rfl Zn wFr rfl rfl rfl rfl rfl rfl lL rfl qO qN (lL.srcR (j:=1) rfl (by decide) (wAB (f:=KL.encI) (sz:=1) (fun _=>rfl) [ah.Start])) (fun _=>rfl) (fun _=>rfl) sn rfl ?_
 intro iB jy oy uR
 have uS:sW w U mQ (.row iB jy 3 1 (hD KL.encI di) :: .row (some ⟨cm,0,none⟩) 1 3 1 (hD KL.encI [ah.Start]) :: an :: ak :: cc :: bZ :: ai :: cd :: cw :: B5 :: .blk ac 34 B7 :: ca :: .blk O 28 B3 :: B0 :: B8 :: ay :: mA) oy:=uR
 exact xc _ _ _ _ (zL _) uS ⟨iB,jy,cm,Z,Z⟩
 refine wpW ?_
 rintro _ _ _ _ _ ⟨_,_,_,_,_,qq,_⟩ _ _ _ xd
 exact oM Z qq xd
 refine wpW ?_
 rintro _ _ _ _ _ ⟨_,_,_,_,_,_,_,_,qr,_⟩ _ _ _ xe
 exact oM Z qr xe
 refine wpW ?_
 rintro _ _ _ _ _ ⟨qs,_⟩ _ _ _ xf
 exact oR Z (zF Z qs zo Z ZO) xf
 refine wpW ?_
 rintro _ _ _ _ _ _ _ ⟨⟨_,⟨qP,_⟩⟩,_⟩ _ xg
 exact oR Z (zF Z qP ZA Z zC) xg
 refine wpX ?_
 rintro _ _ _ _ _ _ _ ⟨⟨_,⟨qQ,_⟩⟩,_⟩ uV xh
 exact yj Z Z Z Z (uV.ldB (j:=10) Z Z qQ zJ (v:=jV ah.Rules.Laps) Z) xh
 refine wpW ?_
 rintro _ _ _ _ _ _ _ ⟨⟨_,⟨qR,_⟩⟩,_⟩ _ xi
 exact oR Z (Zy Z qR Z) xi
 refine wpW ?_
 rintro _ _ _ _ _ _ _ ⟨⟨_,⟨qx,_⟩⟩,⟨_,⟨qy,_⟩⟩,_⟩ _ xj
 exact oR Z (Za Z qx sE qy zB zC (wCh gO) (wCs gO)) xj
 refine wpX ?_
 rintro _ _ _ _ _ _ xk ⟨⟨_,⟨qz,_⟩⟩,_⟩ sG wV
 have qT:=sF.le xk
 exact yj Z Z Z Z (sG.ldC (f:=0) qT (v:=jV bN) Z qz zJ Z) wV
 rintro _ _ _ mB mu _ _ _ ⟨⟨_,⟨qA,_⟩⟩,_⟩ rfl sH wW
 refine zb (pv:=[(0,jV bN)]) (zs:=[jV 0]) (cs:=[jV bN]) Z Z Z Z Z (wAA qA wAI) zB zC zw Z Z Z Z Z sH ?_
 intro mR jj sI
 have sJ:sW w U mB (.row (some ⟨jj,0,none⟩) 1 3 1 (hD KL.encI [bN]) :: an :: ak :: cc :: bZ :: ai :: cd :: cw :: B5 :: .blk ac 34 B7 :: ca :: .blk O 28 B3 :: B0 :: B8 :: ay :: mu) mR:=sI
 exact wW _ _ _ _ (zL _) sJ ⟨jj,Z,Z⟩
 rintro _ _ _ mC mw _ _ _ ⟨⟨_,⟨qC,_⟩⟩,_⟩ ⟨_,_,⟨cn,qB,rfl⟩,rfl,rfl⟩ lu wX
 refine Zr (j:=0) (enc:=KL.encI) (xs:=cH) (ys:=[bN]) (zs:=eC) rfl rfl rfl rfl rfl Zn wFr rfl rfl rfl rfl rfl rfl lu rfl qC qB (lu.srcR (j:=1) rfl (by decide) (wAB (f:=KL.encI) (sz:=1) (fun _=>rfl) [bN])) (fun _=>rfl) (fun _=>rfl) sq rfl ?_
 intro iu jm mS sK
 have sL:sW w U mC (.row iu jm 3 1 (hD KL.encI eC) :: .row (some ⟨cn,0,none⟩) 1 3 1 (hD KL.encI [bN]) :: an :: ak :: cc :: bZ :: ai :: cd :: cw :: B5 :: .blk ac 34 B7 :: ca :: .blk O 28 B3 :: B0 :: B8 :: ay :: mw) mS:=sK
 exact wX _ _ _ _ (zL _) sL ⟨iu,jm,cn,Z,Z⟩
 refine wpW ?_
 rintro _ _ _ _ _ ⟨_,_,_,_,_,_,o3,_⟩ _ _ _ wY
 exact oM Z o3 wY
 refine wpW ?_
 rintro _ _ _ _ _ ⟨_,_,_,_,_,_,_,o5,_⟩ _ _ _ wZ
 exact oM Z o5 wZ
 rintro _ _ _ mD mx _ _ _ ⟨⟨_,⟨qD,_⟩⟩,_⟩ rfl sM w0
 refine zb (pv:=[(0,jV (↑bb:Int))]) (zs:=[jV 0]) (cs:=[jV (↑bb:Int)]) Z Z Z Z Z (wAA qD wAI) zB zC zw Z Z Z Z Z sM ?_
 intro mT jk sN
 have sO:sW w U mD (.row (some ⟨jk,0,none⟩) 1 3 1 (hD KL.encI [(↑bb:Int)]) :: an :: ak :: cc :: bZ :: ai :: cd :: cw :: B5 :: .blk ac 34 B7 :: ca :: .blk O 28 B3 :: B0 :: B8 :: ay :: mx) mT:=sN
 exact w0 _ _ _ _ (zL _) sO ⟨jk,Z,Z⟩
 rintro _ _ _ mE my _ _ _ ⟨⟨_,⟨qF,_⟩⟩,_⟩ ⟨_,_,⟨co,qE,rfl⟩,rfl,rfl⟩ lw w5
 refine Zr (j:=0) (enc:=KL.encI) (xs:=cI) (ys:=[(↑bb:Int)]) (zs:=eD) rfl rfl rfl rfl rfl Zn wFr rfl rfl rfl rfl rfl rfl lw rfl qF qE (lw.srcR (j:=1) rfl (by decide) (wAB (f:=KL.encI) (sz:=1) (fun _=>rfl) [(↑bb:Int)])) (fun _=>rfl) (fun _=>rfl) sv rfl ?_
 intro iw jo mV sP
 have sQ:sW w U mE (.row iw jo 3 1 (hD KL.encI eD) :: .row (some ⟨co,0,none⟩) 1 3 1 (hD KL.encI [(↑bb:Int)]) :: an :: ak :: cc :: bZ :: ai :: cd :: cw :: B5 :: .blk ac 34 B7 :: ca :: .blk O 28 B3 :: B0 :: B8 :: ay :: my) mV:=sP
 exact w5 _ _ _ _ (zL _) sQ ⟨iw,jo,co,Z,Z⟩
 refine wpW ?_
 rintro _ _ _ _ _ ⟨_,_,_,o6,_⟩ _ _ _ w6
 exact oR Z (zF Z o6 zq Z zS) w6
 rintro xN jc fU ⟨o7,o8,o9,pd,pe,Ar,As,Au,Av,pf,pg,ph,_⟩ md _ ⟨AH,rfl⟩ _ ⟨AI,rfl⟩ _ ⟨AJ,rfl⟩ _ ⟨AK,rfl⟩ _ _ _ ⟨cN,da,cm,qG,rfl⟩ _ ⟨AL,rfl⟩ _ ⟨AM,rfl⟩ _ ⟨AN,rfl⟩ _ ⟨AO,rfl⟩ _ ⟨AP,rfl⟩ _ ⟨AQ,rfl⟩ _ ⟨AS,rfl⟩ _ ⟨AT,rfl⟩ _ _ _ ⟨dI,dS,cn,qH,rfl⟩ _ ⟨AU,rfl⟩ _ ⟨AV,rfl⟩ _ _ _ ⟨dJ,dT,co,qI,rfl⟩ _ ⟨qJ,rfl⟩ sT
 let iM:Res:=.row (some ⟨co,0,none⟩) 1 3 1 (hD KL.encI [(↑bb:Int)])
 let iN:Res:=.row (some ⟨cm,0,none⟩) 1 3 1 (hD KL.encI [ah.Start])
 let iO:Res:=.row (some ⟨cn,0,none⟩) 1 3 1 (hD KL.encI [bN])
 let iP:Res:=.row dJ dT 3 1 (hD KL.encI eD)
 let iQ:Res:=.row dI dS 3 1 (hD KL.encI eC)
 let iR:Res:=.row cN da 3 1 (hD KL.encI di)
 have sU:sW w U fU [iP,iM,iQ,iO,iR,iN,an,ak,cc,bZ,ai,cd,cw,B5,.blk ac 34 B7,ca,.blk O 28 B3,B0,B8,ay] jc:=sT
 show OKS _ _ _ _ _ _ (.fx 21 (.fl 22 (.fl 23 .nil)) .stop) xN jc
 refine zh (j:=12) (vs:=[.slice cN di.length da]) Z Z Z Z sU Z qJ qG Z zS (zA Z) Z Z Z ?_
 intro mW sV
 have sX:sW w U fU [iP,iM,iQ,iO,iR,iN,an,ak,cc,bZ,ai,cd,.blk aj 83 [.slice cN di.length da,.slice ax av.length aY,.slice (some ⟨bj,0,none⟩) ([(⟨(⟨-30,30⟩:wAD),0⟩:wAR)].length) 1,.slice eQ it.length fh],B5,.blk ac 34 B7,ca,.blk O 28 B3,B0,B8,ay] mW:=sV
 refine oA Z qH (oA Z qI (zg (zf (zG (rR fL2 Z (oR Z (zr (zX Z ph Z) (congrArg (jV) lM.out)) (oM Z Z (zg ?_))))))))
 cases wE
 have qW:=sm.le md
 exact zG ⟨rfl,⟨fU,fK,gy,cN,da,eQ,fh,iA,jx,dI,dS,dJ,dT,rfl,o7,o8,o9,pd,pe,rfl,rfl,pf,pg,((ic.trans mj).trans md),(sX.pick [6,7,8,9,4,10,11,12,13,14,15,16,17,18,2,0] _ (by decide) rfl),qW⟩⟩
 rintro Bv z7 ⟨iU,eE,eY,bP,bS,eF,eZ,mr,oI,eG,e8,eH,e9,qt,gA,Aw,po,fk,gB,pp,pq,Ax,pu,AY,lx,AW⟩
 have oJ:Hid (¬ ((↑(((↑bm.Times.length:Int):Int) - 0).toNat:Int) < (↑bm.Times.length:Int))):=zH (wAc)
 refine sR fL1 Z (oR Z (zW Z qt pu) (eN (zI (cF Z oJ (ZJ (zd (zd (ZG (zG (sR (wCK (.fx 3 .nil .stop)) Z (oR Z (zF Z fk zq Z zS) (oL Z (lx.ldB (j:=7) Z Z Z zZ (v:=.slice bP bG.length bS) Z) (oR Z (zF Z gB zq Z zS) (zh (j:=3) (vs:=[.slice bP bG.length bS]) Z Z Z Z lx Z Z Z Z zS (zA Z) Z Z Z ?_))))))))))))))
 intro cV sY
 let a8:List Value:=[.slice bP bG.length bS,.slice ax av.length aY,.slice (some ⟨bj,0,none⟩) ([(⟨(⟨-30,30⟩:wAD),0⟩:wAR)].length) 1,.slice eF dD.length eZ]
 let ba:List Value:=[.slice bP bG.length bS,.slice ax av.length aY,.slice (some ⟨bF,0,none⟩) ([(⟨(⟨0,0⟩:wAD),0⟩:wAR)].length) 1,.slice eE dC.length eY]
 let bg:Res:=.blk bx 100 [.slice mr xG.length oI,jV xH,.int .u32 xI]
 let bh:Res:=.row eG e8 3 1 (hD KL.encI bt)
 let bi:Res:=.row eH e9 3 1 (hD KL.encI bn)
 let cy:Res:=.row eE eY 85 4 (hD wAG dC)
 let dM:Res:=.row eF eZ 85 4 (hD wAG dD)
 let iS:Res:=.row bP bS 3 1 (hD KL.encI bG)
 have dX:sW w U iU [an,ak,cy,.blk ao 83 ba,iS,ai,dM,.blk aj 83 a8,B5,.blk ac 34 B7,bg,.blk O 28 B3,B0,B8,bh,bi] cV:=sY
 refine eN (zI (sR fL4 Z (oR Z (zF Z fk zq Z zS) (oL Z (dX.ldB (j:=7) Z Z Z zZ (v:=.slice bP bG.length bS) Z) (oR Z (ze Z Z zB) (oR Z (yc Z Z Z) (eN (ifc lZ ?_ ?_))))))))
 intro gj vq
 refine cT Z gj (sR gAb Z (bnK vq fun Bm qX vr=>zM 0 Z Z Z Z (zK Z Z Tryz.call12 zO Z) dX (fun hs=>wFV cV iU hs qX) (.inr Z) ?_))
 rintro iV xP A8 mX AZ sZ ⟨rfl,rfl⟩
 have s3:sW w U iV [an,ak,cy,.blk ao 83 ba,iS,ai,dM,.blk aj 83 a8,B5,.blk ac 34 B7,bg,.blk O 28 B3,B0,B8,bh,bi] mX:=sZ
 refine oA Z Z (eN (zP (zR ?_)))
 have hE:=nA vr;first | subst r | cases hE
 exact ⟨rfl,_,(zz rfl),iV,_,(s3.pick [] _ (by decide) rfl),rfl,rfl⟩
 intro gj vt
 refine cF Z gj (kN (sR (wEL (.fx 4 (wIh (.nil)) .stop)) Z (oL Z (dX.ldBA (j:=7) Z Z fk Zv Zg (vs:=a8) Z Z) (oR Z (zF Z gA zo Z ZO) (oR Z (zF Z Z ZA Z zC) (oL Z (dX.ldB (j:=11) Z Z Z zJ (v:=jV ah.Rules.Laps) Z) ?_))))))
 have q:=dX.freezeR (k:=4) (n:=bG.length) rfl (wAB (f:=KL.encI) (sz:=1) (fun _=>rfl) bG) (by decide)
 obtain ⟨mF,A3,wH,s4⟩:=q
 have s5:sW w U mF [an,ak,cy,.blk ao 83 ba,ai,dM,.blk aj 83 a8,B5,.blk ac 34 B7,bg,.blk O 28 B3,B0,B8,bh,bi] cV:=s4
 have q:=s5.freezeR (k:=0) (n:=av.length) rfl (wAB (f:=wAH) (sz:=2) (fun _=>rfl) av) (by decide)
 obtain ⟨mG,xl,wI,s6⟩:=q
 have s7:sW w U mG [ak,cy,.blk ao 83 ba,ai,dM,.blk aj 83 a8,B5,.blk ac 34 B7,bg,.blk O 28 B3,B0,B8,bh,bi] cV:=s6
 have q:=s7.freezeR (k:=3) (n:=[(⟨(⟨-30,30⟩:wAD),0⟩:wAR)].length) rfl (wAB (f:=wAU) (sz:=3) (fun _=>rfl) [(⟨(⟨-30,30⟩:wAD),0⟩:wAR)]) (by decide)
 obtain ⟨mH,me,wJ,s8⟩:=q
 have s9:sW w U mH [ak,cy,.blk ao 83 ba,dM,.blk aj 83 a8,B5,.blk ac 34 B7,bg,.blk O 28 B3,B0,B8,bh,bi] cV:=s8
 have q:=s9.freezeR (k:=3) (n:=dD.length) rfl (wAB (f:=wAG) (sz:=4) (fun _=>rfl) dD) (by decide)
 obtain ⟨iW,ib,l5,ta⟩:=q
 have tb:sW w U iW [ak,cy,.blk ao 83 ba,.blk aj 83 a8,B5,.blk ac 34 B7,bg,.blk O 28 B3,B0,B8,bh,bi] cV:=ta
 have qY:=wH.le xl
 have qZ:=qY.le me
 have j6:=qZ.le ib
 have q0:=wI.le me
 have j7:=q0.le ib
 have j8:=wJ.le ib
 have q:=bnd vt
 obtain ⟨⟨bU,mn⟩,q8,lQ⟩:=q
 try dsimp only at lQ
 refine zM 0 Z Z Z Z (zK Z Z Tryz.call23 (zD Z (zD Z zO)) Z) tb (fun hs=>wIB (⟨bG,av,[(⟨(⟨-30,30⟩:wAD),0⟩:wAR)],dD⟩:wAF) bP bS ax aY (some ⟨bj,0,none⟩) 1 eF eZ ah.Rules.Laps cV iW hs j6 j7 j8 l5 q8) (.inr Z) ?_
 rintro mI xQ A9 eW fz tc ⟨dF,dP,rfl,rfl⟩
 let bE:Res:=.row dF dP 76 2 (hD wAH bU)
 have gQ:sW w U mI [bE,ak,cy,.blk ao 83 ba,.blk aj 83 a8,B5,.blk ac 34 B7,bg,.blk O 28 B3,B0,B8,bh,bi] eW:=tc
 refine oM Z Z (oR Z (zi Z Z (v:=.slice dF bU.length dP) Z) (oR Z (zi Z Z (v:=jV mn) Z) (oA Z Z (oA Z Z (eN (sR (wEL (.fx 4 (wIh (.nil)) .stop)) Z (oL Z (gQ.ldBA (j:=3) Z Z gB Zv Zg (vs:=ba) Z Z) (oR Z (zF Z gA zo Z ZO) (oR Z (zF Z Z ZA Z zC) (oL Z (gQ.ldB (j:=8) Z Z Z zJ (v:=jV ah.Rules.Laps) Z) ?_))))))))))
 have q:=gQ.freezeR (k:=1) (n:=[(⟨(⟨0,0⟩:wAD),0⟩:wAR)].length) rfl (wAB (f:=wAU) (sz:=3) (fun _=>rfl) [(⟨(⟨0,0⟩:wAD),0⟩:wAR)]) (by decide)
 obtain ⟨mJ,fA,wK,te⟩:=q
 have tf:sW w U mJ [bE,cy,.blk ao 83 ba,.blk aj 83 a8,B5,.blk ac 34 B7,bg,.blk O 28 B3,B0,B8,bh,bi] eW:=te
 have q:=tf.freezeR (k:=1) (n:=dC.length) rfl (wAB (f:=wAG) (sz:=4) (fun _=>rfl) dC) (by decide)
 obtain ⟨iX,ep,l6,tg⟩:=q
 have th:sW w U iX [bE,.blk ao 83 ba,.blk aj 83 a8,B5,.blk ac 34 B7,bg,.blk O 28 B3,B0,B8,bh,bi] eW:=tg
 have q9:=j6.le fz
 have rc:=q9.le fA
 have j9:=rc.le ep
 have re:=j7.le fz
 have rf:=re.le fA
 have k5:=rf.le ep
 have k6:=wK.le ep
 have q:=bnd lQ
 obtain ⟨⟨bV,mo⟩,rh,lR⟩:=q
 try dsimp only at lR
 refine zM 0 Z Z Z Z (zK Z Z Tryz.call23 (zD Z (zD Z zO)) Z) th (fun hs=>wIB (⟨bG,av,[(⟨(⟨0,0⟩:wAD),0⟩:wAR)],dC⟩:wAF) bP bS ax aY (some ⟨bF,0,none⟩) 1 eE eY ah.Rules.Laps eW iX hs j9 k5 k6 l6 rh) (.inr Z) ?_
 rintro cU xR Ba mY dA tj ⟨dG,dQ,rfl,rfl⟩
 let cg:Res:=.row dG dQ 76 2 (hD wAH bV)
 have dY:sW w U cU [cg,bE,.blk ao 83 ba,.blk aj 83 a8,B5,.blk ac 34 B7,bg,.blk O 28 B3,B0,B8,bh,bi] mY:=tj
 refine oM Z Z (oR Z (zi Z Z (v:=.slice dG bV.length dQ) Z) (oR Z (zi Z Z (v:=jV mo) Z) (oA Z Z (oA Z Z (eN (zI (zI (yL fun bW bL=>?_))))))))
 have pz:bW 5=.pointer (some ⟨O,0,none⟩):=(bL 5).trans gA
 have pB:bW 8=jV mn:=(bL 8).trans rfl
 have pC:bW 9=.slice bO a7.length bR:=(bL 9).trans po
 have pD:bW 10=jV mo:=(bL 10).trans rfl
 have pE:bW 11=.pointer (some ⟨aj,0,none⟩):=(bL 11).trans fk
 have pF:bW 12=.pointer (some ⟨ao,0,none⟩):=(bL 12).trans gB
 have pG:bW 13=.slice eG bt.length e8:=(bL 13).trans pp
 have gC:bW 14=.slice eH bn.length e9:=(bL 14).trans pq
 have jB:bW 20=.slice dF bU.length dP:=(bL 20).trans rfl
 have jC:bW 21=.slice dG bV.length dQ:=(bL 21).trans rfl
 clear bL
 refine rR fL20 Z (oM Z pB (oR Z (ZX Z Z Z) (oM Z Z (ifc lR ?_ ?_))))
 intro cX vy
 refine zj Z Z Z (zN Z Z (zt (fun h=>h cX.out))) Z pD (zY Z Z Z (zN Z Z (zt (fun h=>h cX.out))) (fun _=>ZX Z Z Z) (oR Z (za Z (zt (fun h=>h cX.out)) Z) (oM Z Z (ifc vy ?_ ?_))))
 intro bA vz
 refine zj Z Z Z (zN Z Z (zt (fun h=>h bA.out))) Z jB (zY Z Z Z (zN Z Z (zt (fun h=>h bA.out))) (fun _=>ze Z Z ZQ) (zj Z Z Z (zN Z Z (zt (fun h=>h bA.out))) Z gC (zY Z Z Z (zN Z Z (zt (fun h=>h bA.out))) (fun _=>ze Z Z zB) (zY Z Z Z (zN Z Z (zt (fun h=>h bA.out))) (fun _=>ZX Z Z Z) (oR Z (za Z (zt (fun h=>h bA.out)) Z) (oM Z Z (ifc vz ?_ ?_)))))))
 intro bB vA
 refine zj Z Z Z (zN Z Z (zt (fun h=>h bB.out))) Z jC (zY Z Z Z (zN Z Z (zt (fun h=>h bB.out))) (fun _=>ze Z Z ZQ) (zj Z Z Z (zN Z Z (zt (fun h=>h bB.out))) Z gC (zY Z Z Z (zN Z Z (zt (fun h=>h bB.out))) (fun _=>ze Z Z zB) (zY Z Z Z (zN Z Z (zt (fun h=>h bB.out))) (fun _=>ZX Z Z Z) (oR Z (za Z (zt (fun h=>h bB.out)) Z) (eN (ifc vA ?_ ?_)))))))
 intro gq cG
 refine zn (zt (fun h=>h gq.out)) (kN (zI (sR fL3 Z (oM Z gC (oR Z (ze Z Z zB) (oM Z Z (eN (zU ?_))))))))
 have q:=wBJ cG
 obtain ⟨A6,cE⟩:=q
 have q:=wBI cE
 obtain ⟨gY,u0⟩:=q
 replace gY:=zH gY
 refine yB (fun aq _ σ_ w_=>∃ (U_:PHeap),σ_ 205=jV (↑aq:Int)/\σ_ 5=.pointer (some ⟨O,0,none⟩)/\σ_ 9=.slice bO a7.length bR/\σ_ 11=.pointer (some ⟨aj,0,none⟩)/\σ_ 12=.pointer (some ⟨ao,0,none⟩)/\σ_ 13=.slice eG bt.length e8/\σ_ 20=.slice dF bU.length dP/\σ_ 21=.slice dG bV.length dQ/\σ_ 203=.slice eH bn.length e9/\σ_ 204=jV (↑bn.length:Int)/\PHeap.Le cU U_/\sW w U U_ [.blk ao 83 ba,.blk aj 83 a8,B5,.blk ac 34 B7,bg,.blk O 28 B3,B0,B8,bh,bE,cg,bi] w_) u0 ?_ ?_ ?_
 exact ⟨cU,rfl,pz,pC,pE,pF,pG,jB,jC,rfl,rfl,(zL _),(dY.pick [2,3,4,5,6,7,8,9,10,1,0,11] _ (by decide) rfl)⟩
 rintro aq ⟨⟩ Br Bw m4 gU ⟨mK,fw,gD,fm,jD,jE,fq,jF,jG,jH,jI,dh,dZ⟩ l8 dy
 try dsimp only at l8
 have jq:Hid ((↑aq:Int) < (↑bn.length:Int)):=zH (wAj gU)
 replace gU:=zH gU
 have vo:Hid (w64 ((↑aq:Int) + 1)=(↑(aq + 1):Int)):=zH (by have h1:=gY.out;have h2:=jq.out;rw [wAX] <;> omega)
 refine sR fL1 Z (oR Z (zW Z fw jI) (eN (zI (cT Z jq (kN (zI (zU (sR fL5 Z (oM Z fw (bnK l8 fun _ gK vB=>?_))))))))))
 have q:=dZ.rowSome (j:=11) rfl (by rw [wAB (f:=KL.encI) (sz:=1) (fun _=>rfl) bn];have hz:=wAS gK;omega)
 obtain ⟨Al,lj⟩:=q
 refine oR Z (ZE Z jH lj fw zB zC (wAS gK)) ?_
 have ve:=wBK (xs:=bn) (wAS gK)
 refine ZB rfl rfl rfl rfl (dZ.ldR (j:=11) rfl lj rfl rfl zJ (wAW (sz:=1) (fun _=>rfl) _ _ 0 _ ve (by first | omega | rfl | simp) rfl)) rfl (yU rfl rfl rfl rfl rfl rfl (yU rfl rfl rfl rfl rfl rfl (eN (sR (wGx (.fx 6 (wQz gAd) .stop)) rfl (ZB rfl rfl rfl rfl (dZ.ldBA (j:=1) rfl rfl jD Zv Zg (vs:=a8) rfl rfl) rfl (zj rfl rfl rfl rfl rfl rfl (zY rfl rfl rfl rfl (fun _=>zF rfl gD zo rfl ZO) (zY rfl rfl rfl rfl (fun _=>zF rfl rfl ZA rfl zC) (ZB rfl rfl rfl rfl (dZ.ldB (j:=5) rfl rfl rfl zJ (v:=jV ah.Rules.Laps) rfl) rfl ?_)))))))))
 let iT:List Value:=[jV (↑aq:Int),jV ah.Rules.Laps]
 refine oR Z (zx (pv:=[(0,jV (↑aq:Int)),(1,jV ah.Rules.Laps)]) (z:=B9) (cs:=iT) Z (wAA Z (wAA Z wAI)) YS wIx Z Z) ?_
 have ri:=j9.le dA
 have k8:=ri.le dh
 have rj:=k5.le dA
 have k9:=rj.le dh
 have rk:=j8.le fz
 have rn:=rk.le fA
 have ro:=rn.le ep
 have rp:=ro.le dA
 have rq:=rp.le dh
 have rv:=l5.le fz
 have rx:=rv.le fA
 have ry:=rx.le ep
 have rz:=ry.le dA
 have rA:=rz.le dh
 have q:=bnd vB
 obtain ⟨⟨eA,xE⟩,rB,lU⟩:=q
 try dsimp only at lU
 refine zM 0 Z Z Z Z (zK Z Z Tryz.call24 (zD Z (zD Z zO)) Z) dZ (fun hs=>wIl (⟨bG,av,[(⟨(⟨-30,30⟩:wAD),0⟩:wAR)],dD⟩:wAF) bP bS ax aY (some ⟨bj,0,none⟩) 1 eF eZ (⟨(↑aq:Int),ah.Rules.Laps⟩:wAa) m4 mK hs k8 k9 rq rA rB) (.inr Z) ?_
 rintro fV xS Bb m5 er tt ⟨rfl,rfl⟩
 have tu:sW w U fV [.blk ao 83 ba,.blk aj 83 a8,B5,.blk ac 34 B7,bg,.blk O 28 B3,B0,B8,bh,bE,cg,bi] m5:=tt
 refine oM Z Z (oR Z (zi Z Z (v:=.agg #[jV eA.Lo,jV eA.Hi]) Z) (oR Z (zi Z Z (v:=jV xE) Z) (zm (cs:=B9) Z Z Z Z Z ZY Z tu ?_)))
 intro Aa dO tv
 let cS:List Value:=[jV eA.Lo,jV eA.Hi]
 refine zh (j:=0) (vs:=cS) Z Z Z Z tv Z Z Z Z ZK (zA Z) Z Z Z ?_
 intro jd tx
 have gR:sW w U fV [.blk dO 76 cS,.blk ao 83 ba,.blk aj 83 a8,B5,.blk ac 34 B7,bg,.blk O 28 B3,B0,B8,bh,bE,cg,bi] jd:=tx
 refine oA Z Z (eN (sR (wGx (.fx 6 (wQz gAd) .stop)) Z (oL Z (gR.ldBA (j:=1) Z Z jE Zv Zg (vs:=ba) Z Z) (oM Z Z (oR Z (zF Z gD zo Z ZO) (oR Z (zF Z Z ZA Z zC) (oL Z (gR.ldB (j:=6) Z Z Z zJ (v:=jV ah.Rules.Laps) Z) (oR Z (zx (pv:=[(0,jV (↑aq:Int)),(1,jV ah.Rules.Laps)]) (z:=B9) (cs:=iT) Z (wAA Z (wAA Z wAI)) YS wIx Z Z) ?_))))))))
 have rD:=k8.le er
 have rE:=k9.le er
 have rF:=k6.le dA
 have rG:=rF.le dh
 have rH:=rG.le er
 have rI:=l6.le dA
 have rJ:=rI.le dh
 have rK:=rJ.le er
 have q:=bnd lU
 obtain ⟨⟨eB,xF⟩,rL,lV⟩:=q
 try dsimp only at lV
 refine zM 0 Z Z Z Z (zK Z Z Tryz.call24 (zD Z (zD Z zO)) Z) gR (fun hs=>wIl (⟨bG,av,[(⟨(⟨0,0⟩:wAD),0⟩:wAR)],dC⟩:wAF) bP bS ax aY (some ⟨bF,0,none⟩) 1 eE eY (⟨(↑aq:Int),ah.Rules.Laps⟩:wAa) jd fV hs rD rE rH rK rL) (.inr Z) ?_
 rintro dq xT Bc m6 xm tz ⟨rfl,rfl⟩
 have tA:sW w U dq [.blk dO 76 cS,.blk ao 83 ba,.blk aj 83 a8,B5,.blk ac 34 B7,bg,.blk O 28 B3,B0,B8,bh,bE,cg,bi] m6:=tz
 refine oM Z Z (oR Z (zi Z Z (v:=.agg #[jV eB.Lo,jV eB.Hi]) Z) (oR Z (zi Z Z (v:=jV xF) Z) (zm (cs:=B9) Z Z Z Z Z ZY Z tA ?_)))
 intro Ab gi tB
 let dN:List Value:=[jV eB.Lo,jV eB.Hi]
 refine zh (j:=0) (vs:=dN) Z Z Z Z tB Z Z Z Z ZK (zA Z) Z Z Z ?_
 intro gf tC
 have tD:sW w U dq [.blk gi 76 dN,.blk dO 76 cS,.blk ao 83 ba,.blk aj 83 a8,B5,.blk ac 34 B7,bg,.blk O 28 B3,B0,B8,bh,bE,cg,bi] gf:=tC
 refine yU rfl rfl rfl rfl rfl rfl (eN (zI (ZN ZD [3,3,3,3,3,3,3,1,3,3,3,1,3,3,3,1,3,3,3,3,3,3,3,1,1,2,3,3,3,3,3,3,1,3,3,3,1,3,3,3,1,3,3,3,3,3,3,3,1,3,3,3,1,2,3,3] (wSC (.fx 25 (wRI (.fx 53 (.fl 54 (.fl 55 .nil)) .stop)) .stop)) (by kernel_rfl) ?_)))
 have bJ:=tD.drew
 generalize hw_W1431:({ gf with drawn:=gf.drawn + 1 }:World)=m8 at bJ ⊢
 refine oM Z Z (oR Z (ZX Z Z Z) (oM Z Z (ifc lV ?_ ?_)))
 intro cY vC
 refine zj Z Z Z (zN Z Z (zt (fun h=>h cY.out))) Z Z (zY Z Z Z (zN Z Z (zt (fun h=>h cY.out))) (fun _=>ZX Z Z Z) (oR Z (za Z (zt (fun h=>h cY.out)) Z) (oM Z Z (ifc vC ?_ ?_))))
 intro az vD
 refine ZB Z Z Z (zN Z Z (zt (fun h=>h az.out))) (bJ.ldBA (j:=1) Z Z Z yF ZK (vs:=cS) Z Z) Z (zj Z Z Z (zN Z Z (zt (fun h=>h az.out))) Z fq (zj Z Z Z (zN Z Z (zt (fun h=>h az.out))) Z Z (bnK vD fun _ dd vE=>?_)))
 have q:=bJ.rowSome (j:=10) rfl (by rw [wAB (f:=KL.encI) (sz:=1) (fun _=>rfl) bt];have hz:=wAS dd;omega)
 obtain ⟨Am,dw⟩:=q
 refine zY Z Z Z (zN Z Z (zt (fun h=>h az.out))) (fun _=>ZE Z Z dw Z zB zC (wAS dd)) ?_
 have vf:=wBK (xs:=bt) (wAS dd)
 refine ZB rfl rfl rfl (zN rfl rfl (zt (fun h=>h az.out))) (bJ.ldR (j:=10) rfl dw rfl rfl zJ (wAW (sz:=1) (fun _=>rfl) _ _ 0 _ vf (by first | omega | rfl | simp) rfl)) rfl (zj rfl rfl rfl (zN rfl rfl (zt (fun h=>h az.out))) rfl fq (zj rfl rfl rfl (zN rfl rfl (zt (fun h=>h az.out))) rfl rfl (zY rfl rfl rfl (zN rfl rfl (zt (fun h=>h az.out))) (fun _=>ZE rfl rfl dw rfl zB zC (wAS dd)) ?_)))
 have vg:=wBK (xs:=bt) (wAS dd)
 refine ZB rfl rfl rfl (zN rfl rfl (zt (fun h=>h az.out))) (bJ.ldR (j:=10) rfl dw rfl rfl zJ (wAW (sz:=1) (fun _=>rfl) _ _ 0 _ vg (by first | omega | rfl | simp) rfl)) rfl (zY rfl rfl rfl (zN rfl rfl (zt (fun h=>h az.out))) (fun _=>zx (pv:=[(0,jV (gd bt aq)),(1,jV (gd bt aq))]) (z:=B9) (cs:=[jV (gd bt aq),jV (gd bt aq)]) rfl (wAA rfl (wAA rfl wAI)) ZY wDU rfl rfl) (zY rfl rfl rfl (zN rfl rfl (zt (fun h=>h az.out))) (fun _=>zr (Runs.neS (enc:=wAH) (a:=eA) (b:=(⟨(gd bt aq),(gd bt aq)⟩:wAD)) rfl rfl rfl wQb wQa) (congrArg nB (decide_not).symm)) (zY rfl rfl rfl rfl (fun _=>za rfl (zt (fun h=>h az.out)) rfl) (zj rfl rfl rfl rfl rfl rfl (ifc vE ?_ ?_)))))
 intro bq vF
 refine zj Z Z Z (zN Z Z (zt (fun h=>h bq.out))) Z fq (zj Z Z Z (zN Z Z (zt (fun h=>h bq.out))) Z Z (zY Z Z Z (zN Z Z (zt (fun h=>h bq.out))) (fun _=>ZE Z Z dw Z zB zC (wAS dd)) ?_))
 have vh:=wBK (xs:=bt) (wAS dd)
 refine ZB rfl rfl rfl (zN rfl rfl (zt (fun h=>h bq.out))) (bJ.ldR (j:=10) rfl dw rfl rfl zJ (wAW (sz:=1) (fun _=>rfl) _ _ 0 _ vh (by first | omega | rfl | simp) rfl)) rfl (ZB rfl rfl rfl (zN rfl rfl (zt (fun h=>h bq.out))) (bJ.ldBA (j:=0) rfl rfl rfl yF ZK (vs:=dN) rfl rfl) rfl (bnK vF fun Bn rM vG=>zM 0 rfl rfl rfl (zN rfl rfl (zt (fun h=>h bq.out))) (zK rfl rfl Tryz.call25 (zD rfl (zD rfl zO)) rfl) bJ (fun hs=>wFM (gd bt aq) eB m8 dq hs rM) (.inr rfl) ?_))
 rintro eU xU Bd je xn tF ⟨rfl,rfl⟩
 have bK:sW w U eU [.blk gi 76 dN,.blk dO 76 cS,.blk ao 83 ba,.blk aj 83 a8,B5,.blk ac 34 B7,bg,.blk O 28 B3,B0,B8,bh,bE,cg,bi] je:=tF
 refine zY Z Z Z (zN Z Z (zt (fun h=>h bq.out))) (fun _=>ZF Z Z) (oR Z (za Z (zt (fun h=>h bq.out)) Z) (oM Z Z (ifc vG ?_ ?_)))
 intro ap vH
 refine zj Z Z Z (zN Z Z (nC ap.out)) Z jF (zj Z Z Z (zN Z Z (nC ap.out)) Z Z (bnK vH fun _ gL vI=>?_))
 have q:=bK.rowSome (j:=11) rfl (by rw [wAB (f:=wAH) (sz:=2) (fun _=>rfl) bU];have hz:=wAS gL;omega)
 obtain ⟨An,lk⟩:=q
 refine zY Z Z Z (zN Z Z (nC ap.out)) (fun _=>ZE Z Z lk Z ZQ ZK (wAS gL)) ?_
 have vi:=wBK (xs:=bU) (wAS gL)
 refine ZB rfl rfl rfl (zN rfl rfl (nC ap.out)) (bK.ldRA (j:=11) rfl lk rfl rfl yF ZK (vs:=[jV ((gd bU aq).Lo),jV ((gd bU aq).Hi)]) (wHT (sz:=2) (fun _=>rfl) _ _ _ vi (by first | omega | rfl | simp) rfl) rfl) rfl (zj rfl rfl rfl (zN rfl rfl (nC ap.out)) rfl fm (zj rfl rfl rfl (zN rfl rfl (nC ap.out)) rfl rfl (bnK vI fun _ bT vJ=>?_)))
 have q:=bK.rowSome (j:=9) rfl (by rw [wAB (f:=KL.encI) (sz:=1) (fun _=>rfl) a7];have hz:=wAS bT;omega)
 obtain ⟨Ao,dx⟩:=q
 refine zY Z Z Z (zN Z Z (nC ap.out)) (fun _=>Za Z Z dx Z zB zC (wBa bT) (wBb bT)) ?_
 have vj:=wBK (xs:=a7) (wAS bT)
 refine ZB rfl rfl rfl (zN rfl rfl (nC ap.out)) (bK.ldR (j:=9) rfl dx rfl rfl zJ (wAW (sz:=1) (fun _=>rfl) _ _ 0 _ vj (by first | omega | rfl | simp) rfl)) rfl (zj rfl rfl rfl (zN rfl rfl (nC ap.out)) rfl fm (zj rfl rfl rfl (zN rfl rfl (nC ap.out)) rfl rfl (zY rfl rfl rfl (zN rfl rfl (nC ap.out)) (fun _=>Za rfl rfl dx rfl zB zC (wBa bT) (wBb bT)) ?_)))
 have vk:=wBK (xs:=a7) (wAS bT)
 refine ZB rfl rfl rfl (zN rfl rfl (nC ap.out)) (bK.ldR (j:=9) rfl dx rfl rfl zJ (wAW (sz:=1) (fun _=>rfl) _ _ 0 _ vk (by first | omega | rfl | simp) rfl)) rfl (zY rfl rfl rfl (zN rfl rfl (nC ap.out)) (fun _=>zx (pv:=[(0,jV (gd a7 (gd bn aq).toNat)),(1,jV (gd a7 (gd bn aq).toNat))]) (z:=B9) (cs:=[jV (gd a7 (gd bn aq).toNat),jV (gd a7 (gd bn aq).toNat)]) rfl (wAA rfl (wAA rfl wAI)) ZY wDU rfl rfl) (zY rfl rfl rfl (zN rfl rfl (nC ap.out)) (fun _=>zr (Runs.neS (enc:=wAH) (a:=(gd bU aq)) (b:=(⟨(gd a7 (gd bn aq).toNat),(gd a7 (gd bn aq).toNat)⟩:wAD)) rfl rfl rfl wQb wQa) (congrArg nB (decide_not).symm)) (zY rfl rfl rfl rfl (fun _=>za rfl (nC ap.out) rfl) (zj rfl rfl rfl rfl rfl rfl (ifc vJ ?_ ?_)))))
 intro aZ vK
 refine zj Z Z Z (zN Z Z (zt (fun h=>h aZ.out))) Z fm (zj Z Z Z (zN Z Z (zt (fun h=>h aZ.out))) Z Z (zY Z Z Z (zN Z Z (zt (fun h=>h aZ.out))) (fun _=>Za Z Z dx Z zB zC (wBa bT) (wBb bT)) ?_))
 have vl:=wBK (xs:=a7) (wAS bT)
 refine ZB rfl rfl rfl (zN rfl rfl (zt (fun h=>h aZ.out))) (bK.ldR (j:=9) rfl dx rfl rfl zJ (wAW (sz:=1) (fun _=>rfl) _ _ 0 _ vl (by first | omega | rfl | simp) rfl)) rfl (zj rfl rfl rfl (zN rfl rfl (zt (fun h=>h aZ.out))) rfl jG (zj rfl rfl rfl (zN rfl rfl (zt (fun h=>h aZ.out))) rfl rfl (bnK vK fun _ gM vL=>?_)))
 have q:=bK.rowSome (j:=12) rfl (by rw [wAB (f:=wAH) (sz:=2) (fun _=>rfl) bV];have hz:=wAS gM;omega)
 obtain ⟨Ap,ll⟩:=q
 refine zY Z Z Z (zN Z Z (zt (fun h=>h aZ.out))) (fun _=>ZE Z Z ll Z ZQ ZK (wAS gM)) ?_
 have vm:=wBK (xs:=bV) (wAS gM)
 refine ZB rfl rfl rfl (zN rfl rfl (zt (fun h=>h aZ.out))) (bK.ldRA (j:=12) rfl ll rfl rfl yF ZK (vs:=[jV ((gd bV aq).Lo),jV ((gd bV aq).Hi)]) (wHT (sz:=2) (fun _=>rfl) _ _ _ vm (by first | omega | rfl | simp) rfl) rfl) rfl (bnK vL fun Bo rN vM=>zM 0 rfl rfl rfl (zN rfl rfl (zt (fun h=>h aZ.out))) (zK rfl rfl Tryz.call25 (zD rfl (zD rfl zO)) rfl) bK (fun hs=>wFM (gd a7 (gd bn aq).toNat) (gd bV aq) je eU hs rN) (.inr rfl) ?_)
 rintro fW xV Be m9 xo tG ⟨rfl,rfl⟩
 have lz:sW w U fW [.blk gi 76 dN,.blk dO 76 cS,.blk ao 83 ba,.blk aj 83 a8,B5,.blk ac 34 B7,bg,.blk O 28 B3,B0,B8,bh,bE,cg,bi] m9:=tG
 refine zY Z Z Z (zN Z Z (zt (fun h=>h aZ.out))) (fun _=>ZF Z Z) (oR Z (za Z (zt (fun h=>h aZ.out)) Z) (eN (ifc vM ?_ ?_)))
 intro gu vN
 refine zn (nC gu.out) (ZT (zf (zG (yL fun bX bM=>?_))))
 have pH:bX 5=.pointer (some ⟨O,0,none⟩):=(bM 5).trans gD
 have pI:bX 9=.slice bO a7.length bR:=(bM 9).trans fm
 have pJ:bX 11=.pointer (some ⟨aj,0,none⟩):=(bM 11).trans jD
 have pK:bX 12=.pointer (some ⟨ao,0,none⟩):=(bM 12).trans jE
 have pL:bX 13=.slice eG bt.length e8:=(bM 13).trans fq
 have pM:bX 20=.slice dF bU.length dP:=(bM 20).trans jF
 have pN:bX 21=.slice dG bV.length dQ:=(bM 21).trans jG
 have pO:bX 203=.slice eH bn.length e9:=(bM 203).trans jH
 have pP:bX 204=jV (↑bn.length:Int):=(bM 204).trans jI
 have pQ:bX 205=jV (↑aq:Int):=(bM 205).trans fw
 clear bM
 refine rR fL2 Z (oR Z (zr (zX Z pQ Z) (congrArg (jV) vo.out)) (oM Z Z (zg ?_)))
 have q:=nA vN
 obtain rfl:=q
 exact zG ⟨rfl,_,rfl,⟨fW,rfl,pH,pI,pJ,pK,pL,pM,pN,pO,pP,((((dh.trans er).trans xm).trans xn).trans xo),(lz.pick [2,3,4,5,6,7,8,9,10,11,12,13] _ (by decide) rfl)⟩⟩
 intro gu vO
 refine zy (nF (gu.out)) (zI (yL fun Bx wO=>?_))
 clear wO
 refine rR fL1 Z (oA Z Z (eN (zP (zc (zR ?_)))))
 have q:=wAb vO
 obtain ⟨xx,vP,oV⟩:=q
 have q:=wBC cG cE (dy xx oV)
 obtain rfl:=q
 refine zR (zc (zR ?_))
 have hE:=nA vP;first | subst r | cases hE
 exact ⟨rfl,_,(zz rfl),fW,_,(lz.pick [] _ (by decide) rfl),rfl,rfl⟩
 intro aZ vQ
 refine oT Z aZ (oT Z aZ (oT Z aZ (oT Z aZ (oT Z aZ (oT Z aZ (oT Z aZ (oT Z aZ (ZI Z Z Z (zQ Z Z (ZZ aZ.out) Z) (oT Z aZ (oR Z (zT Z (ZZ aZ.out) Z) (eN (zy Z (zI (yL fun Bz wP=>?_))))))))))))))
 clear wP
 refine rR fL1 Z (oA Z Z (eN (zP (zc (zR ?_)))))
 have q:=wAb vQ
 obtain ⟨xz,vR,oW⟩:=q
 have q:=wBC cG cE (dy xz oW)
 obtain rfl:=q
 refine zR (zc (zR ?_))
 have hE:=nA vR;first | subst r | cases hE
 exact ⟨rfl,_,(zz rfl),eU,_,(bK.pick [] _ (by decide) rfl),rfl,rfl⟩
 intro ap vS
 refine zk Z Z Z (zQ Z Z (nF (ap.out)) Z) (zk Z Z Z (zQ Z Z (nF (ap.out)) Z) (zk Z Z Z (zQ Z Z (nF (ap.out)) Z) (zk Z Z Z (zQ Z Z (nF (ap.out)) Z) (zk Z Z Z (zQ Z Z (nF (ap.out)) Z) (zk Z Z Z (zQ Z Z (nF (ap.out)) Z) (zk Z Z Z (zQ Z Z (nF (ap.out)) Z) (zk Z Z Z (zQ Z Z (nF (ap.out)) Z) (zk Z Z Z (zQ Z Z (nF (ap.out)) Z) (zk Z Z Z (zQ Z Z (nF (ap.out)) Z) (zk Z Z Z (zQ Z Z (nF (ap.out)) Z) (zk Z Z Z (zQ Z Z (nF (ap.out)) Z) (zk Z Z Z (zQ Z Z (nF (ap.out)) Z) (zk Z Z Z (zQ Z Z (nF (ap.out)) Z) (oR Z (zT Z (nF (ap.out)) Z) (oM Z Z (oN Z (oN Z (oN Z (oN Z (oN Z (oN Z (oN Z (oN Z (ZI Z Z Z (zQ Z Z Z Z) (oN Z (oR Z (zT Z Z Z) (eN (zy Z (zI (yL fun BA wQ=>?_))))))))))))))))))))))))))))))
 clear wQ
 refine rR fL1 Z (oA Z Z (eN (zP (zc (zR ?_)))))
 have q:=wAb vS
 obtain ⟨xA,vT,oX⟩:=q
 have q:=wBC cG cE (dy xA oX)
 obtain rfl:=q
 refine zR (zc (zR ?_))
 have hE:=nA vT;first | subst r | cases hE
 exact ⟨rfl,_,(zz rfl),eU,_,(bK.pick [] _ (by decide) rfl),rfl,rfl⟩
 intro bq vU
 refine oT Z bq (oT Z bq (oT Z bq (oT Z bq (oT Z bq (ZI Z Z Z (zQ Z Z (ZZ bq.out) Z) (oT Z bq (oR Z (zT Z (ZZ bq.out) Z) (oM Z Z (oN Z (oN Z (oN Z (oN Z (oN Z (oN Z (oN Z (oN Z (oN Z (oN Z (oN Z (oN Z (oN Z (oN Z (oR Z (zT Z Z Z) (oM Z Z (oN Z (oN Z (oN Z (oN Z (oN Z (oN Z (oN Z (oN Z (ZI Z Z Z (zQ Z Z Z Z) (oN Z (oR Z (zT Z Z Z) (eN (zy Z (zI (yL fun BB wR=>?_)))))))))))))))))))))))))))))))))))))))
 clear wR
 refine rR fL1 Z (oA Z Z (eN (zP (zc (zR ?_)))))
 have q:=wAb vU
 obtain ⟨xB,vV,oY⟩:=q
 have q:=wBC cG cE (dy xB oY)
 obtain rfl:=q
 refine zR (zc (zR ?_))
 have hE:=nA vV;first | subst r | cases hE
 exact ⟨rfl,_,(zz rfl),dq,_,(bJ.pick [] _ (by decide) rfl),rfl,rfl⟩
 intro az vW
 refine oT Z az (oT Z az (oT Z az (oT Z az (oT Z az (oT Z az (oT Z az (oT Z az (oT Z az (oT Z az (oT Z az (oR Z (zT Z (ZZ az.out) Z) (oM Z Z (oN Z (oN Z (oN Z (oN Z (oN Z (ZI Z Z Z (zQ Z Z Z Z) (oN Z (oR Z (zT Z Z Z) (oM Z Z (oN Z (oN Z (oN Z (oN Z (oN Z (oN Z (oN Z (oN Z (oN Z (oN Z (oN Z (oN Z (oN Z (oN Z (oR Z (zT Z Z Z) (oM Z Z (oN Z (oN Z (oN Z (oN Z (oN Z (oN Z (oN Z (oN Z (ZI Z Z Z (zQ Z Z Z Z) (oN Z (oR Z (zT Z Z Z) (eN (zy Z (zI (yL fun BC wS=>?_))))))))))))))))))))))))))))))))))))))))))))))))))))
 clear wS
 refine rR fL1 Z (oA Z Z (eN (zP (zc (zR ?_)))))
 have q:=wAb vW
 obtain ⟨xC,vX,oZ⟩:=q
 have q:=wBC cG cE (dy xC oZ)
 obtain rfl:=q
 refine zR (zc (zR ?_))
 have hE:=nA vX;first | subst r | cases hE
 exact ⟨rfl,_,(zz rfl),dq,_,(bJ.pick [] _ (by decide) rfl),rfl,rfl⟩
 intro cY vY
 refine oT Z cY (oT Z cY (oR Z (zT Z (ZZ cY.out) Z) (oM Z Z (oN Z (oN Z (oN Z (oN Z (oN Z (oN Z (oN Z (oN Z (oN Z (oN Z (oN Z (oR Z (zT Z Z Z) (oM Z Z (oN Z (oN Z (oN Z (oN Z (oN Z (ZI Z Z Z (zQ Z Z Z Z) (oN Z (oR Z (zT Z Z Z) (oM Z Z (oN Z (oN Z (oN Z (oN Z (oN Z (oN Z (oN Z (oN Z (oN Z (oN Z (oN Z (oN Z (oN Z (oN Z (oR Z (zT Z Z Z) (oM Z Z (oN Z (oN Z (oN Z (oN Z (oN Z (oN Z (oN Z (oN Z (ZI Z Z Z (zQ Z Z Z Z) (oN Z (oR Z (zT Z Z Z) (eN (zy Z (zI (yL fun BD wU=>?_))))))))))))))))))))))))))))))))))))))))))))))))))))))))
 clear wU
 refine rR fL1 Z (oA Z Z (eN (zP (zc (zR ?_)))))
 have q:=wAb vY
 obtain ⟨xD,vZ,o0⟩:=q
 have q:=wBC cG cE (dy xD o0)
 obtain rfl:=q
 refine zR (zc (zR ?_))
 have hE:=nA vZ;first | subst r | cases hE
 exact ⟨rfl,_,(zz rfl),dq,_,(bJ.pick [] _ (by decide) rfl),rfl,rfl⟩
 rintro ⟨⟩ BE n3 ⟨mL,qu,Ay,Az,AA,AB,AC,AD,AE,AF,pR,A4,tI⟩ uZ
 have lW:=wCI cG cE uZ
 try dsimp only at lW
 have oK:Hid (¬ ((↑(((↑bn.length:Int):Int) - 0).toNat:Int) < (↑bn.length:Int))):=zH (wAc)
 refine sR fL1 Z (oR Z (zW Z qu pR) (eN (zI (cF Z oK (ZJ (zd (zd (ZG (zG (sR gAb Z (bnK lW fun Bp rO wa=>zM 0 Z Z Z Z (zK Z Z Tryz.call12 zO Z) tI (fun hs=>wFV n3 mL hs rO) (.inr Z) ?_)))))))))))
 rintro iY xW Bf n4 A5 tJ ⟨rfl,rfl⟩
 have tK:sW w U iY [.blk ao 83 ba,.blk aj 83 a8,B5,.blk ac 34 B7,bg,.blk O 28 B3,B0,B8,bh,bE,cg,bi] n4:=tJ
 refine oA Z Z (eN (zP ?_))
 have hE:=nA wa;first | subst r | cases hE
 exact ⟨rfl,_,(zz rfl),iY,_,(tK.pick [] _ (by decide) rfl),rfl,rfl⟩
 intro gq wb
 refine cT Z gq (sR fL1 Z (oA Z Z (eN (zP (zR ?_)))))
 have hE:=nA wb;first | subst r | cases hE
 exact ⟨rfl,_,(zz rfl),cU,_,(dY.pick [] _ (by decide) rfl),rfl,rfl⟩
 intro bB wc
 refine oT Z bB (oT Z bB (oT Z bB (oT Z bB (oT Z bB (oR Z (zT Z (ZZ bB.out) Z) (eN (zy Z (sR fL1 Z (oA Z Z (eN (zP (zR ?_))))))))))))
 have hE:=nA wc;first | subst r | cases hE
 exact ⟨rfl,_,(zz rfl),cU,_,(dY.pick [] _ (by decide) rfl),rfl,rfl⟩
 intro bA wd
 refine oT Z bA (oT Z bA (oT Z bA (oT Z bA (oT Z bA (oR Z (zT Z (ZZ bA.out) Z) (oM Z Z (oN Z (oN Z (oN Z (oN Z (oN Z (oR Z (zT Z Z Z) (eN (zy Z (sR fL1 Z (oA Z Z (eN (zP (zR ?_)))))))))))))))))))
 have hE:=nA wd;first | subst r | cases hE
 exact ⟨rfl,_,(zz rfl),cU,_,(dY.pick [] _ (by decide) rfl),rfl,rfl⟩
 intro cX we
 refine oT Z cX (oT Z cX (oR Z (zT Z (ZZ cX.out) Z) (oM Z Z (oN Z (oN Z (oN Z (oN Z (oN Z (oR Z (zT Z Z Z) (oM Z Z (oN Z (oN Z (oN Z (oN Z (oN Z (oR Z (zT Z Z Z) (eN (zy Z (sR fL1 Z (oA Z Z (eN (zP (zR ?_)))))))))))))))))))))))
 have hE:=nA we;first | subst r | cases hE
 exact ⟨rfl,_,(zz rfl),cU,_,(dY.pick [] _ (by decide) rfl),rfl,rfl⟩
 intro gm wg
 refine cT Z gm (sR fL1 Z (oA Z Z (eN (zP (zR ?_)))))
 have hE:=nA wg;first | subst r | cases hE
 exact ⟨rfl,_,(zz rfl),cj,_,(cD.pick [] _ (by decide) rfl),rfl,rfl⟩
 intro bs wh
 refine oT Z bs (oT Z bs (oT Z bs (oT Z bs (oT Z bs (oT Z bs (oR Z (zT Z (ZZ bs.out) Z) (eN (zy Z (sR fL1 Z (oA Z Z (eN (zP (zR ?_)))))))))))))
 have hE:=nA wh;first | subst r | cases hE
 exact ⟨rfl,_,(zz rfl),cj,_,(cD.pick [] _ (by decide) rfl),rfl,rfl⟩
 intro bp wi
 refine oT Z bp (oT Z bp (oT Z bp (oT Z bp (oT Z bp (oT Z bp (oT Z bp (oR Z (zT Z (ZZ bp.out) Z) (oM Z Z (oN Z (oN Z (oN Z (oN Z (oN Z (oN Z (oR Z (zT Z Z Z) (eN (zy Z (sR fL1 Z (oA Z Z (eN (zP (zR ?_))))))))))))))))))))))
 have hE:=nA wi;first | subst r | cases hE
 exact ⟨rfl,_,(zz rfl),cj,_,(cD.pick [] _ (by decide) rfl),rfl,rfl⟩
 intro cW wj
 refine oT Z cW (oT Z cW (oR Z (zT Z (ZZ cW.out) Z) (oM Z Z (oN Z (oN Z (oN Z (oN Z (oN Z (oN Z (oN Z (oR Z (zT Z Z Z) (oM Z Z (oN Z (oN Z (oN Z (oN Z (oN Z (oN Z (oR Z (zT Z Z Z) (eN (zy Z (sR fL1 Z (oA Z Z (eN (zP (zR ?_))))))))))))))))))))))))))
 have hE:=nA wj;first | subst r | cases hE
 exact ⟨rfl,_,(zz rfl),cj,_,(cD.pick [] _ (by decide) rfl),rfl,rfl⟩
end Go.Proofs.YtnbcoenjobdplaaGreat
