import Derived.Test.YtlnfbjphfoipaaaP4
import Derived.Test.YtlnfbjphfoipaaaP3
import Derived.Test.YtlnfbjphfoipaaaP5
set_option linter.all false
open List renaming flatMap->hD,length_set->nA,set->nB,getElem_cons_succ->nD,getElem_cons_zero->nE,getElem_toArray->nG
open Go.Value renaming bool->hH
open Bool renaming eq_false_iff->hJ
open Option.some renaming inj->hU
open Int renaming toNat_natCast->nH
open Eq renaming trans->nI
namespace Go.Proofs.Ytlnfbjphfoipaaa
open Go.KL
def gDq:Sch:=.fx 2 (.fl 3 .nil) .stop
def gDr:Sch:=.fl 0 (.fx 1 .nil .stop)
def gDs:Sch:=.fx 0 (.fl 1 .nil) .stop
def gDt:Sch:=.fx 3 (.fl 4 .nil) .stop
def gDu:Sch:=.fx 1 (.fl 2 .nil) .stop
def gDv:Sch:=.fx 1 (.fx 2 .nil .stop) .stop
def gDw:Sch:=.fx 0 (.fx 1 .nil .stop) .stop
def gDx:Sch:=.fl 0 (.fl 1 (.fx 2 .nil .stop))
def gDy:Sch:=.fx 0 (.fl 1 (.fl 2 .nil)) .stop
def gDz:Sch:=.fx 3 (.fl 4 (.fx 5 .nil .stop)) .stop
def gEa:Sch:=.fl 0 gDu
def gEb:Sch:=.fl 0 gDv
def gEc:Sch:=.fx 2 (.fl 3 (.fl 4 .nil)) .stop
def gEd:Sch:=.fx 2 gDt .stop
def gEe:Sch:=.fx 0 gDu .stop
def gEf:Sch:=.fx 11 (.fx 12 (.fl 13 .nil) .stop) .stop
def gEg:Sch:=.fx 3 (.fl 4 (.fl 5 .nil)) .stop
def gEh:Sch:=.fx 13 (.fl 14 (.fl 15 .nil)) .stop
def gEi:Sch:=.fx 4 (.fx 5 (.fl 6 .nil) .stop) .stop
def gEj:Sch:=.fx 10 (.fl 11 (.fl 12 .nil)) .stop
def gEk:Sch:=.fx 0 (.fx 1 gDq .stop) .stop
def gEl:Sch:=.fl 0 (.fl 1 (.fx 2 (.fx 3 .nil .stop) .stop))
def gEm:Sch:=.fl 0 (.fx 1 (.fl 2 (.fl 3 .nil)) .stop)
def gEn:Sch:=.fl 0 (.fl 1 gDq)
def gEo:Sch:=.fx 10 gEf .stop
def gEp:Sch:=.fx 9 gEf .stop
def gEq:Sch:=.fx 12 gEh .stop
def gEr:Sch:=.fx 6 (.fx 7 (.fx 8 (.fx 9 (.fl 10 .nil) .stop) .stop) .stop) .stop
def gEs:Sch:=.fl 0 (.fl 1 gEc)
def gEt:Sch:=.fl 0 (.fl 1 gEd)
def gEu:Sch:=.fx 0 (.fx 1 gEc .stop) .stop
def gEv:Sch:=.fl 0 (.fl 1 (.fx 2 (.fx 3 (.fx 4 .nil .stop) .stop) .stop))
def gEw:Sch:=.fl 0 (.fl 2 (.fx 1 (.fx 3 gEi .stop) .stop))
def gEx:Sch:=.fl 0 (.fl 1 (.fl 3 (.fx 2 (.fx 4 (.fx 5 (.fx 6 (.fl 7 .nil) .stop) .stop) .stop) .stop)))
def gEy:Sch:=.fl 0 (.fl 1 (.fx 2 (.fl 3 (.fl 5 (.fl 6 (.fl 9 (.fl 10 (.fx 4 (.fl 7 (.fl 8 (.fx 11 (.fl 12 (.fl 13 .nil)) .stop))) .stop)))))) .stop))
set_option maxHeartbeats 4000000
theorem wDG (p0:List wAF) (ae:Option Addr) (af:Nat) (w:World) (φ:PHeap) (hS:St0 w φ [.row ae af 78 4 (hD wAP p0)])  {r:(List wAF)} (hm:wAh p0=some r):Gv Try.prog 91 [.slice ae p0.length af] w (wCF w [.row ae af 78 4 (hD wAP p0)] φ (fun φ_ L_ v=>v=.tuple #[]/\L_=[.row ae af 78 4 (hD wAP r)]/\r.length=p0.length)):=by
 unfold wAh at hm
 refine Gv.of Try.func91 Z Try.ntmps91 Try.results91 Z (sR fL5 Z (oM Z Z (oR Z (zq Z Z Zg) (oR Z (yJ Z Z Z) (oA Z Z (oA Z Z (eN (zY ?_))))))))
 let B0:Res:=.row ae af 78 4 (hD wAP p0)
 refine CK.iter (fun (aa,ab,ac) σ_ w_=>∃ (φ_:PHeap),σ_ 0=.slice ae aa.length af/\σ_ 2=jV ab/\σ_ 3=jV ac/\PHeap.Le φ φ_/\SW w [B0] φ φ_ [.row ae af 78 4 (hD wAP aa)] w_/\aa.length=p0.length) hm ?_ ?_
 exact ⟨φ,Z,Z,Z,(zO _),hS,Z⟩
 rintro ⟨aa,ab,ac⟩ a7 a8 aD ⟨au,ak,ao,ap,aY,aF,aE⟩ ax aP
 try dsimp only at ax
 refine zL (sR fL3 Z (oM Z ao (oM Z ap (oR Z (zc Z Z Z) (eN ?_)))))
 by_cases ag:ab < ac
 have aG:=ax;rw [if_pos ag] at aG;replace ag:=zM ag
 refine cT Z ag (kN (zL (zY (ZE ZF [3,3,3,3,3,3,3,1,3,3,3,1,3,0,3,0] (wLR (.fx 13 (.fl 14 (.fx 15 .nil .stop)) .stop)) (by kernel_rfl) ?_))))
 have an:=aF.drew
 generalize hw_W31:({ aD with drawn:=aD.drawn + 1 }:World)=a5 at an ⊢
 refine oM Z ak (oM Z ao (oM Z ak (oM Z ap (oM Z ak (oM Z ap (bnK aG fun _ aq aU=>?_))))))
 obtain ⟨a6,ah⟩:=an.rowSome (j:=0) rfl (by rw [wAD (f:=wAP) (sz:=4) (fun _=>rfl) aa];have hz:=wAY aq;omega)
 refine oR Z (ZY Z Z ah Z Zg ZN (wBm aq) (wBn aq)) ?_
 have aQ:=wBr (xs:=aa) (wAY aq)
 let B1:List Value:=[jV ((gd aa ac.toNat).Kind),jV ((gd aa ac.toNat).Skier),jV ((gd aa ac.toNat).Index),.bool ((gd aa ac.toNat).Up)]
 refine ZJ rfl rfl rfl rfl (an.ldRA (j:=0) rfl ah rfl rfl Zp ZN (vs:=B1) (wEX (sz:=4) (fun _=>rfl) _ _ _ aQ (by first | omega | rfl | simp) rfl) rfl) rfl (zk rfl rfl rfl rfl rfl ak (zk rfl rfl rfl rfl rfl ao (bnK aU fun _ ai aV=>zg rfl rfl rfl rfl (fun _=>ZY rfl rfl ah rfl Zg ZN (wBm ai) (wBn ai)) ?_)))
 have aR:=wBr (xs:=aa) (wAY ai)
 let B2:List Value:=[jV ((gd aa ab.toNat).Kind),jV ((gd aa ab.toNat).Skier),jV ((gd aa ab.toNat).Index),.bool ((gd aa ab.toNat).Up)]
 refine ZJ rfl rfl rfl rfl (an.ldRA (j:=0) rfl ah rfl rfl Zp ZN (vs:=B2) (wEX (sz:=4) (fun _=>rfl) _ _ _ aR (by first | omega | rfl | simp) rfl) rfl) rfl (zg rfl rfl rfl rfl (fun _=>ZY rfl rfl ah rfl Zg ZN (wBm ai) (wBn ai)) ?_)
 have aS:=wBr (xs:=aa) (wAY ai)
 refine yk (j:=0) (vs:=B1) (cs':=hD wAP (nB aa ab.toNat (gd aa ac.toNat))) rfl rfl rfl rfl an rfl ah rfl rfl rfl ZN (by rw [wAD (f:=wAP) (sz:=4) (fun _=>rfl)];have hz:=wAY ai;show _ + 4 <= _;first | omega | (simp only [nH];omega) | (simp only [nG,nD,nE];omega)) rfl (wDJ (sz:=4) (fo:=0) (fun _=>rfl) _ _ _ _ aS (by first | omega | (simp only [nH];omega) | (simp only [nG,nD,nE];omega)) (zA rfl) rfl) rfl ?_
 intro aI aL
 have aM:SW w [B0] φ au [.row ae af 78 4 (hD wAP (nB aa ab.toNat (gd aa ac.toNat)))] aI:=aL
 refine bnK aV fun _ am aW=>zg rfl rfl rfl rfl (fun _=>ZY rfl (nI (b:=(.slice ae aa.length af:Value)) (c:=(.slice ae ((nB aa ab.toNat (gd aa ac.toNat)).length) af:Value)) rfl (by simp only [nA])) ah rfl Zg ZN (wBm am) (wBn am)) ?_
 have aT:=wBr (xs:=(nB aa ab.toNat (gd aa ac.toNat))) (by first | exact wAY am | (have hz:=wAY am;simpa only [nA] using hz))
 refine yk (j:=0) (vs:=B2) (cs':=hD wAP (nB (nB aa ab.toNat (gd aa ac.toNat)) ac.toNat (gd aa ab.toNat))) rfl rfl rfl rfl aM rfl ah rfl rfl rfl ZN (by rw [wAD (f:=wAP) (sz:=4) (fun _=>rfl)];have hz:=wAY am;show _ + 4 <= _;first | omega | (simp only [nA];omega) | (simp only [nG,nD,nE,nA];omega) | (simp only [nH];omega) | (simp only [nG,nD,nE];omega)) rfl (wDJ (sz:=4) (fo:=0) (fun _=>rfl) _ _ _ _ aT (by first | omega | (simp only [nH];omega) | (simp only [nG,nD,nE];omega)) (zA rfl) rfl) rfl ?_
 intro aJ aN
 have aO:SW w [B0] φ au [.row ae af 78 4 (hD wAP (nB (nB aa ab.toNat (gd aa ac.toNat)) ac.toNat (gd aa ab.toNat)))] aJ:=aN
 refine zb (zo (zH (rR fL6 Z (oM Z ao (oR Z (za Z Z Z) (oM Z ap (oR Z (yJ Z Z Z) (oA Z Z (oA Z Z (zb ?_))))))))))
 have q:=hU aW
 obtain rfl:=q
 exact zH ⟨rfl,_,rfl,⟨au,(nI (b:=(.slice ae ((nB aa ab.toNat (gd aa ac.toNat)).length) af:Value)) (c:=(.slice ae ((nB (nB aa ab.toNat (gd aa ac.toNat)) ac.toNat (gd aa ab.toNat)).length) af:Value)) (nI (b:=(.slice ae aa.length af:Value)) (c:=(.slice ae ((nB aa ab.toNat (gd aa ac.toNat)).length) af:Value)) ak (by simp only [nA])) (by simp only [nA])),rfl,rfl,aY,aO,((nA.trans nA).trans aE)⟩⟩
 have aH:=ax;rw [if_neg ag] at aH;replace ag:=zM ag
 refine cF Z ag (Za (zi ?_))
 have q:=wAZ aH
 obtain ⟨aZ,aX,aK⟩:=q
 have q:=aP aZ aK
 obtain rfl:=q
 refine zi (ZQ ?_)
 have hE:=hU aX;first | subst r | cases hE
 exact ⟨Z,_,(wLD),au,_,aF,Z,Z,aE⟩
theorem wFu (p0:wAW) (aF:Nat) (aM:Option Addr) (aR:Nat) (aN:Option Addr) (aS:Nat) (aO:Option Addr) (aT:Nat) (aP:Option Addr) (aU:Nat) (aW:Nat) (bm:Array MapEntry) (bn:Nat) (aQ:Option Addr) (aV:Nat) (p1:wAb) (aD:Option Addr) (aG:Nat) (aE:Option Addr) (aH:Nat) (p2:(Int->Option Bool)) (au:Value) (p3:Int) (w:World) (φ:PHeap) (hS:St0 w φ []) (cW:Cl φ aF 0 [.slice aM p0.Race.Starts.length aR,.slice aN p0.Race.Splits.length aS,.slice aO p0.Race.Clocks.length aT,.slice aP p0.Race.Readings.length aU,.map (some aW),.slice aQ p0.edges.length aV]) (cX:Sl φ 1 aM aR p0.Race.Starts.length (hD KL.encI p0.Race.Starts)) (cY:Sl φ 2 aN aS p0.Race.Splits.length (hD wAE p0.Race.Splits)) (cZ:Sl φ 3 aO aT p0.Race.Clocks.length (hD wAB p0.Race.Clocks)) (c6:Sl φ 4 aP aU p0.Race.Readings.length (hD wAA p0.Race.Readings)) (da:MpF φ aW bm bn wBE wBK p0.number) (db:Sl φ 7 aQ aV p0.edges.length (hD wAQ p0.edges)) (dd:Sl φ 1 aD aG p1.far.length (hD KL.encI p1.far)) (de:Sl φ 1 aE aH p1.by_.length (hD KL.encI p1.by_)) (df:FnOK Try.prog φ au wMZ wMa p2) {r:(List wAF)} (hm:wCu p0 p1 p2 p3=some r):Gv Try.prog 61 [.pointer (some ⟨aF,0,none⟩),.agg #[.slice aD p1.far.length aG,.slice aE p1.by_.length aH],au,jV p3] w (wCF w [] φ (fun φ_ L_ v=>∃ (A0:Option Addr) (c0:Nat),v=.slice A0 r.length c0/\L_=[.row A0 c0 78 4 (hD wAP r)])):=by
 unfold wCu at hm
 refine Gv.of Try.func61 Z Try.ntmps61 Try.results61 Z (sR gEk Z ?_)
 let B0:List Value:=[.pointer (some ⟨aF,0,none⟩)]
 refine zu (cs:=B0) rfl rfl rfl rfl rfl rfl (by rfl) hS ?_
 intro W1 b2 cK
 have q:=cK.freeze (k:=0) rfl
 obtain ⟨bp,af,aq,cS⟩:=q
 replace aq:=Cl.of aq
 have cU:sW w φ bp [] W1:=cS
 replace aq:Cl bp b2 0 B0:=aq
 let B1:List Value:=[.slice aD p1.far.length aG,.slice aE p1.by_.length aH]
 refine zu (cs:=B1) rfl rfl rfl rfl rfl rfl (by rfl) cU ?_
 intro bs ax cD
 have q:=cD.freeze (k:=0) rfl
 obtain ⟨bo,ae,an,cE⟩:=q
 replace an:=Cl.of an
 have cG:sW w φ bo [] bs:=cE
 replace an:Cl bo ax 0 B1:=an
 have bw:=df.le af
 have bg:=bw.le ae
 refine zu (cs:=[au]) Z Z Z Z Z Z (FnOK.cells bg) cG ?_
 intro bt az cH
 have q:=cH.freeze (k:=0) rfl
 obtain ⟨aZ,ac,ao,cI⟩:=q
 replace ao:=Cl.of ao
 have cJ:sW w φ aZ [] bt:=cI
 replace ao:Cl aZ az 0 [au]:=ao
 refine oA Z Z (eN (sR (.fx 0 .nil .stop) Z (zV (cs:=[.slice none 0 0]) Z Z Z Z Z Try.zeroValue69 Z cJ ?_)))
 intro dl aj cL
 refine eN (sR (.fx 0 .nil .stop) Z (zV (cs:=[.nilFunc]) Z Z Z Z Z Try.zeroValue156 Z cL ?_))
 intro dm am cM
 refine eN (sR gDr Z (oR Z (yl Z zN (zB Z (zB Z (zB Z (zB Z (zB Z zN)))))) ?_))
 let B2:List Value:=[.func (.func 90) #[] #[.pointer (some ⟨ax,0,none⟩),.pointer (some ⟨aj,0,none⟩),.pointer (some ⟨az,0,none⟩),.pointer (some ⟨b2,0,none⟩),.pointer (some ⟨am,0,none⟩)]]
 refine zW (j:=0) (vs:=B2) Z Z Z Z cM Z Z Z Z Try.sizeOf156 (zA Z) Z Z Z ?_
 intro ak cN
 let B3:Res:=.blk aj 69 [.slice none 0 0]
 have bj:sW w φ aZ [.blk am 156 B2,B3] ak:=cN
 refine eN (sR gDx Z (oL Z (bj.ldB (j:=0) Z Z Z Try.isAgg156 (v:=.func (.func 90) #[] #[.pointer (some ⟨ax,0,none⟩),.pointer (some ⟨aj,0,none⟩),.pointer (some ⟨az,0,none⟩),.pointer (some ⟨b2,0,none⟩),.pointer (some ⟨am,0,none⟩)]) Z) (oM Z Z ?_)))
 have q:=bj.freeze (k:=0) rfl
 obtain ⟨av,ab,ap,cO⟩:=q
 replace ap:=Cl.of ap
 have cP:sW w φ av [B3] ak:=cO
 replace ap:Cl av am 0 B2:=ap
 have cQ:=cP.nilrow 78 4
 let B4:Res:=.row none 0 78 4 (hD wAP ([]:List wAF))
 let B5:Res:=.blk aj 69 [.slice none (([]:List wAF).length) 0]
 have cR:sW w φ av [B4,B5] ak:=cQ
 have bx:=an.le ac
 have bz:=bx.le ab
 have bA:=dd.le af
 have bB:=bA.le ae
 have bC:=bB.le ac
 have bD:=bC.le ab
 have bE:=de.le af
 have bF:=bE.le ae
 have bG:=bF.le ac
 have bH:=bG.le ab
 have bI:=ao.le ab
 have bJ:=bg.le ac
 have bK:=bJ.le ab
 have bL:=aq.le ae
 have bM:=bL.le ac
 have bN:=bM.le ab
 have bP:=cW.le af
 have bQ:=bP.le ae
 have bR:=bQ.le ac
 have bS:=bR.le ab
 have bU:=cX.le af
 have bV:=bU.le ae
 have bW:=bV.le ac
 have bX:=bW.le ab
 have bY:=cY.le af
 have bZ:=bY.le ae
 have ca:=bZ.le ac
 have cb:=ca.le ab
 have cc:=cZ.le af
 have cd:=cc.le ae
 have cf:=cd.le ac
 have cg:=cf.le ab
 have ci:=c6.le af
 have cm:=ci.le ae
 have cn:=cm.le ac
 have co:=cn.le ab
 have cp:=da.le af
 have cq:=cp.le ae
 have cr:=cq.le ac
 have ct:=cr.le ab
 have cu:=db.le af
 have cw:=cu.le ae
 have cx:=cw.le ac
 have cy:=cx.le ab
 refine bnK hm fun aI cz dh=>?_
 have cV:sW w φ av [B5,B4] ak:=cR.pick [1,0] _ (by decide) rfl
 refine zF 2 Z Z Z Z (zD Z Z Try.call90 (zB Z zN) Z) cV (fun hs=>wFI 1000 p3 p1 ax aD aG aE aH ([]:List wAF) aj none 0 p2 az au p0 b2 aF aM aR aN aS aO aT aP aU aW bm bn aQ aV () am ak av hs bz bD bH bI bK bN bS bX cb cg co ct cy ap cz) (.inl Z) ?_
 rintro bq dk dr bd dn cA ⟨ah,ai,rfl,rfl⟩
 let B6:Res:=.blk aj 69 [.slice ah aI.length ai]
 have bh:sW w φ bq [.row ah ai 78 4 (hD wAP aI),B6] bd:=cA
 refine eN (sR gDr Z (oL Z (bh.ldB (j:=1) Z Z Z Try.isAgg69 (v:=.slice ah aI.length ai) Z) (bnK dh fun aX bu dg=>zF 1 Z Z Z Z (zD Z Z Try.call91 (zB Z zN) Z) bh (fun hs=>wDG aI ah ai bd bq hs bu) (.inl Z) ?_)))
 rintro aY di dq be dp cB ⟨rfl,rfl,bv⟩
 let B7:Res:=.row ah ai 78 4 (hD wAP aX)
 have cC:sW w φ aY [B7,B6] be:=cB
 have bi:sW w φ aY [B7,.blk aj 69 [.slice ah aX.length ai]] be:=by rw [bv];exact cC
 refine eN (sR fL2 Z (oL Z (bi.ldB (j:=1) Z Z Z Try.isAgg69 (v:=.slice ah aX.length ai) Z) (oA Z Z (eN (zS ?_)))))
 have hE:=hU dg;first | subst r | cases hE
 exact ⟨rfl,_,(ZM rfl),aY,_,(bi.pick [0] _ (by decide) rfl),ah,ai,rfl,rfl⟩
theorem wHt (p0:wAC) (aX:Option Addr) (a6:Nat) (aY:Option Addr) (a7:Nat) (aZ:Option Addr) (a8:Nat) (a5:Option Addr) (a9:Nat) (w:World) (φ:PHeap) (hS:St0 w φ []) (ep:Sl φ 1 aX a6 p0.Starts.length (hD KL.encI p0.Starts)) (er:Sl φ 2 aY a7 p0.Splits.length (hD wAE p0.Splits)) (eu:Sl φ 3 aZ a8 p0.Clocks.length (hD wAB p0.Clocks)) (ew:Sl φ 4 a5 a9 p0.Readings.length (hD wAA p0.Readings)) {r:(List wAF) × Int} (hm:wDN p0=some r):Gv Try.prog 28 [.agg #[.slice aX p0.Starts.length a6,.slice aY p0.Splits.length a7,.slice aZ p0.Clocks.length a8,.slice a5 p0.Readings.length a9]] w (wCF w [] φ (fun φ_ L_ v=>∃ (A0:Option Addr) (c0:Nat),v=.tuple #[.slice A0 r.1.length c0,jV r.2]/\L_=[.row A0 c0 78 4 (hD wAP r.1)])):=by
 unfold wDN at hm
 refine Gv.of Try.func28 Z Try.ntmps28 Try.results28 Z (sR gDy Z ?_)
 let B0:List Value:=[.slice aX p0.Starts.length a6,.slice aY p0.Splits.length a7,.slice aZ p0.Clocks.length a8,.slice a5 p0.Readings.length a9]
 refine zu (cs:=B0) rfl rfl rfl rfl rfl rfl (by rfl) hS ?_
 intro W1 b2 bX
 refine oA Z Z (oA Z Z (eN (sR (.fl 0 (.fx 1 (wFy (.nil)) .stop)) Z (oL Z (bX.ldBA (j:=0) Z Z Z zf zX (vs:=B0) Z Z) ?_))))
 have q:=bnd hm
 obtain ⟨⟨x5,x6⟩,h7,aN⟩:=q
 try dsimp only at aN
 refine zF 0 Z Z Z Z (zD Z Z Try.call60 (zB Z zN) Z) bX (fun hs=>wDo p0 aX a6 aY a7 aZ a8 a5 a9 W1 φ hs ep er eu ew h7) (.inr Z) ?_
 rintro bb fm fE aS fB bU bS
 rcases x5 with _ | af
 try dsimp only at aN
 obtain ⟨rfl,rfl⟩:=bS
 have dY:sW w φ bb [.blk b2 28 B0] aS:=bU
 refine oM Z Z (oR Z (zU Z Z (v:=.pointer none) Z) (oR Z (zU Z Z (v:=jV x6) Z) (oA Z Z (oA Z Z (eN (zL (sR fL2 Z (oM Z Z (oR Z (ZZ Z Z Z) (eN (ifc aN ?_ ?_)))))))))))
 intro bm eK
 refine zt (zw (fun h=>h bm.out)) (kN (sR (.fl 0 (.fx 1 (wKV gEr) .stop)) Z (oM Z Z ?_)))
 cases eK
 intro bm eL
 refine cT Z bm (sR fL3 Z (oM Z Z (oA Z Z (oA Z Z (eN (zS (zR ?_)))))))
 have dZ:=dY.nilrow 78 4
 cases eL
 exact ⟨rfl,_,(wDx rfl rfl),bb,_,(dZ.pick [0] _ (by decide) rfl),none,0,rfl,rfl⟩
 try dsimp only at aN
 obtain ⟨ac,bc,bg,bd,bh,be,bi,bf,bj,ag,an,am,aI,aK,rfl,rfl,dy,dz,dA,dB,br⟩:=bS
 let B1:List Value:=[.slice bc af.Race.Starts.length bg,.slice bd af.Race.Splits.length bh,.slice be af.Race.Clocks.length bi,.slice bf af.Race.Readings.length bj,.map (some ag),.slice aI af.edges.length aK]
 have bY:sW w φ bb [.blk ac 124 B1,.obj ag (.map an am),.row aI aK 130 7 (hD wAQ af.edges),.blk b2 28 B0] aS:=bU
 refine oM Z Z (oR Z (zU Z Z (v:=.pointer (some ⟨ac,0,none⟩)) Z) (oR Z (zU Z Z (v:=jV x6) Z) (oA Z Z (oA Z Z (eN (zL (sR fL2 Z (oM Z Z (oR Z (ZZ Z Z Z) (eN (ifc aN ?_ ?_)))))))))))
 intro bn eM
 refine zt (zw (fun h=>h bn.out)) (kN (sR (.fl 0 (.fx 1 (wKV gEr) .stop)) Z (oM Z Z ?_)))
 have q:=bY.freezeR (k:=2) (n:=af.edges.length) rfl (wAD (f:=wAQ) (sz:=7) (fun _=>rfl) af.edges) (by decide)
 obtain ⟨cg,aW,bu,d5⟩:=q
 have d7:sW w φ cg [.blk ac 124 B1,.obj ag (.map an am),.blk b2 28 B0] aS:=d5
 have bM:=dy.le aW
 have bN:=dz.le aW
 have bP:=dA.le aW
 have bQ:=dB.le aW
 have q:=bnd eM
 obtain ⟨⟨ah,bw,fd⟩,dC,bZ⟩:=q
 try dsimp only at bZ
 refine zF 2 Z Z Z Z (zD Z Z Try.call57 (zB Z (zB Z (zB Z zN))) Z) d7 (fun hs=>wBG af ac bc bg bd bh be bi bf bj ag an am aI aK (-1) false aS cg hs bM bN bP bQ br bu dC) (.inl Z) ?_
 rintro aH ft fH cn aF d9 ⟨aR,aT,aJ,aL,rfl,rfl⟩
 let B2:Res:=.row aJ aL 3 1 (hD KL.encI ah.by_)
 let B3:Res:=.row aR aT 3 1 (hD KL.encI ah.far)
 have ef:sW w φ aH [B3,B2,.blk ac 124 B1,.obj ag (.map an am),.blk b2 28 B0] cn:=d9
 refine oM Z Z (oR Z (zU Z Z (v:=.agg #[.slice aR ah.far.length aT,.slice aJ ah.by_.length aL]) Z) (oR Z (zU Z Z (v:=jV bw) Z) (oR Z (zU Z Z (v:=.bool fd) Z) (zV (cs:=[.slice none 0 0,.slice none 0 0]) Z Z Z Z Z Zk Z ef ?_))))
 intro fw ak eg
 refine zV (cs:=[jV 0]) Z Z Z Z Z zz Z eg ?_
 intro fy ao eh
 let B4:List Value:=[.slice aR ah.far.length aT,.slice aJ ah.by_.length aL]
 refine zW (j:=1) (vs:=B4) Z Z Z Z eh Z Z Z Z Zy (zA Z) Z Z Z ?_
 intro co ej
 have ek:sW w φ aH [.blk ao 3 [jV 0],.blk ak 118 B4,B3,B2,.blk ac 124 B1,.obj ag (.map an am),.blk b2 28 B0] co:=ej
 refine zW (j:=0) (vs:=[jV bw]) Z Z Z Z ek Z Z Z Z zC (zA Z) Z Z Z ?_
 intro cp en
 have aV:sW w φ aH [.blk ao 3 [jV bw],.blk ak 118 B4,B3,B2,.blk ac 124 B1,.obj ag (.map an am),.blk b2 28 B0] cp:=en
 refine oA Z Z (eN (zL (sR fL1 Z (oM Z Z (eN (ifc bZ ?_ ?_))))))
 intro bo eO
 refine ZL (congrArg hH bo.out) (sR fL2 Z (oA Z Z (oA Z Z (eN (zS (zR ?_))))))
 have eo:=aV.nilrow 78 4
 cases eO
 exact ⟨rfl,_,(wDx rfl rfl),aH,_,(eo.pick [0] _ (by decide) rfl),none,0,rfl,rfl⟩
 intro bo eQ
 refine zt (congrArg hH (hJ.2 bo.out)) (kN (zL (sR fL6 Z (oM Z Z (oR Z (Zd Z Z) (oR Z (zG Z Z ZI Z Zx) (oL Z (aV.ldB (j:=4) Z Z Z yD (v:=.map (some ag)) Z) (oL Z (aV.lenM (j:=5) (mk:=wBE) (mv:=wBK) Z Z Z (wBp ZO) br) (oM Z Z (eN (zY (bnK eQ fun aG ey eF=>?_))))))))))))
 have q:=wBL ey
 obtain ⟨bt,eA⟩:=q
 replace bt:=zM bt
 refine CK.forN' (fun aO bx σ_ w_=>∃ (φ_:PHeap),σ_ 29=jV (↑aO:Int)/\σ_ 4=.pointer (some ⟨ac,0,none⟩)/\σ_ 6=.pointer (some ⟨ak,0,none⟩)/\σ_ 7=.pointer (some ⟨ao,0,none⟩)/\σ_ 28=jV (↑(af.number.length):Int)/\PHeap.Le aH φ_/\sW w φ φ_ [.blk ao 3 [jV bx],B3,B2,.blk ak 118 B4,.blk ac 124 B1,.obj ag (.map an am),.blk b2 28 B0] w_) eA ?_ ?_ ?_
 exact ⟨aH,rfl,rfl,rfl,rfl,rfl,(zO _),(aV.pick [0,2,3,1,4,5,6] _ (by decide) rfl)⟩
 rintro aO bx fI fJ bC bs ⟨cc,bL,bH,bI,bp,bJ,ca,dH⟩ eW
 have bF:Hid ((↑aO:Int) < (↑(af.number.length):Int)):=zM (wAs bs)
 replace bs:=zM bs
 have eE:Hid (w64 ((↑aO:Int) + 1)=(↑(aO + 1):Int)):=zM (by have h1:=bt.out;have h2:=bF.out;rw [wAT] <;> omega)
 refine sR fL1 rfl (zg rfl rfl rfl rfl (fun _=>zc rfl bL bJ) (eN (zL (cT Z bF (kN (zL (zY (ZE ZF [3,3,3,1,3,1,1,3,1,3,3,1,0] (wMy (.fx 12 .nil .stop)) (by kernel_rfl) ?_))))))))
 have aq:=dH.drew
 generalize hw_W123:({ bC with drawn:=bC.drawn + 1 }:World)=fu at aq ⊢
 refine oM Z bH (oR Z (Zd Z Z) (oR Z (zG Z Z ZI Z yY) (oL Z (aq.ldB (j:=4) Z Z Z Try.isAgg122 (v:=.slice aI af.edges.length aK) Z) (oR Z (zG Z bI ZU Z zy) (oL Z (aq.ldB (j:=3) Z Z Z ZK (v:=.slice aJ ah.by_.length aL) Z) (oL Z (aq.ldB (j:=0) Z Z bp zJ (v:=jV bx) Z) (bnK eW fun _ aU eG=>?_)))))))
 obtain ⟨fz,bR⟩:=aq.rowSome (j:=2) rfl (by rw [wAD (f:=KL.encI) (sz:=1) (fun _=>rfl) ah.by_];have hz:=wAY aU;omega)
 refine oR Z (ZY Z Z bR Z zE zC (wBm aU) (wBn aU)) ?_
 have eD:=wBr (xs:=ah.by_) (wAY aU)
 refine ZJ rfl rfl rfl rfl (aq.ldR (j:=2) rfl bR rfl rfl zJ (wAj (sz:=1) (fun _=>rfl) _ _ 0 _ eD (by first | omega | rfl | simp) rfl)) rfl (bnK eG fun bv bq eH=>?_)
 have cx:=bu.le aF
 have cy:=cx.le ca
 have q:=cy.el (fun _=>rfl) (wAX bq)
 obtain ⟨fA,fD,dE,dF⟩:=q
 refine oR Z (ZY Z Z dE Z yc yd (wCG bq) (wCI bq)) (oR Z (zG Z Z yN Z zC) (oL Z (aq.ldC (f:=4) dF (v:=jV bv.from_) Z Z zJ Z) (zW (j:=0) (vs:=[jV bv.from_]) Z Z Z Z aq Z bp Z Z zC (zA Z) Z Z Z ?_)))
 intro cm dI
 have dJ:sW w φ cc [.blk ao 3 [jV bv.from_],B3,B2,.blk ak 118 B4,.blk ac 124 B1,.obj ag (.map an am),.blk b2 28 B0] cm:=dI
 refine zb (zo (zH (rR fL2 Z (oR Z (ZG (za Z bL Z) (congrArg (jV) eE.out)) (oM Z Z (zb ?_))))))
 cases eH
 exact zH ⟨Z,⟨cc,Z,bH,bI,bp,bJ,ca,dJ⟩⟩
 rintro fK az ⟨fL,cw,cr,ct,bK,cu,aP,bV⟩
 have cq:Hid (¬ ((↑(((↑(af.number.length):Int):Int) - 0).toNat:Int) < (↑(af.number.length):Int))):=zM (wAc)
 refine sR fL1 Z (oR Z (zc Z cw cu) (eN (zL (cF Z cq (Za (zi (zi (ZQ (zH (sR (wEI (.fx 4 (.fl 5 (.fl 6 .nil)) .stop)) Z (oM Z cr (oL Z (bV.ldBA (j:=3) Z Z ct Try.isAgg118 Zy (vs:=B4) Z Z) ?_))))))))))))
 have q:=bV.freeze (k:=0) rfl
 obtain ⟨cd,aQ,aD,dK⟩:=q
 replace aD:=Cl.of aD
 have bW:sW w φ cd [B3,B2,.blk ak 118 B4,.blk ac 124 B1,.obj ag (.map an am),.blk b2 28 B0] az:=dK
 replace aD:Cl cd ao 0 [jV aG]:=aD
 refine oR Z (yl Z zN (zB bK zN)) (oL Z (bW.ldC (f:=0) aD (v:=jV aG) Z bK zJ Z) ?_)
 have q:=bW.freezeR (k:=0) (n:=ah.far.length) rfl (wAD (f:=KL.encI) (sz:=1) (fun _=>rfl) ah.far) (by decide)
 obtain ⟨fg,aE,eU,dL⟩:=q
 have dM:sW w φ fg [B2,.blk ak 118 B4,.blk ac 124 B1,.obj ag (.map an am),.blk b2 28 B0] az:=dL
 have q:=dM.freezeR (k:=0) (n:=ah.by_.length) rfl (wAD (f:=KL.encI) (sz:=1) (fun _=>rfl) ah.by_) (by decide)
 obtain ⟨fh,ax,eV,dN⟩:=q
 have dO:sW w φ fh [.blk ak 118 B4,.blk ac 124 B1,.obj ag (.map an am),.blk b2 28 B0] az:=dN
 have q:=dO.freezeM (k:=2) rfl br
 obtain ⟨fj,au,eB,dQ⟩:=q
 have dR:sW w φ fj [.blk ak 118 B4,.blk ac 124 B1,.blk b2 28 B0] az:=dQ
 have q:=dR.freezeTB (k:=1) rfl
 obtain ⟨ba,ap,aM,dP,eY⟩:=q
 replace aM:=Cl.of aM
 have dS:sW w φ ba [.blk ak 118 B4,.blk b2 28 B0] az:=dP
 replace aM:Cl ba ac 0 B1:=aM
 have cz:=bM.le aF
 have cA:=cz.le aP
 have cB:=cA.le aQ
 have cC:=cB.le aE
 have cD:=cC.le ax
 have cE:=cD.le au
 have cG:=cE.le ap
 have cH:=bN.le aF
 have cI:=cH.le aP
 have cJ:=cI.le aQ
 have cK:=cJ.le aE
 have cL:=cK.le ax
 have cM:=cL.le au
 have cN:=cM.le ap
 have cO:=bP.le aF
 have cP:=cO.le aP
 have cQ:=cP.le aQ
 have cR:=cQ.le aE
 have cS:=cR.le ax
 have cU:=cS.le au
 have cV:=cU.le ap
 have cW:=bQ.le aF
 have cX:=cW.le aP
 have cY:=cX.le aQ
 have cZ:=cY.le aE
 have c6:=cZ.le ax
 have da:=c6.le au
 have db:=da.le ap
 have dd:=eB.le ap
 have de:=bu.le aF
 have df:=de.le aP
 have dg:=df.le aQ
 have dh:=dg.le aE
 have di:=dh.le ax
 have dk:=di.le au
 have dl:=dk.le ap
 have dm:=eU.le ax
 have dn:=dm.le au
 have dp:=dn.le ap
 have dq:=eV.le au
 have dr:=dq.le ap
 have dt:=aD.le aE
 have du:=dt.le ax
 have dv:=du.le au
 have dw:=dv.le ap
 have dG:FnOK Try.prog ba (.func (.func 62) #[] #[.pointer (some ⟨ao,0,none⟩)]) wMZ wMa (fun x=>wBw x aG):=⟨62,[],[.pointer (some ⟨ao,0,none⟩)],rfl,Try.call62,fun ff w1 x y vs le hs ha hm=>by obtain rfl:=ha;exact wGy x aG ao w1 ff hs (dw.le le) hm⟩
 refine bnK eF fun fb dx eI=>zF 0 Z Z Z Z (zD Z Z Try.call61 (zB Z (zB Z (zB Z (zB Z zN)))) Z) dS (fun hs=>wFu af ac bc bg bd bh be bi bf bj ag an am aI aK ah aR aT aJ aL (fun x=>wBw x aG) (.func (.func 62) #[] #[.pointer (some ⟨ao,0,none⟩)]) aG az ba hs aM cG cN cV db dd dl dp dr dG dx) (.inr Z) ?_
 rintro fk fq fG bD eX dT ⟨bA,bG,rfl,rfl⟩
 let B5:Res:=.row bA bG 78 4 (hD wAP fb)
 have dU:sW w φ fk [B5,.blk ak 118 B4,.blk b2 28 B0] bD:=dT
 have q:=eY _ _ _ eX dU
 obtain ⟨cf,fC,dV⟩:=q
 have dW:sW w φ cf [.blk ac 124 B1,B5,.blk ak 118 B4,.blk b2 28 B0] bD:=dV
 refine oA Z Z (oA Z Z (eN (zS ?_)))
 cases eI
 exact ⟨rfl,_,(wDx rfl rfl),cf,_,(dW.pick [1] _ (by decide) rfl),bA,bG,rfl,rfl⟩
 intro bn eJ
 refine cT Z bn (sR fL3 Z (oM Z Z (oA Z Z (oA Z Z (eN (zS (zR ?_)))))))
 have dX:=bY.nilrow 78 4
 cases eJ
 exact ⟨rfl,_,(wDx rfl rfl),bb,_,(dX.pick [0] _ (by decide) rfl),none,0,rfl,rfl⟩
theorem wBx (p0:wAW) (ak:Nat) (af:Option Addr) (am:Nat) (ag:Option Addr) (an:Nat) (ah:Option Addr) (ao:Nat) (ai:Option Addr) (ap:Nat) (ab:Nat) (ac:Array MapEntry) (ae:Nat) (aj:Option Addr) (aq:Nat) (w:World) (φ:PHeap) (hS:St0 w φ [.blk ak 124 [.slice af p0.Race.Starts.length am,.slice ag p0.Race.Splits.length an,.slice ah p0.Race.Clocks.length ao,.slice ai p0.Race.Readings.length ap,.map (some ab),.slice aj p0.edges.length aq],.obj ab (.map ac ae)]) (aS:Sl φ 1 af am p0.Race.Starts.length (hD KL.encI p0.Race.Starts)) (aT:Sl φ 2 ag an p0.Race.Splits.length (hD wAE p0.Race.Splits)) (aU:Sl φ 3 ah ao p0.Race.Clocks.length (hD wAB p0.Race.Clocks)) (aV:Sl φ 4 ai ap p0.Race.Readings.length (hD wAA p0.Race.Readings)) (aW:MpR ac wBE wBK p0.number) (aX:Sl φ 7 aj aq p0.edges.length (hD wAQ p0.edges)) {r:Bool} (hm:wAe p0=some r):Gv Try.prog 63 [.pointer (some ⟨ak,0,none⟩)] w (wCF w [.blk ak 124 [.slice af p0.Race.Starts.length am,.slice ag p0.Race.Splits.length an,.slice ah p0.Race.Clocks.length ao,.slice ai p0.Race.Readings.length ap,.map (some ab),.slice aj p0.edges.length aq],.obj ab (.map ac ae)] φ (fun φ_ L_ v=>v=.bool r/\L_=[.blk ak 124 [.slice af p0.Race.Starts.length am,.slice ag p0.Race.Splits.length an,.slice ah p0.Race.Clocks.length ao,.slice ai p0.Race.Readings.length ap,.map (some ab),.slice aj p0.edges.length aq],.obj ab (.map ac ae)])):=by
 unfold wAe at hm
 refine Gv.of Try.func63 Z Try.ntmps63 Try.results63 Z (sR fL1 Z (oA Z Z (eN (sR (.fl 0 (.fx 1 (wKV (.fx 6 (.fx 7 (.fl 8 (.fl 9 .nil)) .stop) .stop)) .stop)) Z (oM Z Z ?_)))))
 have q:=bnd hm
 obtain ⟨⟨x3,x4,x5⟩,h6,aI⟩:=q
 try dsimp only at aI
 refine zF 2 Z Z Z Z (zD Z Z Try.call57 (zB Z (zB Z (zB Z zN))) Z) hS (fun hs=>wBG p0 ak af am ag an ah ao ai ap ab ac ae aj aq (-1) false w φ hs aS aT aU aV aW aX h6) (.inl Z) ?_
 rintro aE L9 a8 aJ a7 aN ⟨ax,az,ay,aD,rfl,rfl⟩
 let B0:Res:=.blk ak 124 [.slice af p0.Race.Starts.length am,.slice ag p0.Race.Splits.length an,.slice ah p0.Race.Clocks.length ao,.slice ai p0.Race.Readings.length ap,.map (some ab),.slice aj p0.edges.length aq]
 let B1:Res:=.row ax az 3 1 (hD KL.encI x3.far)
 let B2:Res:=.row ay aD 3 1 (hD KL.encI x3.by_)
 have aO:SW w [B0,.obj ab (.map ac ae)] φ aE [B1,B2,B0,.obj ab (.map ac ae)] aJ:=aN
 refine oM Z Z (oR Z (zU Z Z (v:=.agg #[.slice ax x3.far.length az,.slice ay x3.by_.length aD]) Z) (oR Z (zU Z Z (v:=jV x4) Z) (oR Z (zU Z Z (v:=.bool x5) Z) (zV (cs:=[.slice none 0 0,.slice none 0 0]) Z Z Z Z Z Zk Z aO ?_))))
 intro a6 aL aP
 let B3:List Value:=[.slice ax x3.far.length az,.slice ay x3.by_.length aD]
 refine zW (j:=0) (vs:=B3) Z Z Z Z aP Z Z Z Z Zy (zA Z) Z Z Z ?_
 intro aK aQ
 have aR:SW w [B0,.obj ab (.map ac ae)] φ aE [.blk aL 118 B3,B1,B2,B0,.obj ab (.map ac ae)] aK:=aQ
 refine oA Z Z (oA Z Z (eN (sR fL2 Z (oM Z Z (oA Z Z (eN (zS ?_)))))))
 have hE:=hU aI;first | subst r | cases hE
 exact ⟨rfl,_,(ZM rfl),aE,_,(aR.pick [3,4] _ (by decide) rfl),rfl,rfl⟩
theorem wGz (p0:Int) (p1:wAI) (p2:Int) (af:Nat) (w:World) (φ:PHeap) (hS:St0 w φ []) (ag:Cl φ af 0 [jV p2]) {r:Bool} (hm:wCK p0 p1 p2=some r):Gv Try.prog 65 [jV p0,.agg #[jV p1.Skier,jV p1.Mat,jV p1.Clock,jV p1.Time],.pointer (some ⟨af,0,none⟩)] w (wCF w [] φ (fun φ_ L_ v=>v=.bool r/\L_=[])):=by
 unfold wCK at hm
 refine Gv.of Try.func65 rfl Try.ntmps65 Try.results65 rfl (sR gDs rfl (zu (cs:=[jV p1.Skier,jV p1.Mat,jV p1.Clock,jV p1.Time]) rfl rfl rfl rfl rfl rfl (by rfl) hS ?_))
 intro W1 b2 ac
 refine oA Z Z (eN (sR fL4 Z (oM Z Z (oL Z (ac.ldC (f:=0) ag (v:=jV p2) Z Z zJ Z) (oR Z (Zs Z Z Z) (oA Z Z (eN (zS ?_))))))))
 first | (obtain rfl:=hU hm) | cases hm
 exact ⟨rfl,_,(ZM rfl),φ,_,(ac.pick [] _ (by decide) rfl),rfl,rfl⟩
theorem wDK (p0:wAC) (aj:Option Addr) (an:Nat) (ak:Option Addr) (ao:Nat) (am:Option Addr) (ap:Nat) (aD:Option Addr) (aE:Nat) (p1:((Int × wAI)->Option Bool)) (a6:Value) (w:World) (φ:PHeap) (hS:St0 w φ []) (cN:Sl φ 1 aj an p0.Starts.length (hD KL.encI p0.Starts)) (cO:Sl φ 2 ak ao p0.Splits.length (hD wAE p0.Splits)) (cP:Sl φ 3 am ap p0.Clocks.length (hD wAB p0.Clocks)) (cQ:Sl φ 4 aD aE p0.Readings.length (hD wAA p0.Readings)) (cR:FnOK Try.prog φ a6 wKh wKi p1) {r:wAW} (hm:wAi p0 p1=some r):Gv Try.prog 64 [.agg #[.slice aj p0.Starts.length an,.slice ak p0.Splits.length ao,.slice am p0.Clocks.length ap,.slice aD p0.Readings.length aE],a6] w (wCF w [] φ (fun φ_ L_ v=>∃ (b0:Nat) (A0p00:Option Addr) (c0p00:Nat) (A0p01:Option Addr) (c0p01:Nat) (A0p02:Option Addr) (c0p02:Nat) (A0p03:Option Addr) (c0p03:Nat) (m0p1:Nat) (es0p1:Array MapEntry) (ck0p1:Nat) (A0p2:Option Addr) (c0p2:Nat),v=.pointer (some ⟨b0,0,none⟩)/\L_=[.blk b0 124 [.slice A0p00 r.Race.Starts.length c0p00,.slice A0p01 r.Race.Splits.length c0p01,.slice A0p02 r.Race.Clocks.length c0p02,.slice A0p03 r.Race.Readings.length c0p03,.map (some m0p1),.slice A0p2 r.edges.length c0p2],.obj m0p1 (.map es0p1 ck0p1),.row A0p2 c0p2 130 7 (hD wAQ r.edges)]/\Sl φ_ 1 A0p00 c0p00 r.Race.Starts.length (hD KL.encI r.Race.Starts)/\Sl φ_ 2 A0p01 c0p01 r.Race.Splits.length (hD wAE r.Race.Splits)/\Sl φ_ 3 A0p02 c0p02 r.Race.Clocks.length (hD wAB r.Race.Clocks)/\Sl φ_ 4 A0p03 c0p03 r.Race.Readings.length (hD wAA r.Race.Readings)/\MpR es0p1 wBE wBK r.number)):=by
 unfold wAi at hm
 refine Gv.of Try.func64 Z Try.ntmps64 Try.results64 Z (sR gDs Z ?_)
 let B0:List Value:=[.slice aj p0.Starts.length an,.slice ak p0.Splits.length ao,.slice am p0.Clocks.length ap,.slice aD p0.Readings.length aE]
 refine zu (cs:=B0) rfl rfl rfl rfl rfl rfl (by rfl) hS ?_
 intro W1 b2 bu
 refine yK rfl rfl rfl rfl rfl rfl (eN (sR (wCa gDt) rfl (zg rfl rfl rfl rfl (fun _=>zG rfl rfl zK rfl ZH) (ZJ rfl rfl rfl rfl (bu.ldB (j:=0) rfl rfl rfl Zi (v:=.slice aD p0.Readings.length aE) rfl) rfl (zg rfl rfl rfl rfl (fun _=>zq rfl rfl zn) (bnK hm fun x5 h6 c6=>OKS.makeSliceZ (sz:=4) (enc:=wAA) (z:=(⟨0,0,0,0⟩:wAI)) (v:=jV 0) rfl rfl rfl rfl rfl (wBp zn) wGA rfl rfl rfl rfl (by decide) (by decide) rfl rfl h6 bu ?_))))))
 intro W8 b9 ct
 have aT:sW w φ φ [.row (some ⟨b9,0,none⟩) x5.length 39 4 (hD wAA x5),.blk b2 28 B0] W8:=ct
 refine yK rfl rfl rfl rfl rfl rfl (eN (sR (wCa (.fx 3 .nil .stop)) rfl (zk rfl rfl rfl rfl rfl rfl (zg rfl rfl rfl rfl (fun _=>zG rfl rfl zK rfl ZH) (ZJ rfl rfl rfl rfl (aT.ldB (j:=1) rfl rfl rfl Zi (v:=.slice aD p0.Readings.length aE) rfl) rfl (bnK c6 fun aq cd cY=>OKS.copyM (j:=0) (f:=wAA) (m:=x5) (ys:=p0.Readings) (z:=aq) (a:=0) (n:=x5.length) rfl rfl rfl rfl rfl rfl zn ZC aT rfl (fun _=>rfl) (fun _=>rfl) rfl cd rfl (by simp) (.inr (by simp)) rfl (aT.srcS cQ) rfl ?_))))))
 intro bH cB aV
 let B1:Res:=.row (some ⟨b9,0,none⟩) x5.length 39 4 (hD wAA aq)
 have bt:sW w φ φ [B1,.blk b2 28 B0] bH:=cB
 refine eN (sR (wCa (.fx 3 .nil .stop)) rfl (zk rfl rfl rfl rfl rfl (nI (b:=(.slice (some ⟨b9,0,none⟩) x5.length x5.length:Value)) (c:=(.slice (some ⟨b9,0,none⟩) aq.length x5.length:Value)) rfl (by rw [aV])) ?_))
 have df:=bt.rowCap (j:=0) rfl (by decide) (wAD (f:=wAA) (sz:=4) (fun _=>rfl) aq)
 refine zg (v:=.slice (some ⟨b9,0,none⟩) 0 x5.length) Z Z Z Z (fun _=>ZG (Runs.slc (sz:=4) (a:=0) (b:=0) Z Z (.inr ⟨Z,Z⟩) (.inl ⟨_,Z,Z⟩) zn ZC (Int.le_refl _) (Int.le_refl _) (Int.natCast_nonneg _) df) slc0) (oR Z (zG Z Z zK Z ZH) (zW (j:=1) (vs:=[.slice (some ⟨b9,0,none⟩) 0 x5.length]) Z Z Z Z bt Z Z Z Z ZH (zA Z) Z Z Z ?_))
 intro bI cC
 have cD:sW w φ φ [B1,.blk b2 28 [.slice aj p0.Starts.length an,.slice ak p0.Splits.length ao,.slice am p0.Clocks.length ap,.slice (some ⟨b9,0,none⟩) 0 x5.length]] bI:=cC
 refine eN (zL (sR fL3 rfl (zk rfl rfl rfl rfl rfl (nI (b:=(.slice (some ⟨b9,0,none⟩) x5.length x5.length:Value)) (c:=(.slice (some ⟨b9,0,none⟩) aq.length x5.length:Value)) rfl (by rw [aV])) (zg rfl rfl rfl rfl (fun _=>zq rfl rfl zn) (zk rfl rfl rfl rfl rfl rfl (eN (zY ?_)))))))
 have q:=bnd cY
 obtain ⟨⟨dA,dh⟩,cS,bA⟩:=q
 try dsimp only at bA
 have q:=wBL cS
 obtain ⟨aW,cU⟩:=q
 replace aW:=zM aW
 refine CK.forN' (fun af (ae,ai) σ_ w_=>∃ (φ_:PHeap),σ_ 21=jV (↑af:Int)/\σ_ 1=a6/\σ_ 2=.pointer (some ⟨b2,0,none⟩)/\σ_ 19=.slice (some ⟨b9,0,none⟩) ae.length x5.length/\σ_ 20=jV (↑aq.length:Int)/\PHeap.Le φ φ_/\sW w φ φ_ [.row (some ⟨b9,0,none⟩) x5.length 39 4 (hD wAA ae),.blk b2 28 [.slice aj p0.Starts.length an,.slice ak p0.Splits.length ao,.slice am p0.Clocks.length ap,.slice (some ⟨b9,0,none⟩) ai x5.length]] w_/\ae.length=x5.length) cU ?_ ?_ ?_
 exact ⟨φ,Z,Z,Z,Z,Z,(zO _),cD,aV⟩
 rintro af ⟨ae,ai⟩ dz dB dp aU ⟨dk,az,aQ,aH,aR,aS,aZ,bv,bq⟩ bB
 try dsimp only at bB
 have bn:Hid ((↑af:Int) < (↑aq.length:Int)):=zM (wAs aU)
 replace aU:=zM aU
 have bz:Hid (w64 ((↑af:Int) + 1)=(↑(af + 1):Int)):=zM (by have h1:=aW.out;have h2:=bn.out;rw [wAT] <;> omega)
 refine sR fL1 Z (oR Z (zc Z az aS) (eN (zL (cT Z bn (kN (zL (zY (sR (wCa gDz) Z (oM Z az (bnK bB fun _ br cZ=>oR Z (Zc Z aR Z az zn ZC (wAY br)) ?_))))))))))
 have cV:=wBr (xs:=ae) (wAY br)
 let B2:List Value:=[jV ((gd ae af).Skier),jV ((gd ae af).Mat),jV ((gd ae af).Clock),jV ((gd ae af).Time)]
 refine ZJ rfl rfl rfl rfl (bv.ldRA (j:=0) rfl rfl rfl rfl yI ZC (vs:=B2) (wEX (sz:=4) (fun _=>rfl) _ _ _ cV (by first | omega | rfl | simp) rfl) rfl) rfl ?_
 let B3:List Value:=[jV 0,jV 0,jV 0,jV 0]
 refine zV (cs:=B3) Z Z Z Z Z Zb Z bv ?_
 intro dq ay cE
 refine oA Z Z (zW (j:=0) (vs:=B2) Z Z Z Z cE Z Z Z Z ZC (zA Z) Z Z Z ?_)
 intro bJ cG
 let B4:Res:=.blk b2 28 [.slice aj p0.Starts.length an,.slice ak p0.Splits.length ao,.slice am p0.Clocks.length ap,.slice (some ⟨b9,0,none⟩) ai x5.length]
 let B5:Res:=.row (some ⟨b9,0,none⟩) x5.length 39 4 (hD wAA ae)
 have bw:sW w φ dk [.blk ay 39 B2,B5,B4] bJ:=cG
 refine eN (sR (wCa gDt) Z (oM Z aQ (oM Z Z (oL Z (bw.ldBA (j:=0) Z Z Z yI ZC (vs:=B2) Z Z) (bnK cZ fun dy cp da=>?_)))))
 have cq:=cR.le aZ
 refine OKS.callV (a:=((↑af:Int),(gd ae af))) Z Z Z Z Z Z (zB Z (zB Z zN)) bw cq Z cp ?_
 rintro ax dm dx bK bC cH ⟨rfl,rfl⟩
 have aI:sW w φ ax [.blk ay 39 B2,B5,B4] bK:=cH
 refine oR Z (Ze Z Z) (eN (ifc da ?_ ?_))
 intro aP db
 refine zt (nC aP.out) (Zh (zo (zH (rR fL2 Z (oR Z (ZG (za Z az Z) (congrArg (jV) bz.out)) (oM Z Z (zb ?_)))))))
 cases db
 exact zH ⟨rfl,⟨ax,rfl,aQ,aH,aR,aS,(aZ.trans bC),(aI.pick [1,2] _ (by decide) rfl),bq⟩⟩
 intro aP dd
 refine ZL (nF (aP.out)) (rR (wCa (.fx 3 (.fx 4 (.fl 5 (.fx 6 .nil .stop)) .stop) .stop)) Z (oR Z (zG Z aH zK Z ZH) (oL Z (aI.ldB (j:=2) Z Z Z Zi (v:=.slice (some ⟨b9,0,none⟩) ai x5.length) Z) (oL Z (aI.ldBA (j:=0) Z Z Z yI ZC (vs:=B2) Z Z) (zm (pv:=[(0,.agg B2.toArray)]) (zs:=B3) (cs:=B2) Z Z Z Z Z (wAG Z wAN) zn ZC Zb Z Z Z Z Z aI ?_)))))
 intro bM bQ cI
 let B6:Res:=.row (some ⟨bQ,0,none⟩) 1 39 4 (hD wAA [(gd ae af)])
 have bx:sW w φ ax [B6,.blk ay 39 B2,B5,B4] bM:=cI
 refine bnK dd fun _ cr de=>OKS.appendP (j:=2) (k:=ai) (enc:=wAA) (m:=ae) (v:=(gd ae af)) rfl rfl rfl rfl rfl yg wGA rfl rfl bx rfl rfl rfl (bx.srcR (j:=0) rfl (by decide) (wAD (f:=wAA) (sz:=4) (fun _=>rfl) [(gd ae af)])) (fun _=>rfl) (fun _=>rfl) cr rfl ?_
 intro bN cJ
 let B7:Res:=.row (some ⟨b9,0,none⟩) x5.length 39 4 (hD wAA (nB ae ai (gd ae af)))
 have cK:sW w φ ax [B6,.blk ay 39 B2,B7,B4] bN:=cJ
 refine oR Z (zG Z aH zK Z ZH) (zW (j:=3) (vs:=[.slice (some ⟨b9,0,none⟩) (ai + 1) x5.length]) Z Z Z Z cK Z Z Z Z ZH (zA Z) Z Z Z ?_)
 intro bP cL
 have cM:sW w φ ax [B6,.blk ay 39 B2,B7,.blk b2 28 [.slice aj p0.Starts.length an,.slice ak p0.Splits.length ao,.slice am p0.Clocks.length ap,.slice (some ⟨b9,0,none⟩) (ai + 1) x5.length]] bP:=cL
 refine zb (zo (zH (rR fL2 Z (oR Z (ZG (za Z az Z) (congrArg (jV) bz.out)) (oM Z Z (zb ?_))))))
 cases de
 exact zH ⟨rfl,⟨ax,rfl,aQ,aH,(nI (b:=(.slice (some ⟨b9,0,none⟩) ae.length x5.length:Value)) (c:=(.slice (some ⟨b9,0,none⟩) ((nB ae ai (gd ae af)).length) x5.length:Value)) aR (by simp only [nA])),aS,(aZ.trans bC),(cM.pick [2,3] _ (by decide) rfl),(nA.trans bq)⟩⟩
 rintro dC aN ⟨di,bV,dr,bS,dt,bU,aX,cu,du⟩
 have bR:Hid (¬ ((↑(((↑aq.length:Int):Int) - 0).toNat:Int) < (↑aq.length:Int))):=zM (wAc)
 refine sR fL1 Z (oR Z (zc Z bV bU) (eN (zL (cF Z bR (Za (zi (zi (ZQ (zH (sR gEa Z (bnK bA fun au bp cW=>?_)))))))))))
 obtain rfl:au.length=dh:=wMY bp
 have cw:=cu.cutRowC (enc:=wAA) (k:=0) rfl bp
 let B8:List Value:=[.slice aj p0.Starts.length an,.slice ak p0.Splits.length ao,.slice am p0.Clocks.length ap,.slice (some ⟨b9,0,none⟩) au.length x5.length]
 have bs:sW w φ di [.row (some ⟨b9,0,none⟩) x5.length 39 4 (hD wAA au),.blk b2 28 B8] aN:=cw
 refine oL Z (bs.ldBA (j:=1) Z Z bS zf zX (vs:=B8) Z Z) ?_
 have q:=bs.freezeR (k:=0) (n:=au.length) rfl (wAD (f:=wAA) (sz:=4) (fun _=>rfl) au) (by decide)
 obtain ⟨bE,aY,dg,cx⟩:=q
 have cy:sW w φ bE [.blk b2 28 B8] aN:=cx
 have bW:=cN.le aX
 have bX:=bW.le aY
 have bY:=cO.le aX
 have bZ:=bY.le aY
 have ca:=cP.le aX
 have cb:=ca.le aY
 refine bnK cW fun av cc cX=>zF 0 Z Z Z Z (zD Z Z Try.call89 (zB Z zN) Z) cy (fun hs=>wFZ (⟨p0.Starts,p0.Splits,p0.Clocks,au⟩:wAC) aj an ak ao am ap (some ⟨b9,0,none⟩) x5.length aN bE hs bX bZ cb dg cc) (.inr Z) ?_
 rintro bF dl dw bG dv cz ⟨bf,a7,bg,a8,bh,a9,bi,ba,bj,a5,bo,bm,aJ,aO,rfl,rfl,cf,cg,ci,cm,cn⟩
 have cA:sW w φ bF [.blk bf 124 [.slice a7 av.Race.Starts.length bg,.slice a8 av.Race.Splits.length bh,.slice a9 av.Race.Clocks.length bi,.slice ba av.Race.Readings.length bj,.map (some a5),.slice aJ av.edges.length aO],.obj a5 (.map bo bm),.row aJ aO 130 7 (hD wAQ av.edges),.blk b2 28 B8] bG:=cz
 refine oA Z Z (eN (zS ?_))
 have hE:=hU cX;first | subst r | cases hE
 exact ⟨rfl,_,(ZM rfl),bF,_,(cA.pick [0,1,2] _ (by decide) rfl),bf,a7,bg,a8,bh,a9,bi,ba,bj,a5,bo,bm,aJ,aO,rfl,rfl,cf,cg,ci,cm,cn⟩
end Go.Proofs.Ytlnfbjphfoipaaa
namespace Go.Proofs.Ytlnfbjphfoipaaa
open Go.KL
set_option maxHeartbeats 4000000
theorem wHA (p0:Int) (p1:wAI) (p2:Int) (aj:Nat) (p3:Int) (ak:Nat) (w:World) (φ:PHeap) (hS:St0 w φ []) (am:Cl φ aj 0 [jV p2]) (an:Cl φ ak 0 [jV p3]) {r:Bool} (hm:wBg p0 p1 p2 p3=some r):Gv Try.prog 66 [jV p0,.agg #[jV p1.Skier,jV p1.Mat,jV p1.Clock,jV p1.Time],.pointer (some ⟨aj,0,none⟩),.pointer (some ⟨ak,0,none⟩)] w (wCF w [] φ (fun φ_ L_ v=>v=.bool r/\L_=[])):=by
 unfold wBg at hm
 refine Gv.of Try.func66 rfl Try.ntmps66 Try.results66 rfl (sR gDs rfl (zu (cs:=[jV p1.Skier,jV p1.Mat,jV p1.Clock,jV p1.Time]) rfl rfl rfl rfl rfl rfl (by rfl) hS ?_))
 intro W1 b2 ac
 refine oA Z Z (eN (sR fL9 Z (oM Z Z (oL Z (ac.ldC (f:=0) am (v:=jV p2) Z Z zJ Z) (oR Z (Zs Z Z Z) (oM Z Z ?_))))))
 by_cases c5:p0=p2
 have ai:=hm;rw [if_pos c5] at ai;replace c5:=zM c5
 refine oT Z c5 (oT Z c5 (oT Z c5 (oR Z (zP Z (Zj c5.out) Z) (oA Z Z (eN (zS ?_))))))
 have hE:=hU ai;first | subst r | cases hE
 exact ⟨rfl,_,(ZM rfl),φ,_,(ac.pick [] _ (by decide) rfl),rfl,rfl⟩
 have af:=hm;rw [if_neg c5] at af;replace c5:=zM c5
 refine zk Z Z Z (wF Z c5) Z Z (ZJ Z Z Z (wF Z c5) (ac.ldC (f:=0) an (v:=jV p3) Z Z zJ Z) Z (rU Z (wF Z c5) (Zs Z Z Z) (oR Z (zZ Z (zw c5.out) Z) (oA Z Z (eN (zS ?_))))))
 first | (obtain rfl:=hU af) | cases af
 exact ⟨rfl,_,(ZM rfl),φ,_,(ac.pick [] _ (by decide) rfl),rfl,rfl⟩
theorem wGB (p0:wAC) (aQ:Option Addr) (aT:Nat) (aR:Option Addr) (aU:Nat) (aS:Option Addr) (aV:Nat) (an:Option Addr) (ao:Nat) (w:World) (φ:PHeap) (hS:St0 w φ []) (bW:Sl φ 1 aQ aT p0.Starts.length (hD KL.encI p0.Starts)) (bX:Sl φ 2 aR aU p0.Splits.length (hD wAE p0.Splits)) (bY:Sl φ 3 aS aV p0.Clocks.length (hD wAB p0.Clocks)) (bZ:Sl φ 4 an ao p0.Readings.length (hD wAA p0.Readings)) {r:(List Int) × Int} (hm:wCm p0=some r):Gv Try.prog 29 [.agg #[.slice aQ p0.Starts.length aT,.slice aR p0.Splits.length aU,.slice aS p0.Clocks.length aV,.slice an p0.Readings.length ao]] w (wCF w [] φ (fun φ_ L_ v=>∃ (A0:Option Addr) (c0:Nat),v=.tuple #[.slice A0 r.1.length c0,jV r.2]/\L_=[.row A0 c0 3 1 (hD KL.encI r.1)])):=by
 unfold wCm at hm
 refine Gv.of Try.func29 Z Try.ntmps29 Try.results29 Z (sR gDy Z ?_)
 let B0:List Value:=[.slice aQ p0.Starts.length aT,.slice aR p0.Splits.length aU,.slice aS p0.Clocks.length aV,.slice an p0.Readings.length ao]
 refine zu (cs:=B0) rfl rfl rfl rfl rfl rfl (by rfl) hS ?_
 intro W1 b2 dl
 refine oA Z Z (oA Z Z (eN (CK.scope (sR (.fl 0 (.fx 1 (wFy (.nil)) .stop)) Z (oL Z (dl.ldBA (j:=0) Z Z Z zf zX (vs:=B0) Z Z) ?_)))))
 have q:=bnd hm
 obtain ⟨⟨x5,x6⟩,h7,a7⟩:=q
 try dsimp only at a7
 refine zF 0 Z Z Z Z (zD Z Z Try.call60 (zB Z zN) Z) dl (fun hs=>wDo p0 aQ aT aR aU aS aV an ao W1 φ hs bW bX bY bZ h7) (.inr Z) ?_
 rintro bt jj jD bf az dh dg
 rcases x5 with _ | aq
 try dsimp only at a7
 obtain ⟨rfl,rfl⟩:=dg
 have ib:sW w φ bt [.blk b2 28 B0] bf:=dh
 refine oM Z Z (oR Z (zU Z Z (v:=.pointer none) Z) (oR Z (zU Z Z (v:=jV x6) Z) (oA Z Z (oA Z Z (eN (zL (zY (sR fL3 Z (oM Z Z (oR Z (ZZ Z Z Z) (oA Z Z (eN (ifc a7 ?_ ?_)))))))))))))
 intro bI iR
 refine zt (zw (fun h=>h bI.out)) (sR gEa Z (oM Z Z ?_))
 cases iR
 intro bI iS
 refine cT Z bI (sR fL3 Z (oM Z Z (oA Z Z (oA Z Z (eN (zS (ze (zR (wEv ?_)))))))))
 have ij:=ib.nilrow 3 1
 cases iS
 exact ⟨rfl,_,(wDx rfl rfl),bt,_,(ij.pick [0] _ (by decide) rfl),none,0,rfl,rfl⟩
 try dsimp only at a7
 obtain ⟨bC,cr,cN,ct,cO,cu,cP,cw,cR,ae,ag,af,bv,bH,rfl,rfl,gy,gz,gA,gB,gC⟩:=dg
 let B1:Res:=.blk bC 124 [.slice cr aq.Race.Starts.length cN,.slice ct aq.Race.Splits.length cO,.slice cu aq.Race.Clocks.length cP,.slice cw aq.Race.Readings.length cR,.map (some ae),.slice bv aq.edges.length bH]
 have dn:sW w φ bt [B1,.obj ae (.map ag af),.row bv bH 130 7 (hD wAQ aq.edges),.blk b2 28 B0] bf:=dh
 refine oM Z Z (oR Z (zU Z Z (v:=.pointer (some ⟨bC,0,none⟩)) Z) (oR Z (zU Z Z (v:=jV x6) Z) (oA Z Z (oA Z Z (eN (zL (zY (sR fL3 Z (oM Z Z (oR Z (ZZ Z Z Z) (oA Z Z (eN (ifc a7 ?_ ?_)))))))))))))
 intro bL i3
 refine zt (zw (fun h=>h bL.out)) (sR gEa Z (oM Z Z ?_))
 have q:=dn.freezeR (k:=2) (n:=aq.edges.length) rfl (wAD (f:=wAQ) (sz:=7) (fun _=>rfl) aq.edges) (by decide)
 obtain ⟨dG,am,i8,iw⟩:=q
 have iy:sW w φ dG [B1,.obj ae (.map ag af),.blk b2 28 B0] bf:=iw
 have gD:=gy.le am
 have gE:=gz.le am
 have gF:=gA.le am
 have gG:=gB.le am
 refine bnK i3 fun jL gH i4=>zF 2 Z Z Z Z (zD Z Z Try.call63 (zB Z zN) Z) iy (fun hs=>wBx aq bC cr cN ct cO cu cP cw cR ae ag af bv bH bf dG hs gD gE gF gG gC i8 gH) (.inl Z) ?_
 rintro bs jp jI dP aE iz ⟨rfl,rfl⟩
 have bS:sW w φ bs [B1,.obj ae (.map ag af),.blk b2 28 B0] dP:=iz
 refine oA Z Z (eN (ifc i4 ?_ ?_))
 intro bM i5
 refine ZL (congrArg hH bM.out) (sR fL2 Z (oA Z Z (oA Z Z (eN (zS (ze (zR (wEv ?_))))))))
 have iA:=bS.nilrow 3 1
 cases i5
 exact ⟨rfl,_,(wDx rfl rfl),bs,_,(iA.pick [0] _ (by decide) rfl),none,0,rfl,rfl⟩
 intro bM cf
 refine zt (congrArg hH (hJ.2 bM.out)) (Zh (zo (zH (sR fL1 Z (oA Z Z (eN (zL (sR fL4 Z (oR Z (zG Z Z zK Z ZH) (oL Z (bS.ldB (j:=2) Z Z Z Zi (v:=.slice an p0.Readings.length ao) Z) (oR Z (zq Z Z zn) (oM Z Z (eN (zY ?_))))))))))))))
 have q:=wBa cf
 obtain ⟨jC,bV⟩:=q
 have q:=wBZ bV
 obtain ⟨cd,iJ⟩:=q
 replace cd:=zM cd
 refine yH (fun ak _ σ_ w_=>∃ (φ_:PHeap),σ_ 25=jV (↑ak:Int)/\σ_ 1=.pointer (some ⟨b2,0,none⟩)/\σ_ 6=.slice none 0 0/\σ_ 24=jV (↑p0.Readings.length:Int)/\PHeap.Le bs φ_/\sW w φ φ_ [B1,.obj ae (.map ag af),.blk b2 28 B0] w_) iJ ?_ ?_ ?_
 exact ⟨bs,Z,Z,Z,Z,(zO _),bS⟩
 rintro ak ⟨⟩ jO jT jx cb ⟨ji,bQ,dd,d9,de,bb,iB⟩ dy iH
 try dsimp only at dy
 have cX:Hid ((↑ak:Int) < (↑p0.Readings.length:Int)):=zM (wAs cb)
 replace cb:=zM cb
 have iK:Hid (w64 ((↑ak:Int) + 1)=(↑(ak + 1):Int)):=zM (by have h1:=cd.out;have h2:=cX.out;rw [wAT] <;> omega)
 refine sR fL1 Z (oR Z (zc Z bQ de) (eN (zL (cT Z cX (kN (zL (zY (sR gEb Z (oM Z bQ (zV (cs:=[jV 0]) Z Z Z Z Z zz Z iB ?_))))))))))
 intro jy aL iC
 let B2:List Value:=[jV (↑ak:Int)]
 refine zW (j:=0) (vs:=B2) Z Z Z Z iC Z Z Z Z zC (zA Z) Z Z Z ?_
 intro bB iD
 have dp:sW w φ ji [.blk aL 3 B2,B1,.obj ae (.map ag af),.blk b2 28 B0] bB:=iD
 refine eN (sR gEl Z (oL Z (dp.ldBA (j:=3) Z Z dd zf zX (vs:=B0) Z Z) ?_))
 have q:=dp.freeze (k:=0) rfl
 obtain ⟨bo,a8,aM,gL⟩:=q
 replace aM:=Cl.of aM
 have gM:sW w φ bo [B1,.obj ae (.map ag af),.blk b2 28 B0] bB:=gL
 replace aM:Cl bo aL 0 B2:=aM
 refine oR Z (yl Z zN (zB Z zN)) ?_
 have eh:=bW.le az
 have ej:=eh.le am
 have ek:=ej.le aE
 have en:=ek.le bb
 have eo:=en.le a8
 have ep:=bX.le az
 have er:=ep.le am
 have eu:=er.le aE
 have ew:=eu.le bb
 have ey:=ew.le a8
 have eA:=bY.le az
 have eB:=eA.le am
 have eD:=eB.le aE
 have eE:=eD.le bb
 have eF:=eE.le a8
 have eG:=bZ.le az
 have eH:=eG.le am
 have eI:=eH.le aE
 have eJ:=eI.le bb
 have eK:=eJ.le a8
 have gJ:FnOK Try.prog bo (.func (.func 65) #[] #[.pointer (some ⟨aL,0,none⟩)]) wKh wKi (fun x=>wCK x.1 x.2 (↑ak:Int)):=⟨65,[],[.pointer (some ⟨aL,0,none⟩)],rfl,Try.call65,fun ci w1 x y vs le hs ha hm=>by obtain rfl:=ha;exact wGz x.1 x.2 (↑ak:Int) aL w1 ci hs (aM.le le) hm⟩
 refine bnK dy fun ap eL iL=>zF 0 Z Z Z Z (zD Z Z Try.call64 (zB Z (zB Z zN)) Z) gM (fun hs=>wDK p0 aQ aT aR aU aS aV an ao (fun x=>wCK x.1 x.2 (↑ak:Int)) (.func (.func 65) #[] #[.pointer (some ⟨aL,0,none⟩)]) bB bo hs eo ey eF eK gJ eL) (.inr Z) ?_
 rintro je jk jE bz dz gN ⟨cD,cn,cJ,co,cK,cp,cL,cq,cM,aP,aY,aX,bu,bF,rfl,rfl,eM,eO,eQ,eU,eV⟩
 let B3:Res:=.blk cD 124 [.slice cn ap.Race.Starts.length cJ,.slice co ap.Race.Splits.length cK,.slice cp ap.Race.Clocks.length cL,.slice cq ap.Race.Readings.length cM,.map (some aP),.slice bu ap.edges.length bF]
 have gO:sW w φ je [B3,.obj aP (.map aY aX),.row bu bF 130 7 (hD wAQ ap.edges),B1,.obj ae (.map ag af),.blk b2 28 B0] bz:=gN
 have q:=gO.freezeR (k:=2) (n:=ap.edges.length) rfl (wAD (f:=wAQ) (sz:=7) (fun _=>rfl) ap.edges) (by decide)
 obtain ⟨dC,aN,i6,gP⟩:=q
 have gQ:sW w φ dC [B3,.obj aP (.map aY aX),B1,.obj ae (.map ag af),.blk b2 28 B0] bz:=gP
 have eW:=eM.le aN
 have eX:=eO.le aN
 have eY:=eQ.le aN
 have eZ:=eU.le aN
 refine bnK iL fun jJ fb iM=>zF 2 Z Z Z Z (zD Z Z Try.call63 (zB Z zN) Z) gQ (fun hs=>wBx ap cD cn cJ co cK cp cL cq cM aP aY aX bu bF bz dC hs eW eX eY eZ eV i6 fb) (.inl Z) ?_
 rintro bp jl jF dI dA gR ⟨rfl,rfl⟩
 have bR:sW w φ bp [B3,.obj aP (.map aY aX),B1,.obj ae (.map ag af),.blk b2 28 B0] dI:=gR
 refine eN (ifc iM ?_ ?_)
 intro bG iN
 refine ZL (congrArg hH bG.out) (sR gEm Z ?_)
 have fc:=aM.le dz
 have fd:=fc.le aN
 have ff:=fd.le dA
 refine oL Z (bR.ldC (f:=0) ff (v:=jV (↑ak:Int)) Z Z zJ Z) (zm (pv:=[(0,jV (↑ak:Int))]) (zs:=[jV 0]) (cs:=B2) Z Z Z Z Z (wAG Z wAN) zE zC zz Z Z Z Z Z bR ?_)
 intro dJ cE gS
 have gT:sW w φ bp [.row (some ⟨cE,0,none⟩) 1 3 1 (hD KL.encI [(↑ak:Int)]),B3,.obj aP (.map aY aX),B1,.obj ae (.map ag af),.blk b2 28 B0] dJ:=gS
 refine oA Z Z (oA Z Z (eN (zS (ze (zR ?_)))))
 have q:=wAZ iN
 obtain ⟨i9,iO,dS⟩:=q
 have q:=wBI cf bV (iH i9 dS)
 obtain rfl:=q
 refine zR (ze (zR (wEv ?_)))
 cases iO
 exact ⟨rfl,_,(wDx rfl rfl),bp,_,(gT.pick [0] _ (by decide) rfl),(some ⟨cE,0,none⟩),1,rfl,rfl⟩
 intro bG iP
 refine zt (congrArg hH (hJ.2 bG.out)) (Zh (zo (zH (rR fL2 Z (oR Z (ZG (za Z bQ Z) (congrArg (jV) iK.out)) (oM Z Z (zb ?_)))))))
 have q:=hU iP
 obtain rfl:=q
 exact zH ⟨rfl,_,rfl,⟨bp,rfl,dd,d9,de,((((bb.trans a8).trans dz).trans aN).trans dA),(bR.pick [2,3,4] _ (by decide) rfl)⟩⟩
 rintro ⟨⟩ jP jq ⟨dD,ef,cY,dW,dX,bj,di⟩ iE
 have bi:=wCO cf bV iE
 try dsimp only at bi
 have dQ:Hid (¬ ((↑(((↑p0.Readings.length:Int):Int) - 0).toNat:Int) < (↑p0.Readings.length:Int))):=zM (wAc)
 refine sR fL1 Z (oR Z (zc Z ef dX) (eN (zL (cF Z dQ (Za (zi (zi (ZQ (zH (zL (CK.label (zH (zL (sR fL4 Z (oR Z (zG Z cY zK Z ZH) (oL Z (di.ldB (j:=2) Z Z Z Zi (v:=.slice an p0.Readings.length ao) Z) (oR Z (zq Z Z zn) (oM Z Z (eN (zY ?_))))))))))))))))))))
 have q:=wBa bi
 obtain ⟨jB,bU⟩:=q
 have q:=wBZ bU
 obtain ⟨cc,iI⟩:=q
 replace cc:=zM cc
 refine yH (fun aj _ σ_ w_=>∃ (φ_:PHeap),σ_ 38=jV (↑aj:Int)/\σ_ 1=.pointer (some ⟨b2,0,none⟩)/\σ_ 6=.slice none 0 0/\σ_ 37=jV (↑p0.Readings.length:Int)/\PHeap.Le dD φ_/\sW w φ φ_ [B1,.obj ae (.map ag af),.blk b2 28 B0] w_) iI ?_ ?_ ?_
 exact ⟨dD,Z,cY,dW,Z,(zO _),di⟩
 rintro aj ⟨⟩ jM jQ jr ca ⟨dE,bP,dY,dZ,cZ,a9,gU⟩ dw iF
 try dsimp only at dw
 have cQ:Hid ((↑aj:Int) < (↑p0.Readings.length:Int)):=zM (wAs ca)
 replace ca:=zM ca
 have dr:Hid (w64 ((↑aj:Int) + 1)=(↑(aj + 1):Int)):=zM (by have h1:=cc.out;have h2:=cQ.out;rw [wAT] <;> omega)
 refine sR fL1 Z (oR Z (zc Z bP cZ) (eN (zL (cT Z cQ (kN (zL (zY (sR gEb Z (oM Z bP (zV (cs:=[jV 0]) Z Z Z Z Z zz Z gU ?_))))))))))
 intro jt av gV
 let B4:List Value:=[jV (↑aj:Int)]
 refine zW (j:=0) (vs:=B4) Z Z Z Z gV Z Z Z Z zC (zA Z) Z Z Z ?_
 intro dK gW
 have dk:sW w φ dE [.blk av 3 B4,B1,.obj ae (.map ag af),.blk b2 28 B0] dK:=gW
 refine eN (sR gEl Z (oL Z (dk.ldB (j:=0) Z Z Z zJ (v:=jV (↑aj:Int)) Z) (oR Z (ZG (za Z Z Z) (congrArg (jV) dr.out)) (zV (cs:=[jV 0]) Z Z Z Z Z zz Z dk ?_))))
 intro ju bD gX
 let B5:List Value:=[jV (↑(aj + 1):Int)]
 refine zW (j:=0) (vs:=B5) Z Z Z Z gX Z Z Z Z zC (zA Z) Z Z Z ?_
 intro cB gY
 have gZ:sW w φ dE [.blk bD 3 B5,.blk av 3 B4,B1,.obj ae (.map ag af),.blk b2 28 B0] cB:=gY
 refine eN (zY ?_)
 have q:=gZ.freeze (k:=1) rfl
 obtain ⟨bq,ba,aZ,g6⟩:=q
 replace aZ:=Cl.of aZ
 have g7:sW w φ bq [.blk bD 3 B5,B1,.obj ae (.map ag af),.blk b2 28 B0] cB:=g6
 replace aZ:Cl bq av 0 B4:=aZ
 refine CK.iter (fun ai σ_ w_=>∃ (φ_:PHeap) (ax:Nat),σ_ 1=.pointer (some ⟨b2,0,none⟩)/\σ_ 6=.slice none 0 0/\σ_ 8=.pointer (some ⟨av,0,none⟩)/\σ_ 9=.pointer (some ⟨ax,0,none⟩)/\σ_ 37=jV (↑p0.Readings.length:Int)/\σ_ 38=jV (↑aj:Int)/\PHeap.Le bq φ_/\sW w φ φ_ [B1,.obj ae (.map ag af),.blk b2 28 B0,.blk ax 3 [jV ai]] w_) dw ?_ ?_
 exact ⟨bq,bD,dY,dZ,rfl,rfl,cZ,bP,(zO _),(g7.pick [1,2,3,0] _ (by decide) rfl)⟩
 rintro ai jN jR cC ⟨jf,ax,bg,c6,bN,bh,da,db,aJ,a5⟩ dx dq
 refine zL (sR fL5 Z (oL Z (a5.ldB (j:=3) Z Z bh zJ (v:=jV ai) Z) (oR Z (zG Z bg zK Z ZH) (oL Z (a5.ldB (j:=2) Z Z Z Zi (v:=.slice an p0.Readings.length ao) Z) (oR Z (zq Z Z zn) (oR Z (zc Z Z Z) (eN ?_)))))))
 by_cases ay:ai < (↑p0.Readings.length:Int)
 have dt:=dx;rw [if_pos ay] at dt;replace ay:=zM ay
 refine cT Z ay (kN (zL (zY (sR gEl Z (oL Z (a5.ldBA (j:=2) Z Z bg zf zX (vs:=B0) Z Z) ?_)))))
 have q:=a5.freeze (k:=3) rfl
 obtain ⟨br,aO,aI,g8⟩:=q
 replace aI:=Cl.of aI
 have g9:sW w φ br [B1,.obj ae (.map ag af),.blk b2 28 B0] cC:=g8
 replace aI:Cl br ax 0 [jV ai]:=aI
 refine oR Z (yl Z zN (zB bN (zB bh zN))) ?_
 have fg:=bW.le az
 have fh:=fg.le am
 have fj:=fh.le aE
 have fk:=fj.le bj
 have fm:=fk.le a9
 have fq:=fm.le ba
 have ft:=fq.le aJ
 have fu:=ft.le aO
 have fw:=bX.le az
 have fy:=fw.le am
 have fz:=fy.le aE
 have fA:=fz.le bj
 have fB:=fA.le a9
 have fC:=fB.le ba
 have fD:=fC.le aJ
 have fE:=fD.le aO
 have fG:=bY.le az
 have fH:=fG.le am
 have fI:=fH.le aE
 have fJ:=fI.le bj
 have fK:=fJ.le a9
 have fL:=fK.le ba
 have fM:=fL.le aJ
 have fN:=fM.le aO
 have fO:=bZ.le az
 have fP:=fO.le am
 have fQ:=fP.le aE
 have fR:=fQ.le bj
 have fS:=fR.le a9
 have fT:=fS.le ba
 have fU:=fT.le aJ
 have fV:=fU.le aO
 have fW:=aZ.le aJ
 have df:=fW.le aO
 have gK:FnOK Try.prog br (.func (.func 66) #[] #[.pointer (some ⟨av,0,none⟩),.pointer (some ⟨ax,0,none⟩)]) wKh wKi (fun x=>wBg x.1 x.2 (↑aj:Int) ai):=⟨66,[],[.pointer (some ⟨av,0,none⟩),.pointer (some ⟨ax,0,none⟩)],rfl,Try.call66,fun ci w1 x y vs le hs ha hm=>by obtain rfl:=ha;exact wHA x.1 x.2 (↑aj:Int) av ai ax w1 ci hs (df.le le) (aI.le le) hm⟩
 refine bnK dt fun au fY iQ=>zF 0 Z Z Z Z (zD Z Z Try.call64 (zB Z (zB Z zN)) Z) g9 (fun hs=>wDK p0 aQ aT aR aU aS aV an ao (fun x=>wBg x.1 x.2 (↑aj:Int) ai) (.func (.func 66) #[] #[.pointer (some ⟨av,0,none⟩),.pointer (some ⟨ax,0,none⟩)]) cC br hs fu fE fN fV gK fY) (.inr Z) ?_
 rintro jg jm jG bA bm ic ⟨cG,cx,cS,cy,cU,cz,cV,cA,cW,aF,aH,aG,bw,bJ,rfl,rfl,fZ,f4,f6,f7,f8⟩
 let B6:Res:=.blk cG 124 [.slice cx au.Race.Starts.length cS,.slice cy au.Race.Splits.length cU,.slice cz au.Race.Clocks.length cV,.slice cA au.Race.Readings.length cW,.map (some aF),.slice bw au.edges.length bJ]
 have ie:sW w φ jg [B6,.obj aF (.map aH aG),.row bw bJ 130 7 (hD wAQ au.edges),B1,.obj ae (.map ag af),.blk b2 28 B0] bA:=ic
 have q:=ie.freezeR (k:=2) (n:=au.edges.length) rfl (wAD (f:=wAQ) (sz:=7) (fun _=>rfl) au.edges) (by decide)
 obtain ⟨dF,aD,i7,ig⟩:=q
 have ii:sW w φ dF [B6,.obj aF (.map aH aG),B1,.obj ae (.map ag af),.blk b2 28 B0] bA:=ig
 have f9:=fZ.le aD
 have ga:=f4.le aD
 have ge:=f6.le aD
 have gg:=f7.le aD
 refine bnK iQ fun jK gh iT=>zF 2 Z Z Z Z (zD Z Z Try.call63 (zB Z zN) Z) ii (fun hs=>wBx au cG cx cS cy cU cz cV cA cW aF aH aG bw bJ bA dF hs f9 ga ge gg f8 i7 gh) (.inl Z) ?_
 rintro aW jo jH dL bn ik ⟨rfl,rfl⟩
 have a6:sW w φ aW [B6,.obj aF (.map aH aG),B1,.obj ae (.map ag af),.blk b2 28 B0] dL:=ik
 refine eN (ifc iT ?_ ?_)
 intro bK iU
 refine ZL (congrArg hH bK.out) (sR gEn Z ?_)
 have gi:=df.le bm
 have gj:=gi.le aD
 have gp:=gj.le bn
 refine oL Z (a6.ldC (f:=0) gp (v:=jV (↑aj:Int)) Z bN zJ Z) ?_
 have gq:=aI.le bm
 have gt:=gq.le aD
 have gu:=gt.le bn
 refine oL Z (a6.ldC (f:=0) gu (v:=jV ai) Z bh zJ Z) (zm (pv:=[(0,jV (↑aj:Int)),(1,jV ai)]) (zs:=[jV 0,jV 0]) (cs:=[jV (↑aj:Int),jV ai]) Z Z Z Z Z (wAG Z (wAG Z wAN)) zE zC zz Z Z Z Z Z a6 ?_)
 intro dM cH il
 have im:sW w φ aW [.row (some ⟨cH,0,none⟩) 2 3 1 (hD KL.encI [(↑aj:Int),ai]),B6,.obj aF (.map aH aG),B1,.obj ae (.map ag af),.blk b2 28 B0] dM:=il
 refine oA Z Z (eN (Za (wHL (zi ?_))))
 have q:=wAZ iU
 obtain ⟨ja,iV,dT⟩:=q
 have q:=dq ja dT
 obtain rfl:=q
 refine zi (wHL (wHL (zi ?_)))
 have q:=wAZ iV
 obtain ⟨jb,iW,dU⟩:=q
 have q:=wBI bi bU (iF jb dU)
 obtain rfl:=q
 refine zi (ZQ (zH (zL (sR fL3 rfl (zk rfl rfl rfl rfl rfl rfl (zg rfl rfl rfl rfl (fun _=>zq rfl rfl zE) (zg rfl rfl rfl rfl (fun _=>Zs rfl rfl rfl) (eN (zt (zw (by decide)) (kN (sR fL3 rfl (zk rfl rfl rfl rfl rfl rfl (yK rfl rfl rfl rfl rfl rfl (yK rfl rfl rfl rfl rfl rfl (eN (zS (wEv ?_)))))))))))))))))
 cases iW
 exact ⟨rfl,_,(wDx rfl rfl),aW,_,(im.pick [0] _ (by decide) rfl),(some ⟨cH,0,none⟩),2,rfl,rfl⟩
 intro bK iX
 refine zt (congrArg hH (hJ.2 bK.out)) (Zh (zo (zH (zL (sR fL1 Z ?_)))))
 have gv:=aI.le bm
 have gw:=gv.le aD
 have gx:=gw.le bn
 refine oL Z (a6.ldC (f:=0) gx (v:=jV ai) Z bh zJ Z) (eN (rR gDw Z (zV (cs:=[jV 0]) Z Z Z Z Z zz Z a6 ?_)))
 intro jv bE io
 refine zW (j:=0) (vs:=[jV ai]) Z Z Z Z io Z Z Z Z zC (zA Z) Z Z Z ?_
 intro dN ip
 have dm:sW w φ aW [.blk bE 3 [jV ai],B6,.obj aF (.map aH aG),B1,.obj ae (.map ag af),.blk b2 28 B0] dN:=ip
 refine eN (rR gDx Z (oL Z (dm.ldB (j:=0) Z Z Z zJ (v:=jV ai) Z) (oR Z (za Z Z Z) (zW (j:=0) (vs:=[jV (w64 (ai + 1))]) Z Z Z Z dm Z Z Z Z zC (zA Z) Z Z Z ?_))))
 intro dO iq
 have ir:sW w φ aW [.blk bE 3 [jV (w64 (ai + 1))],B6,.obj aF (.map aH aG),B1,.obj ae (.map ag af),.blk b2 28 B0] dO:=iq
 refine zb ?_
 have q:=hU iX
 obtain rfl:=q
 exact zH ⟨rfl,_,rfl,⟨aW,bE,bg,c6,bN,rfl,da,db,((((aJ.trans aO).trans bm).trans aD).trans bn),(ir.pick [3,4,5,0] _ (by decide) rfl)⟩⟩
 have du:=dx;rw [if_neg ay] at du;replace ay:=zM ay
 refine cF Z ay (Za (zi ?_))
 have q:=wAZ du
 obtain ⟨jc,iY,dV⟩:=q
 have q:=dq jc dV
 obtain rfl:=q
 refine zi (ZQ (zo (zH (rR fL2 Z (oR Z (ZG (za Z db Z) (congrArg (jV) dr.out)) (oM Z Z (zb ?_)))))))
 have q:=hU iY
 obtain rfl:=q
 exact zH ⟨rfl,_,rfl,⟨jf,rfl,bg,c6,da,((a9.trans ba).trans aJ),(a5.pick [0,1,2] _ (by decide) rfl)⟩⟩
 rintro ⟨⟩ jS jw ⟨jh,eg,jz,d5,d7,jA,it⟩ iG
 have dv:=wCO bi bU iG
 try dsimp only at dv
 have dR:Hid (¬ ((↑(((↑p0.Readings.length:Int):Int) - 0).toNat:Int) < (↑p0.Readings.length:Int))):=zM (wAc)
 refine sR fL1 rfl (zg rfl rfl rfl rfl (fun _=>zc rfl eg d7) (eN (zL (cF Z dR (Za (zi (zi (ZQ (zH (zL (sR fL3 rfl (zk rfl rfl rfl rfl rfl d5 (zg rfl rfl rfl rfl (fun _=>zq rfl rfl zE) (zg rfl rfl rfl rfl (fun _=>Zs rfl rfl rfl) (eN (ZL (Zj (by decide)) (sR fL2 rfl (yK rfl rfl rfl rfl rfl rfl (yK rfl rfl rfl rfl rfl rfl (eN (zS (zR (wEv ?_)))))))))))))))))))))))
 have iu:=it.nilrow 3 1
 cases dv
 exact ⟨rfl,_,(wDx rfl rfl),jh,_,(iu.pick [0] _ (by decide) rfl),none,0,rfl,rfl⟩
 intro bL iZ
 refine cT Z bL (sR fL3 Z (oM Z Z (oA Z Z (oA Z Z (eN (zS (ze (zR (wEv ?_)))))))))
 have iv:=dn.nilrow 3 1
 cases iZ
 exact ⟨rfl,_,(wDx rfl rfl),bt,_,(iv.pick [0] _ (by decide) rfl),none,0,rfl,rfl⟩
theorem wHB (p0:Int) (p1:wAI) (p2:Int) (af:Nat) (w:World) (φ:PHeap) (hS:St0 w φ []) (ag:Cl φ af 0 [jV p2]) {r:Bool} (hm:wCh p0 p1 p2=some r):Gv Try.prog 67 [jV p0,.agg #[jV p1.Skier,jV p1.Mat,jV p1.Clock,jV p1.Time],.pointer (some ⟨af,0,none⟩)] w (wCF w [] φ (fun φ_ L_ v=>v=.bool r/\L_=[])):=by
 unfold wCh at hm
 refine Gv.of Try.func67 rfl Try.ntmps67 Try.results67 rfl (sR gDs rfl (zu (cs:=[jV p1.Skier,jV p1.Mat,jV p1.Clock,jV p1.Time]) rfl rfl rfl rfl rfl rfl (by rfl) hS ?_))
 intro W1 b2 ab
 refine oA Z Z (eN (sR fL5 Z (oR Z (zG Z Z zx Z zC) (oL Z (ab.ldB (j:=0) Z Z Z zJ (v:=jV p1.Skier) Z) (oL Z (ab.ldC (f:=0) ag (v:=jV p2) Z Z zJ Z) (oR Z (Zs Z Z Z) (oA Z Z (eN (zS ?_)))))))))
 first | (obtain rfl:=hU hm) | cases hm
 exact ⟨rfl,_,(ZM rfl),φ,_,(ab.pick [] _ (by decide) rfl),rfl,rfl⟩
theorem wGC (p0:wAC) (aD:Option Addr) (aE:Nat) (aK:Option Addr) (aN:Nat) (aL:Option Addr) (aO:Nat) (aM:Option Addr) (aP:Nat) (w:World) (φ:PHeap) (hS:St0 w φ []) (bW:Sl φ 1 aD aE p0.Starts.length (hD KL.encI p0.Starts)) (bX:Sl φ 2 aK aN p0.Splits.length (hD wAE p0.Splits)) (bY:Sl φ 3 aL aO p0.Clocks.length (hD wAB p0.Clocks)) (bZ:Sl φ 4 aM aP p0.Readings.length (hD wAA p0.Readings)) {r:(List Int) × Int} (hm:wCn p0=some r):Gv Try.prog 30 [.agg #[.slice aD p0.Starts.length aE,.slice aK p0.Splits.length aN,.slice aL p0.Clocks.length aO,.slice aM p0.Readings.length aP]] w (wCF w [] φ (fun φ_ L_ v=>∃ (A0:Option Addr) (c0:Nat),v=.tuple #[.slice A0 r.1.length c0,jV r.2]/\L_=[.row A0 c0 3 1 (hD KL.encI r.1)])):=by
 unfold wCn at hm
 refine Gv.of Try.func30 Z Try.ntmps30 Try.results30 Z (sR gDy Z ?_)
 let B0:List Value:=[.slice aD p0.Starts.length aE,.slice aK p0.Splits.length aN,.slice aL p0.Clocks.length aO,.slice aM p0.Readings.length aP]
 refine zu (cs:=B0) rfl rfl rfl rfl rfl rfl (by rfl) hS ?_
 intro W1 b2 bU
 refine oA Z Z (oA Z Z (eN (sR (.fl 0 (.fx 1 (wFy (.nil)) .stop)) Z (oL Z (bU.ldBA (j:=0) Z Z Z zf zX (vs:=B0) Z Z) ?_))))
 have q:=bnd hm
 obtain ⟨⟨x5,x6⟩,h7,aI⟩:=q
 try dsimp only at aI
 refine zF 0 Z Z Z Z (zD Z Z Try.call60 (zB Z zN) Z) bU (fun hs=>wDo p0 aD aE aK aN aL aO aM aP W1 φ hs bW bX bY bZ h7) (.inr Z) ?_
 rintro aY eE eO aS aU bR bP
 rcases x5 with _ | ak
 try dsimp only at aI
 obtain ⟨rfl,rfl⟩:=bP
 have dN:sW w φ aY [.blk b2 28 B0] aS:=bR
 refine oM Z Z (oR Z (zU Z Z (v:=.pointer none) Z) (oR Z (zU Z Z (v:=jV x6) Z) (oA Z Z (oA Z Z (eN (zL (zY (sR fL3 Z (oM Z Z (oR Z (ZZ Z Z Z) (oA Z Z (eN (ifc aI ?_ ?_)))))))))))))
 intro bc d9
 refine zt (zw (fun h=>h bc.out)) (sR gEa Z (oM Z Z ?_))
 cases d9
 intro bc ef
 refine cT Z bc (sR fL3 Z (oM Z Z (oA Z Z (oA Z Z (eN (zS (ze (zR ?_))))))))
 have dO:=dN.nilrow 3 1
 cases ef
 exact ⟨rfl,_,(wDx rfl rfl),aY,_,(dO.pick [0] _ (by decide) rfl),none,0,rfl,rfl⟩
 try dsimp only at aI
 obtain ⟨a8,bt,bI,bv,bJ,bw,bK,bz,bM,af,ah,ag,a5,bb,rfl,rfl,dk,dl,dm,dn,dp⟩:=bP
 let B1:Res:=.blk a8 124 [.slice bt ak.Race.Starts.length bI,.slice bv ak.Race.Splits.length bJ,.slice bw ak.Race.Clocks.length bK,.slice bz ak.Race.Readings.length bM,.map (some af),.slice a5 ak.edges.length bb]
 have bV:sW w φ aY [B1,.obj af (.map ah ag),.row a5 bb 130 7 (hD wAQ ak.edges),.blk b2 28 B0] aS:=bR
 refine oM Z Z (oR Z (zU Z Z (v:=.pointer (some ⟨a8,0,none⟩)) Z) (oR Z (zU Z Z (v:=jV x6) Z) (oA Z Z (oA Z Z (eN (zL (zY (sR fL3 Z (oM Z Z (oR Z (ZZ Z Z Z) (oA Z Z (eN (ifc aI ?_ ?_)))))))))))))
 intro bd eg
 refine zt (zw (fun h=>h bd.out)) (sR gEa Z (oM Z Z ?_))
 have q:=bV.freezeR (k:=2) (n:=ak.edges.length) rfl (wAD (f:=wAQ) (sz:=7) (fun _=>rfl) ak.edges) (by decide)
 obtain ⟨cf,am,ep,dP⟩:=q
 have dQ:sW w φ cf [B1,.obj af (.map ah ag),.blk b2 28 B0] aS:=dP
 have dq:=dk.le am
 have dr:=dl.le am
 have dt:=dm.le am
 have du:=dn.le am
 refine bnK eg fun eX dv eh=>zF 2 Z Z Z Z (zD Z Z Try.call63 (zB Z zN) Z) dQ (fun hs=>wBx ak a8 bt bI bv bJ bw bK bz bM af ah ag a5 bb aS cf hs dq dr dt du dp ep dv) (.inl Z) ?_
 rintro aX eH eV cp aV dR ⟨rfl,rfl⟩
 have bi:sW w φ aX [B1,.obj af (.map ah ag),.blk b2 28 B0] cp:=dR
 refine oA Z Z (eN (ifc eh ?_ ?_))
 intro be ej
 refine ZL (congrArg hH be.out) (sR fL2 Z (oA Z Z (oA Z Z (eN (zS (ze (zR ?_)))))))
 have dS:=bi.nilrow 3 1
 cases ej
 exact ⟨rfl,_,(wDx rfl rfl),aX,_,(dS.pick [0] _ (by decide) rfl),none,0,rfl,rfl⟩
 intro be ek
 refine zt (congrArg hH (hJ.2 be.out)) (Zh (zo (zH (sR fL1 Z (oA Z Z (eN (zL (sR fL4 Z (oR Z (zG Z Z zK Z zy) (oL Z (bi.ldB (j:=2) Z Z Z ZK (v:=.slice aD p0.Starts.length aE) Z) (oR Z (zq Z Z zE) (oM Z Z (eN (zY (bnK ek fun eZ dU en=>?_)))))))))))))))
 have q:=wBL dU
 obtain ⟨bm,dV⟩:=q
 replace bm:=zM bm
 refine CK.forN' (fun ac aJ σ_ w_=>∃ (φ_:PHeap) (aF:Option Addr) (aH:Nat),σ_ 24=jV (↑ac:Int)/\σ_ 1=.pointer (some ⟨b2,0,none⟩)/\σ_ 6=.slice aF aJ.length aH/\σ_ 23=jV (↑p0.Starts.length:Int)/\PHeap.Le aX φ_/\sW w φ φ_ [B1,.obj af (.map ah ag),.blk b2 28 B0,.row aF aH 3 1 (hD KL.encI aJ)] w_) dV ?_ ?_ ?_
 have dT:=bi.nilrow 3 1
 exact ⟨aX,none,0,rfl,rfl,rfl,rfl,(zO _),(dT.pick [1,2,3,0] _ (by decide) rfl)⟩
 rintro ac aJ eY fc eK bj ⟨eA,aF,aH,aT,bf,bN,bg,ay,dy⟩ er
 have bD:Hid ((↑ac:Int) < (↑p0.Starts.length:Int)):=zM (wAs bj)
 replace bj:=zM bj
 have ca:Hid (w64 ((↑ac:Int) + 1)=(↑(ac + 1):Int)):=zM (by have h1:=bm.out;have h2:=bD.out;rw [wAT] <;> omega)
 refine sR fL1 Z (oR Z (zc Z aT bg) (eN (zL (cT Z bD (kN (zL (zY (sR gEb Z (oM Z aT (zV (cs:=[jV 0]) Z Z Z Z Z zz Z dy ?_))))))))))
 intro eI aq dz
 let B2:List Value:=[jV (↑ac:Int)]
 refine zW (j:=0) (vs:=B2) Z Z Z Z dz Z Z Z Z zC (zA Z) Z Z Z ?_
 intro a6 dA
 let B3:Res:=.row aF aH 3 1 (hD KL.encI aJ)
 have bQ:sW w φ eA [.blk aq 3 B2,B1,.obj af (.map ah ag),.blk b2 28 B0,B3] a6:=dA
 refine eN (sR gEs Z (oL Z (bQ.ldBA (j:=3) Z Z bf zf zX (vs:=B0) Z Z) ?_))
 have q:=bQ.freeze (k:=0) rfl
 obtain ⟨aW,az,ax,dB⟩:=q
 replace ax:=Cl.of ax
 have dC:sW w φ aW [B1,.obj af (.map ah ag),.blk b2 28 B0,B3] a6:=dB
 replace ax:Cl aW aq 0 B2:=ax
 refine oR Z (yl Z zN (zB Z zN)) ?_
 have cy:=bW.le aU
 have cz:=cy.le am
 have cA:=cz.le aV
 have cB:=cA.le ay
 have cC:=cB.le az
 have cD:=bX.le aU
 have cE:=cD.le am
 have cG:=cE.le aV
 have cH:=cG.le ay
 have cI:=cH.le az
 have cJ:=bY.le aU
 have cK:=cJ.le am
 have cL:=cK.le aV
 have cM:=cL.le ay
 have cN:=cM.le az
 have cO:=bZ.le aU
 have cP:=cO.le am
 have cQ:=cP.le aV
 have cR:=cQ.le ay
 have cS:=cR.le az
 have dx:FnOK Try.prog aW (.func (.func 67) #[] #[.pointer (some ⟨aq,0,none⟩)]) wKh wKi (fun x=>wCh x.1 x.2 (↑ac:Int)):=⟨67,[],[.pointer (some ⟨aq,0,none⟩)],rfl,Try.call67,fun ey w1 x y vs le hs ha hm=>by obtain rfl:=ha;exact wHB x.1 x.2 (↑ac:Int) aq w1 ey hs (ax.le le) hm⟩
 refine bnK er fun aj cU dW=>zF 0 Z Z Z Z (zD Z Z Try.call64 (zB Z (zB Z zN)) Z) dC (fun hs=>wDK p0 aD aE aK aN aL aO aM aP (fun x=>wCh x.1 x.2 (↑ac:Int)) (.func (.func 67) #[] #[.pointer (some ⟨aq,0,none⟩)]) a6 aW hs cC cI cN cS dx cU) (.inr Z) ?_
 rintro eB eF eQ a7 bn dD ⟨bB,bq,bE,br,bF,bs,bG,bu,bH,ao,av,au,aZ,a9,rfl,rfl,cV,cW,cX,cY,cZ⟩
 let B4:Res:=.blk bB 124 [.slice bq aj.Race.Starts.length bE,.slice br aj.Race.Splits.length bF,.slice bs aj.Race.Clocks.length bG,.slice bu aj.Race.Readings.length bH,.map (some ao),.slice aZ aj.edges.length a9]
 have dE:sW w φ eB [B4,.obj ao (.map av au),.row aZ a9 130 7 (hD wAQ aj.edges),B1,.obj af (.map ah ag),.blk b2 28 B0,B3] a7:=dD
 refine oR Z (yl Z (zB Z zN) zN) (oA Z Z (eN (sR gDr Z (oM Z Z ?_))))
 have q:=dE.freezeR (k:=2) (n:=aj.edges.length) rfl (wAD (f:=wAQ) (sz:=7) (fun _=>rfl) aj.edges) (by decide)
 obtain ⟨cd,an,eo,dF⟩:=q
 have dG:sW w φ cd [B4,.obj ao (.map av au),B1,.obj af (.map ah ag),.blk b2 28 B0,B3] a7:=dF
 have c6:=cV.le an
 have da:=cW.le an
 have db:=cX.le an
 have dd:=cY.le an
 refine bnK dW fun eW de dX=>zF 2 Z Z Z Z (zD Z Z Try.call63 zN Z) dG (fun hs=>wBx aj bB bq bE br bF bs bG bu bH ao av au aZ a9 a7 cd hs c6 da db dd cZ eo de) (.inl Z) ?_
 rintro aQ eG eU cm bo dH ⟨rfl,rfl⟩
 have bh:sW w φ aQ [B4,.obj ao (.map av au),B1,.obj af (.map ah ag),.blk b2 28 B0,B3] cm:=dH
 refine eN (ifc dX ?_ ?_)
 intro ba dY
 refine ZL (congrArg hH ba.out) (rR gEt Z (oM Z bN ?_))
 have df:=ax.le bn
 have dg:=df.le an
 have dh:=dg.le bo
 refine oL Z (bh.ldC (f:=0) dh (v:=jV (↑ac:Int)) Z Z zJ Z) (zm (pv:=[(0,jV (↑ac:Int))]) (zs:=[jV 0]) (cs:=B2) Z Z Z Z Z (wAG Z wAN) zE zC zz Z Z Z Z Z bh ?_)
 intro cn cq dI
 let B5:Res:=.row (some ⟨cq,0,none⟩) 1 3 1 (hD KL.encI [(↑ac:Int)])
 have bS:sW w φ aQ [B5,B4,.obj ao (.map av au),B1,.obj af (.map ah ag),.blk b2 28 B0,B3] cn:=dI
 refine bnK dY fun cb di dZ=>Zm (j:=6) (enc:=KL.encI) (xs:=aJ) (ys:=[(↑ac:Int)]) (zs:=cb) rfl rfl rfl rfl rfl yf wHr rfl rfl rfl rfl rfl rfl bS rfl rfl rfl (bS.srcR (j:=0) rfl (by decide) (wAD (f:=KL.encI) (sz:=1) (fun _=>rfl) [(↑ac:Int)])) (fun _=>rfl) (fun _=>rfl) di rfl ?_
 intro bx bL co dJ
 have dK:sW w φ aQ [B5,B4,.obj ao (.map av au),B1,.obj af (.map ah ag),.blk b2 28 B0,.row bx bL 3 1 (hD KL.encI cb)] co:=dJ
 refine oA Z Z (zb (zo (zH (rR fL2 Z (oR Z (ZG (za Z aT Z) (congrArg (jV) ca.out)) (oM Z Z (zb ?_)))))))
 cases dZ
 exact zH ⟨rfl,⟨aQ,bx,bL,rfl,bf,rfl,bg,((((ay.trans az).trans bn).trans an).trans bo),(dK.pick [3,4,5,6] _ (by decide) rfl)⟩⟩
 intro ba d5
 refine zt (congrArg hH (hJ.2 ba.out)) (Zh (zo (zH (rR fL2 Z (oR Z (ZG (za Z aT Z) (congrArg (jV) ca.out)) (oM Z Z (zb ?_)))))))
 cases d5
 exact zH ⟨rfl,⟨aQ,aF,aH,rfl,bf,bN,bg,((((ay.trans az).trans bn).trans an).trans bo),(bh.pick [2,3,4,5] _ (by decide) rfl)⟩⟩
 rintro fb eJ ⟨eD,cg,cr,cx,eL,cu,cw,eM,dL⟩
 have ct:Hid (¬ ((↑(((↑p0.Starts.length:Int):Int) - 0).toNat:Int) < (↑p0.Starts.length:Int))):=zM (wAc)
 refine sR fL1 Z (oR Z (zc Z cx cw) (eN (zL (cF Z ct (Za (zi (zi (ZQ (zH (sR fL3 Z (oM Z cu (oA Z Z (oA Z Z (eN (zS ?_)))))))))))))))
 cases en
 exact ⟨rfl,_,(wDx rfl rfl),eD,_,(dL.pick [3] _ (by decide) rfl),cg,cr,rfl,rfl⟩
 intro bd d7
 refine cT Z bd (sR fL3 Z (oM Z Z (oA Z Z (oA Z Z (eN (zS (ze (zR ?_))))))))
 have dM:=bV.nilrow 3 1
 cases d7
 exact ⟨rfl,_,(wDx rfl rfl),aY,_,(dM.pick [0] _ (by decide) rfl),none,0,rfl,rfl⟩
end Go.Proofs.Ytlnfbjphfoipaaa
namespace Go.Proofs.Ytlnfbjphfoipaaa
open Go.KL
set_option maxHeartbeats 4000000
theorem wFJ (p0:wAC) (be:Option Addr) (bf:Nat) (aO:Option Addr) (aP:Nat) (aE:Option Addr) (aG:Nat) (aX:Option Addr) (aY:Nat) (p1:List (List Int)) (aq:Option Addr) (au:Nat) (p2:List Int) (aF:Option Addr) (aH:Nat) (w:World) (φ:PHeap) (hS:St0 w φ []) (gG:Sl φ 1 be bf p0.Starts.length (hD KL.encI p0.Starts)) (gH:Sl φ 2 aO aP p0.Splits.length (hD wAE p0.Splits)) (cZ:Sl φ 3 aE aG p0.Clocks.length (hD wAB p0.Clocks)) (gI:Sl φ 4 aX aY p0.Readings.length (hD wAA p0.Readings)) (c6:SlR φ wIs aq au p1) (da:Sl φ 1 aF aH p2.length (hD KL.encI p2)) {r:Bool} (hm:wBc p0 p1 p2=some r):Gv Try.prog 24 [.agg #[.slice be p0.Starts.length bf,.slice aO p0.Splits.length aP,.slice aE p0.Clocks.length aG,.slice aX p0.Readings.length aY],.slice aq p1.length au,.slice aF p2.length aH] w (wCF w [] φ (fun φ_ L_ v=>v=.bool r/\L_=[])):=by
 unfold wBc at hm
 refine Gv.of Try.func24 Z Try.ntmps24 Try.results24 Z (sR gDs Z ?_)
 let B0:List Value:=[.slice be p0.Starts.length bf,.slice aO p0.Splits.length aP,.slice aE p0.Clocks.length aG,.slice aX p0.Readings.length aY]
 refine zu (cs:=B0) rfl rfl rfl rfl rfl rfl (by rfl) hS ?_
 intro W1 b2 a6
 refine oA Z Z (eN (zL (sR fL14 Z (oM Z Z (oR Z (zq Z Z yU) (oR Z (zG Z Z zK Z zy) (oL Z (a6.ldB (j:=0) Z Z Z ZK (v:=.slice be p0.Starts.length bf) Z) (oR Z (zq Z Z zE) (oR Z (ZZ Z Z Z) (oM Z Z ?_))))))))))
 by_cases c5:(↑p1.length:Int)=(↑p0.Starts.length:Int)
 have dh:=hm;rw [if_pos c5] at dh;replace c5:=zM c5
 refine zk Z Z Z (zQ Z Z (zw (fun h=>h c5.out))) Z Z (zg Z Z Z (zQ Z Z (zw (fun h=>h c5.out))) (fun _=>zq Z Z zE) (zg Z Z Z (zQ Z Z (zw (fun h=>h c5.out))) (fun _=>zG Z Z zK Z Zl) (ZJ Z Z Z (zQ Z Z (zw (fun h=>h c5.out))) (a6.ldB (j:=0) Z Z Z yE (v:=.slice aE p0.Clocks.length aG) Z) Z (zg Z Z Z (zQ Z Z (zw (fun h=>h c5.out))) (fun _=>zq Z Z ZV) (zg Z Z Z (zQ Z Z (zw (fun h=>h c5.out))) (fun _=>ZZ Z Z Z) (oR Z (zZ Z (zw (fun h=>h c5.out)) Z) (eN (ifc dh ?_ ?_))))))))
 intro c7 aL
 refine zt (zw (fun h=>h c7.out)) (kN (zL (sR fL3 Z (oM Z Z (oR Z (zq Z Z yU) (oM Z Z (eN (zY ?_))))))))
 have q:=wBa aL
 obtain ⟨lb,aK⟩:=q
 have q:=wBZ aK
 obtain ⟨bX,gN⟩:=q
 replace bX:=zM bX
 refine yH (fun aD _ σ_ w_=>∃ (φ_:PHeap),σ_ 32=jV (↑aD:Int)/\σ_ 1=.slice aq p1.length au/\σ_ 2=.slice aF p2.length aH/\σ_ 3=.pointer (some ⟨b2,0,none⟩)/\σ_ 30=.slice aq p1.length au/\σ_ 31=jV (↑p1.length:Int)/\PHeap.Le φ φ_/\sW w φ φ_ [.blk b2 28 B0] w_) gN ?_ ?_ ?_
 exact ⟨φ,Z,Z,Z,Z,Z,Z,(zO _),a6⟩
 rintro aD ⟨⟩ lj lp cn bS ⟨bg,bm,er,eu,bj,cz,cA,bt,cV⟩ di a8
 try dsimp only at di
 have cq:Hid ((↑aD:Int) < (↑p1.length:Int)):=zM (wAs bS)
 replace bS:=zM bS
 have gS:Hid (w64 ((↑aD:Int) + 1)=(↑(aD + 1):Int)):=zM (by have h1:=bX.out;have h2:=cq.out;rw [wAT] <;> omega)
 refine sR fL1 Z (oR Z (zc Z bm cA) (eN (zL (cT Z cq (kN (zL (zY (sR fL5 Z (oM Z bm (bnK di fun bx cM iy=>?_))))))))))
 have fk:=c6.le bt
 have q:=fk.el (wAX cM)
 obtain ⟨dz,iU,li,fS,bQ,iP⟩:=q
 obtain ⟨bv,bw,rfl,cO⟩:=iP
 replace bQ:Cl bg dz (iU + aD * 1) [.slice bv bx.length bw]:=bQ
 refine zg rfl rfl rfl rfl (fun _=>Zc rfl cz fS bm yU zy (wBQ cM)) (ZJ rfl rfl rfl rfl (cV.ldC (f:=0) bQ (v:=.slice bv bx.length bw) rfl rfl ZK rfl) rfl (yK rfl rfl rfl rfl rfl rfl (yK rfl rfl rfl rfl rfl rfl (eN (zL (zL (ZE ZF [3,3,3,1,3,3,3,3,3,3,1,3,1,3,3,1,3,3] fL18 (by kernel_rfl) ?_)))))))
 have ax:=cV.drew
 generalize hw_W46:({ cn with drawn:=cn.drawn + 1 }:World)=jv at ax ⊢
 refine oM Z Z (oR Z (zq Z Z zE) (oR Z (zG Z bj zK Z yC) (oL Z (ax.ldB (j:=0) Z Z Z yQ (v:=.slice aO p0.Splits.length aP) Z) (oR Z (zq Z Z ZP) (oR Z (za Z Z Z) (oR Z (ZZ Z Z Z) (oM Z Z (ifc iy ?_ ?_))))))))
 intro af iK
 refine zk Z Z Z (zQ Z Z (zw (fun h=>h af.out))) Z Z (bnK iK fun jc cP iL=>?_)
 have q:=cO.el (fun _=>rfl) (wAX cP)
 obtain ⟨jL,k7,fV,gt⟩:=q
 refine zg Z Z Z (zQ Z Z (zw (fun h=>h af.out))) (fun _=>Zc Z Z fV Z zE zC (wBQ cP)) (ZJ Z Z Z (zQ Z Z (zw (fun h=>h af.out))) (ax.ldC (f:=0) gt (v:=jV jc) Z Z zJ Z) Z (zg Z Z Z (zQ Z Z (zw (fun h=>h af.out))) (fun _=>zG Z bj zK Z zy) (ZJ Z Z Z (zQ Z Z (zw (fun h=>h af.out))) (ax.ldB (j:=0) Z Z Z ZK (v:=.slice be p0.Starts.length bf) Z) Z (zk Z Z Z (zQ Z Z (zw (fun h=>h af.out))) Z Z (bnK iL fun jd cQ iM=>?_)))))
 have fA:=gG.le bt
 have q:=fA.el (fun _=>rfl) (wAX cQ)
 obtain ⟨jM,k8,fW,gu⟩:=q
 refine zg Z Z Z (zQ Z Z (zw (fun h=>h af.out))) (fun _=>Zc Z Z fW Z zE zC (wBQ cQ)) (ZJ Z Z Z (zQ Z Z (zw (fun h=>h af.out))) (ax.ldC (f:=0) gu (v:=jV jd) Z Z zJ Z) Z (zg Z Z Z (zQ Z Z (zw (fun h=>h af.out))) (fun _=>ZZ Z Z Z) (oR Z (zZ Z (zw (fun h=>h af.out)) Z) (eN (ifc iM ?_ ?_)))))
 intro bG bb
 refine zt (zw (fun h=>h bG.out)) (kN (sR fL4 Z (oR Z (zG Z bj zK Z yC) (oL Z (ax.ldB (j:=0) Z Z Z yQ (v:=.slice aO p0.Splits.length aP) Z) (oR Z (zq Z Z ZP) (oM Z Z (eN (zY ?_))))))))
 have q:=wBa bb
 obtain ⟨lg,a7⟩:=q
 have q:=wBZ a7
 obtain ⟨ca,gQ⟩:=q
 replace ca:=zM ca
 refine yH (fun aN _ σ_ w_=>∃ (φ_:PHeap),σ_ 58=jV (↑aN:Int)/\σ_ 1=.slice aq p1.length au/\σ_ 2=.slice aF p2.length aH/\σ_ 3=.pointer (some ⟨b2,0,none⟩)/\σ_ 8=.slice bv bx.length bw/\σ_ 30=.slice aq p1.length au/\σ_ 31=jV (↑p1.length:Int)/\σ_ 32=jV (↑aD:Int)/\σ_ 56=.slice aO p0.Splits.length aP/\σ_ 57=jV (↑p0.Splits.length:Int)/\PHeap.Le bg φ_/\sW w φ φ_ [.blk b2 28 B0] w_) gQ ?_ ?_ ?_
 exact ⟨bg,Z,er,eu,bj,Z,cz,cA,bm,Z,Z,(zO _),ax⟩
 rintro aN ⟨⟩ ln lA jw bW ⟨bi,bo,eJ,eK,eL,eM,eO,eQ,eU,cH,cI,cc,cY⟩ dm bR
 try dsimp only at dm
 have ct:Hid ((↑aN:Int) < (↑p0.Splits.length:Int)):=zM (wAs bW)
 replace bW:=zM bW
 have bs:Hid (w64 ((↑aN:Int) + 1)=(↑(aN + 1):Int)):=zM (by have h1:=ca.out;have h2:=ct.out;rw [wAT] <;> omega)
 refine sR fL1 Z (oR Z (zc Z bo cI) (eN (zL (cT Z ct (kN (zL (zY (sR (wCa gDz) Z (oM Z bo (bnK dm fun aZ cR iN=>?_))))))))))
 have fB:=gH.le bt
 have fC:=fB.le cc
 have q:=fC.el (fun _=>rfl) (wAX cR)
 obtain ⟨jN,k9,fD,fY⟩:=q
 refine oR Z (Zc Z cH fD bo ZP ZA (wBQ cR)) (oL Z (cY.ldCA (f:=0) fY Z Z yA ZA (us:=[jV aZ.Lo,jV aZ.Hi]) Z Z) (zV (cs:=[jV 0,jV 0]) Z Z Z Z Z ZS Z cY ?_))
 intro jh co gv
 refine oA Z Z ?_
 let B1:List Value:=[jV aZ.Lo,jV aZ.Hi]
 refine zW (j:=0) (vs:=B1) Z Z Z Z gv Z Z Z Z ZA (zA Z) Z Z Z ?_
 intro bA gw
 have gx:sW w φ bi [.blk co 41 B1,.blk b2 28 B0] bA:=gw
 refine eN (zL (ye fun ap ao=>?_))
 have dQ:ap 1=.slice aq p1.length au:=(ao 1).trans eJ
 have dR:ap 2=.slice aF p2.length aH:=(ao 2).trans eK
 have dS:ap 3=.pointer (some ⟨b2,0,none⟩):=(ao 3).trans eL
 have aJ:ap 8=.slice bv bx.length bw:=(ao 8).trans eM
 have aQ:ap 9=jV (↑aN:Int):=(ao 9).trans rfl
 have cu:ap 10=.pointer (some ⟨co,0,none⟩):=(ao 10).trans rfl
 have dT:ap 30=.slice aq p1.length au:=(ao 30).trans eO
 have dU:ap 31=jV (↑p1.length:Int):=(ao 31).trans eQ
 have dV:ap 32=jV (↑aD:Int):=(ao 32).trans eU
 have dW:ap 56=.slice aO p0.Splits.length aP:=(ao 56).trans cH
 have dX:ap 57=jV (↑p0.Splits.length:Int):=(ao 57).trans cI
 have dY:ap 58=jV (↑aN:Int):=(ao 58).trans bo
 clear ao
 refine ZE ZF [3,3,3,3,1,3,3,3,1,3,3,3,3,3,3,1,3,3,3,1,3,3,1,3,3,3,3,3,3,3,1,3,3,3,1,3,3,1,3,3] fL40 (by kernel_rfl) ?_
 have an:=gx.drew
 generalize hw_W124:({ bA with drawn:=bA.drawn + 1 }:World)=ji at an ⊢
 refine oM Z aJ (oM Z aQ (oR Z (ZG (za Z Z Z) (congrArg (jV) bs.out)) (bnK iN fun cd aR gU=>?_)))
 have aS:=cO.le cc
 have q:=aS.el (fun _=>rfl) (wAX aR)
 obtain ⟨jx,jY,fE,fZ⟩:=q
 refine oR Z (Zc Z Z fE Z zE zC (wBQ aR)) (oL Z (an.ldC (f:=0) fZ (v:=jV cd) Z Z zJ Z) (oM Z aJ (oM Z aQ (bnK gU fun cf aT gV=>?_))))
 have q:=aS.el (fun _=>rfl) (wAX aT)
 obtain ⟨jy,jZ,fG,f4⟩:=q
 refine oR Z (Zc Z Z fG Z zE zC (wBQ aT)) (oL Z (an.ldC (f:=0) f4 (v:=jV cf) Z Z zJ Z) (oR Z (zc Z Z Z) (oM Z Z (ifc gV ?_ ?_))))
 intro ab gW
 refine oT Z ab (oT Z ab (oT Z ab (oT Z ab (oT Z ab (oT Z ab (oT Z ab (oT Z ab (oT Z ab (oT Z ab (oT Z ab (oT Z ab (oT Z ab (oR Z (zP Z (Zj ab.out) Z) (oM Z Z (oN Z (oN Z (oN Z (oN Z (oN Z (oN Z (oN Z (oN Z (oN Z (oN Z (oN Z (oN Z (oN Z (oR Z (zP Z Z Z) (eN (ZL Z (sR fL1 Z (oA Z Z (eN (zS (ze (zR ?_))))))))))))))))))))))))))))))))))))
 have q:=wAZ gW
 obtain ⟨iV,gX,dE⟩:=q
 have q:=wBI bb a7 (bR iV dE)
 obtain rfl:=q
 refine zR (ze (ze (zR ?_)))
 have q:=wAZ gX
 obtain ⟨iW,gY,dF⟩:=q
 have q:=wBI aL aK (a8 iW dF)
 obtain rfl:=q
 refine zR (ze (zR ?_))
 have hE:=hU gY;first | subst r | cases hE
 exact ⟨rfl,_,(ZM rfl),bi,_,(an.pick [] _ (by decide) rfl),rfl,rfl⟩
 intro ab gZ
 refine zk Z Z Z (wF Z ab) Z aJ (zk Z Z Z (wF Z ab) Z aQ (rU Z (wF Z ab) (ZG (za Z Z Z) (congrArg (jV) bs.out)) ?_))
 have q:=aS.el (fun _=>rfl) (wAX aR)
 obtain ⟨jz,j0,fH,f6⟩:=q
 refine rU Z (wF Z ab) (Zc Z Z fH Z zE zC (wBQ aR)) (ZJ Z Z Z (wF Z ab) (an.ldC (f:=0) f6 (v:=jV cd) Z Z zJ Z) Z (zk Z Z Z (wF Z ab) Z aJ (zk Z Z Z (wF Z ab) Z aQ ?_)))
 have q:=aS.el (fun _=>rfl) (wAX aT)
 obtain ⟨jA,j1,fI,f7⟩:=q
 refine rU Z (wF Z ab) (Zc Z Z fI Z zE zC (wBQ aT)) (ZJ Z Z Z (wF Z ab) (an.ldC (f:=0) f7 (v:=jV cf) Z Z zJ Z) Z (rU Z (wF Z ab) (yJ Z Z Z) (rU Z (wF Z ab) (zG Z cu ZX Z zC) (ZJ Z Z Z (wF Z ab) (an.ldB (j:=0) Z Z Z zJ (v:=jV aZ.Lo) Z) Z (rU Z (wF Z ab) (zc Z Z Z) (oR Z (zZ Z (zw ab.out) Z) (oM Z Z (ifc gZ ?_ ?_))))))))
 intro ac g6
 refine oT Z ac (oT Z ac (oT Z ac (oT Z ac (oT Z ac (oT Z ac (oT Z ac (oT Z ac (oT Z ac (oT Z ac (oT Z ac (oT Z ac (oT Z ac (oR Z (zP Z (Zj ac.out) Z) (eN (ZL Z (sR fL1 Z (oA Z Z (eN (zS (ze (zR ?_)))))))))))))))))))))
 have q:=wAZ g6
 obtain ⟨iX,g7,dG⟩:=q
 have q:=wBI bb a7 (bR iX dG)
 obtain rfl:=q
 refine zR (ze (ze (zR ?_)))
 have q:=wAZ g7
 obtain ⟨iY,g8,dH⟩:=q
 have q:=wBI aL aK (a8 iY dH)
 obtain rfl:=q
 refine zR (ze (zR ?_))
 have hE:=hU g8;first | subst r | cases hE
 exact ⟨rfl,_,(ZM rfl),bi,_,(an.pick [] _ (by decide) rfl),rfl,rfl⟩
 intro ac g9
 refine zk Z Z Z (wF Z ac) Z aJ (zk Z Z Z (wF Z ac) Z aQ (rU Z (wF Z ac) (ZG (za Z Z Z) (congrArg (jV) bs.out)) ?_))
 have q:=aS.el (fun _=>rfl) (wAX aR)
 obtain ⟨jB,j2,fJ,f8⟩:=q
 refine rU Z (wF Z ac) (Zc Z Z fJ Z zE zC (wBQ aR)) (ZJ Z Z Z (wF Z ac) (an.ldC (f:=0) f8 (v:=jV cd) Z Z zJ Z) Z (zk Z Z Z (wF Z ac) Z aJ (zk Z Z Z (wF Z ac) Z aQ ?_)))
 have q:=aS.el (fun _=>rfl) (wAX aT)
 obtain ⟨jC,j3,fK,f9⟩:=q
 refine rU Z (wF Z ac) (Zc Z Z fK Z zE zC (wBQ aT)) (ZJ Z Z Z (wF Z ac) (an.ldC (f:=0) f9 (v:=jV cf) Z Z zJ Z) Z (rU Z (wF Z ac) (yJ Z Z Z) (rU Z (wF Z ac) (zG Z cu ZX Z zC) (ZJ Z Z Z (wF Z ac) (an.ldB (j:=0) Z Z Z zJ (v:=jV aZ.Hi) Z) Z (rU Z (wF Z ac) (yb Z Z Z) (oR Z (zZ Z (zw ac.out) Z) (eN (ifc g9 ?_ ?_))))))))
 intro bD ib
 refine cT Z bD (sR fL1 Z (oA Z Z (eN (zS (ze (zR ?_))))))
 have q:=wAZ ib
 obtain ⟨iZ,ic,dI⟩:=q
 have q:=wBI bb a7 (bR iZ dI)
 obtain rfl:=q
 refine zR (ze (ze (zR ?_)))
 have q:=wAZ ic
 obtain ⟨i3,ie,dJ⟩:=q
 have q:=wBI aL aK (a8 i3 dJ)
 obtain rfl:=q
 refine zR (ze (zR ?_))
 have hE:=hU ie;first | subst r | cases hE
 exact ⟨rfl,_,(ZM rfl),bi,_,(an.pick [] _ (by decide) rfl),rfl,rfl⟩
 intro bD ig
 refine cF Z bD (Zh (zo (zH (rR fL2 Z (oR Z (ZG (za Z dY Z) (congrArg (jV) bs.out)) (oM Z Z (zb ?_)))))))
 have q:=hU ig
 obtain rfl:=q
 exact zH ⟨rfl,_,rfl,⟨bi,rfl,dQ,dR,dS,aJ,dT,dU,dV,dW,dX,cc,(an.pick [1] _ (by decide) rfl)⟩⟩
 rintro ⟨⟩ lq jj ⟨je,eV,dZ,d5,d7,jO,d9,ef,eg,jP,eh,iS,gy⟩ gJ
 have de:=wCO bb a7 gJ
 try dsimp only at de
 have dA:Hid (¬ ((↑(((↑p0.Splits.length:Int):Int) - 0).toNat:Int) < (↑p0.Splits.length:Int))):=zM (wAc)
 refine sR fL1 Z (oR Z (zc Z eV eh) (eN (zL (cF Z dA (Za (zi (zi (ZQ (zo (zH (rR fL2 Z (oR Z (ZG (za Z eg Z) (congrArg (jV) gS.out)) (oM Z Z (zb ?_))))))))))))))
 have q:=hU de
 obtain rfl:=q
 exact zH ⟨Z,_,Z,⟨je,Z,dZ,d5,d7,d9,ef,(bt.trans iS),gy⟩⟩
 intro bG ii
 refine cT Z bG (sR fL1 Z (oA Z Z (eN (zS (zR (ze (zR ?_)))))))
 have q:=wAZ ii
 obtain ⟨i4,ij,dK⟩:=q
 have q:=wBI aL aK (a8 i4 dK)
 obtain rfl:=q
 refine zR (ze (zR ?_))
 have hE:=hU ij;first | subst r | cases hE
 exact ⟨rfl,_,(ZM rfl),bg,_,(ax.pick [] _ (by decide) rfl),rfl,rfl⟩
 intro af ik
 refine oT Z af (oT Z af (oT Z af (oT Z af (oT Z af (oT Z af (oT Z af (oT Z af (oT Z af (oR Z (zP Z (Zj af.out) Z) (eN (ZL Z (sR fL1 Z (oA Z Z (eN (zS (zR (ze (zR ?_))))))))))))))))))
 have q:=wAZ ik
 obtain ⟨i5,il,dL⟩:=q
 have q:=wBI aL aK (a8 i5 dL)
 obtain rfl:=q
 refine zR (ze (zR ?_))
 have hE:=hU il;first | subst r | cases hE
 exact ⟨rfl,_,(ZM rfl),bg,_,(ax.pick [] _ (by decide) rfl),rfl,rfl⟩
 rintro ⟨⟩ ls jk ⟨du,eW,ej,ek,cw,jQ,en,aW,cS⟩ gK
 have a9:=wCO aL aK gK
 try dsimp only at a9
 have dB:Hid (¬ ((↑(((↑p1.length:Int):Int) - 0).toNat:Int) < (↑p1.length:Int))):=zM (wAc)
 refine sR fL1 Z (oR Z (zc Z eW en) (eN (zL (cF Z dB (Za (zi (zi (ZQ (zH (zL (sR fL4 Z (oR Z (zG Z cw zK Z Zl) (oL Z (cS.ldB (j:=0) Z Z Z yE (v:=.slice aE p0.Clocks.length aG) Z) (oR Z (zq Z Z ZV) (oM Z Z (eN (zY ?_)))))))))))))))))
 have q:=wBa a9
 obtain ⟨lc,bq⟩:=q
 have q:=wBZ bq
 obtain ⟨bY,gO⟩:=q
 replace bY:=zM bY
 refine yH (fun bc _ σ_ w_=>∃ (φ_:PHeap),σ_ 108=jV (↑bc:Int)/\σ_ 1=.slice aq p1.length au/\σ_ 2=.slice aF p2.length aH/\σ_ 3=.pointer (some ⟨b2,0,none⟩)/\σ_ 106=.slice aE p0.Clocks.length aG/\σ_ 107=jV (↑p0.Clocks.length:Int)/\PHeap.Le du φ_/\sW w φ φ_ [.blk b2 28 B0] w_) gO ?_ ?_ ?_
 exact ⟨du,Z,ej,ek,cw,Z,Z,(zO _),cS⟩
 rintro bc ⟨⟩ lk lu jl bU ⟨bz,bn,eo,bI,ep,cx,cy,cb,cU⟩ dk db
 try dsimp only at dk
 have cp:Hid ((↑bc:Int) < (↑p0.Clocks.length:Int)):=zM (wAs bU)
 replace bU:=zM bU
 have gR:Hid (w64 ((↑bc:Int) + 1)=(↑(bc + 1):Int)):=zM (by have h1:=bY.out;have h2:=cp.out;rw [wAT] <;> omega)
 refine sR fL1 Z (oR Z (zc Z bn cy) (eN (zL (cT Z cp (kN (zL (zY (sR (wCa gDz) Z (oM Z bn (bnK dk fun aI cJ im=>?_))))))))))
 have eZ:=cZ.le aW
 have fb:=eZ.le cb
 have q:=fb.el (fun _=>rfl) (wAX cJ)
 obtain ⟨jD,j4,fL,ga⟩:=q
 refine oR Z (Zc Z cx fL bn ZV Zq (wBQ cJ)) (oL Z (cU.ldCA (f:=0) ga Z Z Try.isAgg43 Zq (us:=[jV aI.Offset.Lo,jV aI.Offset.Hi,jV aI.Error]) Z Z) (zV (cs:=[jV 0,jV 0,jV 0]) Z Z Z Z Z yV Z cU ?_))
 intro jm dw gz
 refine oA Z Z ?_
 let B2:List Value:=[jV aI.Offset.Lo,jV aI.Offset.Hi,jV aI.Error]
 refine zW (j:=0) (vs:=B2) Z Z Z Z gz Z Z Z Z Zq (zA Z) Z Z Z ?_
 intro bB gA
 have gB:sW w φ bz [.blk dw 43 B2,.blk b2 28 B0] bB:=gA
 refine eN (zL (ZE ZF [3,3,3,1,3,3,1,3,3,3,3,3,1,3,3,1,3,3] fL18 (by kernel_rfl) ?_))
 have az:=gB.drew
 generalize hw_W263:({ bB with drawn:=bB.drawn + 1 }:World)=jo at az ⊢
 refine oM Z bI (oM Z Z (bnK im fun dq bp io=>?_))
 have fc:=da.le aW
 have cK:=fc.le cb
 have q:=cK.el (fun _=>rfl) (wAX bp)
 obtain ⟨jE,j5,fM,ge⟩:=q
 refine oR Z (Zc Z Z fM Z zE zC (wBQ bp)) (oL Z (az.ldC (f:=0) ge (v:=jV dq) Z Z zJ Z) (oR Z (zG Z Z Zr Z ZA) (oR Z (zG Z Z ZX Z zC) (oL Z (az.ldB (j:=0) Z Z Z zJ (v:=jV aI.Offset.Lo) Z) (oR Z (zc Z Z Z) (oM Z Z (ifc io ?_ ?_)))))))
 intro ah ip
 refine oT Z ah (oT Z ah (oT Z ah (oT Z ah (oT Z ah (oT Z ah (oT Z ah (oT Z ah (oR Z (zP Z (Zj ah.out) Z) (eN (ZL Z (sR fL1 Z (oA Z Z (eN (zS (ze (zR ?_))))))))))))))))
 have q:=wAZ ip
 obtain ⟨i6,iq,dM⟩:=q
 have q:=wBI a9 bq (db i6 dM)
 obtain rfl:=q
 refine zR (ze (zR ?_))
 have hE:=hU iq;first | subst r | cases hE
 exact ⟨rfl,_,(ZM rfl),bz,_,(az.pick [] _ (by decide) rfl),rfl,rfl⟩
 intro ah ir
 refine zk Z Z Z (wF Z ah) Z bI (zk Z Z Z (wF Z ah) Z Z ?_)
 have q:=cK.el (fun _=>rfl) (wAX bp)
 obtain ⟨jF,j6,fN,gg⟩:=q
 refine rU Z (wF Z ah) (Zc Z Z fN Z zE zC (wBQ bp)) (ZJ Z Z Z (wF Z ah) (az.ldC (f:=0) gg (v:=jV dq) Z Z zJ Z) Z (rU Z (wF Z ah) (zG Z Z Zr Z ZA) (rU Z (wF Z ah) (zG Z Z ZX Z zC) (ZJ Z Z Z (wF Z ah) (az.ldB (j:=0) Z Z Z zJ (v:=jV aI.Offset.Hi) Z) Z (rU Z (wF Z ah) (yb Z Z Z) (oR Z (zZ Z (zw ah.out) Z) (eN (ifc ir ?_ ?_))))))))
 intro bE it
 refine cT Z bE (sR fL1 Z (oA Z Z (eN (zS (ze (zR ?_))))))
 have q:=wAZ it
 obtain ⟨i7,iu,dN⟩:=q
 have q:=wBI a9 bq (db i7 dN)
 obtain rfl:=q
 refine zR (ze (zR ?_))
 have hE:=hU iu;first | subst r | cases hE
 exact ⟨rfl,_,(ZM rfl),bz,_,(az.pick [] _ (by decide) rfl),rfl,rfl⟩
 intro bE iv
 refine cF Z bE (Zh (zo (zH (rR fL2 Z (oR Z (ZG (za Z bn Z) (congrArg (jV) gR.out)) (oM Z Z (zb ?_)))))))
 have q:=hU iv
 obtain rfl:=q
 exact zH ⟨rfl,_,rfl,⟨bz,rfl,eo,bI,ep,cx,cy,cb,(az.pick [1] _ (by decide) rfl)⟩⟩
 rintro ⟨⟩ lv jp ⟨dv,eX,ew,ey,cB,jR,eA,bu,cW⟩ gL
 have ba:=wCO a9 bq gL
 try dsimp only at ba
 have dC:Hid (¬ ((↑(((↑p0.Clocks.length:Int):Int) - 0).toNat:Int) < (↑p0.Clocks.length:Int))):=zM (wAc)
 refine sR fL1 Z (oR Z (zc Z eX eA) (eN (zL (cF Z dC (Za (zi (zi (ZQ (zH (zL (sR fL4 Z (oR Z (zG Z cB zK Z ZH) (oL Z (cW.ldB (j:=0) Z Z Z Zi (v:=.slice aX p0.Readings.length aY) Z) (oR Z (zq Z Z zn) (oM Z Z (eN (zY ?_)))))))))))))))))
 have q:=wBa ba
 obtain ⟨lf,br⟩:=q
 have q:=wBZ br
 obtain ⟨bZ,gP⟩:=q
 replace bZ:=zM bZ
 refine yH (fun aV _ σ_ w_=>∃ (φ_:PHeap),σ_ 135=jV (↑aV:Int)/\σ_ 1=.slice aq p1.length au/\σ_ 2=.slice aF p2.length aH/\σ_ 3=.pointer (some ⟨b2,0,none⟩)/\σ_ 133=.slice aX p0.Readings.length aY/\σ_ 134=jV (↑p0.Readings.length:Int)/\PHeap.Le dv φ_/\sW w φ φ_ [.blk b2 28 B0] w_) gP ?_ ?_ ?_
 exact ⟨dv,Z,ew,ey,cB,Z,Z,(zO _),cW⟩
 rintro aV ⟨⟩ lm lw jq bV ⟨bh,bK,cC,cD,bJ,cE,cG,bd,cX⟩ dl dd
 try dsimp only at dl
 have cr:Hid ((↑aV:Int) < (↑p0.Readings.length:Int)):=zM (wAs bV)
 replace bV:=zM bV
 have gT:Hid (w64 ((↑aV:Int) + 1)=(↑(aV + 1):Int)):=zM (by have h1:=bZ.out;have h2:=cr.out;rw [wAT] <;> omega)
 refine sR fL1 Z (oR Z (zc Z bK cG) (eN (zL (cT Z cr (kN (zL (zY (sR gEl Z (bnK dl fun ak cL iw=>?_)))))))))
 have fd:=gI.le aW
 have ff:=fd.le bu
 have fg:=ff.le bd
 have q:=fg.el (fun _=>rfl) (wAX cL)
 obtain ⟨jG,j7,fO,gh⟩:=q
 refine oR Z (Zc Z cE fO bK zn ZC (wBQ cL)) (oL Z (cX.ldCA (f:=0) gh Z Z yI ZC (us:=[jV ak.Skier,jV ak.Mat,jV ak.Clock,jV ak.Time]) Z Z) (zV (cs:=[jV 0,jV 0,jV 0,jV 0]) Z Z Z Z Z Zb Z cX ?_))
 intro jr dx gC
 let B3:List Value:=[jV ak.Skier,jV ak.Mat,jV ak.Clock,jV ak.Time]
 refine zW (j:=0) (vs:=B3) Z Z Z Z gC Z Z Z Z ZC (zA Z) Z Z Z ?_
 intro bC gD
 have gE:sW w φ bh [.blk dx 39 B3,.blk b2 28 B0] bC:=gD
 refine eN (zL (ZE ZF [3,1,3,3,1,3,1,3,1,3,1,3,3,3,1,3,1,3,3] fL19 (by kernel_rfl) ?_))
 have aj:=gE.drew
 generalize hw_W344:({ bC with drawn:=bC.drawn + 1 }:World)=jt at aj ⊢
 refine oR Z (zG Z Z zx Z zC) (oL Z (aj.ldB (j:=0) Z Z Z zJ (v:=jV ak.Time) Z) (oM Z cC (oR Z (zG Z Z zx Z zC) (oL Z (aj.ldB (j:=0) Z Z Z zJ (v:=jV ak.Skier) Z) (bnK iw fun dr bL iz=>?_)))))
 have fh:=c6.le aW
 have fj:=fh.le bu
 have fm:=fj.le bd
 have q:=fm.el (wAX bL)
 obtain ⟨dy,iT,lh,fP,bP,iO⟩:=q
 obtain ⟨dn,dp,rfl,fq⟩:=iO
 replace bP:Cl bh dy (iT + ak.Skier.toNat * 1) [.slice dn dr.length dp]:=bP
 refine oR Z (ZY Z Z fP Z yU zy (wCG bL) (wCI bL)) (oL Z (aj.ldC (f:=0) bP (v:=.slice dn dr.length dp) Z Z ZK Z) (oR Z (zG Z Z zx Z zC) (oL Z (aj.ldB (j:=0) Z Z Z zJ (v:=jV ak.Mat) Z) (bnK iz fun ja bM iA=>?_))))
 have q:=fq.el (fun _=>rfl) (wAX bM)
 obtain ⟨jH,j8,fQ,gi⟩:=q
 refine oR Z (ZY Z Z fQ Z zE zC (wCG bM) (wCI bM)) (oL Z (aj.ldC (f:=0) gi (v:=jV ja) Z Z zJ Z) (oR Z (yJ Z Z Z) (oM Z cD (oR Z (zG Z Z zx Z zC) (oL Z (aj.ldB (j:=0) Z Z Z zJ (v:=jV ak.Clock) Z) (bnK iA fun jb bN iB=>?_))))))
 have ft:=da.le aW
 have fu:=ft.le bu
 have fw:=fu.le bd
 have q:=fw.el (fun _=>rfl) (wAX bN)
 obtain ⟨jI,j9,fR,gj⟩:=q
 refine oR Z (ZY Z Z fR Z zE zC (wCG bN) (wCI bN)) (oL Z (aj.ldC (f:=0) gj (v:=jV jb) Z Z zJ Z) (oR Z (yJ Z Z Z) (oA Z Z (eN (sR fL21 Z (oM Z Z (oR Z (zG Z bJ zK Z Zl) (oL Z (aj.ldB (j:=1) Z Z Z yE (v:=.slice aE p0.Clocks.length aG) Z) (oR Z (zG Z Z zx Z zC) (oL Z (aj.ldB (j:=0) Z Z Z zJ (v:=jV ak.Clock) Z) (bnK iB fun dt aU iC=>?_)))))))))))
 have fy:=cZ.le aW
 have fz:=fy.le bu
 have cN:=fz.le bd
 have q:=cN.el (fun _=>rfl) (wAX aU)
 obtain ⟨jJ,k5,fT,gp⟩:=q
 refine oR Z (ZY Z Z fT Z ZV Zq (wCG aU) (wCI aU)) (oR Z (zG Z Z Zr Z zC) (oL Z (aj.ldC (f:=2) gp (v:=jV dt.Error) Z Z zJ Z) (oR Z (yb Z Z Z) (oM Z Z (ifc iC ?_ ?_)))))
 intro ae iD
 refine oT Z ae (oT Z ae (oT Z ae (oT Z ae (oT Z ae (oT Z ae (oT Z ae (oT Z ae (oT Z ae (oT Z ae (oR Z (zP Z (Zj ae.out) Z) (eN (ZL Z (zL (ye fun lx iQ=>?_))))))))))))))
 clear iQ
 refine rR fL1 Z (oA Z Z (eN (zS (ze (zR ?_)))))
 have q:=wAZ iD
 obtain ⟨i8,iE,dO⟩:=q
 have q:=wBI ba br (dd i8 dO)
 obtain rfl:=q
 refine zR (ze (zR ?_))
 have hE:=hU iE;first | subst r | cases hE
 exact ⟨rfl,_,(ZM rfl),bh,_,(aj.pick [] _ (by decide) rfl),rfl,rfl⟩
 intro ae iF
 refine zk Z Z Z (wF Z ae) Z Z (rU Z (wF Z ae) (Runs.negw Z Z) (rU Z (wF Z ae) (zG Z bJ zK Z Zl) (ZJ Z Z Z (wF Z ae) (aj.ldB (j:=1) Z Z Z yE (v:=.slice aE p0.Clocks.length aG) Z) Z (rU Z (wF Z ae) (zG Z Z zx Z zC) (ZJ Z Z Z (wF Z ae) (aj.ldB (j:=0) Z Z Z zJ (v:=jV ak.Clock) Z) Z ?_)))))
 have q:=cN.el (fun _=>rfl) (wAX aU)
 obtain ⟨jK,k6,fU,gq⟩:=q
 refine rU Z (wF Z ae) (ZY Z Z fU Z ZV Zq (wCG aU) (wCI aU)) (rU Z (wF Z ae) (zG Z Z Zr Z zC) (ZJ Z Z Z (wF Z ae) (aj.ldC (f:=2) gq (v:=jV dt.Error) Z Z zJ Z) Z (rU Z (wF Z ae) (yb Z Z Z) (oR Z (zZ Z (zw ae.out) Z) (eN (ifc iF ?_ ?_))))))
 intro bF iG
 refine cT Z bF (zL (ye fun ly iR=>?_))
 clear iR
 refine rR fL1 Z (oA Z Z (eN (zS (ze (zR ?_)))))
 have q:=wAZ iG
 obtain ⟨i9,iH,dP⟩:=q
 have q:=wBI ba br (dd i9 dP)
 obtain rfl:=q
 refine zR (ze (zR ?_))
 have hE:=hU iH;first | subst r | cases hE
 exact ⟨rfl,_,(ZM rfl),bh,_,(aj.pick [] _ (by decide) rfl),rfl,rfl⟩
 intro bF iI
 refine cF Z bF (Zh (zo (zH (ye fun a5 aM=>?_))))
 have eB:a5 1=.slice aq p1.length au:=(aM 1).trans cC
 have eD:a5 2=.slice aF p2.length aH:=(aM 2).trans cD
 have eE:a5 3=.pointer (some ⟨b2,0,none⟩):=(aM 3).trans bJ
 have eF:a5 133=.slice aX p0.Readings.length aY:=(aM 133).trans cE
 have eG:a5 134=jV (↑p0.Readings.length:Int):=(aM 134).trans cG
 have eH:a5 135=jV (↑aV:Int):=(aM 135).trans bK
 clear aM
 refine rR fL2 Z (oR Z (ZG (za Z eH Z) (congrArg (jV) gT.out)) (oM Z Z (zb ?_)))
 have q:=hU iI
 obtain rfl:=q
 exact zH ⟨rfl,_,rfl,⟨bh,rfl,eB,eD,eE,eF,eG,bd,(aj.pick [1] _ (by decide) rfl)⟩⟩
 rintro ⟨⟩ lz ju ⟨jf,eY,jS,jT,jU,jW,eI,jX,gF⟩ gM
 have df:=wCO ba br gM
 try dsimp only at df
 have dD:Hid (¬ ((↑(((↑p0.Readings.length:Int):Int) - 0).toNat:Int) < (↑p0.Readings.length:Int))):=zM (wAc)
 refine sR fL1 Z (oR Z (zc Z eY eI) (eN (zL (cF Z dD (Za (zi (zi (ZQ (zH (sR fL1 Z (oA Z Z (eN (zS ?_)))))))))))))
 have hE:=hU df;first | subst r | cases hE
 exact ⟨rfl,_,(ZM rfl),jf,_,(gF.pick [] _ (by decide) rfl),rfl,rfl⟩
 intro c7 iJ
 refine cT Z c7 (sR fL1 Z (oA Z Z (eN (zS (zR ?_)))))
 have hE:=hU iJ;first | subst r | cases hE
 exact ⟨rfl,_,(ZM rfl),φ,_,(a6.pick [] _ (by decide) rfl),rfl,rfl⟩
 have dg:=hm;rw [if_neg c5] at dg;replace c5:=zM c5
 refine oT Z c5 (oT Z c5 (oT Z c5 (oT Z c5 (oT Z c5 (oT Z c5 (oR Z (zP Z (Zj c5.out) Z) (eN (ZL Z (sR fL1 Z (oA Z Z (eN (zS (zR ?_)))))))))))))
 have hE:=hU dg;first | subst r | cases hE
 exact ⟨rfl,_,(ZM rfl),φ,_,(a6.pick [] _ (by decide) rfl),rfl,rfl⟩
theorem wFa (p0:wAC) (ai:Option Addr) (an:Nat) (aj:Option Addr) (ao:Nat) (ak:Option Addr) (ap:Nat) (am:Option Addr) (aq:Nat) (p1:wAF) (w:World) (φ:PHeap) (hS:St0 w φ []) (aQ:Sl φ 1 ai an p0.Starts.length (hD KL.encI p0.Starts)) (aR:Sl φ 2 aj ao p0.Splits.length (hD wAE p0.Splits)) (aS:Sl φ 3 ak ap p0.Clocks.length (hD wAB p0.Clocks)) (aT:Sl φ 4 am aq p0.Readings.length (hD wAA p0.Readings)) {r:Bool} (hm:wAv p0 p1=some r):Gv Try.prog 101 [.agg #[.slice ai p0.Starts.length an,.slice aj p0.Splits.length ao,.slice ak p0.Clocks.length ap,.slice am p0.Readings.length aq],.agg #[jV p1.Kind,jV p1.Skier,jV p1.Index,.bool p1.Up]] w (wCF w [] φ (fun φ_ L_ v=>v=.bool r/\L_=[])):=by
 unfold wAv at hm
 refine Gv.of Try.func101 Z Try.ntmps101 Try.results101 Z ?_
 by_cases c1:p1.Kind=0
 have bR:=hm;rw [if_pos c1] at bR
 refine sR gEe Z ?_
 let B0:List Value:=[.slice ai p0.Starts.length an,.slice aj p0.Splits.length ao,.slice ak p0.Clocks.length ap,.slice am p0.Readings.length aq]
 refine zu (cs:=B0) rfl rfl rfl rfl rfl rfl (by rfl) hS ?_
 intro W6 b7 dW
 let B1:List Value:=[jV p1.Kind,jV p1.Skier,jV p1.Index,.bool p1.Up]
 refine zu (cs:=B1) rfl rfl rfl rfl rfl rfl (by rfl) dW ?_
 intro bs a8 dx
 refine yK rfl rfl rfl rfl rfl rfl (eN (zL (ZE ZF [3,1,2,3,2,3,1,3,3,1,1,2,3,3] gEy (by kernel_rfl) ?_)))
 have bh:=dx.drew
 generalize hw_W15:({ bs with drawn:=bs.drawn + 1 }:World)=cg at bh ⊢
 refine oR Z (zG Z Z zj Z yL) (oL Z (bh.ldB (j:=0) Z Z Z yR (v:=jV p1.Kind) Z) (bnK bR fun fM cG eh=>zF 0 Z Z Z Z (zD Z Z yP (zB Z (zB Z (zB Z zN))) Z) bh (fun hs=>wBj p1.Kind 0 3 cg φ hs cG) (.inr Z) ?_))
 rintro bp eL fC bB aY dO ⟨rfl,rfl⟩
 have aL:sW w φ bp [.blk a8 78 B1,.blk b7 28 B0] bB:=dO
 refine oM Z Z (ifc eh ?_ ?_)
 intro af eu
 refine zg Z Z Z (zQ Z Z (congrArg hH af.out)) (fun _=>zG Z Z zj Z yL) (ZJ Z Z Z (zQ Z Z (congrArg hH af.out)) (aL.ldB (j:=0) Z Z Z yR (v:=jV p1.Kind) Z) Z (ZJ Z Z Z (zQ Z Z (congrArg hH af.out)) (aL.ldBA (j:=1) Z Z Z zf zX (vs:=B0) Z Z) Z (ZJ Z Z Z (zQ Z Z (congrArg hH af.out)) (aL.ldBA (j:=0) Z Z Z Zp ZN (vs:=B1) Z Z) Z ?_)))
 have q:=bnd eu
 obtain ⟨⟨⟩,cV,bQ⟩:=q
 try dsimp only at bQ
 refine zF 0 Z Z Z (zQ Z Z (congrArg hH af.out)) (zD Z Z yS zN Z) aL (fun hs=>wAz bB bp hs cV) (.inr Z) ?_
 rintro bZ eU fG bD aZ dP ⟨rfl,rfl⟩
 have dQ:sW w φ bZ [.blk a8 78 B1,.blk b7 28 B0] bD:=dP
 refine zg rfl rfl rfl (zQ rfl rfl (congrArg hH af.out)) (fun _=>(yh (i:=0) rfl rfl (congrArg (jV) c1) Zo ZW (by decide) (by decide) (wCr yW ZW rfl))) (zg rfl rfl rfl (zQ rfl rfl (congrArg hH af.out)) (fun _=>Runs.fld rfl rfl Zt rfl (wEo Try.isAgg165 (v:=.func (.func 108) #[] #[]) rfl)) ?_)
 have cW:=aQ.le aY
 have cX:=cW.le aZ
 have cY:=aR.le aY
 have cZ:=cY.le aZ
 have c6:=aS.le aY
 have da:=c6.le aZ
 have db:=aT.le aY
 have dd:=db.le aZ
 refine bnK bQ fun fQ de ew=>zF 0 Z Z Z (zQ Z Z (congrArg hH af.out)) (zD Z Z Try.call108 (zB Z (zB Z zN)) Z) dQ (fun hs=>wGp p0 ai an aj ao ak ap am aq p1 bD bZ hs cX cZ da dd de) (.inr Z) ?_
 rintro ca eV fH cq fq dR ⟨rfl,rfl⟩
 have dS:sW w φ ca [.blk a8 78 B1,.blk b7 28 B0] cq:=dR
 refine oR Z (zP Z (congrArg hH af.out) Z) (oA Z Z (eN (zS ?_)))
 have hE:=hU ew;first | subst r | cases hE
 exact ⟨rfl,_,(ZM rfl),ca,_,(dS.pick [] _ (by decide) rfl),rfl,rfl⟩
 intro af ey
 refine ZD Z Z Z (zT Z Z (congrArg hH (hJ.2 af.out)) Z) (ZD Z Z Z (zT Z Z (congrArg hH (hJ.2 af.out)) Z) (ZD Z Z Z (zT Z Z (congrArg hH (hJ.2 af.out)) Z) (ZD Z Z Z (zT Z Z (congrArg hH (hJ.2 af.out)) Z) (ZB Z Z Z (zT Z Z (congrArg hH (hJ.2 af.out)) Z) (ZD Z Z Z (zT Z Z (congrArg hH (hJ.2 af.out)) Z) (ZD Z Z Z (zT Z Z (congrArg hH (hJ.2 af.out)) Z) (ZB Z Z Z (zT Z Z (congrArg hH (hJ.2 af.out)) Z) (oR Z (zZ Z (congrArg hH (hJ.2 af.out)) Z) (oA Z Z (eN (zS ?_)))))))))))
 have hE:=hU ey;first | subst r | cases hE
 exact ⟨rfl,_,(ZM rfl),bp,_,(aL.pick [] _ (by decide) rfl),rfl,rfl⟩
 by_cases c2:p1.Kind=1
 have bS:=hm;rw [if_neg c1,if_pos c2] at bS
 refine sR gEe Z ?_
 let B2:List Value:=[.slice ai p0.Starts.length an,.slice aj p0.Splits.length ao,.slice ak p0.Clocks.length ap,.slice am p0.Readings.length aq]
 refine zu (cs:=B2) rfl rfl rfl rfl rfl rfl (by rfl) hS ?_
 intro fc bc dT
 let B3:List Value:=[jV p1.Kind,jV p1.Skier,jV p1.Index,.bool p1.Up]
 refine zu (cs:=B3) rfl rfl rfl rfl rfl rfl (by rfl) dT ?_
 intro bE bd dU
 refine yK rfl rfl rfl rfl rfl rfl (eN (zL (ZE ZF [3,1,2,3,2,3,1,3,3,1,1,2,3,3] gEy (by kernel_rfl) ?_)))
 have bm:=dU.drew
 generalize hw_W66:({ bE with drawn:=bE.drawn + 1 }:World)=cr at bm ⊢
 refine oR Z (zG Z Z zj Z yL) (oL Z (bm.ldB (j:=0) Z Z Z yR (v:=jV p1.Kind) Z) (bnK bS fun fR df eA=>zF 0 Z Z Z Z (zD Z Z yP (zB Z (zB Z (zB Z zN))) Z) bm (fun hs=>wBj p1.Kind 0 3 cr φ hs df) (.inr Z) ?_))
 rintro br eW fI bF a5 dV ⟨rfl,rfl⟩
 have aM:sW w φ br [.blk bd 78 B3,.blk bc 28 B2] bF:=dV
 refine oM Z Z (ifc eA ?_ ?_)
 intro ag eB
 refine zg Z Z Z (zQ Z Z (congrArg hH ag.out)) (fun _=>zG Z Z zj Z yL) (ZJ Z Z Z (zQ Z Z (congrArg hH ag.out)) (aM.ldB (j:=0) Z Z Z yR (v:=jV p1.Kind) Z) Z (ZJ Z Z Z (zQ Z Z (congrArg hH ag.out)) (aM.ldBA (j:=1) Z Z Z zf zX (vs:=B2) Z Z) Z (ZJ Z Z Z (zQ Z Z (congrArg hH ag.out)) (aM.ldBA (j:=0) Z Z Z Zp ZN (vs:=B3) Z Z) Z ?_)))
 have q:=bnd eB
 obtain ⟨⟨⟩,dg,bU⟩:=q
 try dsimp only at bU
 refine zF 0 Z Z Z (zQ Z Z (congrArg hH ag.out)) (zD Z Z yS zN Z) aM (fun hs=>wAz bF br hs dg) (.inr Z) ?_
 rintro cb eX fJ bG a6 dX ⟨rfl,rfl⟩
 have dY:sW w φ cb [.blk bd 78 B3,.blk bc 28 B2] bG:=dX
 refine zg rfl rfl rfl (zQ rfl rfl (congrArg hH ag.out)) (fun _=>(yh (i:=1) rfl rfl (congrArg (jV) c2) Zo ZW (by decide) (by decide) (wCr yW ZW rfl))) (zg rfl rfl rfl (zQ rfl rfl (congrArg hH ag.out)) (fun _=>Runs.fld rfl rfl Zt rfl (wEo Try.isAgg165 (v:=.func (.func 111) #[] #[]) rfl)) ?_)
 have dh:=aQ.le a5
 have di:=dh.le a6
 have dk:=aR.le a5
 have dl:=dk.le a6
 have dm:=aS.le a5
 have dn:=dm.le a6
 have dp:=aT.le a5
 have dq:=dp.le a6
 refine bnK bU fun fS dr eD=>zF 0 Z Z Z (zQ Z Z (congrArg hH ag.out)) (zD Z Z Try.call111 (zB Z (zB Z zN)) Z) dY (fun hs=>wGs p0 ai an aj ao ak ap am aq p1 bG cb hs di dl dn dq dr) (.inr Z) ?_
 rintro cc eF ft cd fg dt ⟨rfl,rfl⟩
 have du:sW w φ cc [.blk bd 78 B3,.blk bc 28 B2] cd:=dt
 refine oR Z (zP Z (congrArg hH ag.out) Z) (oA Z Z (eN (zS ?_)))
 have hE:=hU eD;first | subst r | cases hE
 exact ⟨rfl,_,(ZM rfl),cc,_,(du.pick [] _ (by decide) rfl),rfl,rfl⟩
 intro ag dZ
 refine ZD Z Z Z (zT Z Z (congrArg hH (hJ.2 ag.out)) Z) (ZD Z Z Z (zT Z Z (congrArg hH (hJ.2 ag.out)) Z) (ZD Z Z Z (zT Z Z (congrArg hH (hJ.2 ag.out)) Z) (ZD Z Z Z (zT Z Z (congrArg hH (hJ.2 ag.out)) Z) (ZB Z Z Z (zT Z Z (congrArg hH (hJ.2 ag.out)) Z) (ZD Z Z Z (zT Z Z (congrArg hH (hJ.2 ag.out)) Z) (ZD Z Z Z (zT Z Z (congrArg hH (hJ.2 ag.out)) Z) (ZB Z Z Z (zT Z Z (congrArg hH (hJ.2 ag.out)) Z) (oR Z (zZ Z (congrArg hH (hJ.2 ag.out)) Z) (oA Z Z (eN (zS ?_)))))))))))
 have hE:=hU dZ;first | subst r | cases hE
 exact ⟨rfl,_,(ZM rfl),br,_,(aM.pick [] _ (by decide) rfl),rfl,rfl⟩
 by_cases c3:p1.Kind=2
 have bJ:=hm;rw [if_neg c1,if_neg c2,if_pos c3] at bJ
 refine sR gEe Z ?_
 let B4:List Value:=[.slice ai p0.Starts.length an,.slice aj p0.Splits.length ao,.slice ak p0.Clocks.length ap,.slice am p0.Readings.length aq]
 refine zu (cs:=B4) rfl rfl rfl rfl rfl rfl (by rfl) hS ?_
 intro eY a7 dv
 let B5:List Value:=[jV p1.Kind,jV p1.Skier,jV p1.Index,.bool p1.Up]
 refine zu (cs:=B5) rfl rfl rfl rfl rfl rfl (by rfl) dv ?_
 intro bt a9 dw
 refine yK rfl rfl rfl rfl rfl rfl (eN (zL (ZE ZF [3,1,2,3,2,3,1,3,3,1,1,2,3,3] gEy (by kernel_rfl) ?_)))
 have bg:=dw.drew
 generalize hw_W117:({ bt with drawn:=bt.drawn + 1 }:World)=cf at bg ⊢
 refine oR Z (zG Z Z zj Z yL) (oL Z (bg.ldB (j:=0) Z Z Z yR (v:=jV p1.Kind) Z) (bnK bJ fun fK ct d5=>zF 0 Z Z Z Z (zD Z Z yP (zB Z (zB Z (zB Z zN))) Z) bg (fun hs=>wBj p1.Kind 0 3 cf φ hs ct) (.inr Z) ?_))
 rintro bn eG fu bu aU dy ⟨rfl,rfl⟩
 have aI:sW w φ bn [.blk a9 78 B5,.blk a7 28 B4] bu:=dy
 refine oM Z Z (ifc d5 ?_ ?_)
 intro ac d7
 refine zg Z Z Z (zQ Z Z (congrArg hH ac.out)) (fun _=>zG Z Z zj Z yL) (ZJ Z Z Z (zQ Z Z (congrArg hH ac.out)) (aI.ldB (j:=0) Z Z Z yR (v:=jV p1.Kind) Z) Z (ZJ Z Z Z (zQ Z Z (congrArg hH ac.out)) (aI.ldBA (j:=1) Z Z Z zf zX (vs:=B4) Z Z) Z (ZJ Z Z Z (zQ Z Z (congrArg hH ac.out)) (aI.ldBA (j:=0) Z Z Z Zp ZN (vs:=B5) Z Z) Z ?_)))
 have q:=bnd d7
 obtain ⟨⟨⟩,cu,bK⟩:=q
 try dsimp only at bK
 refine zF 0 Z Z Z (zQ Z Z (congrArg hH ac.out)) (zD Z Z yS zN Z) aI (fun hs=>wAz bu bn hs cu) (.inr Z) ?_
 rintro bV eH fw bv aV dz ⟨rfl,rfl⟩
 have dA:sW w φ bV [.blk a9 78 B5,.blk a7 28 B4] bv:=dz
 refine zg rfl rfl rfl (zQ rfl rfl (congrArg hH ac.out)) (fun _=>(yh (i:=2) rfl rfl (congrArg (jV) c3) Zo ZW (by decide) (by decide) (wCr yW ZW rfl))) (zg rfl rfl rfl (zQ rfl rfl (congrArg hH ac.out)) (fun _=>Runs.fld rfl rfl Zt rfl (wEo Try.isAgg165 (v:=.func (.func 114) #[] #[]) rfl)) ?_)
 have cw:=aQ.le aU
 have cx:=cw.le aV
 have cy:=aR.le aU
 have cz:=cy.le aV
 have cA:=aS.le aU
 have cB:=cA.le aV
 have cC:=aT.le aU
 have cD:=cC.le aV
 refine bnK bK fun fL cE d9=>zF 0 Z Z Z (zQ Z Z (congrArg hH ac.out)) (zD Z Z Try.call114 (zB Z (zB Z zN)) Z) dA (fun hs=>wGv p0 ai an aj ao ak ap am aq p1 bv bV hs cx cz cB cD cE) (.inr Z) ?_
 rintro bW eI fy ci fh dB ⟨rfl,rfl⟩
 have dC:sW w φ bW [.blk a9 78 B5,.blk a7 28 B4] ci:=dB
 refine oR Z (zP Z (congrArg hH ac.out) Z) (oA Z Z (eN (zS ?_)))
 have hE:=hU d9;first | subst r | cases hE
 exact ⟨rfl,_,(ZM rfl),bW,_,(dC.pick [] _ (by decide) rfl),rfl,rfl⟩
 intro ac ef
 refine ZD Z Z Z (zT Z Z (congrArg hH (hJ.2 ac.out)) Z) (ZD Z Z Z (zT Z Z (congrArg hH (hJ.2 ac.out)) Z) (ZD Z Z Z (zT Z Z (congrArg hH (hJ.2 ac.out)) Z) (ZD Z Z Z (zT Z Z (congrArg hH (hJ.2 ac.out)) Z) (ZB Z Z Z (zT Z Z (congrArg hH (hJ.2 ac.out)) Z) (ZD Z Z Z (zT Z Z (congrArg hH (hJ.2 ac.out)) Z) (ZD Z Z Z (zT Z Z (congrArg hH (hJ.2 ac.out)) Z) (ZB Z Z Z (zT Z Z (congrArg hH (hJ.2 ac.out)) Z) (oR Z (zZ Z (congrArg hH (hJ.2 ac.out)) Z) (oA Z Z (eN (zS ?_)))))))))))
 have hE:=hU ef;first | subst r | cases hE
 exact ⟨rfl,_,(ZM rfl),bn,_,(aI.pick [] _ (by decide) rfl),rfl,rfl⟩
 by_cases c4:p1.Kind=3
 have bL:=hm;rw [if_neg c1,if_neg c2,if_neg c3,if_pos c4] at bL
 refine sR gEe Z ?_
 let B6:List Value:=[.slice ai p0.Starts.length an,.slice aj p0.Splits.length ao,.slice ak p0.Clocks.length ap,.slice am p0.Readings.length aq]
 refine zu (cs:=B6) rfl rfl rfl rfl rfl rfl (by rfl) hS ?_
 intro eZ ba dD
 let B7:List Value:=[jV p1.Kind,jV p1.Skier,jV p1.Index,.bool p1.Up]
 refine zu (cs:=B7) rfl rfl rfl rfl rfl rfl (by rfl) dD ?_
 intro bw bb dE
 refine yK rfl rfl rfl rfl rfl rfl (eN (zL (ZE ZF [3,1,2,3,2,3,1,3,3,1,1,2,3,3] gEy (by kernel_rfl) ?_)))
 have bi:=dE.drew
 generalize hw_W168:({ bw with drawn:=bw.drawn + 1 }:World)=cm at bi ⊢
 refine oR Z (zG Z Z zj Z yL) (oL Z (bi.ldB (j:=0) Z Z Z yR (v:=jV p1.Kind) Z) (bnK bL fun fN cH eg=>zF 0 Z Z Z Z (zD Z Z yP (zB Z (zB Z (zB Z zN))) Z) bi (fun hs=>wBj p1.Kind 0 3 cm φ hs cH) (.inr Z) ?_))
 rintro bo eJ fz bx aW dF ⟨rfl,rfl⟩
 have aJ:sW w φ bo [.blk bb 78 B7,.blk ba 28 B6] bx:=dF
 refine oM Z Z (ifc eg ?_ ?_)
 intro ae ej
 refine zg Z Z Z (zQ Z Z (congrArg hH ae.out)) (fun _=>zG Z Z zj Z yL) (ZJ Z Z Z (zQ Z Z (congrArg hH ae.out)) (aJ.ldB (j:=0) Z Z Z yR (v:=jV p1.Kind) Z) Z (ZJ Z Z Z (zQ Z Z (congrArg hH ae.out)) (aJ.ldBA (j:=1) Z Z Z zf zX (vs:=B6) Z Z) Z (ZJ Z Z Z (zQ Z Z (congrArg hH ae.out)) (aJ.ldBA (j:=0) Z Z Z Zp ZN (vs:=B7) Z Z) Z ?_)))
 have q:=bnd ej
 obtain ⟨⟨⟩,cI,bM⟩:=q
 try dsimp only at bM
 refine zF 0 Z Z Z (zQ Z Z (congrArg hH ae.out)) (zD Z Z yS zN Z) aJ (fun hs=>wAz bx bo hs cI) (.inr Z) ?_
 rintro bX eK fA bz aX dG ⟨rfl,rfl⟩
 have dH:sW w φ bX [.blk bb 78 B7,.blk ba 28 B6] bz:=dG
 refine zg rfl rfl rfl (zQ rfl rfl (congrArg hH ae.out)) (fun _=>(yh (i:=3) rfl rfl (congrArg (jV) c4) Zo ZW (by decide) (by decide) (wCr yW ZW rfl))) (zg rfl rfl rfl (zQ rfl rfl (congrArg hH ae.out)) (fun _=>Runs.fld rfl rfl Zt rfl (wEo Try.isAgg165 (v:=.func (.func 117) #[] #[]) rfl)) ?_)
 have cJ:=aQ.le aW
 have cK:=cJ.le aX
 have cL:=aR.le aW
 have cM:=cL.le aX
 have cN:=aS.le aW
 have cO:=cN.le aX
 have cP:=aT.le aW
 have cQ:=cP.le aX
 refine bnK bM fun fO cR ek=>zF 0 Z Z Z (zQ Z Z (congrArg hH ae.out)) (zD Z Z Try.call117 (zB Z (zB Z zN)) Z) dH (fun hs=>wGY p0 ai an aj ao ak ap am aq p1 bz bX hs cK cM cO cQ cR) (.inr Z) ?_
 rintro bY eM fB cn fj dI ⟨rfl,rfl⟩
 have dJ:sW w φ bY [.blk bb 78 B7,.blk ba 28 B6] cn:=dI
 refine oR Z (zP Z (congrArg hH ae.out) Z) (oA Z Z (eN (zS ?_)))
 have hE:=hU ek;first | subst r | cases hE
 exact ⟨rfl,_,(ZM rfl),bY,_,(dJ.pick [] _ (by decide) rfl),rfl,rfl⟩
 intro ae en
 refine ZD Z Z Z (zT Z Z (congrArg hH (hJ.2 ae.out)) Z) (ZD Z Z Z (zT Z Z (congrArg hH (hJ.2 ae.out)) Z) (ZD Z Z Z (zT Z Z (congrArg hH (hJ.2 ae.out)) Z) (ZD Z Z Z (zT Z Z (congrArg hH (hJ.2 ae.out)) Z) (ZB Z Z Z (zT Z Z (congrArg hH (hJ.2 ae.out)) Z) (ZD Z Z Z (zT Z Z (congrArg hH (hJ.2 ae.out)) Z) (ZD Z Z Z (zT Z Z (congrArg hH (hJ.2 ae.out)) Z) (ZB Z Z Z (zT Z Z (congrArg hH (hJ.2 ae.out)) Z) (oR Z (zZ Z (congrArg hH (hJ.2 ae.out)) Z) (oA Z Z (eN (zS ?_)))))))))))
 have hE:=hU en;first | subst r | cases hE
 exact ⟨rfl,_,(ZM rfl),bo,_,(aJ.pick [] _ (by decide) rfl),rfl,rfl⟩
 have bN:=hm;rw [if_neg c1,if_neg c2,if_neg c3,if_neg c4] at bN
 refine sR gEe Z ?_
 let B8:List Value:=[.slice ai p0.Starts.length an,.slice aj p0.Splits.length ao,.slice ak p0.Clocks.length ap,.slice am p0.Readings.length aq]
 refine zu (cs:=B8) rfl rfl rfl rfl rfl rfl (by rfl) hS ?_
 intro fb bH dK
 let B9:List Value:=[jV p1.Kind,jV p1.Skier,jV p1.Index,.bool p1.Up]
 refine zu (cs:=B9) rfl rfl rfl rfl rfl rfl (by rfl) dK ?_
 intro bA bI dL
 refine yK rfl rfl rfl rfl rfl rfl (eN (zL (ZE ZF [3,1,2,3,2,3,1,3,3,1,1,2,3,3] gEy (by kernel_rfl) ?_)))
 have bj:=dL.drew
 generalize hw_W219:({ bA with drawn:=bA.drawn + 1 }:World)=co at bj ⊢
 refine oR Z (zG Z Z zj Z yL) (oL Z (bj.ldB (j:=0) Z Z Z yR (v:=jV p1.Kind) Z) (bnK bN fun fP cS eo=>zF 0 Z Z Z Z (zD Z Z yP (zB Z (zB Z (zB Z zN))) Z) bj (fun hs=>wBj p1.Kind 0 3 co φ hs cS) (.inr Z) ?_))
 rintro bq eO fD bC fk dM ⟨rfl,rfl⟩
 have aK:sW w φ bq [.blk bI 78 B9,.blk bH 28 B8] bC:=dM
 refine oM Z Z (ifc eo ?_ ?_)
 intro ah ep
 refine zg Z Z Z (zQ Z Z (congrArg hH ah.out)) (fun _=>zG Z Z zj Z yL) (ZJ Z Z Z (zQ Z Z (congrArg hH ah.out)) (aK.ldB (j:=0) Z Z Z yR (v:=jV p1.Kind) Z) Z (ZJ Z Z Z (zQ Z Z (congrArg hH ah.out)) (aK.ldBA (j:=1) Z Z Z zf zX (vs:=B8) Z Z) Z (ZJ Z Z Z (zQ Z Z (congrArg hH ah.out)) (aK.ldBA (j:=0) Z Z Z Zp ZN (vs:=B9) Z Z) Z ?_)))
 have q:=bnd ep
 obtain ⟨⟨⟩,cU,bP⟩:=q
 try dsimp only at bP
 refine zF 0 Z Z Z (zQ Z Z (congrArg hH ah.out)) (zD Z Z yS zN Z) aK (fun hs=>wAz bC bq hs cU) (.inr Z) ?_
 rintro eE eQ fE cp fm dN ⟨rfl,rfl⟩
 have ff:sW w φ eE [.blk bI 78 B9,.blk bH 28 B8] cp:=dN
 cases bP
 intro ah er
 refine ZD Z Z Z (zT Z Z (congrArg hH (hJ.2 ah.out)) Z) (ZD Z Z Z (zT Z Z (congrArg hH (hJ.2 ah.out)) Z) (ZD Z Z Z (zT Z Z (congrArg hH (hJ.2 ah.out)) Z) (ZD Z Z Z (zT Z Z (congrArg hH (hJ.2 ah.out)) Z) (ZB Z Z Z (zT Z Z (congrArg hH (hJ.2 ah.out)) Z) (ZD Z Z Z (zT Z Z (congrArg hH (hJ.2 ah.out)) Z) (ZD Z Z Z (zT Z Z (congrArg hH (hJ.2 ah.out)) Z) (ZB Z Z Z (zT Z Z (congrArg hH (hJ.2 ah.out)) Z) (oR Z (zZ Z (congrArg hH (hJ.2 ah.out)) Z) (oA Z Z (eN (zS ?_)))))))))))
 have hE:=hU er;first | subst r | cases hE
 exact ⟨rfl,_,(ZM rfl),bq,_,(aK.pick [] _ (by decide) rfl),rfl,rfl⟩
end Go.Proofs.Ytlnfbjphfoipaaa
namespace Go.Proofs.Ytlnfbjphfoipaaa
open Go.KL
set_option maxHeartbeats 4000000
theorem wEd (p0:List wAF) (am:Option Addr) (an:Nat) (p1:(wAF->Option Bool)) (ao:Value) (w:World) (φ:PHeap) (hS:St0 w φ []) (aY:Sl φ 4 am an p0.length (hD wAP p0)) (aZ:FnOK Try.prog φ ao wKg wMf p1) {r:Bool} (hm:wBT p0 p1=some r):Gv Try.prog 102 [.slice am p0.length an,ao] w (wCF w [] φ (fun φ_ L_ v=>v=.bool r/\L_=[])):=by
 unfold wBT at hm
 refine Gv.of Try.func102 Z Try.ntmps102 Try.results102 Z (sR fL1 Z (oA Z Z (eN (zL (sR fL3 Z (oM Z Z (oR Z (zq Z Z Zg) (oM Z Z (eN (zY ?_))))))))))
 have q:=wBa hm
 obtain ⟨r3,ah⟩:=q
 have q:=wBZ ah
 obtain ⟨aj,a7⟩:=q
 replace aj:=zM aj
 refine yH (fun k2 _ σ_ w_=>∃ (φ_:PHeap),σ_ 9=jV (↑k2:Int)/\σ_ 1=ao/\σ_ 7=.slice am p0.length an/\σ_ 8=jV (↑p0.length:Int)/\PHeap.Le φ φ_/\sW w φ φ_ [] w_) a7 ?_ ?_ ?_
 exact ⟨φ,Z,Z,Z,Z,(zO _),hS⟩
 rintro k2 ⟨⟩ bw bz W8 ai ⟨bg,ag,av,ax,ay,ak,aD⟩ aH a5
 try dsimp only at aH
 have au:Hid ((↑k2:Int) < (↑p0.length:Int)):=zM (wAs ai)
 replace ai:=zM ai
 have a8:Hid (w64 ((↑k2:Int) + 1)=(↑(k2 + 1):Int)):=zM (by have h1:=aj.out;have h2:=au.out;rw [wAT] <;> omega)
 refine sR fL1 Z (oR Z (zc Z ag ay) (eN (zL (cT Z au (kN (zL (zY (sR gEl Z (bnK aH fun ab az a9=>?_)))))))))
 have aP:=aY.le ak
 have q:=aP.el (fun _=>rfl) (wAX az)
 obtain ⟨bo,bs,aS,aT⟩:=q
 refine oR Z (Zc Z ax aS ag Zg ZN (wBQ az)) (oL Z (aD.ldCA (f:=0) aT Z Z Zp ZN (us:=[jV ab.Kind,jV ab.Skier,jV ab.Index,.bool ab.Up]) Z Z) (zV (cs:=[jV 0,jV 0,jV 0,.bool false]) Z Z Z Z Z Zn Z aD ?_))
 intro bj aq aU
 let B0:List Value:=[jV ab.Kind,jV ab.Skier,jV ab.Index,.bool ab.Up]
 refine zW (j:=0) (vs:=B0) Z Z Z Z aU Z Z Z Z ZN (zA Z) Z Z Z ?_
 intro aJ aV
 have aE:sW w φ bg [.blk aq 78 B0] aJ:=aV
 refine eN (sR gEn Z (oM Z av (oL Z (aE.ldBA (j:=0) Z Z Z Zp ZN (vs:=B0) Z Z) (bnK a9 fun bv aQ ba=>?_))))
 have aR:=aZ.le ak
 refine OKS.callV (a:=ab) Z Z Z Z Z Z (zB Z zN) aE aR Z aQ ?_
 rintro ap bi bu aK be aW ⟨rfl,rfl⟩
 have aF:sW w φ ap [.blk aq 78 B0] aK:=aW
 refine oR Z (Ze Z Z) (eN (ifc ba ?_ ?_))
 intro af bb
 refine zt (nC af.out) (Zh (zo (zH (rR fL2 Z (oR Z (ZG (za Z ag Z) (congrArg (jV) a8.out)) (oM Z Z (zb ?_)))))))
 have q:=hU bb
 obtain rfl:=q
 exact zH ⟨rfl,_,rfl,⟨ap,rfl,av,ax,ay,(ak.trans be),(aF.pick [] _ (by decide) rfl)⟩⟩
 intro af bc
 refine ZL (nF (af.out)) (sR fL1 Z (oA Z Z (eN (zS (ze (zR ?_))))))
 have q:=wAZ bc
 obtain ⟨bf,bd,aM⟩:=q
 have q:=wBI hm ah (a5 bf aM)
 obtain rfl:=q
 refine zR (ze (zR ?_))
 have hE:=hU bd;first | subst r | cases hE
 exact ⟨rfl,_,(ZM rfl),ap,_,(aF.pick [] _ (by decide) rfl),rfl,rfl⟩
 rintro ⟨⟩ bx bm ⟨bh,aO,bp,bq,aN,br,aX⟩ a6
 have aG:=wCO hm ah a6
 try dsimp only at aG
 have aL:Hid (¬ ((↑(((↑p0.length:Int):Int) - 0).toNat:Int) < (↑p0.length:Int))):=zM (wAc)
 refine sR fL1 Z (oR Z (zc Z aO aN) (eN (zL (cF Z aL (Za (zi (zi (ZQ (zH (sR fL1 Z (oA Z Z (eN (zS ?_)))))))))))))
 have hE:=hU aG;first | subst r | cases hE
 exact ⟨Z,_,(ZM Z),bh,_,aX,Z,Z⟩
theorem wEA (p0:wAC) (af:Option Addr) (aj:Nat) (ag:Option Addr) (ak:Nat) (ah:Option Addr) (am:Nat) (ai:Option Addr) (an:Nat) (p1:List wAF) (aq:Option Addr) (au:Nat) (w:World) (φ:PHeap) (hS:St0 w φ []) (aJ:Sl φ 1 af aj p0.Starts.length (hD KL.encI p0.Starts)) (aK:Sl φ 2 ag ak p0.Splits.length (hD wAE p0.Splits)) (aL:Sl φ 3 ah am p0.Clocks.length (hD wAB p0.Clocks)) (aM:Sl φ 4 ai an p0.Readings.length (hD wAA p0.Readings)) (aN:Sl φ 4 aq au p1.length (hD wAP p1)) {r:Int} (hm:wBd p0 p1=some r):Gv Try.prog 69 [.agg #[.slice af p0.Starts.length aj,.slice ag p0.Splits.length ak,.slice ah p0.Clocks.length am,.slice ai p0.Readings.length an],.slice aq p1.length au] w (wCF w [] φ (fun φ_ L_ v=>v=jV r/\L_=[])):=by
 unfold wBd at hm
 refine Gv.of Try.func69 Z Try.ntmps69 Try.results69 Z (sR gDs Z ?_)
 let B0:List Value:=[.slice af p0.Starts.length aj,.slice ag p0.Splits.length ak,.slice ah p0.Clocks.length am,.slice ai p0.Readings.length an]
 refine zu (cs:=B0) rfl rfl rfl rfl rfl rfl (by rfl) hS ?_
 intro W1 b2 ap
 refine oA Z Z (eN (sR fL3 Z (oL Z (ap.ldBA (j:=0) Z Z Z zf zX (vs:=B0) Z Z) (oR Z (yl Z (zB Z zN) zN) (oA Z Z (eN (zL (zY (sR fL4 Z (oM Z Z (oR Z (zq Z Z Zg) (oR Z (yb Z Z Z) (oA Z Z (eN ?_))))))))))))))
 by_cases c5:80 < (↑p1.length:Int)
 have ay:=hm;rw [if_pos c5] at ay;replace c5:=zM c5
 refine cT Z c5 (sR fL1 Z (oA Z Z (eN (zS (ze (zR ?_))))))
 cases ay
 exact ⟨rfl,_,(ZM rfl),φ,_,(ap.pick [] _ (by decide) rfl),rfl,rfl⟩
 have az:=hm;rw [if_neg c5] at az;replace c5:=zM c5
 refine cF Z c5 (sR gEs Z (oM Z Z (oM Z Z ?_)))
 have aH:FnOK Try.prog φ (.func (.func 101) #[.agg B0.toArray] #[]) wKg wMf (fun x=>wAv p0 x):=⟨101,[.agg B0.toArray],[],rfl,Try.call101,fun aS w1 x y vs le hs ha hm=>by obtain rfl:=ha;exact wFa p0 af aj ag ak ah am ai an x w1 aS hs (aJ.le le) (aK.le le) (aL.le le) (aM.le le) hm⟩
 refine bnK az fun x9 aG aO=>zF 0 Z Z Z Z (zD Z Z Try.call102 (zB Z (zB Z zN)) Z) ap (fun hs=>wEd p1 aq au (fun x=>wAv p0 x) (.func (.func 101) #[.agg B0.toArray] #[]) W1 φ hs aN aH aG) (.inr Z) ?_
 rintro av aT aV aE aU aI ⟨rfl,rfl⟩
 have ax:sW w φ av [.blk b2 28 B0] aE:=aI
 refine oR Z (Ze Z Z) (oA Z Z (eN (ifc aO ?_ ?_)))
 intro ao aP
 refine zt (nC ao.out) (Zh (zo (zH (sR fL1 Z (oA Z Z (eN (zS ?_)))))))
 cases aP
 exact ⟨rfl,_,(ZM rfl),av,_,(ax.pick [] _ (by decide) rfl),rfl,rfl⟩
 intro ao aQ
 refine ZL (nF (ao.out)) (sR fL1 Z (oA Z Z (eN (zS (ze (zR ?_))))))
 cases aQ
 exact ⟨rfl,_,(ZM rfl),av,_,(ax.pick [] _ (by decide) rfl),rfl,rfl⟩
theorem wCj (p0:wAC) (aG:Option Addr) (aK:Nat) (aH:Option Addr) (aL:Nat) (aI:Option Addr) (aM:Nat) (aJ:Option Addr) (aN:Nat) (p1:wAJ) (p2:List wAF) (aY:Option Addr) (aZ:Nat) (w:World) (φ:PHeap) (hS:St0 w φ []) (cc:Sl φ 1 aG aK p0.Starts.length (hD KL.encI p0.Starts)) (cd:Sl φ 2 aH aL p0.Splits.length (hD wAE p0.Splits)) (cf:Sl φ 3 aI aM p0.Clocks.length (hD wAB p0.Clocks)) (cg:Sl φ 4 aJ aN p0.Readings.length (hD wAA p0.Readings)) (ci:Sl φ 4 aY aZ p2.length (hD wAP p2)) {r:wAJ × Int × Bool} (hm:wAo p0 p1 p2=some r):Gv Try.prog 71 [.agg #[.slice aG p0.Starts.length aK,.slice aH p0.Splits.length aL,.slice aI p0.Clocks.length aM,.slice aJ p0.Readings.length aN],.agg #[jV p1.skier,jV p1.mat],.slice aY p2.length aZ] w (wCF w [] φ (fun φ_ L_ v=>v=.tuple #[.agg #[jV r.1.skier,jV r.1.mat],jV r.2.1,.bool r.2.2]/\L_=[])):=by
 unfold wAo at hm
 refine Gv.of Try.func71 Z Try.ntmps71 Try.results71 Z (sR gEu Z ?_)
 let B0:List Value:=[.slice aG p0.Starts.length aK,.slice aH p0.Splits.length aL,.slice aI p0.Clocks.length aM,.slice aJ p0.Readings.length aN]
 refine zu (cs:=B0) rfl rfl rfl rfl rfl rfl (by rfl) hS ?_
 intro W1 b2 bN
 refine zu (cs:=[jV p1.skier,jV p1.mat]) rfl rfl rfl rfl rfl rfl (by rfl) bN ?_
 intro W5 b6 bR
 let B1:List Value:=[jV 0,jV 0]
 refine zV (cs:=B1) Z Z Z Z Z zd Z bR ?_
 intro W9 af bL
 refine oA Z Z (oA Z Z (eN (sR fL1 Z (oA Z Z (eN (zL (sR fL3 Z (oM Z Z (oR Z (zq Z Z Zg) (oM Z Z (eN (zY ?_))))))))))))
 have q:=wBa hm
 obtain ⟨cR,aV⟩:=q
 have q:=wBZ aV
 obtain ⟨aX,co⟩:=q
 replace aX:=zM aX
 refine yH (fun ax (aO,aP,bj) σ_ w_=>∃ (φ_:PHeap),σ_ 17=jV (↑ax:Int)/\σ_ 3=.pointer (some ⟨b2,0,none⟩)/\σ_ 4=.pointer (some ⟨b6,0,none⟩)/\σ_ 6=.pointer (some ⟨af,0,none⟩)/\σ_ 9=jV bj/\σ_ 15=.slice aY p2.length aZ/\σ_ 16=jV (↑p2.length:Int)/\PHeap.Le φ φ_/\sW w φ φ_ [.blk af 104 B1,.blk b6 104 [jV aO,jV aP],.blk b2 28 B0] w_) co ?_ ?_ ?_
 exact ⟨φ,Z,Z,Z,Z,Z,Z,Z,(zO _),bL⟩
 rintro ax ⟨aO,aP,bj⟩ cU cW cG aW ⟨bn,aT,a8,aF,aS,bA,a9,ba,av,bf⟩ bi cn
 try dsimp only at bi
 have a6:Hid ((↑ax:Int) < (↑p2.length:Int)):=zM (wAs aW)
 replace aW:=zM aW
 have cp:Hid (w64 ((↑ax:Int) + 1)=(↑(ax + 1):Int)):=zM (by have h1:=aX.out;have h2:=a6.out;rw [wAT] <;> omega)
 refine sR fL1 Z (oR Z (zc Z aT ba) (eN (zL (cT Z a6 (kN (zL (zY (sR gEl Z (bnK bi fun aj bb ct=>?_)))))))))
 have bC:=ci.le av
 have q:=bC.el (fun _=>rfl) (wAX bb)
 obtain ⟨cM,cQ,bI,bJ⟩:=q
 refine oR Z (Zc Z a9 bI aT Zg ZN (wBQ bb)) (oL Z (bf.ldCA (f:=0) bJ Z Z Zp ZN (us:=[jV aj.Kind,jV aj.Skier,jV aj.Index,.bool aj.Up]) Z Z) (zV (cs:=[jV 0,jV 0,jV 0,.bool false]) Z Z Z Z Z Zn Z bf ?_))
 intro cI aq bP
 let B2:List Value:=[jV aj.Kind,jV aj.Skier,jV aj.Index,.bool aj.Up]
 refine zW (j:=0) (vs:=B2) Z Z Z Z bP Z Z Z Z ZN (zA Z) Z Z Z ?_
 intro a5 bQ
 let B3:List Value:=[jV aO,jV aP]
 have aU:sW w φ bn [.blk aq 78 B2,.blk af 104 B1,.blk b6 104 B3,.blk b2 28 B0] a5:=bQ
 refine eN (sR (.fl 0 (.fl 1 (.fx 2 (wKW (.fx 7 (.fx 8 (.fx 9 (.fx 10 (.fl 11 .nil) .stop) .stop) .stop) .stop)) .stop))) Z (oL Z (aU.ldBA (j:=3) Z Z a8 zf zX (vs:=B0) Z Z) (oL Z (aU.ldBA (j:=0) Z Z Z Zp ZN (vs:=B2) Z Z) ?_)))
 have bD:=cc.le av
 have bE:=cd.le av
 have bF:=cf.le av
 have bG:=cg.le av
 have q:=bnd ct
 obtain ⟨⟨az,aQ,cy⟩,bH,bh⟩:=q
 try dsimp only at bh
 refine zF 0 Z Z Z Z (zD Z Z Try.call70 (zB Z (zB Z zN)) Z) aU (fun hs=>wBf p0 aG aK aH aL aI aM aJ aN aj a5 bn hs bD bE bF bG bH) (.inr Z) ?_
 rintro an cC cS bq cw bS ⟨rfl,rfl⟩
 have bU:sW w φ an [.blk aq 78 B2,.blk af 104 B1,.blk b6 104 B3,.blk b2 28 B0] bq:=bS
 refine oM Z Z (oR Z (zU Z Z (v:=.agg #[jV az.skier,jV az.mat]) Z) (oR Z (zU Z Z (v:=.agg #[jV aQ.skier,jV aQ.mat]) Z) (oR Z (zU Z Z (v:=jV cy) Z) (zV (cs:=B1) Z Z Z Z Z zd Z bU ?_))))
 intro cJ aD bV
 refine zV (cs:=B1) Z Z Z Z Z zd Z bV ?_
 intro cK aE bW
 let B4:List Value:=[jV az.skier,jV az.mat]
 refine zW (j:=1) (vs:=B4) Z Z Z Z bW Z Z Z Z zI (zA Z) Z Z Z ?_
 intro br bX
 have bY:sW w φ an [.blk aE 104 B1,.blk aD 104 B4,.blk aq 78 B2,.blk af 104 B1,.blk b6 104 B3,.blk b2 28 B0] br:=bX
 let B5:List Value:=[jV aQ.skier,jV aQ.mat]
 refine zW (j:=0) (vs:=B5) Z Z Z Z bY Z Z Z Z zI (zA Z) Z Z Z ?_
 intro bs bZ
 have au:sW w φ an [.blk aE 104 B5,.blk aD 104 B4,.blk aq 78 B2,.blk af 104 B1,.blk b6 104 B3,.blk b2 28 B0] bs:=bZ
 refine oA Z Z (eN (zL (sR fL3 Z (oL Z (au.ldBA (j:=1) Z Z Z zh zI (vs:=B4) Z Z) (oL Z (au.ldBA (j:=4) Z Z aF zh zI (vs:=B3) Z Z) (oR Z (ZG (Runs.neS (enc:=wBi) (a:=az) (b:=(⟨aO,aP⟩:wAJ)) Z Z Z wKB wKA) (congrArg hH (decide_not).symm)) (eN (ifc bh ?_ ?_))))))))
 intro aR cu
 refine zt (zw (fun h=>h aR.out)) (kN (rR (wEI (.fx 4 (.fl 5 .nil) .stop)) Z (oL Z (au.ldBA (j:=0) Z Z Z zh zI (vs:=B5) Z Z) (oM Z bA (oM Z Z (oR Z (za Z Z Z) (zW (j:=4) (vs:=B5) Z Z Z Z au Z aF Z Z zI (zA Z) Z Z Z ?_)))))))
 intro bt ca
 have cb:sW w φ an [.blk aE 104 B5,.blk aD 104 B4,.blk aq 78 B2,.blk af 104 B1,.blk b6 104 B5,.blk b2 28 B0] bt:=ca
 refine oA Z Z (zb (zo (zH (rR fL2 Z (oR Z (ZG (za Z aT Z) (congrArg (jV) cp.out)) (oM Z Z (zb ?_)))))))
 have q:=hU cu
 obtain rfl:=q
 exact zH ⟨rfl,_,rfl,⟨an,rfl,a8,aF,aS,rfl,a9,ba,(av.trans cw),(cb.pick [3,4,5] _ (by decide) rfl)⟩⟩
 intro aR cq
 refine cT Z aR (sR gEm Z (oL Z (au.ldBA (j:=4) Z Z aF zh zI (vs:=B3) Z Z) (zW (j:=3) (vs:=B3) Z Z Z Z au Z aS Z Z zI (zA Z) Z Z Z ?_)))
 intro bo bK
 have bc:sW w φ an [.blk aE 104 B5,.blk aD 104 B4,.blk aq 78 B2,.blk af 104 B3,.blk b6 104 B3,.blk b2 28 B0] bo:=bK
 refine oA Z Z (oA Z Z (eN (zS (zR (ze (zR ?_))))))
 have q:=wAZ cq
 obtain ⟨cx,cr,bv⟩:=q
 have q:=wBI hm aV (cn cx bv)
 obtain rfl:=q
 refine zR (ze (zR ?_))
 cases cr
 exact ⟨rfl,_,(wDy (rs:=[.cell 6 104,.tmp 7,.tmp 8]) (vs:=[.agg B3.toArray,jV 0,.bool false]) ⟨⟨_,aS,(wBA zh zI (bc.blkAt (k:=3) rfl) (vs:=B3) rfl rfl)⟩,⟨rfl,⟨rfl,trivial⟩⟩⟩ rfl),an,_,(bc.pick [] _ (by decide) rfl),rfl,rfl⟩
 rintro ⟨cz,cA,cB⟩ cV cE ⟨bm,bB,cN,bw,a7,bx,cO,bz,cP,bd⟩ cm
 have bg:=wCO hm aV cm
 try dsimp only at bg
 have bu:Hid (¬ ((↑(((↑p2.length:Int):Int) - 0).toNat:Int) < (↑p2.length:Int))):=zM (wAc)
 refine sR fL1 Z (oR Z (zc Z bB bz) (eN (zL (cF Z bu (Za (zi (zi (ZQ (zH (sR gEs Z ?_))))))))))
 let B6:List Value:=[jV cz,jV cA]
 refine oL Z (bd.ldBA (j:=1) Z Z bw zh zI (vs:=B6) Z Z) (oM Z bx (zW (j:=0) (vs:=B6) Z Z Z Z bd Z a7 Z Z zI (zA Z) Z Z Z ?_))
 intro bp bM
 have be:sW w φ bm [.blk af 104 B6,.blk b6 104 B6,.blk b2 28 B0] bp:=bM
 refine oA Z Z (oA Z Z (eN (zS ?_)))
 cases bg
 exact ⟨rfl,_,(wDy (rs:=[.cell 6 104,.tmp 7,.tmp 8]) (vs:=[.agg B6.toArray,jV cB,.bool true]) ⟨⟨_,a7,(wBA zh zI (be.blkAt (k:=0) rfl) (vs:=B6) rfl rfl)⟩,⟨rfl,⟨rfl,trivial⟩⟩⟩ rfl),bm,_,(be.pick [] _ (by decide) rfl),rfl,rfl⟩
theorem wEQ (p0:wAC) (ah:Option Addr) (am:Nat) (ai:Option Addr) (an:Nat) (aj:Option Addr) (ao:Nat) (ak:Option Addr) (ap:Nat) (p1:List wAF) (aU:Option Addr) (aV:Nat) (w:World) (φ:PHeap) (hS:St0 w φ []) (bR:Sl φ 1 ah am p0.Starts.length (hD KL.encI p0.Starts)) (bS:Sl φ 2 ai an p0.Splits.length (hD wAE p0.Splits)) (bU:Sl φ 3 aj ao p0.Clocks.length (hD wAB p0.Clocks)) (bV:Sl φ 4 ak ap p0.Readings.length (hD wAA p0.Readings)) (eF:Sl φ 4 aU aV p1.length (hD wAP p1)) {r:Int × Int} (hm:wBR p0 p1=some r):Gv Try.prog 34 [.agg #[.slice ah p0.Starts.length am,.slice ai p0.Splits.length an,.slice aj p0.Clocks.length ao,.slice ak p0.Readings.length ap],.slice aU p1.length aV] w (wCF w [] φ (fun φ_ L_ v=>v=.tuple #[jV r.1,jV r.2]/\L_=[])):=by
 unfold wBR at hm
 refine Gv.of Try.func34 Z Try.ntmps34 Try.results34 Z (sR gDy Z ?_)
 let B0:List Value:=[.slice ah p0.Starts.length am,.slice ai p0.Splits.length an,.slice aj p0.Clocks.length ao,.slice ak p0.Readings.length ap]
 refine zu (cs:=B0) rfl rfl rfl rfl rfl rfl (by rfl) hS ?_
 intro W1 b2 bQ
 refine oA Z Z (oA Z Z (eN (zL (sR gEa Z (oL Z (bQ.ldBA (j:=0) Z Z Z zf zX (vs:=B0) Z Z) (bnK hm fun x5 h6 eY=>zF 0 Z Z Z Z (zD Z Z Try.call68 (zB Z zN) Z) bQ (fun hs=>wEN p0 ah am ai an aj ao ak ap W1 φ hs bR bS bU bV h6) (.inr Z) ?_))))))
 rintro bz L9 fM bG aS dH ⟨rfl,rfl⟩
 have bt:sW w φ bz [.blk b2 28 B0] bG:=dH
 refine oA Z Z (eN (sR fL2 Z (oM Z Z (oR Z (ZZ Z Z Z) (eN (ifc eY ?_ ?_))))))
 intro bo eG
 refine zt (zw (fun h=>h bo.out)) (kN (zL (sR gEn Z (oL Z (bt.ldBA (j:=0) Z Z Z zf zX (vs:=B0) Z Z) (oM Z Z ?_)))))
 have aE:=bR.le aS
 have aF:=bS.le aS
 have aG:=bU.le aS
 have aH:=bV.le aS
 have bs:=eF.le aS
 refine bnK eG fun fU cX eH=>zF 0 Z Z Z Z (zD Z Z Try.call69 (zB Z (zB Z zN)) Z) bt (fun hs=>wEA p0 ah am ai an aj ao ak ap p1 aU aV bG bz hs aE aF aG aH bs cX) (.inr Z) ?_
 rintro av fw fS bh ab eE ⟨rfl,rfl⟩
 have bv:sW w φ av [.blk b2 28 B0] bh:=eE
 refine oA Z Z (eN (sR fL2 Z (oM Z Z (oR Z (ZZ Z Z Z) (eN (ifc eH ?_ ?_))))))
 intro bq eV
 refine zt (zw (fun h=>h bq.out)) (kN (zL (sR fL3 Z (oM Z Z (oR Z (zq Z Z Zg) (oR Z (Zs Z Z Z) (eN (ifc eV ?_ ?_))))))))
 intro br eW
 refine cT Z br (sR fL2 Z (oA Z Z (oA Z Z (eN (zS (zR ?_))))))
 cases eW
 exact ⟨rfl,_,(wDx rfl rfl),av,_,(bv.pick [] _ (by decide) rfl),rfl,rfl⟩
 intro br eX
 refine cF Z br (kN ?_)
 have q:=bnd eX
 obtain ⟨⟨bw,bx⟩,fb,bX⟩:=q
 try dsimp only at bX
 let B1:List Value:=[jV bw,jV bx]
 refine yO (fun σ_ w_=>∃ (φ_:PHeap) (aQ:Nat),σ_ 1=.slice aU p1.length aV/\σ_ 2=.pointer (some ⟨b2,0,none⟩)/\σ_ 8=.pointer (some ⟨aQ,0,none⟩)/\PHeap.Le av φ_/\sW w φ φ_ [.blk b2 28 B0,.blk aQ 104 B1] w_) ?_ ?_
 refine bnK fb fun au bL eZ=>?_
 have q:=bnd eZ
 obtain ⟨⟨af,ag,aX⟩,aR,aI⟩:=q
 try dsimp only at aI
 refine ZE ZF [1,3,3,1,2,3,3,3,3,2,2,0,0,3] (wEI (.fx 4 (wHD (.fx 9 gEo (.fx 10 gEp .stop))) (.fx 9 (.fx 4 (wHD gEo) (.fx 10 (.fx 4 (wHD gEf) (.stop)) (.stop))) (.fx 10 (.fx 4 (wHD gEp) (.fx 9 (.fx 4 (wHD gEf) (.stop)) (.stop))) (.stop))))) (by kernel_rfl) ?_
 have aN:=bv.drew
 generalize hw_W85:({ bh with drawn:=bh.drawn + 1 }:World)=cG at aN ⊢
 refine oL Z (aN.ldBA (j:=0) Z Z Z zf zX (vs:=B0) Z Z) (oM Z Z ?_)
 have dq:=bs.le ab
 have q:=dq.el (fun _=>rfl) (wAX bL)
 obtain ⟨fJ,fL,dw,dx⟩:=q
 refine oR Z (Zc Z Z dw Z Zg ZN (wBQ bL)) (oL Z (aN.ldCA (f:=0) dx Z Z Zp ZN (us:=[jV au.Kind,jV au.Skier,jV au.Index,.bool au.Up]) Z Z) (zr ?_ ?_))
 have dr:=aE.le ab
 have dt:=aF.le ab
 have du:=aG.le ab
 have dv:=aH.le ab
 refine zF 0 Z Z Z Z (zD Z Z Try.call70 (zB Z (zB Z zN)) Z) aN (fun hs=>wBf p0 ah am ai an aj ao ak ap au cG av hs dr dt du dv aR) (.inr Z) ?_
 rintro aK fA fN ca bY dy ⟨rfl,rfl⟩
 have bM:sW w φ aK [.blk b2 28 B0] ca:=dy
 refine oM Z Z (oR Z (zU Z Z (v:=.agg #[jV af.skier,jV af.mat]) Z) (oR Z (zU Z Z (v:=.agg #[jV ag.skier,jV ag.mat]) Z) (oR Z (zU Z Z (v:=jV aX) Z) (zr ?_ ?_))))
 let B2:List Value:=[jV 0,jV 0]
 refine zV (cs:=B2) Z Z Z Z Z zd Z bM ?_
 intro fB bi dz
 refine zV (cs:=B2) Z Z Z Z Z zd Z dz ?_
 intro fC bH dA
 let B3:List Value:=[jV af.skier,jV af.mat]
 refine zW (j:=1) (vs:=B3) Z Z Z Z dA Z Z Z Z zI (zA Z) Z Z Z ?_
 intro cb dB
 have dC:sW w φ aK [.blk bH 104 B2,.blk bi 104 B3,.blk b2 28 B0] cb:=dB
 let B4:List Value:=[jV ag.skier,jV ag.mat]
 refine zW (j:=0) (vs:=B4) Z Z Z Z dC Z Z Z Z zI (zA Z) Z Z Z ?_
 intro cc dD
 have dE:sW w φ aK [.blk bH 104 B4,.blk bi 104 B3,.blk b2 28 B0] cc:=dD
 refine oA Z Z (zb ?_)
 cases aI
 exact zH ⟨rfl,⟨aK,bi,rfl,rfl,rfl,bY,(dE.pick [2,1] _ (by decide) rfl)⟩⟩
 let B5:List Value:=[jV 0,jV 0]
 refine zV (cs:=B5) Z Z Z Z Z zd Z bM ?_
 intro fD bI dF
 refine zV (cs:=B5) Z Z Z Z Z zd Z dF ?_
 intro fE bj dG
 let B6:List Value:=[jV af.skier,jV af.mat]
 refine zW (j:=0) (vs:=B6) Z Z Z Z dG Z Z Z Z zI (zA Z) Z Z Z ?_
 intro cd dI
 have dJ:sW w φ aK [.blk bj 104 B6,.blk bI 104 B5,.blk b2 28 B0] cd:=dI
 let B7:List Value:=[jV ag.skier,jV ag.mat]
 refine zW (j:=1) (vs:=B7) Z Z Z Z dJ Z Z Z Z zI (zA Z) Z Z Z ?_
 intro cf dK
 have dL:sW w φ aK [.blk bj 104 B6,.blk bI 104 B7,.blk b2 28 B0] cf:=dK
 refine oA Z Z (zb ?_)
 cases aI
 exact zH ⟨rfl,⟨aK,bj,rfl,rfl,rfl,bY,(dL.pick [2,0] _ (by decide) rfl)⟩⟩
 refine zr ?_ ?_
 let B8:List Value:=[jV 0,jV 0]
 refine zV (cs:=B8) Z Z Z Z Z zd Z aN ?_
 intro cg az bN
 refine zr ?_ ?_
 have cK:=aE.le ab
 have cL:=aF.le ab
 have cM:=aG.le ab
 have cN:=aH.le ab
 refine zF 0 Z Z Z Z (zD Z Z Try.call70 (zB Z (zB Z zN)) Z) bN (fun hs=>wBf p0 ah am ai an aj ao ak ap au cg av hs cK cL cM cN aR) (.inr Z) ?_
 rintro aZ fm fO ci fc dM ⟨rfl,rfl⟩
 have dN:sW w φ aZ [.blk az 104 B8,.blk b2 28 B0] ci:=dM
 refine oM Z Z (oR Z (zU Z Z (v:=.agg #[jV af.skier,jV af.mat]) Z) (oR Z (zU Z Z (v:=.agg #[jV ag.skier,jV ag.mat]) Z) (oR Z (zU Z Z (v:=jV aX) Z) (zV (cs:=B8) Z Z Z Z Z zd Z dN ?_))))
 intro fG bJ dO
 let B9:List Value:=[jV af.skier,jV af.mat]
 refine zW (j:=1) (vs:=B9) Z Z Z Z dO Z Z Z Z zI (zA Z) Z Z Z ?_
 intro cm dP
 have dQ:sW w φ aZ [.blk bJ 104 B8,.blk az 104 B9,.blk b2 28 B0] cm:=dP
 let bA:List Value:=[jV ag.skier,jV ag.mat]
 refine zW (j:=0) (vs:=bA) Z Z Z Z dQ Z Z Z Z zI (zA Z) Z Z Z ?_
 intro cn dR
 have dS:sW w φ aZ [.blk bJ 104 bA,.blk az 104 B9,.blk b2 28 B0] cn:=dR
 refine oA Z Z (zb ?_)
 cases aI
 exact zH ⟨rfl,⟨aZ,az,rfl,rfl,rfl,fc,(dS.pick [2,1] _ (by decide) rfl)⟩⟩
 refine zV (cs:=B8) Z Z Z Z Z zd Z bN ?_
 intro co bm dT
 have cO:=aE.le ab
 have cP:=aF.le ab
 have cQ:=aG.le ab
 have cR:=aH.le ab
 refine zF 0 Z Z Z Z (zD Z Z Try.call70 (zB Z (zB Z zN)) Z) dT (fun hs=>wBf p0 ah am ai an aj ao ak ap au co av hs cO cP cQ cR aR) (.inr Z) ?_
 rintro a5 fq fP cp fd dU ⟨rfl,rfl⟩
 have dV:sW w φ a5 [.blk bm 104 B8,.blk az 104 B8,.blk b2 28 B0] cp:=dU
 refine oM Z Z (oR Z (zU Z Z (v:=.agg #[jV af.skier,jV af.mat]) Z) (oR Z (zU Z Z (v:=.agg #[jV ag.skier,jV ag.mat]) Z) (oR Z (zU Z Z (v:=jV aX) Z) ?_)))
 let a8:List Value:=[jV af.skier,jV af.mat]
 refine zW (j:=1) (vs:=a8) Z Z Z Z dV Z Z Z Z zI (zA Z) Z Z Z ?_
 intro cq dW
 have dX:sW w φ a5 [.blk bm 104 B8,.blk az 104 a8,.blk b2 28 B0] cq:=dW
 let bB:List Value:=[jV ag.skier,jV ag.mat]
 refine zW (j:=0) (vs:=bB) Z Z Z Z dX Z Z Z Z zI (zA Z) Z Z Z ?_
 intro cr dY
 have dZ:sW w φ a5 [.blk bm 104 bB,.blk az 104 a8,.blk b2 28 B0] cr:=dY
 refine oA Z Z (zb ?_)
 cases aI
 exact zH ⟨rfl,⟨a5,az,rfl,rfl,rfl,fd,(dZ.pick [2,1] _ (by decide) rfl)⟩⟩
 let ax:List Value:=[jV 0,jV 0]
 refine zV (cs:=ax) Z Z Z Z Z zd Z aN ?_
 intro ct aL bP
 refine zr ?_ ?_
 have cS:=aE.le ab
 have cU:=aF.le ab
 have cV:=aG.le ab
 have cW:=aH.le ab
 refine zF 0 Z Z Z Z (zD Z Z Try.call70 (zB Z (zB Z zN)) Z) bP (fun hs=>wBf p0 ah am ai an aj ao ak ap au ct av hs cS cU cV cW aR) (.inr Z) ?_
 rintro a6 ft fQ cu ff d5 ⟨rfl,rfl⟩
 have d7:sW w φ a6 [.blk aL 104 ax,.blk b2 28 B0] cu:=d5
 refine oM Z Z (oR Z (zU Z Z (v:=.agg #[jV af.skier,jV af.mat]) Z) (oR Z (zU Z Z (v:=.agg #[jV ag.skier,jV ag.mat]) Z) (oR Z (zU Z Z (v:=jV aX) Z) (zV (cs:=ax) Z Z Z Z Z zd Z d7 ?_))))
 intro fH bn d9
 let a9:List Value:=[jV af.skier,jV af.mat]
 refine zW (j:=0) (vs:=a9) Z Z Z Z d9 Z Z Z Z zI (zA Z) Z Z Z ?_
 intro cw ef
 have eg:sW w φ a6 [.blk bn 104 a9,.blk aL 104 ax,.blk b2 28 B0] cw:=ef
 let bC:List Value:=[jV ag.skier,jV ag.mat]
 refine zW (j:=1) (vs:=bC) Z Z Z Z eg Z Z Z Z zI (zA Z) Z Z Z ?_
 intro cx eh
 have ej:sW w φ a6 [.blk bn 104 a9,.blk aL 104 bC,.blk b2 28 B0] cx:=eh
 refine oA Z Z (zb ?_)
 cases aI
 exact zH ⟨rfl,⟨a6,bn,rfl,rfl,rfl,ff,(ej.pick [2,0] _ (by decide) rfl)⟩⟩
 refine zV (cs:=ax) Z Z Z Z Z zd Z bP ?_
 intro cy aY ek
 have cY:=aE.le ab
 have cZ:=aF.le ab
 have c6:=aG.le ab
 have da:=aH.le ab
 refine zF 0 Z Z Z Z (zD Z Z Try.call70 (zB Z (zB Z zN)) Z) ek (fun hs=>wBf p0 ah am ai an aj ao ak ap au cy av hs cY cZ c6 da aR) (.inr Z) ?_
 rintro a7 fu fR cz fg en ⟨rfl,rfl⟩
 have eo:sW w φ a7 [.blk aY 104 ax,.blk aL 104 ax,.blk b2 28 B0] cz:=en
 refine oM Z Z (oR Z (zU Z Z (v:=.agg #[jV af.skier,jV af.mat]) Z) (oR Z (zU Z Z (v:=.agg #[jV ag.skier,jV ag.mat]) Z) (oR Z (zU Z Z (v:=jV aX) Z) ?_)))
 let ba:List Value:=[jV af.skier,jV af.mat]
 refine zW (j:=0) (vs:=ba) Z Z Z Z eo Z Z Z Z zI (zA Z) Z Z Z ?_
 intro cA ep
 have er:sW w φ a7 [.blk aY 104 ba,.blk aL 104 ax,.blk b2 28 B0] cA:=ep
 let bD:List Value:=[jV ag.skier,jV ag.mat]
 refine zW (j:=1) (vs:=bD) Z Z Z Z er Z Z Z Z zI (zA Z) Z Z Z ?_
 intro cB eu
 have ew:sW w φ a7 [.blk aY 104 ba,.blk aL 104 bD,.blk b2 28 B0] cB:=eu
 refine oA Z Z (zb ?_)
 cases aI
 exact zH ⟨rfl,⟨a7,aY,rfl,rfl,rfl,fg,(ew.pick [2,0] _ (by decide) rfl)⟩⟩
 rintro fW cC ⟨fk,aQ,cI,cJ,bK,aT,bu⟩
 refine sR (wCa (.fx 3 (fC4_7 (.fx 8 (.fx 9 (.fl 10 (.fl 11 .nil)) .stop) .stop)) .stop)) Z (oL Z (bu.ldBA (j:=0) Z Z cJ zf zX (vs:=B0) Z Z) (oL Z (bu.ldBA (j:=1) Z Z bK zh zI (vs:=B1) Z Z) (oM Z cI ?_)))
 have db:=aE.le ab
 have dd:=db.le aT
 have de:=aF.le ab
 have df:=de.le aT
 have dg:=aG.le ab
 have dh:=dg.le aT
 have di:=aH.le ab
 have dk:=di.le aT
 have dl:=bs.le ab
 have dm:=dl.le aT
 have q:=bnd bX
 obtain ⟨⟨aW,fh,fj⟩,dn,bW⟩:=q
 try dsimp only at bW
 refine zF 0 Z Z Z Z (zD Z Z Try.call71 (zB Z (zB Z (zB Z zN))) Z) bu (fun hs=>wCj p0 ah am ai an aj ao ak ap (⟨bw,bx⟩:wAJ) p1 aU aV cC fk hs dd df dh dk dm dn) (.inr Z) ?_
 rintro aO fy fT cD fK ey ⟨rfl,rfl⟩
 have eA:sW w φ aO [.blk b2 28 B0,.blk aQ 104 B1] cD:=ey
 refine oM Z Z (oR Z (zU Z Z (v:=.agg #[jV aW.skier,jV aW.mat]) Z) (oR Z (zU Z Z (v:=jV fh) Z) (oR Z (zU Z Z (v:=.bool fj) Z) (zV (cs:=[jV 0,jV 0]) Z Z Z Z Z zd Z eA ?_))))
 intro fI cH eB
 let bb:List Value:=[jV aW.skier,jV aW.mat]
 refine zW (j:=0) (vs:=bb) Z Z Z Z eB Z Z Z Z zI (zA Z) Z Z Z ?_
 intro cE eD
 have aM:sW w φ aO [.blk cH 104 bb,.blk b2 28 B0,.blk aQ 104 B1] cE:=eD
 refine oA Z Z (oA Z Z (eN (zL (sR wMw Z (oM Z Z (oR Z (Ze Z Z) (oM Z Z (ifc bW ?_ ?_))))))))
 intro aq eI
 refine ZJ Z Z Z (zQ Z Z (nC aq.out)) (aM.ldBA (j:=0) Z Z Z zh zI (vs:=bb) Z Z) Z (ZJ Z Z Z (zQ Z Z (nC aq.out)) (aM.ldBA (j:=2) Z Z bK zh zI (vs:=B1) Z Z) Z (zg Z Z Z (zQ Z Z (nC aq.out)) (fun _=>ZG (Runs.neS (enc:=wBi) (a:=aW) (b:=(⟨bw,bx⟩:wAJ)) Z Z Z wKB wKA) (congrArg hH (decide_not).symm)) (oR Z (zZ Z (nC aq.out) Z) (oM Z Z (ifc eI ?_ ?_)))))
 intro aD eJ
 refine zk Z Z Z (zQ Z Z (zw (fun h=>h aD.out))) Z Z (zg Z Z Z (zQ Z Z (zw (fun h=>h aD.out))) (fun _=>Runs.geq Z Z Z) (oR Z (zZ Z (zw (fun h=>h aD.out)) Z) (eN (ifc eJ ?_ ?_))))
 intro bp eK
 refine cT Z bp (sR fL2 Z (oA Z Z (oA Z Z (eN (zS (zR ?_))))))
 cases eK
 exact ⟨rfl,_,(wDx rfl rfl),aO,_,(aM.pick [] _ (by decide) rfl),rfl,rfl⟩
 intro bp eL
 refine cF Z bp (kN (sR fL3 Z (oM Z Z (oA Z Z (oA Z Z (eN (zS ?_)))))))
 cases eL
 exact ⟨rfl,_,(wDx rfl rfl),aO,_,(aM.pick [] _ (by decide) rfl),rfl,rfl⟩
 intro aD eM
 refine oT Z aD (oT Z aD (oR Z (zP Z (Zj aD.out) Z) (eN (ZL Z (sR fL2 Z (oA Z Z (oA Z Z (eN (zS (zR ?_))))))))))
 cases eM
 exact ⟨rfl,_,(wDx rfl rfl),aO,_,(aM.pick [] _ (by decide) rfl),rfl,rfl⟩
 intro aq eO
 refine ZD Z Z Z (zT Z Z (nF (aq.out)) Z) (ZD Z Z Z (zT Z Z (nF (aq.out)) Z) (ZD Z Z Z (zT Z Z (nF (aq.out)) Z) (oR Z (zP Z (nF (aq.out)) Z) (oM Z Z (oN Z (oN Z (oR Z (zP Z Z Z) (eN (ZL Z (sR fL2 Z (oA Z Z (oA Z Z (eN (zS (zR ?_)))))))))))))))
 cases eO
 exact ⟨rfl,_,(wDx rfl rfl),aO,_,(aM.pick [] _ (by decide) rfl),rfl,rfl⟩
 intro bq eQ
 refine cT Z bq (sR fL3 Z (oM Z Z (oA Z Z (oA Z Z (eN (zS (zR ?_)))))))
 cases eQ
 exact ⟨rfl,_,(wDx rfl rfl),av,_,(bv.pick [] _ (by decide) rfl),rfl,rfl⟩
 intro bo eU
 refine cT Z bo (sR fL3 Z (oM Z Z (oA Z Z (oA Z Z (eN (zS (zR ?_)))))))
 cases eU
 exact ⟨rfl,_,(wDx rfl rfl),bz,_,(bt.pick [] _ (by decide) rfl),rfl,rfl⟩
theorem wBV  (w:World) (φ:PHeap) (hS:St0 w φ [])  {r:wAC} (hm:wAw =some r):Gv Try.prog 52 [] w (wCF w [] φ (fun φ_ L_ v=>∃ (ap:Option Addr) (aF:Nat) (aq:Option Addr) (aG:Nat) (au:Option Addr) (aH:Nat) (av:Option Addr) (aI:Nat),v=.agg #[.slice ap r.Starts.length aF,.slice aq r.Splits.length aG,.slice au r.Clocks.length aH,.slice av r.Readings.length aI]/\L_=[.row ap aF 3 1 (hD KL.encI r.Starts),.row aq aG 41 2 (hD wAE r.Splits),.row au aH 43 3 (hD wAB r.Clocks),.row av aI 39 4 (hD wAA r.Readings)])):=by
 unfold wAw at hm
 refine Gv.of Try.func52 Z Try.ntmps52 Try.results52 Z (sR (.fx 0 .nil .stop) Z ?_)
 let B0:List Value:=[.slice none 0 0,.slice none 0 0,.slice none 0 0,.slice none 0 0]
 refine zV (cs:=B0) Z Z Z Z Z Zw Z hS ?_
 intro W1 b2 aW
 refine eN (sR (.fx 0 (.fl 1 (.fl 2 (.fx 3 (.fl 4 (.fl 5 (.fx 6 (fC7_9 (.fx 10 (.fl 11 (.fx 12 .nil .stop)) .stop)) .stop))) .stop))) .stop) Z (zm (pv:=[(0,jV 0),(1,jV 300)]) (zs:=[jV 0,jV 0]) (cs:=[jV 0,jV 300]) Z Z Z Z Z (wAG Z (wAG Z wAN)) zE zC zz Z Z Z Z Z aW ?_))
 intro W5 b6 aX
 let B1:Res:=.row (some ⟨b6,0,none⟩) 2 3 1 (hD KL.encI [0,300])
 have aY:sW w φ φ [B1,.blk b2 28 B0] W5:=aX
 let B2:List Value:=[jV 0,jV 0]
 refine oR Z (zl (pv:=[(0,jV 1000),(1,jV 1200)]) (z:=B2) (cs:=[jV 1000,jV 1200]) Z (wAG Z (wAG Z wAN)) ZS wCN Z Z) (oR Z (zl (pv:=[(0,jV 900),(1,jV 1500)]) (z:=B2) (cs:=[jV 900,jV 1500]) Z (wAG Z (wAG Z wAN)) ZS wCN Z Z) (zm (pv:=[(0,.agg #[jV 1000,jV 1200]),(1,.agg #[jV 900,jV 1500])]) (zs:=[jV 0,jV 0,jV 0,jV 0]) (cs:=[jV 1000,jV 1200,jV 900,jV 1500]) Z Z Z Z Z (wAG Z (wAG Z wAN)) ZP ZA ZS Z Z Z Z Z aY ?_))
 intro aK ag aP
 let B3:Res:=.row (some ⟨ag,0,none⟩) 2 41 2 (hD wAE [(⟨1000,1200⟩:wAK),(⟨900,1500⟩:wAK)])
 have aQ:sW w φ φ [B3,B1,.blk b2 28 B0] aK:=aP
 refine oR Z (zl (pv:=[(0,jV (-5)),(1,jV 5)]) (z:=B2) (cs:=[jV (-5),jV 5]) Z (wAG Z (wAG Z wAN)) ZS wCN Z Z) ?_
 let B4:List Value:=[jV (-5),jV 5,jV 1]
 let B5:List Value:=[jV 0,jV 0,jV 0]
 refine oR Z (zl (pv:=[(0,.agg #[jV (-5),jV 5]),(1,jV 1)]) (z:=B5) (cs:=B4) Z (wAG Z (wAG Z wAN)) yV wIu Z Z) (zm (pv:=[(0,.agg B4.toArray)]) (zs:=B5) (cs:=B4) Z Z Z Z Z (wAG Z wAN) ZV Zq yV Z Z Z Z Z aQ ?_)
 intro aL ah aR
 let B6:Res:=.row (some ⟨ah,0,none⟩) 1 43 3 (hD wAB [(⟨(⟨-5,5⟩:wAK),1⟩:wAM)])
 have aS:sW w φ φ [B6,B3,B1,.blk b2 28 B0] aL:=aR
 let B7:List Value:=[jV 0,jV 0,jV 0,jV 0]
 let B8:List Value:=[jV 0,jV 2,jV 0,jV 2250]
 refine oR Z (zl (pv:=[(1,jV 2),(3,jV 2250)]) (z:=B7) (cs:=B8) Z (wAG Z (wAG Z wAN)) Zb wEc Z Z) ?_
 let B9:List Value:=[jV 1,jV 1,jV 0,jV 1400]
 refine oR Z (zl (pv:=[(0,jV 1),(1,jV 1),(3,jV 1400)]) (z:=B7) (cs:=B9) Z (wAG Z (wAG Z (wAG Z wAN))) Zb wEc Z Z) ?_
 let ax:List Value:=[jV 1,jV 2,jV 0,jV 2499]
 refine oR Z (zl (pv:=[(0,jV 1),(1,jV 2),(3,jV 2499)]) (z:=B7) (cs:=ax) Z (wAG Z (wAG Z (wAG Z wAN))) Zb wEc Z Z) (zm (pv:=[(0,.agg B8.toArray),(1,.agg B9.toArray),(2,.agg ax.toArray)]) (zs:=[jV 0,jV 0,jV 0,jV 0,jV 0,jV 0,jV 0,jV 0,jV 0,jV 0,jV 0,jV 0]) (cs:=[jV 0,jV 2,jV 0,jV 2250,jV 1,jV 1,jV 0,jV 1400,jV 1,jV 2,jV 0,jV 2499]) Z Z Z Z Z (wAG Z (wAG Z (wAG Z wAN))) zn ZC Zb Z Z Z Z Z aS ?_)
 intro aM ai aT
 let ay:Res:=.row (some ⟨ai,0,none⟩) 3 39 4 (hD wAA [(⟨0,2,0,2250⟩:wAI),(⟨1,1,0,1400⟩:wAI),(⟨1,2,0,2499⟩:wAI)])
 have aU:sW w φ φ [ay,B6,B3,B1,.blk b2 28 B0] aM:=aT
 let ac:List Value:=[.slice (some ⟨b6,0,none⟩) 2 2,.slice (some ⟨ag,0,none⟩) 2 2,.slice (some ⟨ah,0,none⟩) 1 1,.slice (some ⟨ai,0,none⟩) 3 3]
 refine oR Z (zl (pv:=[(0,.slice (some ⟨b6,0,none⟩) 2 2),(1,.slice (some ⟨ag,0,none⟩) 2 2),(2,.slice (some ⟨ah,0,none⟩) 1 1),(3,.slice (some ⟨ai,0,none⟩) 3 3)]) (z:=B0) (cs:=ac) Z (wAG Z (wAG Z (wAG Z (wAG Z wAN)))) Zw wIt Z Z) (zW (j:=4) (vs:=ac) Z Z Z Z aU Z Z Z Z zX (zA Z) Z Z Z ?_)
 intro aN aV
 have aJ:sW w φ φ [ay,B6,B3,B1,.blk b2 28 ac] aN:=aV
 refine eN (zS ?_)
 cases hm
 exact ⟨rfl,_,(wGV (v:=.agg ac.toArray) ⟨⟨_,rfl,(wBA zf zX (aJ.blkAt (k:=4) rfl) (vs:=ac) rfl rfl)⟩,trivial⟩),φ,_,(aJ.pick [3,2,1,0] _ (by decide) rfl),(some ⟨b6,0,none⟩),2,(some ⟨ag,0,none⟩),2,(some ⟨ah,0,none⟩),1,(some ⟨ai,0,none⟩),3,rfl,rfl⟩
end Go.Proofs.Ytlnfbjphfoipaaa
namespace Go.Proofs.Ytlnfbjphfoipaaa
open Go.KL
set_option maxHeartbeats 4000000
theorem wBN (p0:Int) (p1:Int) (w:World) (φ:PHeap) (hS:St0 w φ [])  {r:wAS} (hm:wAr p0 p1=some r):Gv Try.prog 16 [jV p0,jV p1] w (wCF w [] φ (fun φ_ L_ v=>v=.agg #[jV r.Skier,jV r.Mat]/\L_=[])):=by
 unfold wAr at hm
 refine Gv.of Try.func16 Z Try.ntmps16 Try.results16 Z (sR (.fx 0 .nil .stop) Z (zV (cs:=[jV 0,jV 0]) Z Z Z Z Z yG Z hS ?_))
 intro W1 b2 ah
 refine eN (sR (wCa (.fx 3 .nil .stop)) Z (oM Z Z (oM Z Z ?_)))
 let B0:List Value:=[jV p0,jV p1]
 refine oR Z (zl (pv:=[(0,jV p0),(1,jV p1)]) (z:=[jV 0,jV 0]) (cs:=B0) Z (wAG Z (wAG Z wAN)) yG wEw Z Z) (zW (j:=0) (vs:=B0) Z Z Z Z ah Z Z Z Z Zf (zA Z) Z Z Z ?_)
 intro W5 ai
 have ae:sW w φ φ [.blk b2 45 B0] W5:=ai
 refine eN (zS ?_)
 cases hm
 exact ⟨rfl,_,(wGV (v:=.agg B0.toArray) ⟨⟨_,rfl,(wBA yF Zf (ae.blkAt (k:=0) rfl) (vs:=B0) rfl rfl)⟩,trivial⟩),φ,_,(ae.pick [] _ (by decide) rfl),rfl,rfl⟩
theorem wDU (p0:List wAS) (am:Option Addr) (an:Nat) (p1:(wAS->Option Bool)) (ao:Value) (w:World) (φ:PHeap) (hS:St0 w φ []) (aY:Sl φ 2 am an p0.length (hD wAU p0)) (aZ:FnOK Try.prog φ ao wLd wLe p1) {r:Bool} (hm:wBs p0 p1=some r):Gv Try.prog 85 [.slice am p0.length an,ao] w (wCF w [] φ (fun φ_ L_ v=>v=.bool r/\L_=[])):=by
 unfold wBs at hm
 refine Gv.of Try.func85 Z Try.ntmps85 Try.results85 Z (sR fL1 Z (oA Z Z (eN (zL (sR fL3 Z (oM Z Z (oR Z (zq Z Z Zu) (oM Z Z (eN (zY ?_))))))))))
 have q:=wBa hm
 obtain ⟨r3,ah⟩:=q
 have q:=wBZ ah
 obtain ⟨aj,a7⟩:=q
 replace aj:=zM aj
 refine yH (fun k2 _ σ_ w_=>∃ (φ_:PHeap),σ_ 9=jV (↑k2:Int)/\σ_ 1=ao/\σ_ 7=.slice am p0.length an/\σ_ 8=jV (↑p0.length:Int)/\PHeap.Le φ φ_/\sW w φ φ_ [] w_) a7 ?_ ?_ ?_
 exact ⟨φ,Z,Z,Z,Z,(zO _),hS⟩
 rintro k2 ⟨⟩ bw bz W8 ai ⟨bg,ag,av,ax,ay,ak,aD⟩ aH a5
 try dsimp only at aH
 have au:Hid ((↑k2:Int) < (↑p0.length:Int)):=zM (wAs ai)
 replace ai:=zM ai
 have a8:Hid (w64 ((↑k2:Int) + 1)=(↑(k2 + 1):Int)):=zM (by have h1:=aj.out;have h2:=au.out;rw [wAT] <;> omega)
 refine sR fL1 Z (oR Z (zc Z ag ay) (eN (zL (cT Z au (kN (zL (zY (sR gEl Z (bnK aH fun ac az a9=>?_)))))))))
 have aP:=aY.le ak
 have q:=aP.el (fun _=>rfl) (wAX az)
 obtain ⟨bo,bs,aS,aT⟩:=q
 refine oR Z (Zc Z ax aS ag Zu Zf (wBQ az)) (oL Z (aD.ldCA (f:=0) aT Z Z yF Zf (us:=[jV ac.Skier,jV ac.Mat]) Z Z) (zV (cs:=[jV 0,jV 0]) Z Z Z Z Z yG Z aD ?_))
 intro bj aq aU
 let B0:List Value:=[jV ac.Skier,jV ac.Mat]
 refine zW (j:=0) (vs:=B0) Z Z Z Z aU Z Z Z Z Zf (zA Z) Z Z Z ?_
 intro aJ aV
 have aE:sW w φ bg [.blk aq 45 B0] aJ:=aV
 refine eN (sR gEn Z (oM Z av (oL Z (aE.ldBA (j:=0) Z Z Z yF Zf (vs:=B0) Z Z) (bnK a9 fun bv aQ ba=>?_))))
 have aR:=aZ.le ak
 refine OKS.callV (a:=ac) Z Z Z Z Z Z (zB Z zN) aE aR Z aQ ?_
 rintro ap bi bu aK be aW ⟨rfl,rfl⟩
 have aF:sW w φ ap [.blk aq 45 B0] aK:=aW
 refine oR Z (Ze Z Z) (eN (ifc ba ?_ ?_))
 intro af bb
 refine zt (nC af.out) (Zh (zo (zH (rR fL2 Z (oR Z (ZG (za Z ag Z) (congrArg (jV) a8.out)) (oM Z Z (zb ?_)))))))
 have q:=hU bb
 obtain rfl:=q
 exact zH ⟨rfl,_,rfl,⟨ap,rfl,av,ax,ay,(ak.trans be),(aF.pick [] _ (by decide) rfl)⟩⟩
 intro af bc
 refine ZL (nF (af.out)) (sR fL1 Z (oA Z Z (eN (zS (ze (zR ?_))))))
 have q:=wAZ bc
 obtain ⟨bf,bd,aM⟩:=q
 have q:=wBI hm ah (a5 bf aM)
 obtain rfl:=q
 refine zR (ze (zR ?_))
 have hE:=hU bd;first | subst r | cases hE
 exact ⟨rfl,_,(ZM rfl),ap,_,(aF.pick [] _ (by decide) rfl),rfl,rfl⟩
 rintro ⟨⟩ bx bm ⟨bh,aO,bp,bq,aN,br,aX⟩ a6
 have aG:=wCO hm ah a6
 try dsimp only at aG
 have aL:Hid (¬ ((↑(((↑p0.length:Int):Int) - 0).toNat:Int) < (↑p0.length:Int))):=zM (wAc)
 refine sR fL1 Z (oR Z (zc Z aO aN) (eN (zL (cF Z aL (Za (zi (zi (ZQ (zH (sR fL1 Z (oA Z Z (eN (zS ?_)))))))))))))
 have hE:=hU aG;first | subst r | cases hE
 exact ⟨Z,_,(ZM Z),bh,_,aX,Z,Z⟩
theorem wEq (p0:wAC) (am:Option Addr) (aq:Nat) (an:Option Addr) (au:Nat) (ao:Option Addr) (av:Nat) (ap:Option Addr) (ax:Nat) (p1:List wAS) (aK:Option Addr) (aL:Nat) (w:World) (φ:PHeap) (hS:St0 w φ []) (a7:Sl φ 1 am aq p0.Starts.length (hD KL.encI p0.Starts)) (a8:Sl φ 2 an au p0.Splits.length (hD wAE p0.Splits)) (a9:Sl φ 3 ao av p0.Clocks.length (hD wAB p0.Clocks)) (ba:Sl φ 4 ap ax p0.Readings.length (hD wAA p0.Readings)) (bs:Sl φ 2 aK aL p1.length (hD wAU p1)) {r:(Option wAW) × Int} (hm:wDn p0 p1=some r):Gv Try.prog 46 [.agg #[.slice am p0.Starts.length aq,.slice an p0.Splits.length au,.slice ao p0.Clocks.length av,.slice ap p0.Readings.length ax],.slice aK p1.length aL] w (wCF w [] φ (fun φ_ L_ v=>match r.1 with | none=>v=.tuple #[.pointer none,jV r.2]/\L_=[] | some d=>∃ (b0:Nat) (A0p00:Option Addr) (c0p00:Nat) (A0p01:Option Addr) (c0p01:Nat) (A0p02:Option Addr) (c0p02:Nat) (A0p03:Option Addr) (c0p03:Nat) (m0p1:Nat) (es0p1:Array MapEntry) (ck0p1:Nat) (A0p2:Option Addr) (c0p2:Nat),v=.tuple #[.pointer (some ⟨b0,0,none⟩),jV r.2]/\L_=[.blk b0 124 [.slice A0p00 d.Race.Starts.length c0p00,.slice A0p01 d.Race.Splits.length c0p01,.slice A0p02 d.Race.Clocks.length c0p02,.slice A0p03 d.Race.Readings.length c0p03,.map (some m0p1),.slice A0p2 d.edges.length c0p2],.obj m0p1 (.map es0p1 ck0p1)]/\Sl φ_ 1 A0p00 c0p00 d.Race.Starts.length (hD KL.encI d.Race.Starts)/\Sl φ_ 2 A0p01 c0p01 d.Race.Splits.length (hD wAE d.Race.Splits)/\Sl φ_ 3 A0p02 c0p02 d.Race.Clocks.length (hD wAB d.Race.Clocks)/\Sl φ_ 4 A0p03 c0p03 d.Race.Readings.length (hD wAA d.Race.Readings)/\MpR es0p1 wBE wBK d.number/\Sl φ_ 7 A0p2 c0p2 d.edges.length (hD wAQ d.edges))):=by
 unfold wDn at hm
 refine Gv.of Try.func46 Z Try.ntmps46 Try.results46 Z (sR gDy Z ?_)
 let B0:List Value:=[.slice am p0.Starts.length aq,.slice an p0.Splits.length au,.slice ao p0.Clocks.length av,.slice ap p0.Readings.length ax]
 refine zu (cs:=B0) rfl rfl rfl rfl rfl rfl (by rfl) hS ?_
 intro W1 b2 bq
 refine oA Z Z (oA Z Z (eN (sR (.fl 0 (.fx 1 (wFy (.nil)) .stop)) Z (oL Z (bq.ldBA (j:=0) Z Z Z zf zX (vs:=B0) Z Z) ?_))))
 have q:=bnd hm
 obtain ⟨⟨x5,x6⟩,h7,ay⟩:=q
 try dsimp only at ay
 refine zF 0 Z Z Z Z (zD Z Z Try.call60 (zB Z zN) Z) bq (fun hs=>wDo p0 am aq an au ao av ap ax W1 φ hs a7 a8 a9 ba h7) (.inr Z) ?_
 rintro af cJ cP aF ac bp bn
 rcases x5 with _ | ae
 try dsimp only at ay
 obtain ⟨rfl,rfl⟩:=bn
 have a5:sW w φ af [.blk b2 28 B0] aF:=bp
 refine oM Z Z (oR Z (zU Z Z (v:=.pointer none) Z) (oR Z (zU Z Z (v:=jV x6) Z) (oA Z Z (oA Z Z (eN (zL (zY (sR fL3 Z (oM Z Z (oR Z (ZZ Z Z Z) (oA Z Z (eN (ifc ay ?_ ?_)))))))))))))
 intro aW cy
 refine zt (zw (fun h=>h aW.out)) (sR (wCa gEg) Z (oM Z Z (oL Z (a5.ldBA (j:=0) Z Z Z zf zX (vs:=B0) Z Z) (oR Z (yl Z (zB Z zN) zN) ?_))))
 have bH:=bs.le ac
 have bI:=a7.le ac
 have bJ:=a8.le ac
 have bK:=a9.le ac
 have bL:=ba.le ac
 have cg:FnOK Try.prog af (.func (.func 84) #[.agg B0.toArray] #[]) wLd wLe (fun x=>wAk p0 x):=⟨84,[.agg B0.toArray],[],rfl,Try.call84,fun bc w1 x y vs le hs ha hm=>by obtain rfl:=ha;exact wCY p0 am aq an au ao av ap ax x w1 bc hs (bI.le le) (bJ.le le) (bK.le le) (bL.le le) hm⟩
 refine bnK cy fun cS bM cz=>zF 0 Z Z Z Z (zD Z Z Try.call85 (zB Z (zB Z zN)) Z) a5 (fun hs=>wDU p1 aK aL (fun x=>wAk p0 x) (.func (.func 84) #[.agg B0.toArray] #[]) aF af hs bH cg bM) (.inr Z) ?_
 rintro bv cL cQ bB cN cn ⟨rfl,rfl⟩
 have co:sW w φ bv [.blk b2 28 B0] bB:=cn
 refine oR Z (Ze Z Z) (oA Z Z (eN (ifc cz ?_ ?_)))
 intro aX cA
 refine zt (nC aX.out) (sR gEm Z (oM Z Z ?_))
 cases cA
 intro aX cB
 refine ZL (nF (aX.out)) (sR fL2 Z (oA Z Z (oA Z Z (eN (zS (ze (zR ?_)))))))
 cases cB
 exact ⟨rfl,_,(wDx rfl rfl),bv,_,(co.pick [] _ (by decide) rfl),rfl,rfl⟩
 intro aW cC
 refine cT Z aW (sR fL3 Z (oM Z Z (oA Z Z (oA Z Z (eN (zS (ze (zR ?_))))))))
 cases cC
 exact ⟨rfl,_,(wDx rfl rfl),af,_,(a5.pick [] _ (by decide) rfl),rfl,rfl⟩
 try dsimp only at ay
 obtain ⟨aG,aM,aS,aN,aT,aO,aU,aP,aV,ag,aj,ai,aD,aH,rfl,rfl,bN,bP,bQ,bR,bg⟩:=bn
 let B1:Res:=.blk aG 124 [.slice aM ae.Race.Starts.length aS,.slice aN ae.Race.Splits.length aT,.slice aO ae.Race.Clocks.length aU,.slice aP ae.Race.Readings.length aV,.map (some ag),.slice aD ae.edges.length aH]
 let B2:Res:=.row aD aH 130 7 (hD wAQ ae.edges)
 have a6:sW w φ af [B1,.obj ag (.map aj ai),B2,.blk b2 28 B0] aF:=bp
 refine oM Z Z (oR Z (zU Z Z (v:=.pointer (some ⟨aG,0,none⟩)) Z) (oR Z (zU Z Z (v:=jV x6) Z) (oA Z Z (oA Z Z (eN (zL (zY (sR fL3 Z (oM Z Z (oR Z (ZZ Z Z Z) (oA Z Z (eN (ifc ay ?_ ?_)))))))))))))
 intro aY cD
 refine zt (zw (fun h=>h aY.out)) (sR (wCa gEg) Z (oM Z Z (oL Z (a6.ldBA (j:=3) Z Z Z zf zX (vs:=B0) Z Z) (oR Z (yl Z (zB Z zN) zN) ?_))))
 have bS:=bs.le ac
 have bU:=a7.le ac
 have bV:=a8.le ac
 have bW:=a9.le ac
 have bX:=ba.le ac
 have ci:FnOK Try.prog af (.func (.func 84) #[.agg B0.toArray] #[]) wLd wLe (fun x=>wAk p0 x):=⟨84,[.agg B0.toArray],[],rfl,Try.call84,fun bc w1 x y vs le hs ha hm=>by obtain rfl:=ha;exact wCY p0 am aq an au ao av ap ax x w1 bc hs (bU.le le) (bV.le le) (bW.le le) (bX.le le) hm⟩
 refine bnK cD fun cU bZ cE=>zF 0 Z Z Z Z (zD Z Z Try.call85 (zB Z (zB Z zN)) Z) a6 (fun hs=>wDU p1 aK aL (fun x=>wAk p0 x) (.func (.func 84) #[.agg B0.toArray] #[]) aF af hs bS ci bZ) (.inr Z) ?_
 rintro bw cM cR aQ aI cp ⟨rfl,rfl⟩
 have br:sW w φ bw [B1,.obj ag (.map aj ai),B2,.blk b2 28 B0] aQ:=cp
 refine oR Z (Ze Z Z) (oA Z Z (eN (ifc cE ?_ ?_)))
 intro aZ cG
 refine zt (nC aZ.out) (sR gEm Z (oM Z Z ?_))
 have q:=br.freezeR (k:=2) (n:=ae.edges.length) rfl (wAD (f:=wAQ) (sz:=7) (fun _=>rfl) ae.edges) (by decide)
 obtain ⟨bx,aJ,bt,cq⟩:=q
 have cr:sW w φ bx [B1,.obj ag (.map aj ai),.blk b2 28 B0] aQ:=cq
 have ca:=bN.le aI
 have bh:=ca.le aJ
 have cb:=bP.le aI
 have bi:=cb.le aJ
 have cc:=bQ.le aI
 have bj:=cc.le aJ
 have cd:=bR.le aI
 have bm:=cd.le aJ
 refine bnK cG fun cV cf cH=>zF 2 Z Z Z Z (zD Z Z Try.call63 (zB Z zN) Z) cr (fun hs=>wBx ae aG aM aS aN aT aO aU aP aV ag aj ai aD aH aQ bx hs bh bi bj bm bg bt cf) (.inl Z) ?_
 rintro bd cK cO bA az cm ⟨rfl,rfl⟩
 have bo:sW w φ bd [B1,.obj ag (.map aj ai),.blk b2 28 B0] bA:=cm
 refine oR Z (Ze Z Z) (oA Z Z (eN (ifc cH ?_ ?_)))
 intro aR ct
 refine zt (nC aR.out) (Zh (zo (zH (sR fL3 Z (oM Z Z (oA Z Z (oA Z Z (eN (zS ?_)))))))))
 have bC:=bh.le az
 have bD:=bi.le az
 have bE:=bj.le az
 have bF:=bm.le az
 have bG:=bt.le az
 cases ct
 exact ⟨rfl,_,(wDx rfl rfl),bd,_,(bo.pick [0,1] _ (by decide) rfl),aG,aM,aS,aN,aT,aO,aU,aP,aV,ag,aj,ai,aD,aH,rfl,rfl,bC,bD,bE,bF,bg,bG⟩
 intro aR cu
 refine ZL (nF (aR.out)) (sR fL2 Z (oA Z Z (oA Z Z (eN (zS (ze (zR ?_)))))))
 cases cu
 exact ⟨rfl,_,(wDx rfl rfl),bd,_,(bo.pick [] _ (by decide) rfl),rfl,rfl⟩
 intro aZ cw
 refine ZL (nF (aZ.out)) (sR fL2 Z (oA Z Z (oA Z Z (eN (zS (ze (zR ?_)))))))
 cases cw
 exact ⟨rfl,_,(wDx rfl rfl),bw,_,(br.pick [] _ (by decide) rfl),rfl,rfl⟩
 intro aY cx
 refine cT Z aY (sR fL3 Z (oM Z Z (oA Z Z (oA Z Z (eN (zS (ze (zR ?_))))))))
 cases cx
 exact ⟨rfl,_,(wDx rfl rfl),af,_,(a6.pick [] _ (by decide) rfl),rfl,rfl⟩
theorem wDV (p0:wAS) (w:World) (φ:PHeap) (hS:St0 w φ [])  {r:wAJ} (hm:wDF p0=some r):Gv Try.prog 49 [.agg #[jV p0.Skier,jV p0.Mat]] w (wCF w [] φ (fun φ_ L_ v=>v=.agg #[jV r.skier,jV r.mat]/\L_=[])):=by
 unfold wDF at hm
 refine Gv.of Try.func49 Z Try.ntmps49 Try.results49 Z (sR gDw Z ?_)
 let B0:List Value:=[jV p0.Skier,jV p0.Mat]
 refine zu (cs:=B0) rfl rfl rfl rfl rfl rfl (by rfl) hS ?_
 intro W1 b2 aj
 refine zV (cs:=[jV 0,jV 0]) Z Z Z Z Z zd Z aj ?_
 intro W5 b6 ac
 refine eN (sR (wIJ (.fx 5 .nil .stop)) Z (oR Z (zG Z Z Try.runUnderlying45 Z zC) (oL Z (ac.ldB (j:=1) Z Z Z zJ (v:=jV p0.Skier) Z) (oR Z (zG Z Z Try.runUnderlying45 Z zC) (oL Z (ac.ldB (j:=1) Z Z Z zJ (v:=jV p0.Mat) Z) (oR Z (zl (pv:=[(0,jV p0.Skier),(1,jV p0.Mat)]) (z:=[jV 0,jV 0]) (cs:=B0) Z (wAG Z (wAG Z wAN)) zd wBU Z Z) (zW (j:=0) (vs:=B0) Z Z Z Z ac Z Z Z Z zI (zA Z) Z Z Z ?_)))))))
 intro W9 ai
 have ae:sW w φ φ [.blk b6 104 B0,.blk b2 45 B0] W9:=ai
 refine eN (zS ?_)
 cases hm
 exact ⟨rfl,_,(wGV (v:=.agg B0.toArray) ⟨⟨_,rfl,(wBA zh zI (ae.blkAt (k:=0) rfl) (vs:=B0) rfl rfl)⟩,trivial⟩),φ,_,(ae.pick [] _ (by decide) rfl),rfl,rfl⟩
theorem wEB (p0:wAW) (av:Nat) (aD:Option Addr) (aI:Nat) (aE:Option Addr) (aJ:Nat) (aF:Option Addr) (aK:Nat) (aG:Option Addr) (aL:Nat) (ab:Nat) (ac:Array MapEntry) (ae:Nat) (aH:Option Addr) (aM:Nat) (p1:wAJ) (p2:wAJ) (w:World) (φ:PHeap) (hS:St0 w φ [.blk av 124 [.slice aD p0.Race.Starts.length aI,.slice aE p0.Race.Splits.length aJ,.slice aF p0.Race.Clocks.length aK,.slice aG p0.Race.Readings.length aL,.map (some ab),.slice aH p0.edges.length aM],.obj ab (.map ac ae)]) (bw:Sl φ 1 aD aI p0.Race.Starts.length (hD KL.encI p0.Race.Starts)) (bx:Sl φ 2 aE aJ p0.Race.Splits.length (hD wAE p0.Race.Splits)) (bz:Sl φ 3 aF aK p0.Race.Clocks.length (hD wAB p0.Race.Clocks)) (bA:Sl φ 4 aG aL p0.Race.Readings.length (hD wAA p0.Race.Readings)) (aN:MpR ac wBE wBK p0.number) (bB:Sl φ 7 aH aM p0.edges.length (hD wAQ p0.edges)) {r:wAK} (hm:wCV p0 p1 p2=some r):Gv Try.prog 47 [.pointer (some ⟨av,0,none⟩),.agg #[jV p1.skier,jV p1.mat],.agg #[jV p2.skier,jV p2.mat]] w (wCF w [.blk av 124 [.slice aD p0.Race.Starts.length aI,.slice aE p0.Race.Splits.length aJ,.slice aF p0.Race.Clocks.length aK,.slice aG p0.Race.Readings.length aL,.map (some ab),.slice aH p0.edges.length aM],.obj ab (.map ac ae)] φ (fun φ_ L_ v=>v=.agg #[jV r.Lo,jV r.Hi]/\L_=[.blk av 124 [.slice aD p0.Race.Starts.length aI,.slice aE p0.Race.Splits.length aJ,.slice aF p0.Race.Clocks.length aK,.slice aG p0.Race.Readings.length aL,.map (some ab),.slice aH p0.edges.length aM],.obj ab (.map ac ae)])):=by
 unfold wCV at hm
 refine Gv.of Try.func47 Z Try.ntmps47 Try.results47 Z (sR (.fx 0 gDv .stop) Z ?_)
 let B0:List Value:=[jV p1.skier,jV p1.mat]
 refine zu (cs:=B0) rfl rfl rfl rfl rfl rfl (by rfl) hS ?_
 intro W3 b4 dE
 let B1:List Value:=[jV p2.skier,jV p2.mat]
 refine zu (cs:=B1) rfl rfl rfl rfl rfl rfl (by rfl) dE ?_
 intro W7 b8 dM
 let B2:List Value:=[jV 0,jV 0]
 refine zV (cs:=B2) Z Z Z Z Z ZS Z dM ?_
 intro cc ai dp
 refine eN ?_
 have q:=bnd hm
 obtain ⟨⟨az,bD⟩,dT,cC⟩:=q
 try dsimp only at cC
 let B3:Res:=.blk av 124 [.slice aD p0.Race.Starts.length aI,.slice aE p0.Race.Splits.length aJ,.slice aF p0.Race.Clocks.length aK,.slice aG p0.Race.Readings.length aL,.map (some ab),.slice aH p0.edges.length aM]
 refine yO (fun σ_ w_=>∃ (φ_:PHeap) (a5:Nat) (aS:Option Addr) (aU:Nat) (aY:Option Addr) (a7:Nat),σ_ 0=.pointer (some ⟨av,0,none⟩)/\σ_ 4=.pointer (some ⟨b4,0,none⟩)/\σ_ 5=.pointer (some ⟨b8,0,none⟩)/\σ_ 6=.pointer (some ⟨ai,0,none⟩)/\σ_ 7=.pointer (some ⟨a5,0,none⟩)/\PHeap.Le φ φ_/\SW w [B3,.obj ab (.map ac ae)] φ φ_ [B3,.obj ab (.map ac ae),.blk ai 41 B2,.blk b8 104 B1,.blk b4 104 B0,.blk a5 118 [.slice aS az.length aU,.slice aY bD.length a7],.row aS aU 3 1 (hD KL.encI az),.row aY a7 3 1 (hD KL.encI bD)] w_) ?_ ?_
 have q:=bnd dT
 obtain ⟨⟨ap,cG,cH⟩,cx,bJ⟩:=q
 try dsimp only at bJ
 refine ZE ZF [3,3,3,3,1,1,1,0,3,3,3,3,2,0,3,3] (wKy (.fx 7 (wIK gEq) (.fx 12 (.fx 7 (wIK gEh) (.stop)) (.stop)))) (by kernel_rfl) ?_
 have aW:=dp.drew
 generalize hw_W54:({ cc with drawn:=cc.drawn + 1 }:World)=ci at aW ⊢
 refine oM Z Z (oM Z Z (oR Z (Zd Z Z) (oR Z (zG Z Z ZI Z Zx) (oL Z (aW.ldB (j:=3) Z Z Z yD (v:=.map (some ab)) Z) (oL Z (aW.ldBA (j:=2) Z Z Z zh zI (vs:=B0) Z Z) (oL Z (aW.lookup1 (j:=4) (mk:=wBE) (mv:=wBK) (a:=p1) (z:=0) Z Z Z Z (wBp ZO) wCz zz aN) (zr ?_ ?_)))))))
 have dF:SW w [B3,.obj ab (.map ac ae)] φ φ [B3,.obj ab (.map ac ae),.blk ai 41 B2,.blk b8 104 B1,.blk b4 104 B0] ci:=aW.pick [3,4,0,1,2] _ (by decide) rfl
 refine zF 2 Z Z Z Z (zD Z Z Try.call57 (zB Z (zB Z (zB Z zN))) Z) dF (fun hs=>wBG p0 av aD aI aE aJ aF aK aG aL ab ac ae aH aM (wBH p0.number p1 0) false ci φ hs bw bx bz bA aN bB cx) (.inl Z) ?_
 rintro bM d5 eu cQ dW dG ⟨be,br,bf,bs,rfl,rfl⟩
 let B4:Res:=.row be br 3 1 (hD KL.encI ap.far)
 let B5:Res:=.row bf bs 3 1 (hD KL.encI ap.by_)
 have dH:SW w [B3,.obj ab (.map ac ae)] φ bM [B4,B5,B3,.obj ab (.map ac ae),.blk ai 41 B2,.blk b8 104 B1,.blk b4 104 B0] cQ:=dG
 refine oM Z Z (oR Z (zU Z Z (v:=.agg #[.slice be ap.far.length br,.slice bf ap.by_.length bs]) Z) (oR Z (zU Z Z (v:=jV cG) Z) (oR Z (zU Z Z (v:=.bool cH) Z) (zV (cs:=[.slice none 0 0,.slice none 0 0]) Z Z Z Z Z Zk Z dH ?_))))
 intro ej co dI
 let B6:List Value:=[.slice be ap.far.length br,.slice bf ap.by_.length bs]
 refine zW (j:=0) (vs:=B6) Z Z Z Z dI Z Z Z Z Zy (zA Z) Z Z Z ?_
 intro cR dJ
 have dK:SW w [B3,.obj ab (.map ac ae)] φ bM [.blk co 118 B6,B4,B5,B3,.obj ab (.map ac ae),.blk ai 41 B2,.blk b8 104 B1,.blk b4 104 B0] cR:=dJ
 refine oA Z Z (oA Z Z (zb ?_))
 cases bJ
 exact zH ⟨rfl,⟨bM,co,be,br,bf,bs,rfl,rfl,rfl,rfl,rfl,dW,(dK.pick [3,4,5,6,7,0,1,2] _ (by decide) rfl)⟩⟩
 let B7:List Value:=[.slice none 0 0,.slice none 0 0]
 refine zV (cs:=B7) Z Z Z Z Z Zk Z aW ?_
 intro cm bi dL
 have dN:SW w [B3,.obj ab (.map ac ae)] φ φ [B3,.obj ab (.map ac ae),.blk bi 118 B7,.blk ai 41 B2,.blk b8 104 B1,.blk b4 104 B0] cm:=dL.pick [4,5,0,1,2,3] _ (by decide) rfl
 refine zF 2 Z Z Z Z (zD Z Z Try.call57 (zB Z (zB Z (zB Z zN))) Z) dN (fun hs=>wBG p0 av aD aI aE aJ aF aK aG aL ab ac ae aH aM (wBH p0.number p1 0) false cm φ hs bw bx bz bA aN bB cx) (.inl Z) ?_
 rintro bN d7 ew cS dX di ⟨a8,bj,a9,bm,rfl,rfl⟩
 let B8:Res:=.row a8 bj 3 1 (hD KL.encI ap.far)
 let B9:Res:=.row a9 bm 3 1 (hD KL.encI ap.by_)
 have dk:SW w [B3,.obj ab (.map ac ae)] φ bN [B8,B9,B3,.obj ab (.map ac ae),.blk bi 118 B7,.blk ai 41 B2,.blk b8 104 B1,.blk b4 104 B0] cS:=di
 refine oM Z Z (oR Z (zU Z Z (v:=.agg #[.slice a8 ap.far.length bj,.slice a9 ap.by_.length bm]) Z) (oR Z (zU Z Z (v:=jV cG) Z) (oR Z (zU Z Z (v:=.bool cH) Z) ?_)))
 let bP:List Value:=[.slice a8 ap.far.length bj,.slice a9 ap.by_.length bm]
 refine zW (j:=4) (vs:=bP) Z Z Z Z dk Z Z Z Z Zy (zA Z) Z Z Z ?_
 intro cJ dl
 have dm:SW w [B3,.obj ab (.map ac ae)] φ bN [B8,B9,B3,.obj ab (.map ac ae),.blk bi 118 bP,.blk ai 41 B2,.blk b8 104 B1,.blk b4 104 B0] cJ:=dl
 refine oA Z Z (oA Z Z (zb ?_))
 cases bJ
 exact zH ⟨rfl,⟨bN,bi,a8,bj,a9,bm,rfl,rfl,rfl,rfl,rfl,dX,(dm.pick [2,3,5,6,7,4,0,1] _ (by decide) rfl)⟩⟩
 rintro ey cd ⟨bE,a5,aS,aU,aY,a7,bt,cp,bH,cq,cr,ax,dn⟩
 have q:=bnd cC
 obtain ⟨⟨ay,bC⟩,dS,cB⟩:=q
 try dsimp only at cB
 let aO:Res:=.blk a5 118 [.slice aS az.length aU,.slice aY bD.length a7]
 let aP:Res:=.row aS aU 3 1 (hD KL.encI az)
 let aQ:Res:=.row aY a7 3 1 (hD KL.encI bD)
 refine yO (fun σ_ w_=>∃ (φ_:PHeap) (bg:Nat) (aR:Option Addr) (aT:Nat) (aX:Option Addr) (a6:Nat),σ_ 0=.pointer (some ⟨av,0,none⟩)/\σ_ 4=.pointer (some ⟨b4,0,none⟩)/\σ_ 5=.pointer (some ⟨b8,0,none⟩)/\σ_ 6=.pointer (some ⟨ai,0,none⟩)/\σ_ 7=.pointer (some ⟨a5,0,none⟩)/\σ_ 10=.pointer (some ⟨bg,0,none⟩)/\PHeap.Le bE φ_/\SW w [B3,.obj ab (.map ac ae)] φ φ_ [B3,.obj ab (.map ac ae),.blk ai 41 B2,.blk b8 104 B1,.blk b4 104 B0,aP,aQ,aO,.blk bg 118 [.slice aR ay.length aT,.slice aX bC.length a6],.row aR aT 3 1 (hD KL.encI ay),.row aX a6 3 1 (hD KL.encI bC)] w_) ?_ ?_
 have q:=bnd dS
 obtain ⟨⟨ao,cD,cE⟩,cw,bI⟩:=q
 try dsimp only at bI
 refine ZE ZF [3,3,3,3,1,1,1,0,3,3,3,3,2,0,3,3] (wKy (.fx 7 (wIK gEq) (.fx 12 (.fx 7 (wIK gEh) (.stop)) (.stop)))) (by kernel_rfl) ?_
 have aV:=dn.drew
 generalize hw_W172:({ cd with drawn:=cd.drawn + 1 }:World)=cK at aV ⊢
 refine oM Z bt (oM Z bt (oR Z (Zd Z Z) (oR Z (zG Z Z ZI Z Zx) (oL Z (aV.ldB (j:=0) Z Z Z yD (v:=.map (some ab)) Z) (oL Z (aV.ldBA (j:=3) Z Z bH zh zI (vs:=B1) Z Z) (oL Z (aV.lookup1 (j:=1) (mk:=wBE) (mv:=wBK) (a:=p2) (z:=0) Z Z Z Z (wBp ZO) wCz zz aN) (zr ?_ ?_)))))))
 have cY:=bw.le ax
 have cZ:=bx.le ax
 have c6:=bz.le ax
 have da:=bA.le ax
 have db:=bB.le ax
 refine zF 2 Z Z Z Z (zD Z Z Try.call57 (zB Z (zB Z (zB Z zN))) Z) aV (fun hs=>wBG p0 av aD aI aE aJ aF aK aG aL ab ac ae aH aM (wBH p0.number p2 0) false cK bE hs cY cZ c6 da aN db cw) (.inl Z) ?_
 rintro bK dY ep cL dU dq ⟨ba,bn,bb,bo,rfl,rfl⟩
 let bQ:Res:=.row ba bn 3 1 (hD KL.encI ao.far)
 let bR:Res:=.row bb bo 3 1 (hD KL.encI ao.by_)
 have dr:SW w [B3,.obj ab (.map ac ae)] φ bK [bQ,bR,B3,.obj ab (.map ac ae),.blk ai 41 B2,.blk b8 104 B1,.blk b4 104 B0,aO,aP,aQ] cL:=dq
 refine oM Z Z (oR Z (zU Z Z (v:=.agg #[.slice ba ao.far.length bn,.slice bb ao.by_.length bo]) Z) (oR Z (zU Z Z (v:=jV cD) Z) (oR Z (zU Z Z (v:=.bool cE) Z) (zV (cs:=[.slice none 0 0,.slice none 0 0]) Z Z Z Z Z Zk Z dr ?_))))
 intro d9 cn dt
 let bS:List Value:=[.slice ba ao.far.length bn,.slice bb ao.by_.length bo]
 refine zW (j:=0) (vs:=bS) Z Z Z Z dt Z Z Z Z Zy (zA Z) Z Z Z ?_
 intro cM du
 have dv:SW w [B3,.obj ab (.map ac ae)] φ bK [.blk cn 118 bS,bQ,bR,B3,.obj ab (.map ac ae),.blk ai 41 B2,.blk b8 104 B1,.blk b4 104 B0,aO,aP,aQ] cM:=du
 refine oA Z Z (oA Z Z (zb ?_))
 cases bI
 exact zH ⟨rfl,⟨bK,cn,ba,bn,bb,bo,bt,cp,bH,cq,cr,rfl,dU,(dv.pick [3,4,5,6,7,9,10,8,0,1,2] _ (by decide) rfl)⟩⟩
 let bF:List Value:=[.slice none 0 0,.slice none 0 0]
 refine zV (cs:=bF) Z Z Z Z Z Zk Z aV ?_
 intro cf bh dw
 have dd:=bw.le ax
 have de:=bx.le ax
 have df:=bz.le ax
 have dg:=bA.le ax
 have dh:=bB.le ax
 have dx:SW w [B3,.obj ab (.map ac ae)] φ bE [B3,.obj ab (.map ac ae),.blk bh 118 bF,.blk ai 41 B2,.blk b8 104 B1,.blk b4 104 B0,aO,aP,aQ] cf:=dw.pick [1,2,0,3,4,5,6,7,8] _ (by decide) rfl
 refine zF 2 Z Z Z Z (zD Z Z Try.call57 (zB Z (zB Z (zB Z zN))) Z) dx (fun hs=>wBG p0 av aD aI aE aJ aF aK aG aL ab ac ae aH aM (wBH p0.number p2 0) false cf bE hs dd de df dg aN dh cw) (.inl Z) ?_
 rintro bL dZ er cN dV dy ⟨bc,bp,bd,bq,rfl,rfl⟩
 let bU:Res:=.row bc bp 3 1 (hD KL.encI ao.far)
 let bV:Res:=.row bd bq 3 1 (hD KL.encI ao.by_)
 have dz:SW w [B3,.obj ab (.map ac ae)] φ bL [bU,bV,B3,.obj ab (.map ac ae),.blk bh 118 bF,.blk ai 41 B2,.blk b8 104 B1,.blk b4 104 B0,aO,aP,aQ] cN:=dy
 refine oM Z Z (oR Z (zU Z Z (v:=.agg #[.slice bc ao.far.length bp,.slice bd ao.by_.length bq]) Z) (oR Z (zU Z Z (v:=jV cD) Z) (oR Z (zU Z Z (v:=.bool cE) Z) ?_)))
 let bW:List Value:=[.slice bc ao.far.length bp,.slice bd ao.by_.length bq]
 refine zW (j:=4) (vs:=bW) Z Z Z Z dz Z Z Z Z Zy (zA Z) Z Z Z ?_
 intro cO dA
 have dB:SW w [B3,.obj ab (.map ac ae)] φ bL [bU,bV,B3,.obj ab (.map ac ae),.blk bh 118 bW,.blk ai 41 B2,.blk b8 104 B1,.blk b4 104 B0,aO,aP,aQ] cO:=dA
 refine oA Z Z (oA Z Z (zb ?_))
 cases bI
 exact zH ⟨rfl,⟨bL,bh,bc,bp,bd,bq,bt,cp,bH,cq,cr,rfl,dV,(dB.pick [2,3,5,6,7,9,10,8,4,0,1] _ (by decide) rfl)⟩⟩
 rintro eA cg ⟨cI,bg,aR,aT,aX,a6,ct,cU,cV,cu,cW,cX,eo,dC⟩
 refine zL (ZE ZF [3,1,3,3,3,1,1,1,3,1,3,3,1,3,3,3,1,1,1,3,1,3,0] (wND (.fx 22 .nil .stop)) (by kernel_rfl) ?_)
 have an:=dC.drew
 generalize hw_W258:({ cg with drawn:=cg.drawn + 1 }:World)=ef at an ⊢
 refine oR Z (zG Z cX ZU Z zy) (oL Z (an.ldB (j:=8) Z Z Z ZK (v:=.slice aR ay.length aT) Z) (oM Z ct (oR Z (Zd Z Z) (oR Z (zG Z Z ZI Z Zx) (oL Z (an.ldB (j:=0) Z Z Z yD (v:=.map (some ab)) Z) (oL Z (an.ldBA (j:=4) Z Z cU zh zI (vs:=B0) Z Z) (oL Z (an.lookup1 (j:=1) (mk:=wBE) (mv:=wBK) (a:=p1) (z:=0) Z Z Z Z (wBp ZO) wCz zz aN) (bnK cB fun _ bu dQ=>?_))))))))
 obtain ⟨ek,cy⟩:=an.rowSome (j:=9) rfl (by rw [wAD (f:=KL.encI) (sz:=1) (fun _=>rfl) ay];have hz:=wAY bu;omega)
 refine oR Z (ZY Z Z cy Z zE zC (wBm bu) (wBn bu)) ?_
 have dO:=wBr (xs:=ay) (wAY bu)
 refine ZJ rfl rfl rfl rfl (an.ldR (j:=9) rfl cy rfl rfl zJ (wAj (sz:=1) (fun _=>rfl) _ _ 0 _ dO (by first | omega | rfl | simp) rfl)) rfl (zg rfl rfl rfl rfl (fun _=>Runs.negw rfl rfl) (zg rfl rfl rfl rfl (fun _=>zG rfl cW ZU rfl zy) (ZJ rfl rfl rfl rfl (an.ldB (j:=7) rfl rfl rfl ZK (v:=.slice aS az.length aU) rfl) rfl (zk rfl rfl rfl rfl rfl ct (zg rfl rfl rfl rfl (fun _=>Zd rfl rfl) (zg rfl rfl rfl rfl (fun _=>zG rfl rfl ZI rfl Zx) (ZJ rfl rfl rfl rfl (an.ldB (j:=0) rfl rfl rfl yD (v:=.map (some ab)) rfl) rfl (ZJ rfl rfl rfl rfl (an.ldBA (j:=3) rfl rfl cV zh zI (vs:=B1) rfl rfl) rfl (ZJ rfl rfl rfl rfl (an.lookup1 (j:=1) (mk:=wBE) (mv:=wBK) (a:=p2) (z:=0) rfl rfl rfl rfl (wBp ZO) wCz zz aN) rfl (bnK dQ fun _ bv dR=>?_))))))))))
 obtain ⟨en,cz⟩:=an.rowSome (j:=5) rfl (by rw [wAD (f:=KL.encI) (sz:=1) (fun _=>rfl) az];have hz:=wAY bv;omega)
 refine oR Z (ZY Z Z cz Z zE zC (wBm bv) (wBn bv)) ?_
 have dP:=wBr (xs:=az) (wAY bv)
 refine ZJ rfl rfl rfl rfl (an.ldR (j:=5) rfl cz rfl rfl zJ (wAj (sz:=1) (fun _=>rfl) _ _ 0 _ dP (by first | omega | rfl | simp) rfl)) rfl ?_
 let aZ:List Value:=[jV (w64 (-(gd ay (wBH p0.number p1 0).toNat))),jV (gd az (wBH p0.number p2 0).toNat)]
 refine oR Z (zl (pv:=[(0,jV (w64 (-(gd ay (wBH p0.number p1 0).toNat)))),(1,jV (gd az (wBH p0.number p2 0).toNat))]) (z:=B2) (cs:=aZ) Z (wAG Z (wAG Z wAN)) ZS wCN Z Z) (zW (j:=2) (vs:=aZ) Z Z Z Z an Z cu Z Z ZA (zA Z) Z Z Z ?_)
 intro cP dD
 have cA:SW w [B3,.obj ab (.map ac ae)] φ cI [B3,.obj ab (.map ac ae),.blk ai 41 aZ,.blk b8 104 B1,.blk b4 104 B0,aP,aQ,aO,.blk bg 118 [.slice aR ay.length aT,.slice aX bC.length a6],.row aR aT 3 1 (hD KL.encI ay),.row aX a6 3 1 (hD KL.encI bC)] cP:=dD
 refine eN (zS ?_)
 cases dR
 exact ⟨rfl,_,(wGV (v:=.agg aZ.toArray) ⟨⟨_,cu,(wBA yA ZA (cA.blkAt (k:=2) rfl) (vs:=aZ) rfl rfl)⟩,trivial⟩),cI,_,(cA.pick [0,1] _ (by decide) rfl),rfl,rfl⟩
theorem wGD (p0:wAC) (aD:Option Addr) (aH:Nat) (aE:Option Addr) (aI:Nat) (aF:Option Addr) (aJ:Nat) (aG:Option Addr) (aK:Nat) (p1:wAS) (w:World) (φ:PHeap) (hS:St0 w φ []) (cA:Sl φ 1 aD aH p0.Starts.length (hD KL.encI p0.Starts)) (cB:Sl φ 2 aE aI p0.Splits.length (hD wAE p0.Splits)) (cC:Sl φ 3 aF aJ p0.Clocks.length (hD wAB p0.Clocks)) (cD:Sl φ 4 aG aK p0.Readings.length (hD wAA p0.Readings)) {r:wAK × Int} (hm:wEM p0 p1=some r):Gv Try.prog 15 [.agg #[.slice aD p0.Starts.length aH,.slice aE p0.Splits.length aI,.slice aF p0.Clocks.length aJ,.slice aG p0.Readings.length aK],.agg #[jV p1.Skier,jV p1.Mat]] w (wCF w [] φ (fun φ_ L_ v=>v=.tuple #[.agg #[jV r.1.Lo,jV r.1.Hi],jV r.2]/\L_=[])):=by
 unfold wEM at hm
 refine Gv.of Try.func15 Z Try.ntmps15 Try.results15 Z (sR gEk Z ?_)
 let B0:List Value:=[.slice aD p0.Starts.length aH,.slice aE p0.Splits.length aI,.slice aF p0.Clocks.length aJ,.slice aG p0.Readings.length aK]
 refine zu (cs:=B0) rfl rfl rfl rfl rfl rfl (by rfl) hS ?_
 intro W1 b2 ct
 let B1:List Value:=[jV p1.Skier,jV p1.Mat]
 refine zu (cs:=B1) rfl rfl rfl rfl rfl rfl (by rfl) ct ?_
 intro W5 b6 cx
 let B2:List Value:=[jV 0,jV 0]
 refine zV (cs:=B2) Z Z Z Z Z ZS Z cx ?_
 intro W9 af aQ
 refine oA Z Z (eN (sR (.fl 0 (.fl 1 (.fx 2 (.fx 3 (wNI (.nil)) .stop) .stop))) Z (oL Z (aQ.ldBA (j:=2) Z Z Z zf zX (vs:=B0) Z Z) (oL Z (aQ.ldBA (j:=1) Z Z Z yF Zf (vs:=B1) Z Z) (zm (pv:=[(0,.agg B1.toArray)]) (zs:=B2) (cs:=B1) Z Z Z Z Z (wAG Z wAN) Zu Zf yG Z Z Z Z Z aQ ?_)))))
 intro aM a7 co
 have cp:sW w φ φ [.row (some ⟨a7,0,none⟩) 1 45 2 (hD wAU [p1]),.blk af 41 B2,.blk b6 45 B1,.blk b2 28 B0] aM:=co
 have q:=cp.freezeR (k:=0) (n:=[p1].length) rfl (wAD (f:=wAU) (sz:=2) (fun _=>rfl) [p1]) (by decide)
 obtain ⟨bo,az,cO,cq⟩:=q
 have cr:sW w φ bo [.blk af 41 B2,.blk b6 45 B1,.blk b2 28 B0] aM:=cq
 have bL:=cA.le az
 have bM:=cB.le az
 have bN:=cC.le az
 have bP:=cD.le az
 have q:=bnd hm
 obtain ⟨⟨cQ,aL⟩,bQ,au⟩:=q
 try dsimp only at au
 refine zF 0 Z Z Z Z (zD Z Z Try.call46 (zB Z (zB Z zN)) Z) cr (fun hs=>wEq p0 aD aH aE aI aF aJ aG aK [p1] (some ⟨a7,0,none⟩) 1 aM bo hs bL bM bN bP cO bQ) (.inr Z) ?_
 rintro ak cW dm ap df bg bd
 rcases cQ with _ | aq
 try dsimp only at au
 obtain ⟨rfl,rfl⟩:=bd
 have bh:sW w φ ak [.blk af 41 B2,.blk b6 45 B1,.blk b2 28 B0] ap:=bg
 refine oM Z Z (oR Z (zU Z Z (v:=.pointer none) Z) (oR Z (zU Z Z (v:=jV aL) Z) (oA Z Z (oA Z Z (eN (zL (sR fL2 Z (oM Z Z (oR Z (ZZ Z Z Z) (eN (ifc au ?_ ?_)))))))))))
 intro aO cI
 refine zt (zw (fun h=>h aO.out)) (kN (zL (ZE ZF [3,2,1,2,0,0,3] gEw (by kernel_rfl) ?_)))
 have aR:=bh.drew
 generalize hw_W57:({ ap with drawn:=ap.drawn + 1 }:World)=bu at aR ⊢
 refine oM Z Z (oL Z (aR.ldBA (j:=1) Z Z Z yF Zf (vs:=B1) Z Z) (bnK cI fun dq bR cJ=>zF 0 Z Z Z Z (zD Z Z yX zN Z) aR (fun hs=>wBe bu ak hs bR) (.inr Z) ?_))
 rintro bp cX dn a6 dg cu ⟨rfl,rfl⟩
 have cw:sW w φ bp [.blk af 41 B2,.blk b6 45 B1,.blk b2 28 B0] a6:=cu
 refine bnK cJ fun dr bS cK=>zF 0 Z Z Z Z (zD Z Z ym (zB Z zN) Z) cw (fun hs=>wDV p1 a6 bp hs bS) (.inr Z) ?_
 rintro cS cY dp bv dh cy ⟨rfl,rfl⟩
 have dd:sW w φ cS [.blk af 41 B2,.blk b6 45 B1,.blk b2 28 B0] bv:=cy
 cases cK
 intro aO cL
 refine cT Z aO (sR gEn Z (oR Z (zl (pv:=[]) (z:=B2) (cs:=B2) Z wAN ZS wCN Z Z) (oM Z Z (zW (j:=0) (vs:=B2) Z Z Z Z bh Z Z Z Z ZA (zA Z) Z Z Z ?_))))
 intro bw cz
 have bi:sW w φ ak [.blk af 41 B2,.blk b6 45 B1,.blk b2 28 B0] bw:=cz
 refine oA Z Z (eN (zS (zR ?_)))
 cases cL
 exact ⟨rfl,_,(wDy (rs:=[.cell 4 41,.tmp 5]) (vs:=[.agg B2.toArray,jV aL]) ⟨⟨_,rfl,(wBA yA ZA (bi.blkAt (k:=0) rfl) (vs:=B2) rfl rfl)⟩,⟨rfl,trivial⟩⟩ rfl),ak,_,(bi.pick [] _ (by decide) rfl),rfl,rfl⟩
 try dsimp only at au
 obtain ⟨aN,aU,a8,aV,a9,aW,ba,aX,bb,aj,an,am,aY,bc,rfl,rfl,bU,bV,bW,bX,bY,bZ⟩:=bd
 let B3:Res:=.blk aN 124 [.slice aU aq.Race.Starts.length a8,.slice aV aq.Race.Splits.length a9,.slice aW aq.Race.Clocks.length ba,.slice aX aq.Race.Readings.length bb,.map (some aj),.slice aY aq.edges.length bc]
 have bj:sW w φ ak [B3,.obj aj (.map an am),.blk af 41 B2,.blk b6 45 B1,.blk b2 28 B0] ap:=bg
 refine oM Z Z (oR Z (zU Z Z (v:=.pointer (some ⟨aN,0,none⟩)) Z) (oR Z (zU Z Z (v:=jV aL) Z) (oA Z Z (oA Z Z (eN (zL (sR fL2 Z (oM Z Z (oR Z (ZZ Z Z Z) (eN (ifc au ?_ ?_)))))))))))
 intro aP cM
 refine zt (zw (fun h=>h aP.out)) (kN (zL (ZE ZF [3,2,1,2,0,0,3] gEw (by kernel_rfl) ?_)))
 have aS:=bj.drew
 generalize hw_W94:({ ap with drawn:=ap.drawn + 1 }:World)=bx at aS ⊢
 refine oM Z Z (oL Z (aS.ldBA (j:=3) Z Z Z yF Zf (vs:=B1) Z Z) (bnK cM fun cR ca cN=>zF 0 Z Z Z Z (zD Z Z yX zN Z) aS (fun hs=>wBe bx ak hs ca) (.inr Z) ?_))
 rintro bq cZ di aZ av cb ⟨rfl,rfl⟩
 have cc:sW w φ bq [B3,.obj aj (.map an am),.blk af 41 B2,.blk b6 45 B1,.blk b2 28 B0] aZ:=cb
 refine bnK cN fun cP bz cE=>zF 0 Z Z Z Z (zD Z Z ym (zB Z zN) Z) cc (fun hs=>wDV p1 aZ bq hs bz) (.inr Z) ?_
 rintro bn cU dk a5 ax cd ⟨rfl,rfl⟩
 have cf:sW w φ bn [B3,.obj aj (.map an am),.blk af 41 B2,.blk b6 45 B1,.blk b2 28 B0] a5:=cd
 have bA:=bU.le av
 have bB:=bA.le ax
 have bC:=bV.le av
 have bD:=bC.le ax
 have bE:=bW.le av
 have bF:=bE.le ax
 have bG:=bX.le av
 have bH:=bG.le ax
 have bI:=bZ.le av
 have bJ:=bI.le ax
 refine bnK cE fun bm bK cG=>zF 2 Z Z Z Z (zD Z Z Try.call47 (zB Z (zB Z (zB Z zN))) Z) cf (fun hs=>wEB aq aN aU a8 aV a9 aW ba aX bb aj an am aY bc cR cP a5 bn hs bB bD bF bH bY bJ bK) (.inl Z) ?_
 rintro aT cV dl br de cg ⟨rfl,rfl⟩
 have ci:sW w φ aT [B3,.obj aj (.map an am),.blk af 41 B2,.blk b6 45 B1,.blk b2 28 B0] br:=cg
 let B4:List Value:=[jV bm.Lo,jV bm.Hi]
 refine zW (j:=2) (vs:=B4) Z Z Z Z ci Z Z Z Z ZA (zA Z) Z Z Z ?_
 intro bs cm
 have be:sW w φ aT [B3,.obj aj (.map an am),.blk af 41 B4,.blk b6 45 B1,.blk b2 28 B0] bs:=cm
 refine oA Z Z (eN (zS ?_))
 cases cG
 exact ⟨rfl,_,(wDy (rs:=[.cell 4 41,.tmp 5]) (vs:=[.agg B4.toArray,jV 0]) ⟨⟨_,rfl,(wBA yA ZA (be.blkAt (k:=2) rfl) (vs:=B4) rfl rfl)⟩,⟨rfl,trivial⟩⟩ rfl),aT,_,(be.pick [] _ (by decide) rfl),rfl,rfl⟩
 intro aP cH
 refine cT Z aP (sR gEn Z (oR Z (zl (pv:=[]) (z:=B2) (cs:=B2) Z wAN ZS wCN Z Z) (oM Z Z (zW (j:=2) (vs:=B2) Z Z Z Z bj Z Z Z Z ZA (zA Z) Z Z Z ?_))))
 intro bt cn
 have bf:sW w φ ak [B3,.obj aj (.map an am),.blk af 41 B2,.blk b6 45 B1,.blk b2 28 B0] bt:=cn
 refine oA Z Z (eN (zS (zR ?_)))
 cases cH
 exact ⟨rfl,_,(wDy (rs:=[.cell 4 41,.tmp 5]) (vs:=[.agg B2.toArray,jV aL]) ⟨⟨_,rfl,(wBA yA ZA (bf.blkAt (k:=2) rfl) (vs:=B2) rfl rfl)⟩,⟨rfl,trivial⟩⟩ rfl),ak,_,(bf.pick [] _ (by decide) rfl),rfl,rfl⟩
end Go.Proofs.Ytlnfbjphfoipaaa
namespace Go.Proofs.Ytlnfbjphfoipaaa
open Go.KL
set_option maxHeartbeats 4000000
theorem wJU (p0:wAC) (aJ:Option Addr) (aN:Nat) (aK:Option Addr) (aO:Nat) (aL:Option Addr) (aP:Nat) (aM:Option Addr) (aQ:Nat) (p1:wAS) (p2:wAS) (w:World) (φ:PHeap) (hS:St0 w φ []) (cE:Sl φ 1 aJ aN p0.Starts.length (hD KL.encI p0.Starts)) (cG:Sl φ 2 aK aO p0.Splits.length (hD wAE p0.Splits)) (cH:Sl φ 3 aL aP p0.Clocks.length (hD wAB p0.Clocks)) (cI:Sl φ 4 aM aQ p0.Readings.length (hD wAA p0.Readings)) {r:wAK × Int} (hm:wFr p0 p1 p2=some r):Gv Try.prog 25 [.agg #[.slice aJ p0.Starts.length aN,.slice aK p0.Splits.length aO,.slice aL p0.Clocks.length aP,.slice aM p0.Readings.length aQ],.agg #[jV p1.Skier,jV p1.Mat],.agg #[jV p2.Skier,jV p2.Mat]] w (wCF w [] φ (fun φ_ L_ v=>v=.tuple #[.agg #[jV r.1.Lo,jV r.1.Hi],jV r.2]/\L_=[])):=by
 unfold wFr at hm
 refine Gv.of Try.func25 Z Try.ntmps25 Try.results25 Z (sR (.fx 0 (.fx 1 gEd .stop) .stop) Z ?_)
 let B0:List Value:=[.slice aJ p0.Starts.length aN,.slice aK p0.Splits.length aO,.slice aL p0.Clocks.length aP,.slice aM p0.Readings.length aQ]
 refine zu (cs:=B0) rfl rfl rfl rfl rfl rfl (by rfl) hS ?_
 intro W1 b2 cy
 let B1:List Value:=[jV p1.Skier,jV p1.Mat]
 refine zu (cs:=B1) rfl rfl rfl rfl rfl rfl (by rfl) cy ?_
 intro W5 b6 cz
 let B2:List Value:=[jV p2.Skier,jV p2.Mat]
 refine zu (cs:=B2) rfl rfl rfl rfl rfl rfl (by rfl) cz ?_
 intro W9 ai ci
 let B3:List Value:=[jV 0,jV 0]
 refine zV (cs:=B3) Z Z Z Z Z ZS Z ci ?_
 intro df aj aF
 refine oA Z Z (eN (sR (wCa (.fx 3 (.fx 4 (wJg (.nil)) .stop) .stop)) Z (oL Z (aF.ldBA (j:=3) Z Z Z zf zX (vs:=B0) Z Z) (oL Z (aF.ldBA (j:=2) Z Z Z yF Zf (vs:=B1) Z Z) (oL Z (aF.ldBA (j:=1) Z Z Z yF Zf (vs:=B2) Z Z) (zm (pv:=[(0,.agg B1.toArray),(1,.agg B2.toArray)]) (zs:=[jV 0,jV 0,jV 0,jV 0]) (cs:=[jV p1.Skier,jV p1.Mat,jV p2.Skier,jV p2.Mat]) Z Z Z Z Z (wAG Z (wAG Z wAN)) Zu Zf yG Z Z Z Z Z aF ?_))))))
 intro aS ba ct
 have cu:sW w φ φ [.row (some ⟨ba,0,none⟩) 2 45 2 (hD wAU [p1,p2]),.blk aj 41 B3,.blk ai 45 B2,.blk b6 45 B1,.blk b2 28 B0] aS:=ct
 have q:=cu.freezeR (k:=0) (n:=[p1,p2].length) rfl (wAD (f:=wAU) (sz:=2) (fun _=>rfl) [p1,p2]) (by decide)
 obtain ⟨bs,aI,cS,cw⟩:=q
 have cx:sW w φ bs [.blk aj 41 B3,.blk ai 45 B2,.blk b6 45 B1,.blk b2 28 B0] aS:=cw
 have bQ:=cE.le aI
 have bR:=cG.le aI
 have bS:=cH.le aI
 have bU:=cI.le aI
 have q:=bnd hm
 obtain ⟨⟨cV,aR⟩,bV,ay⟩:=q
 try dsimp only at ay
 refine zF 0 Z Z Z Z (zD Z Z Try.call46 (zB Z (zB Z zN)) Z) cx (fun hs=>wEq p0 aJ aN aK aO aL aP aM aQ [p1,p2] (some ⟨ba,0,none⟩) 2 aS bs hs bQ bR bS bU cS bV) (.inr Z) ?_
 rintro ao da dt av dl bj bg
 rcases cV with _ | ax
 try dsimp only at ay
 obtain ⟨rfl,rfl⟩:=bg
 have bm:sW w φ ao [.blk aj 41 B3,.blk ai 45 B2,.blk b6 45 B1,.blk b2 28 B0] av:=bj
 refine oM Z Z (oR Z (zU Z Z (v:=.pointer none) Z) (oR Z (zU Z Z (v:=jV aR) Z) (oA Z Z (oA Z Z (eN (zL (sR fL2 Z (oM Z Z (oR Z (ZZ Z Z Z) (eN (ifc ay ?_ ?_)))))))))))
 intro aU cN
 refine zt (zw (fun h=>h aU.out)) (kN (zL (ZE ZF [3,1,2,1,2,0,0,3] gEx (by kernel_rfl) ?_)))
 have aG:=bm.drew
 generalize hw_W61:({ av with drawn:=av.drawn + 1 }:World)=bx at aG ⊢
 refine oM Z Z (oL Z (aG.ldBA (j:=2) Z Z Z yF Zf (vs:=B1) Z Z) (oL Z (aG.ldBA (j:=1) Z Z Z yF Zf (vs:=B2) Z Z) (bnK cN fun dw bW cO=>zF 0 Z Z Z Z (zD Z Z ym (zB Z zN) Z) aG (fun hs=>wDV p1 bx ao hs bW) (.inr Z) ?_)))
 rintro bt db du a9 dm cA ⟨rfl,rfl⟩
 have cB:sW w φ bt [.blk aj 41 B3,.blk ai 45 B2,.blk b6 45 B1,.blk b2 28 B0] a9:=cA
 refine bnK cO fun dx bX cP=>zF 0 Z Z Z Z (zD Z Z ym (zB Z zN) Z) cB (fun hs=>wDV p2 a9 bt hs bX) (.inr Z) ?_
 rintro cX dd dv bz dn cC ⟨rfl,rfl⟩
 have di:sW w φ cX [.blk aj 41 B3,.blk ai 45 B2,.blk b6 45 B1,.blk b2 28 B0] bz:=cC
 cases cP
 intro aU cQ
 refine cT Z aU (sR gEn Z (oR Z (zl (pv:=[]) (z:=B3) (cs:=B3) Z wAN ZS wCN Z Z) (oM Z Z (zW (j:=0) (vs:=B3) Z Z Z Z bm Z Z Z Z ZA (zA Z) Z Z Z ?_))))
 intro bA cD
 have bn:sW w φ ao [.blk aj 41 B3,.blk ai 45 B2,.blk b6 45 B1,.blk b2 28 B0] bA:=cD
 refine oA Z Z (eN (zS (zR ?_)))
 cases cQ
 exact ⟨rfl,_,(wDy (rs:=[.cell 6 41,.tmp 7]) (vs:=[.agg B3.toArray,jV aR]) ⟨⟨_,rfl,(wBA yA ZA (bn.blkAt (k:=0) rfl) (vs:=B3) rfl rfl)⟩,⟨rfl,trivial⟩⟩ rfl),ao,_,(bn.pick [] _ (by decide) rfl),rfl,rfl⟩
 try dsimp only at ay
 obtain ⟨aT,aX,bb,aY,bc,aZ,bd,a5,be,an,aq,ap,a6,bf,rfl,rfl,bY,bZ,ca,cb,cc,cd⟩:=bg
 let B4:Res:=.blk aT 124 [.slice aX ax.Race.Starts.length bb,.slice aY ax.Race.Splits.length bc,.slice aZ ax.Race.Clocks.length bd,.slice a5 ax.Race.Readings.length be,.map (some an),.slice a6 ax.edges.length bf]
 have bo:sW w φ ao [B4,.obj an (.map aq ap),.blk aj 41 B3,.blk ai 45 B2,.blk b6 45 B1,.blk b2 28 B0] av:=bj
 refine oM Z Z (oR Z (zU Z Z (v:=.pointer (some ⟨aT,0,none⟩)) Z) (oR Z (zU Z Z (v:=jV aR) Z) (oA Z Z (oA Z Z (eN (zL (sR fL2 Z (oM Z Z (oR Z (ZZ Z Z Z) (eN (ifc ay ?_ ?_)))))))))))
 intro aV cR
 refine zt (zw (fun h=>h aV.out)) (kN (zL (ZE ZF [3,1,2,1,2,0,0,3] gEx (by kernel_rfl) ?_)))
 have aH:=bo.drew
 generalize hw_W98:({ av with drawn:=av.drawn + 1 }:World)=bB at aH ⊢
 refine oM Z Z (oL Z (aH.ldBA (j:=4) Z Z Z yF Zf (vs:=B1) Z Z) (oL Z (aH.ldBA (j:=3) Z Z Z yF Zf (vs:=B2) Z Z) (bnK cR fun cW bC cJ=>zF 0 Z Z Z Z (zD Z Z ym (zB Z zN) Z) aH (fun hs=>wDV p1 bB ao hs bC) (.inr Z) ?_)))
 rintro bq cY dp a7 az cf ⟨rfl,rfl⟩
 have cg:sW w φ bq [B4,.obj an (.map aq ap),.blk aj 41 B3,.blk ai 45 B2,.blk b6 45 B1,.blk b2 28 B0] a7:=cf
 refine bnK cJ fun cU bD cK=>zF 0 Z Z Z Z (zD Z Z ym (zB Z zN) Z) cg (fun hs=>wDV p2 a7 bq hs bD) (.inr Z) ?_
 rintro br cZ dq a8 aD cm ⟨rfl,rfl⟩
 have cn:sW w φ br [B4,.obj an (.map aq ap),.blk aj 41 B3,.blk ai 45 B2,.blk b6 45 B1,.blk b2 28 B0] a8:=cm
 have bE:=bY.le az
 have bF:=bE.le aD
 have bG:=bZ.le az
 have bH:=bG.le aD
 have bI:=ca.le az
 have bJ:=bI.le aD
 have bK:=cb.le az
 have bL:=bK.le aD
 have bM:=cd.le az
 have bN:=bM.le aD
 refine bnK cK fun bp bP cL=>zF 2 Z Z Z Z (zD Z Z Try.call47 (zB Z (zB Z (zB Z zN))) Z) cn (fun hs=>wEB ax aT aX bb aY bc aZ bd a5 be an aq ap a6 bf cW cU a8 br hs bF bH bJ bL cc bN bP) (.inl Z) ?_
 rintro aW c6 dr bu dk co ⟨rfl,rfl⟩
 have cp:sW w φ aW [B4,.obj an (.map aq ap),.blk aj 41 B3,.blk ai 45 B2,.blk b6 45 B1,.blk b2 28 B0] bu:=co
 let B5:List Value:=[jV bp.Lo,jV bp.Hi]
 refine zW (j:=2) (vs:=B5) Z Z Z Z cp Z Z Z Z ZA (zA Z) Z Z Z ?_
 intro bv cq
 have bh:sW w φ aW [B4,.obj an (.map aq ap),.blk aj 41 B5,.blk ai 45 B2,.blk b6 45 B1,.blk b2 28 B0] bv:=cq
 refine oA Z Z (eN (zS ?_))
 cases cL
 exact ⟨rfl,_,(wDy (rs:=[.cell 6 41,.tmp 7]) (vs:=[.agg B5.toArray,jV 0]) ⟨⟨_,rfl,(wBA yA ZA (bh.blkAt (k:=2) rfl) (vs:=B5) rfl rfl)⟩,⟨rfl,trivial⟩⟩ rfl),aW,_,(bh.pick [] _ (by decide) rfl),rfl,rfl⟩
 intro aV cM
 refine cT Z aV (sR gEn Z (oR Z (zl (pv:=[]) (z:=B3) (cs:=B3) Z wAN ZS wCN Z Z) (oM Z Z (zW (j:=2) (vs:=B3) Z Z Z Z bo Z Z Z Z ZA (zA Z) Z Z Z ?_))))
 intro bw cr
 have bi:sW w φ ao [B4,.obj an (.map aq ap),.blk aj 41 B3,.blk ai 45 B2,.blk b6 45 B1,.blk b2 28 B0] bw:=cr
 refine oA Z Z (eN (zS (zR ?_)))
 cases cM
 exact ⟨rfl,_,(wDy (rs:=[.cell 6 41,.tmp 7]) (vs:=[.agg B3.toArray,jV aR]) ⟨⟨_,rfl,(wBA yA ZA (bi.blkAt (k:=2) rfl) (vs:=B3) rfl rfl)⟩,⟨rfl,trivial⟩⟩ rfl),ao,_,(bi.pick [] _ (by decide) rfl),rfl,rfl⟩
theorem wHR (p0:wAC) (ao:Option Addr) (av:Nat) (ap:Option Addr) (ax:Nat) (aq:Option Addr) (ay:Nat) (au:Option Addr) (az:Nat) (p1:wAS) (p2:wAS) (p3:List wAF) (aH:Option Addr) (aI:Nat) (w:World) (φ:PHeap) (hS:St0 w φ []) (bQ:Sl φ 1 ao av p0.Starts.length (hD KL.encI p0.Starts)) (bR:Sl φ 2 ap ax p0.Splits.length (hD wAE p0.Splits)) (bS:Sl φ 3 aq ay p0.Clocks.length (hD wAB p0.Clocks)) (bU:Sl φ 4 au az p0.Readings.length (hD wAA p0.Readings)) (dO:Sl φ 4 aH aI p3.length (hD wAP p3)) {r:Int × Int} (hm:wEZ p0 p1 p2 p3=some r):Gv Try.prog 41 [.agg #[.slice ao p0.Starts.length av,.slice ap p0.Splits.length ax,.slice aq p0.Clocks.length ay,.slice au p0.Readings.length az],.agg #[jV p1.Skier,jV p1.Mat],.agg #[jV p2.Skier,jV p2.Mat],.slice aH p3.length aI] w (wCF w [] φ (fun φ_ L_ v=>v=.tuple #[jV r.1,jV r.2]/\L_=[])):=by
 unfold wEZ at hm
 refine Gv.of Try.func41 Z Try.ntmps41 Try.results41 Z (sR gEu Z ?_)
 let B0:List Value:=[.slice ao p0.Starts.length av,.slice ap p0.Splits.length ax,.slice aq p0.Clocks.length ay,.slice au p0.Readings.length az]
 refine zu (cs:=B0) rfl rfl rfl rfl rfl rfl (by rfl) hS ?_
 intro W1 b2 dJ
 let B1:List Value:=[jV p1.Skier,jV p1.Mat]
 refine zu (cs:=B1) rfl rfl rfl rfl rfl rfl (by rfl) dJ ?_
 intro W5 b6 dM
 let B2:List Value:=[jV p2.Skier,jV p2.Mat]
 refine zu (cs:=B2) rfl rfl rfl rfl rfl rfl (by rfl) dM ?_
 intro W9 af bL
 refine oA Z Z (oA Z Z (eN (sR gEa Z (oL Z (bL.ldBA (j:=2) Z Z Z zf zX (vs:=B0) Z Z) (bnK hm fun ff cC dQ=>zF 0 Z Z Z Z (zD Z Z Try.call68 (zB Z zN) Z) bL (fun hs=>wEN p0 ao av ap ax aq ay au az W9 φ hs bQ bR bS bU cC) (.inr Z) ?_)))))
 rintro bj eA eV bv aL dA ⟨rfl,rfl⟩
 have aW:sW w φ bj [.blk af 45 B2,.blk b6 45 B1,.blk b2 28 B0] bv:=dA
 refine oA Z Z (eN (zL (zY (sR fL3 Z (oM Z Z (oR Z (ZZ Z Z Z) (oA Z Z (eN (ifc dQ ?_ ?_)))))))))
 intro a8 dR
 refine zt (zw (fun h=>h a8.out)) (sR (.fl 0 (.fl 1 (.fx 2 (wKW (.fx 7 (wLY (.nil)) .stop)) .stop))) Z (oL Z (aW.ldBA (j:=2) Z Z Z zf zX (vs:=B0) Z Z) (oL Z (aW.ldBA (j:=1) Z Z Z yF Zf (vs:=B1) Z Z) ?_)))
 have bC:=bQ.le aL
 have bD:=bR.le aL
 have bE:=bS.le aL
 have bF:=bU.le aL
 refine bnK dR fun fg dg d7=>zF 0 Z Z Z Z (zD Z Z Try.call84 (zB Z (zB Z zN)) Z) aW (fun hs=>wCY p0 ao av ap ax aq ay au az p1 bv bj hs bC bD bE bF dg) (.inr Z) ?_
 rintro bp eG fb bz aM dK ⟨rfl,rfl⟩
 have aX:sW w φ bp [.blk af 45 B2,.blk b6 45 B1,.blk b2 28 B0] bz:=dK
 refine oR Z (Ze Z Z) (oM Z Z (ifc d7 ?_ ?_))
 intro an d9
 refine ZJ Z Z Z (zQ Z Z (nC an.out)) (aX.ldBA (j:=2) Z Z Z zf zX (vs:=B0) Z Z) Z (ZJ Z Z Z (zQ Z Z (nC an.out)) (aX.ldBA (j:=0) Z Z Z yF Zf (vs:=B2) Z Z) Z ?_)
 have bG:=bC.le aM
 have bH:=bD.le aM
 have bI:=bE.le aM
 have bJ:=bF.le aM
 refine bnK d9 fun fh dh ef=>zF 0 Z Z Z (zQ Z Z (nC an.out)) (zD Z Z Try.call84 (zB Z (zB Z zN)) Z) aX (fun hs=>wCY p0 ao av ap ax aq ay au az p2 bz bp hs bG bH bI bJ dh) (.inr Z) ?_
 rintro bq eH fc bA aN dL ⟨rfl,rfl⟩
 have bd:sW w φ bq [.blk af 45 B2,.blk b6 45 B1,.blk b2 28 B0] bA:=dL
 refine zg Z Z Z (zQ Z Z (nC an.out)) (fun _=>Ze Z Z) (oR Z (zZ Z (nC an.out) Z) (oA Z Z (eN (ifc ef ?_ ?_))))
 intro ba eg
 refine zt (nC ba.out) (Zh (zo (zH (zL (sR gEn Z (oL Z (bd.ldBA (j:=2) Z Z Z zf zX (vs:=B0) Z Z) (oM Z Z ?_)))))))
 have aR:=bG.le aN
 have aS:=bH.le aN
 have aT:=bI.le aN
 have aU:=bJ.le aN
 have di:=dO.le aL
 have dk:=di.le aM
 have aV:=dk.le aN
 refine bnK eg fun fj dl eh=>zF 0 Z Z Z Z (zD Z Z Try.call69 (zB Z (zB Z zN)) Z) bd (fun hs=>wEA p0 ao av ap ax aq ay au az p3 aH aI bA bq hs aR aS aT aU aV dl) (.inr Z) ?_
 rintro aO eI fd a6 ag dN ⟨rfl,rfl⟩
 have bP:sW w φ aO [.blk af 45 B2,.blk b6 45 B1,.blk b2 28 B0] a6:=dN
 refine oA Z Z (eN (sR fL2 Z (oM Z Z (oR Z (ZZ Z Z Z) (eN (ifc eh ?_ ?_))))))
 intro bb ej
 refine zt (zw (fun h=>h bb.out)) (kN ?_)
 have q:=bnd ej
 obtain ⟨⟨bW,bX,eu,cr⟩,ek,bV⟩:=q
 try dsimp only at bV
 let B3:List Value:=[jV bW,jV bX]
 refine yO (fun σ_ w_=>∃ (φ_:PHeap) (aQ:Nat),σ_ 6=.pointer (some ⟨af,0,none⟩)/\σ_ 12=.pointer (some ⟨aQ,0,none⟩)/\σ_ 13=jV eu/\σ_ 14=.bool cr/\PHeap.Le aO φ_/\sW w φ φ_ [.blk af 45 B2,.blk b6 45 B1,.blk b2 28 B0,.blk aQ 104 B3] w_) ?_ ?_
 refine bnK ek fun bg bK dP=>?_
 have q:=bnd dP
 obtain ⟨⟨ak,be,bf⟩,bc,aY⟩:=q
 try dsimp only at aY
 refine ZE ZF [1,1,2,3,2,3,3,3,3,2,0,3,3] (.fl 0 (.fl 1 (.fl 3 (.fx 2 (.fx 4 (wHD (.fx 9 gEj .stop)) (.fx 9 (.fx 4 (wHD gEj) (.stop)) (.stop))) (.fx 9 (.fx 2 (.fx 4 (wHD gEj) (.stop)) (.stop)) (.stop)))))) (by kernel_rfl) ?_
 have aJ:=bP.drew
 generalize hw_W127:({ a6 with drawn:=a6.drawn + 1 }:World)=ca at aJ ⊢
 refine oL Z (aJ.ldBA (j:=2) Z Z Z zf zX (vs:=B0) Z Z) (oL Z (aJ.ldBA (j:=1) Z Z Z yF Zf (vs:=B1) Z Z) (oM Z Z (zr ?_ ?_)))
 refine zF 0 Z Z Z Z (zD Z Z ym (zB Z zN) Z) aJ (fun hs=>wDV p1 ca aO hs bK) (.inr Z) ?_
 rintro bh ew eQ bu aj dm ⟨rfl,rfl⟩
 have bM:sW w φ bh [.blk af 45 B2,.blk b6 45 B1,.blk b2 28 B0] bu:=dm
 refine zr ?_ ?_
 have cy:=aR.le ag
 have cz:=cy.le aj
 have cA:=aS.le ag
 have cB:=cA.le aj
 have cD:=aT.le ag
 have cE:=cD.le aj
 have cG:=aU.le ag
 have cH:=cG.le aj
 have cI:=aV.le ag
 have cJ:=cI.le aj
 refine zF 0 Z Z Z Z (zD Z Z Try.call71 (zB Z (zB Z (zB Z zN))) Z) bM (fun hs=>wCj p0 ao av ap ax aq ay au az bg p3 aH aI bu bh hs cz cB cE cH cJ bc) (.inr Z) ?_
 rintro bi ey eU cb en dn ⟨rfl,rfl⟩
 have dp:sW w φ bi [.blk af 45 B2,.blk b6 45 B1,.blk b2 28 B0] cb:=dn
 refine oM Z Z (oR Z (zU Z Z (v:=.agg #[jV ak.skier,jV ak.mat]) Z) (oR Z (zU Z Z (v:=jV be) Z) (oR Z (zU Z Z (v:=.bool bf) Z) (zV (cs:=[jV 0,jV 0]) Z Z Z Z Z zd Z dp ?_))))
 intro eK bB dq
 let B4:List Value:=[jV ak.skier,jV ak.mat]
 refine zW (j:=0) (vs:=B4) Z Z Z Z dq Z Z Z Z zI (zA Z) Z Z Z ?_
 intro cc dr
 have dt:sW w φ bi [.blk bB 104 B4,.blk af 45 B2,.blk b6 45 B1,.blk b2 28 B0] cc:=dr
 refine oA Z Z (oA Z Z (zb ?_))
 cases aY
 exact zH ⟨rfl,⟨bi,bB,rfl,rfl,rfl,rfl,(aj.trans en),(dt.pick [1,2,3,0] _ (by decide) rfl)⟩⟩
 refine zV (cs:=[jV 0,jV 0]) Z Z Z Z Z zd Z bM ?_
 intro cd a7 du
 have cK:=aR.le ag
 have cL:=cK.le aj
 have cM:=aS.le ag
 have cN:=cM.le aj
 have cO:=aT.le ag
 have cP:=cO.le aj
 have cQ:=aU.le ag
 have cR:=cQ.le aj
 have cS:=aV.le ag
 have cU:=cS.le aj
 refine zF 0 Z Z Z Z (zD Z Z Try.call71 (zB Z (zB Z (zB Z zN))) Z) du (fun hs=>wCj p0 ao av ap ax aq ay au az bg p3 aH aI cd bh hs cL cN cP cR cU bc) (.inr Z) ?_
 rintro bm eB eW cf eo dv ⟨rfl,rfl⟩
 have dw:sW w φ bm [.blk a7 104 [jV 0,jV 0],.blk af 45 B2,.blk b6 45 B1,.blk b2 28 B0] cf:=dv
 refine oM Z Z (oR Z (zU Z Z (v:=.agg #[jV ak.skier,jV ak.mat]) Z) (oR Z (zU Z Z (v:=jV be) Z) (oR Z (zU Z Z (v:=.bool bf) Z) ?_)))
 let B5:List Value:=[jV ak.skier,jV ak.mat]
 refine zW (j:=0) (vs:=B5) Z Z Z Z dw Z Z Z Z zI (zA Z) Z Z Z ?_
 intro cg dx
 have dy:sW w φ bm [.blk a7 104 B5,.blk af 45 B2,.blk b6 45 B1,.blk b2 28 B0] cg:=dx
 refine oA Z Z (oA Z Z (zb ?_))
 cases aY
 exact zH ⟨rfl,⟨bm,a7,rfl,rfl,rfl,rfl,(aj.trans eo),(dy.pick [1,2,3,0] _ (by decide) rfl)⟩⟩
 let B6:List Value:=[jV 0,jV 0]
 refine zV (cs:=B6) Z Z Z Z Z zd Z aJ ?_
 intro ci aP dz
 refine zF 0 Z Z Z Z (zD Z Z ym (zB Z zN) Z) dz (fun hs=>wDV p1 ci aO hs bK) (.inr Z) ?_
 rintro bY eD eX bw aG dB ⟨rfl,rfl⟩
 have dC:sW w φ bY [.blk aP 104 B6,.blk af 45 B2,.blk b6 45 B1,.blk b2 28 B0] bw:=dB
 have cV:=aR.le ag
 have cW:=cV.le aG
 have cX:=aS.le ag
 have cY:=cX.le aG
 have cZ:=aT.le ag
 have c6:=cZ.le aG
 have da:=aU.le ag
 have db:=da.le aG
 have dd:=aV.le ag
 have de:=dd.le aG
 refine zF 0 Z Z Z Z (zD Z Z Try.call71 (zB Z (zB Z (zB Z zN))) Z) dC (fun hs=>wCj p0 ao av ap ax aq ay au az bg p3 aH aI bw bY hs cW cY c6 db de bc) (.inr Z) ?_
 rintro bn eE eY cm ep dD ⟨rfl,rfl⟩
 have dE:sW w φ bn [.blk aP 104 B6,.blk af 45 B2,.blk b6 45 B1,.blk b2 28 B0] cm:=dD
 refine oM Z Z (oR Z (zU Z Z (v:=.agg #[jV ak.skier,jV ak.mat]) Z) (oR Z (zU Z Z (v:=jV be) Z) (oR Z (zU Z Z (v:=.bool bf) Z) ?_)))
 let B7:List Value:=[jV ak.skier,jV ak.mat]
 refine zW (j:=0) (vs:=B7) Z Z Z Z dE Z Z Z Z zI (zA Z) Z Z Z ?_
 intro cn dF
 have dG:sW w φ bn [.blk aP 104 B7,.blk af 45 B2,.blk b6 45 B1,.blk b2 28 B0] cn:=dF
 refine oA Z Z (oA Z Z (zb ?_))
 cases aY
 exact zH ⟨rfl,⟨bn,aP,rfl,rfl,rfl,rfl,(aG.trans ep),(dG.pick [1,2,3,0] _ (by decide) rfl)⟩⟩
 rintro fk bx ⟨bZ,aQ,ct,cu,cw,cx,eM,dH⟩
 refine zL (zL (ZE ZF [3,3,3,1,1,2,3,3] (wIJ (.fx 5 (.fl 6 (.fl 7 .nil)) .stop)) (by kernel_rfl) ?_))
 have aK:=dH.drew
 generalize hw_W253:({ bx with drawn:=bx.drawn + 1 }:World)=co at aK ⊢
 refine oM Z cx (oR Z (Ze Z Z) (oM Z Z (ifc bV ?_ ?_)))
 intro am dS
 refine ZJ Z Z Z (zQ Z Z (nC am.out)) (aK.ldBA (j:=3) Z Z cu zh zI (vs:=B3) Z Z) Z (ZJ Z Z Z (zQ Z Z (nC am.out)) (aK.ldBA (j:=0) Z Z ct yF Zf (vs:=B2) Z Z) Z (bnK dS fun er df dT=>zF 0 Z Z Z (zQ Z Z (nC am.out)) (zD Z Z ym (zB Z zN) Z) aK (fun hs=>wDV p2 co bZ hs df) (.inr Z) ?_))
 rintro bo eF eZ cp eO dI ⟨rfl,rfl⟩
 have bN:sW w φ bo [.blk af 45 B2,.blk b6 45 B1,.blk b2 28 B0,.blk aQ 104 B3] cp:=dI
 refine zg Z Z Z (zQ Z Z (nC am.out)) (fun _=>ZG (Runs.neS (enc:=wBi) (a:=(⟨bW,bX⟩:wAJ)) (b:=er) Z Z Z wKB wKA) (congrArg hH (decide_not).symm)) (oR Z (zZ Z (nC am.out) Z) (eN (ifc dT ?_ ?_)))
 intro a9 dU
 refine zt (zw (fun h=>h a9.out)) (kN (sR fL3 Z (oM Z cw (oA Z Z (oA Z Z (eN (zS ?_)))))))
 cases dU
 exact ⟨rfl,_,(wDx rfl rfl),bo,_,(bN.pick [] _ (by decide) rfl),rfl,rfl⟩
 intro a9 dV
 refine cT Z a9 (sR fL2 Z (oA Z Z (oA Z Z (eN (zS (zR ?_))))))
 cases dV
 exact ⟨rfl,_,(wDx rfl rfl),bo,_,(bN.pick [] _ (by decide) rfl),rfl,rfl⟩
 intro am dW
 refine ZD Z Z Z (zT Z Z (nF (am.out)) Z) (ZD Z Z Z (zT Z Z (nF (am.out)) Z) (ZB Z Z Z (zT Z Z (nF (am.out)) Z) (ZD Z Z Z (zT Z Z (nF (am.out)) Z) (oR Z (zP Z (nF (am.out)) Z) (eN (ZL Z (sR fL2 Z (oA Z Z (oA Z Z (eN (zS (zR ?_))))))))))))
 cases dW
 exact ⟨rfl,_,(wDx rfl rfl),bZ,_,(aK.pick [] _ (by decide) rfl),rfl,rfl⟩
 intro bb dX
 refine cT Z bb (sR fL3 Z (oM Z Z (oA Z Z (oA Z Z (eN (zS (zR ?_)))))))
 cases dX
 exact ⟨rfl,_,(wDx rfl rfl),aO,_,(bP.pick [] _ (by decide) rfl),rfl,rfl⟩
 intro ba dY
 refine ZL (nF (ba.out)) (sR fL2 Z (oA Z Z (oA Z Z (eN (zS (ze (zR ?_)))))))
 cases dY
 exact ⟨rfl,_,(wDx rfl rfl),bq,_,(bd.pick [] _ (by decide) rfl),rfl,rfl⟩
 intro an dZ
 refine ZD Z Z Z (zT Z Z (nF (an.out)) Z) (ZD Z Z Z (zT Z Z (nF (an.out)) Z) (ZB Z Z Z (zT Z Z (nF (an.out)) Z) (ZD Z Z Z (zT Z Z (nF (an.out)) Z) (oR Z (zP Z (nF (an.out)) Z) (oA Z Z (eN (ZL Z (sR fL2 Z (oA Z Z (oA Z Z (eN (zS (ze (zR ?_))))))))))))))
 cases dZ
 exact ⟨rfl,_,(wDx rfl rfl),bp,_,(aX.pick [] _ (by decide) rfl),rfl,rfl⟩
 intro a8 d5
 refine cT Z a8 (sR fL3 Z (oM Z Z (oA Z Z (oA Z Z (eN (zS (ze (zR ?_))))))))
 cases d5
 exact ⟨rfl,_,(wDx rfl rfl),bj,_,(aW.pick [] _ (by decide) rfl),rfl,rfl⟩
theorem wHS (p0:wAC) (ai:Option Addr) (an:Nat) (aj:Option Addr) (ao:Nat) (ak:Option Addr) (ap:Nat) (am:Option Addr) (aq:Nat) (p1:Int) (w:World) (φ:PHeap) (hS:St0 w φ []) (bj:Sl φ 1 ai an p0.Starts.length (hD KL.encI p0.Starts)) (bm:Sl φ 2 aj ao p0.Splits.length (hD wAE p0.Splits)) (bn:Sl φ 3 ak ap p0.Clocks.length (hD wAB p0.Clocks)) (bo:Sl φ 4 am aq p0.Readings.length (hD wAA p0.Readings)) {r:(Option wAW) × Int} (hm:wEa p0 p1=some r):Gv Try.prog 50 [.agg #[.slice ai p0.Starts.length an,.slice aj p0.Splits.length ao,.slice ak p0.Clocks.length ap,.slice am p0.Readings.length aq],jV p1] w (wCF w [] φ (fun φ_ L_ v=>match r.1 with | none=>v=.tuple #[.pointer none,jV r.2]/\L_=[] | some d=>∃ (b0:Nat) (A0p00:Option Addr) (c0p00:Nat) (A0p01:Option Addr) (c0p01:Nat) (A0p02:Option Addr) (c0p02:Nat) (A0p03:Option Addr) (c0p03:Nat) (m0p1:Nat) (es0p1:Array MapEntry) (ck0p1:Nat) (A0p2:Option Addr) (c0p2:Nat),v=.tuple #[.pointer (some ⟨b0,0,none⟩),jV r.2]/\L_=[.blk b0 124 [.slice A0p00 d.Race.Starts.length c0p00,.slice A0p01 d.Race.Splits.length c0p01,.slice A0p02 d.Race.Clocks.length c0p02,.slice A0p03 d.Race.Readings.length c0p03,.map (some m0p1),.slice A0p2 d.edges.length c0p2],.obj m0p1 (.map es0p1 ck0p1)]/\Sl φ_ 1 A0p00 c0p00 d.Race.Starts.length (hD KL.encI d.Race.Starts)/\Sl φ_ 2 A0p01 c0p01 d.Race.Splits.length (hD wAE d.Race.Splits)/\Sl φ_ 3 A0p02 c0p02 d.Race.Clocks.length (hD wAB d.Race.Clocks)/\Sl φ_ 4 A0p03 c0p03 d.Race.Readings.length (hD wAA d.Race.Readings)/\MpR es0p1 wBE wBK d.number/\Sl φ_ 7 A0p2 c0p2 d.edges.length (hD wAQ d.edges))):=by
 unfold wEa at hm
 refine Gv.of Try.func50 Z Try.ntmps50 Try.results50 Z (sR gDy Z ?_)
 let B0:List Value:=[.slice ai p0.Starts.length an,.slice aj p0.Splits.length ao,.slice ak p0.Clocks.length ap,.slice am p0.Readings.length aq]
 refine zu (cs:=B0) rfl rfl rfl rfl rfl rfl (by rfl) hS ?_
 intro W1 b2 aU
 refine oA Z Z (oA Z Z (eN (sR (wCa (.fx 3 (.fx 4 (wHD (.nil)) .stop) .stop)) Z (oL Z (aU.ldBA (j:=0) Z Z Z zf zX (vs:=B0) Z Z) (oM Z Z ?_)))))
 let B1:List Value:=[jV 0,jV p1]
 refine oR Z (zl (pv:=[(0,jV 0),(1,jV p1)]) (z:=[jV 0,jV 0]) (cs:=B1) Z (wAG Z (wAG Z wAN)) yG wEw Z Z) (zm (pv:=[(0,.agg B1.toArray)]) (zs:=[jV 0,jV 0]) (cs:=B1) Z Z Z Z Z (wAG Z wAN) Zu Zf yG Z Z Z Z Z aU ?_)
 intro W5 b6 bh
 have bi:sW w φ φ [.row (some ⟨b6,0,none⟩) 1 45 2 (hD wAU [(⟨0,p1⟩:wAS)]),.blk b2 28 B0] W5:=bh
 have q:=bi.freezeR (k:=0) (n:=[(⟨0,p1⟩:wAS)].length) rfl (wAD (f:=wAU) (sz:=2) (fun _=>rfl) [(⟨0,p1⟩:wAS)]) (by decide)
 obtain ⟨aW,ah,bp,bd⟩:=q
 have be:sW w φ aW [.blk b2 28 B0] W5:=bd
 have aX:=bj.le ah
 have aY:=bm.le ah
 have aZ:=bn.le ah
 have a5:=bo.le ah
 have q:=bnd hm
 obtain ⟨⟨bq,aV⟩,a6,ae⟩:=q
 try dsimp only at ae
 refine zF 0 Z Z Z Z (zD Z Z Try.call46 (zB Z (zB Z zN)) Z) be (fun hs=>wEq p0 ai an aj ao ak ap am aq [(⟨0,p1⟩:wAS)] (some ⟨b6,0,none⟩) 1 W5 aW hs aX aY aZ a5 bp a6) (.inr Z) ?_
 rintro au br bu aI bt aT aS
 rcases bq with _ | af
 try dsimp only at ae
 obtain ⟨rfl,rfl⟩:=aS
 have bf:sW w φ au [.blk b2 28 B0] aI:=aT
 refine oR Z (zU Z Z (v:=.pointer none) Z) (oR Z (zU Z Z (v:=jV aV) Z) (oA Z Z (oA Z Z (eN (zS ?_)))))
 cases ae
 exact ⟨rfl,_,(wDx rfl rfl),au,_,(bf.pick [] _ (by decide) rfl),rfl,rfl⟩
 try dsimp only at ae
 obtain ⟨ay,aD,aL,aE,aM,aF,aN,aG,aO,az,aR,aP,aH,aQ,rfl,rfl,a7,a8,a9,ba,bb,bc⟩:=aS
 have bg:sW w φ au [.blk ay 124 [.slice aD af.Race.Starts.length aL,.slice aE af.Race.Splits.length aM,.slice aF af.Race.Clocks.length aN,.slice aG af.Race.Readings.length aO,.map (some az),.slice aH af.edges.length aQ],.obj az (.map aR aP),.blk b2 28 B0] aI:=aT
 refine oR Z (zU Z Z (v:=.pointer (some ⟨ay,0,none⟩)) Z) (oR Z (zU Z Z (v:=jV aV) Z) (oA Z Z (oA Z Z (eN (zS ?_)))))
 cases ae
 exact ⟨rfl,_,(wDx rfl rfl),au,_,(bg.pick [0,1] _ (by decide) rfl),ay,aD,aL,aE,aM,aF,aN,aG,aO,az,aR,aP,aH,aQ,rfl,rfl,a7,a8,a9,ba,bb,bc⟩
theorem wEy (p0:wAW) (ap:Nat) (ao:Option Addr) (aq:Nat) (ay:Option Addr) (aF:Nat) (az:Option Addr) (aG:Nat) (aD:Option Addr) (aH:Nat) (ab:Nat) (ac:Array MapEntry) (ae:Nat) (aE:Option Addr) (aI:Nat) (p1:Int) (w:World) (φ:PHeap) (hS:St0 w φ [.blk ap 124 [.slice ao p0.Race.Starts.length aq,.slice ay p0.Race.Splits.length aF,.slice az p0.Race.Clocks.length aG,.slice aD p0.Race.Readings.length aH,.map (some ab),.slice aE p0.edges.length aI],.obj ab (.map ac ae)]) (cz:Sl φ 1 ao aq p0.Race.Starts.length (hD KL.encI p0.Race.Starts)) (cA:Sl φ 2 ay aF p0.Race.Splits.length (hD wAE p0.Race.Splits)) (cB:Sl φ 3 az aG p0.Race.Clocks.length (hD wAB p0.Race.Clocks)) (cC:Sl φ 4 aD aH p0.Race.Readings.length (hD wAA p0.Race.Readings)) (a5:MpR ac wBE wBK p0.number) (cD:Sl φ 7 aE aI p0.edges.length (hD wAQ p0.edges)) {r:(Arr Int 64)} (hm:wCy p0 p1=some r):Gv Try.prog 51 [.pointer (some ⟨ap,0,none⟩),jV p1] w (wCF w [.blk ap 124 [.slice ao p0.Race.Starts.length aq,.slice ay p0.Race.Splits.length aF,.slice az p0.Race.Clocks.length aG,.slice aD p0.Race.Readings.length aH,.map (some ab),.slice aE p0.edges.length aI],.obj ab (.map ac ae)] φ (fun φ_ L_ v=>v=.agg (hD KL.encI r.l).toArray/\L_=[.blk ap 124 [.slice ao p0.Race.Starts.length aq,.slice ay p0.Race.Splits.length aF,.slice az p0.Race.Clocks.length aG,.slice aD p0.Race.Readings.length aH,.map (some ab),.slice aE p0.edges.length aI],.obj ab (.map ac ae)])):=by
 unfold wCy at hm
 refine Gv.of Try.func51 Z Try.ntmps51 Try.results51 Z (sR (.fx 0 .nil .stop) Z (zV (cs:=hD KL.encI (Arr.fill 64 0).l) Z Z Z Z Z Try.zeroValue109 Z hS ?_))
 intro W3 b4 cp
 let B0:Res:=.blk ap 124 [.slice ao p0.Race.Starts.length aq,.slice ay p0.Race.Splits.length aF,.slice az p0.Race.Clocks.length aG,.slice aD p0.Race.Readings.length aH,.map (some ab),.slice aE p0.edges.length aI]
 have cw:SW w [B0,.obj ab (.map ac ae)] φ φ [.blk b4 109 (hD KL.encI (Arr.fill 64 0).l),B0,.obj ab (.map ac ae)] W3:=cp
 refine eN (sR (.fx 0 .nil .stop) Z (zV (cs:=hD KL.encI (Arr.fill 64 0).l) Z Z Z Z Z Try.zeroValue109 Z cw ?_))
 intro W8 b9 cg
 have bq:SW w [B0,.obj ab (.map ac ae)] φ φ [.blk b9 109 (hD KL.encI (Arr.fill 64 0).l),.blk b4 109 (hD KL.encI (Arr.fill 64 0).l),B0,.obj ab (.map ac ae)] W8:=cg
 refine eN (zL (sR fL7 Z (oM Z Z (oR Z (Zd Z Z) (oR Z (zG Z Z ZI Z zX) (oR Z (zG Z Z zK Z zy) (oL Z (bq.ldB (j:=2) Z Z Z ZK (v:=.slice ao p0.Race.Starts.length aq) Z) (oR Z (zq Z Z zE) (oM Z Z (eN (zY (bnK hm fun ak cE cQ=>?_))))))))))))
 have q:=wBL cE
 obtain ⟨a8,cG⟩:=q
 replace a8:=zM a8
 refine CK.forN' (fun ag aJ σ_ w_=>∃ (φ_:PHeap),σ_ 17=jV (↑ag:Int)/\σ_ 0=.pointer (some ⟨ap,0,none⟩)/\σ_ 1=jV p1/\σ_ 4=.pointer (some ⟨b4,0,none⟩)/\σ_ 5=.pointer (some ⟨b9,0,none⟩)/\σ_ 16=jV (↑p0.Race.Starts.length:Int)/\PHeap.Le φ φ_/\SW w [B0,.obj ab (.map ac ae)] φ φ_ [.blk b9 109 (hD KL.encI aJ.l),.blk b4 109 (hD KL.encI (Arr.fill 64 0).l),B0,.obj ab (.map ac ae)] w_) cG ?_ ?_ ?_
 exact ⟨φ,Z,Z,Z,Z,Z,Z,(zO _),bq⟩
 rintro ag aJ dp dv ba a6 ⟨bw,aX,aQ,bh,bU,bV,bi,ax,aZ⟩ cS
 have bd:Hid ((↑ag:Int) < (↑p0.Race.Starts.length:Int)):=zM (wAs a6)
 replace a6:=zM a6
 have cM:Hid (w64 ((↑ag:Int) + 1)=(↑(ag + 1):Int)):=zM (by have h1:=a8.out;have h2:=bd.out;rw [wAT] <;> omega)
 refine sR fL1 Z (oR Z (zc Z aX bi) (eN (zL (cT Z bd (kN (zL (zY (sR fL2 Z (oM Z aX (oA Z Z (eN (sR (fC0_8 (.fx 9 (wMF (.fx 14 (.fx 15 (.fl 16 (.fl 17 .nil)) .stop) .stop)) .stop)) Z (oM Z aQ (oM Z aQ (oR Z (Zd Z Z) (oR Z (zG Z Z ZI Z Zx) (oL Z (aZ.ldB (j:=2) Z Z Z yD (v:=.map (some ab)) Z) (oM Z Z (oM Z bh (oR Z (zl (pv:=[(0,jV (↑ag:Int)),(1,jV p1)]) (z:=[jV 0,jV 0]) (cs:=[jV (↑ag:Int),jV p1]) Z (wAG Z (wAG Z wAN)) zd wBU Z Z) (oL Z (aZ.lookup1 (j:=3) (mk:=wBE) (mv:=wBK) (a:=(⟨(↑ag:Int),p1⟩:wAJ)) (z:=0) Z Z Z Z (wBp ZO) wCz zz a5) ?_)))))))))))))))))))))
 have bZ:=cz.le ax
 have ca:=cA.le ax
 have cb:=cB.le ax
 have cc:=cC.le ax
 have cd:=cD.le ax
 have q:=bnd cS
 obtain ⟨⟨aj,cY,cZ⟩,cf,bu⟩:=q
 try dsimp only at bu
 have cq:SW w [B0,.obj ab (.map ac ae)] φ bw [B0,.obj ab (.map ac ae),.blk b9 109 (hD KL.encI aJ.l),.blk b4 109 (hD KL.encI (Arr.fill 64 0).l)] ba:=aZ.pick [2,3,0,1] _ (by decide) rfl
 refine zF 2 Z Z Z Z (zD Z Z Try.call57 (zB Z (zB Z (zB Z zN))) Z) cq (fun hs=>wBG p0 ap ao aq ay aF az aG aD aH ab ac ae aE aI (wBH p0.number (⟨(↑ag:Int),p1⟩:wAJ) 0) false ba bw hs bZ ca cb cc a5 cd cf) (.inl Z) ?_
 rintro aU da dn bC cW cr ⟨aK,aP,aV,aW,rfl,rfl⟩
 let B1:Res:=.row aK aP 3 1 (hD KL.encI aj.far)
 let B2:Res:=.row aV aW 3 1 (hD KL.encI aj.by_)
 have ct:SW w [B0,.obj ab (.map ac ae)] φ aU [B1,B2,B0,.obj ab (.map ac ae),.blk b9 109 (hD KL.encI aJ.l),.blk b4 109 (hD KL.encI (Arr.fill 64 0).l)] bC:=cr
 refine oM Z Z (oR Z (zU Z Z (v:=.agg #[.slice aK aj.far.length aP,.slice aV aj.by_.length aW]) Z) (oR Z (zU Z Z (v:=jV cY) Z) (oR Z (zU Z Z (v:=.bool cZ) Z) (zV (cs:=[.slice none 0 0,.slice none 0 0]) Z Z Z Z Z Zk Z ct ?_))))
 intro df aO cu
 let B3:List Value:=[.slice aK aj.far.length aP,.slice aV aj.by_.length aW]
 refine zW (j:=0) (vs:=B3) Z Z Z Z cu Z Z Z Z Zy (zA Z) Z Z Z ?_
 intro bD cx
 have bt:SW w [B0,.obj ab (.map ac ae)] φ aU [.blk aO 118 B3,B1,B2,B0,.obj ab (.map ac ae),.blk b9 109 (hD KL.encI aJ.l),.blk b4 109 (hD KL.encI (Arr.fill 64 0).l)] bD:=cx
 refine oA Z Z (oA Z Z (eN (sR fL7 Z (oM Z aQ (oR Z (Zd Z Z) (oR Z (zG Z Z ZI Z zX) (oR Z (zG Z Z zK Z zy) (oL Z (bt.ldB (j:=3) Z Z Z ZK (v:=.slice ao p0.Race.Starts.length aq) Z) (oR Z (zq Z Z zE) (oM Z Z (eN (zY (bnK bu fun dr cH cR=>?_)))))))))))))
 have q:=wBL cH
 obtain ⟨a9,cI⟩:=q
 replace a9:=zM a9
 refine CK.forN' (fun ah av σ_ w_=>∃ (φ_:PHeap),σ_ 40=jV (↑ah:Int)/\σ_ 0=.pointer (some ⟨ap,0,none⟩)/\σ_ 1=jV p1/\σ_ 4=.pointer (some ⟨b4,0,none⟩)/\σ_ 5=.pointer (some ⟨b9,0,none⟩)/\σ_ 6=jV (↑ag:Int)/\σ_ 7=.pointer (some ⟨aO,0,none⟩)/\σ_ 16=jV (↑p0.Race.Starts.length:Int)/\σ_ 17=jV (↑ag:Int)/\σ_ 39=jV (↑p0.Race.Starts.length:Int)/\PHeap.Le aU φ_/\SW w [B0,.obj ab (.map ac ae)] φ φ_ [B1,B2,.blk aO 118 B3,B0,.obj ab (.map ac ae),.blk b9 109 (hD KL.encI av.l),.blk b4 109 (hD KL.encI (Arr.fill 64 0).l)] w_) cI ?_ ?_ ?_
 exact ⟨aU,rfl,aQ,bh,bU,bV,rfl,rfl,bi,aX,rfl,(zO _),(bt.pick [1,2,0,3,4,5,6] _ (by decide) rfl)⟩
 rintro ah av dq dw bb a7 ⟨bx,aY,bj,bm,bW,bn,bo,be,bH,bI,bf,cX,cy⟩ cU
 have bc:Hid ((↑ah:Int) < (↑p0.Race.Starts.length:Int)):=zM (wAs a7)
 replace a7:=zM a7
 have cL:Hid (w64 ((↑ah:Int) + 1)=(↑(ah + 1):Int)):=zM (by have h1:=a9.out;have h2:=bc.out;rw [wAT] <;> omega)
 refine sR fL1 rfl (zg rfl rfl rfl rfl (fun _=>zc rfl aY bf) (eN (zL (cT Z bc (kN (zL (zY (sR fL2 rfl (zk rfl rfl rfl rfl rfl aY (yK rfl rfl rfl rfl rfl rfl (eN (ZE ZF [3,3,3,1,3,3,3,1,3,3,3,1,3,1,3,3,0] (wNB (.fx 16 .nil .stop)) (by kernel_rfl) ?_))))))))))))
 have au:=cy.drew
 generalize hw_W107:({ bb with drawn:=bb.drawn + 1 }:World)=db at au ⊢
 refine oM Z bo (oM Z Z (oR Z (zG Z be ZU Z zy) (oL Z (au.ldB (j:=2) Z Z Z ZK (v:=.slice aK aj.far.length aP) Z) (oM Z bj (oR Z (Zd Z Z) (oR Z (zG Z Z ZI Z Zx) (oL Z (au.ldB (j:=3) Z Z Z yD (v:=.map (some ab)) Z) (oM Z Z (oM Z bm (oR Z (zl (pv:=[(0,jV (↑ah:Int)),(1,jV p1)]) (z:=[jV 0,jV 0]) (cs:=[jV (↑ah:Int),jV p1]) Z (wAG Z (wAG Z wAN)) zd wBU Z Z) (oL Z (au.lookup1 (j:=4) (mk:=wBE) (mv:=wBK) (a:=(⟨(↑ah:Int),p1⟩:wAJ)) (z:=0) Z Z Z Z (wBp ZO) wCz zz a5) (bnK cU fun _ aR cN=>?_))))))))))))
 obtain ⟨dg,bp⟩:=au.rowSome (j:=0) rfl (by rw [wAD (f:=KL.encI) (sz:=1) (fun _=>rfl) aj.far];have hz:=wAY aR;omega)
 refine oR Z (ZY Z Z bp Z zE zC (wBm aR) (wBn aR)) ?_
 have cJ:=wBr (xs:=aj.far) (wAY aR)
 refine ZJ rfl rfl rfl rfl (au.ldR (j:=0) rfl bp rfl rfl zJ (wAj (sz:=1) (fun _=>rfl) _ _ 0 _ cJ (by first | omega | rfl | simp) rfl)) rfl (bnK cN fun _ aS cO=>zg rfl rfl rfl rfl (fun _=>Runs.iaA rfl bn rfl Try.runUnderlying109 Try.sizeOf108 (wBm aS) (wBn aS)) (bnK cO fun _ aT cP=>zg rfl rfl rfl rfl (fun _=>Runs.iaA rfl rfl rfl Try.runUnderlying108 zC (wBm aT) (wBn aT)) ?_))
 have cK:=Arr.at_ av (k:=(ag * 8 + ah)) (by have hz0:=wAY aS;have hz1:=wAY aT;omega)
 refine zW (j:=5) (vs:=[jV (gd aj.far (wBH p0.number (⟨(↑ah:Int),p1⟩:wAJ) 0).toNat)]) (cs':=hD KL.encI (av.set (ag * 8 + ah) (gd aj.far (wBH p0.number (⟨(↑ah:Int),p1⟩:wAJ) 0).toNat)).l) rfl rfl rfl rfl au rfl rfl rfl rfl zC (by have hz0:=wAY aS;have hz1:=wAY aT;simp only [List.length_append,List.length_cons,List.length_nil,wCP (f:=KL.encI) (sz:=1) (N:=64) av (fun _=>rfl) rfl];omega) rfl (wDJ (sz:=1) (fo:=0) (fun _=>rfl) _ _ _ _ cK (by first | omega | rfl | simp) (zA rfl) rfl) rfl ?_
 intro bz ci
 have cm:SW w [B0,.obj ab (.map ac ae)] φ bx [B1,B2,.blk aO 118 B3,B0,.obj ab (.map ac ae),.blk b9 109 (hD KL.encI (av.set (ag * 8 + ah) (gd aj.far (wBH p0.number (⟨(↑ah:Int),p1⟩:wAJ) 0).toNat)).l),.blk b4 109 (hD KL.encI (Arr.fill 64 0).l)] bz:=ci
 refine zb (zo (zH (rR fL2 Z (oR Z (ZG (za Z aY Z) (congrArg (jV) cL.out)) (oM Z Z (zb ?_))))))
 cases cP
 exact zH ⟨Z,⟨bx,Z,bj,bm,bW,bn,bo,be,bH,bI,bf,cX,cm⟩⟩
 rintro dt dd ⟨c6,bX,bJ,bK,bL,bM,dh,di,bN,bP,bQ,cV,cn⟩
 have bF:Hid (¬ ((↑(((↑p0.Race.Starts.length:Int):Int) - 0).toNat:Int) < (↑p0.Race.Starts.length:Int))):=zM (wAc)
 refine sR fL1 Z (oR Z (zc Z bX bQ) (eN (zL (cF Z bF (Za (zi (zi (ZQ (zo (zH (rR fL2 Z (oR Z (ZG (za Z bP Z) (congrArg (jV) cM.out)) (oM Z Z (zb ?_))))))))))))))
 cases cR
 exact zH ⟨rfl,⟨c6,rfl,bJ,bK,bL,bM,bN,((ax.trans cW).trans cV),(cn.pick [5,6,3,4] _ (by decide) rfl)⟩⟩
 rintro du de ⟨bv,bY,dk,dl,bg,bR,bS,dm,br⟩
 have bG:Hid (¬ ((↑(((↑p0.Race.Starts.length:Int):Int) - 0).toNat:Int) < (↑p0.Race.Starts.length:Int))):=zM (wAc)
 refine sR fL1 rfl (zg rfl rfl rfl rfl (fun _=>zc rfl bY bS) (eN (zL (cF Z bG (Za (zi (zi (ZQ (zH (sR gDr rfl (ZJ rfl rfl rfl rfl (br.ldBA (j:=0) rfl rfl bR Try.isAgg109 Try.sizeOf109 (vs:=hD KL.encI ak.l) (wMX ak (fun _=>rfl) rfl) (wCP ak (fun _=>rfl) rfl)) rfl (zW (j:=1) (vs:=hD KL.encI ak.l) rfl rfl rfl rfl br rfl bg rfl rfl (fun w=>by rw [wCP (f:=KL.encI) (sz:=1) (N:=64) ak (fun _=>rfl) rfl];exact Try.sizeOf109 w) (by rw [wCP (f:=KL.encI) (sz:=1) (N:=64) ak (fun _=>rfl) rfl,wCP (f:=KL.encI) (sz:=1) (N:=64) (Arr.fill 64 0) (fun _=>rfl) rfl];exact zA rfl) (wFz (fun _=>rfl) _) (wIr _ _ (by rw [wCP (f:=KL.encI) (sz:=1) (N:=64) ak (fun _=>rfl) rfl,wCP (f:=KL.encI) (sz:=1) (N:=64) (Arr.fill 64 0) (fun _=>rfl) rfl])) rfl ?_))))))))))))
 intro bA co
 have bs:SW w [B0,.obj ab (.map ac ae)] φ bv [.blk b9 109 (hD KL.encI ak.l),.blk b4 109 (hD KL.encI ak.l),B0,.obj ab (.map ac ae)] bA:=co
 refine eN (zS ?_)
 have hE:=hU cQ;first | subst r | cases hE
 exact ⟨rfl,_,(wGV (v:=.agg (hD KL.encI ak.l).toArray) ⟨⟨_,bg,(wBA Try.isAgg109 Try.sizeOf109 (bs.blkAt (k:=1) rfl) (wMX ak (fun _=>rfl) rfl) (wCP ak (fun _=>rfl) rfl))⟩,trivial⟩),bv,_,(bs.pick [2,3] _ (by decide) rfl),rfl,rfl⟩
end Go.Proofs.Ytlnfbjphfoipaaa
namespace Go.Proofs.Ytlnfbjphfoipaaa
open Go.KL
set_option maxHeartbeats 4000000
theorem wHT (p0:wAC) (aH:Option Addr) (aI:Nat) (aZ:Option Addr) (a7:Nat) (a5:Option Addr) (a8:Nat) (a6:Option Addr) (a9:Nat) (p1:Int) (w:World) (φ:PHeap) (hS:St0 w φ []) (du:Sl φ 1 aH aI p0.Starts.length (hD KL.encI p0.Starts)) (dv:Sl φ 2 aZ a7 p0.Splits.length (hD wAE p0.Splits)) (dw:Sl φ 3 a5 a8 p0.Clocks.length (hD wAB p0.Clocks)) (dx:Sl φ 4 a6 a9 p0.Readings.length (hD wAA p0.Readings)) {r:(List wAK) × Int} (hm:wEb p0 p1=some r):Gv Try.prog 17 [.agg #[.slice aH p0.Starts.length aI,.slice aZ p0.Splits.length a7,.slice a5 p0.Clocks.length a8,.slice a6 p0.Readings.length a9],jV p1] w (wCF w [] φ (fun φ_ L_ v=>∃ (A0:Option Addr) (c0:Nat),v=.tuple #[.slice A0 r.1.length c0,jV r.2]/\L_=[.row A0 c0 41 2 (hD wAE r.1)])):=by
 unfold wEb at hm
 refine Gv.of Try.func17 Z Try.ntmps17 Try.results17 Z (sR gDy Z ?_)
 let B0:List Value:=[.slice aH p0.Starts.length aI,.slice aZ p0.Splits.length a7,.slice a5 p0.Clocks.length a8,.slice a6 p0.Readings.length a9]
 refine zu (cs:=B0) rfl rfl rfl rfl rfl rfl (by rfl) hS ?_
 intro W1 b2 bV
 refine oA Z Z (oA Z Z (eN (sR (.fl 0 (.fl 1 (.fx 2 (wME (.nil)) .stop))) Z (oL Z (bV.ldBA (j:=0) Z Z Z zf zX (vs:=B0) Z Z) (oM Z Z ?_)))))
 have q:=bnd hm
 obtain ⟨⟨x5,x6⟩,h7,aO⟩:=q
 try dsimp only at aO
 refine zF 0 Z Z Z Z (zD Z Z Try.call50 (zB Z (zB Z zN)) Z) bV (fun hs=>wHS p0 aH aI aZ a7 a5 a8 a6 a9 p1 W1 φ hs du dv dw dx h7) (.inr Z) ?_
 rintro aQ d5 ew be ep bR bP
 rcases x5 with _ | aJ
 try dsimp only at aO
 obtain ⟨rfl,rfl⟩:=bP
 have dk:sW w φ aQ [.blk b2 28 B0] be:=bR
 refine oM Z Z (oR Z (zU Z Z (v:=.pointer none) Z) (oR Z (zU Z Z (v:=jV x6) Z) (oA Z Z (oA Z Z (eN (zL (sR fL2 Z (oM Z Z (oR Z (ZZ Z Z Z) (eN (ifc aO ?_ ?_)))))))))))
 intro bj dQ
 refine zt (zw (fun h=>h bj.out)) (kN (sR gEv Z (oM Z Z (oM Z Z ?_))))
 cases dQ
 intro bj dR
 refine cT Z bj (sR fL3 Z (oM Z Z (oA Z Z (oA Z Z (eN (zS (zR ?_)))))))
 have dl:=dk.nilrow 41 2
 cases dR
 exact ⟨rfl,_,(wDx rfl rfl),aQ,_,(dl.pick [0] _ (by decide) rfl),none,0,rfl,rfl⟩
 try dsimp only at aO
 obtain ⟨bf,bv,bG,bw,bH,bx,bI,bA,bK,af,ah,ag,bB,bL,rfl,rfl,cN,cO,cP,cQ,cR,cS⟩:=bP
 let B1:Res:=.blk bf 124 [.slice bv aJ.Race.Starts.length bG,.slice bw aJ.Race.Splits.length bH,.slice bx aJ.Race.Clocks.length bI,.slice bA aJ.Race.Readings.length bK,.map (some af),.slice bB aJ.edges.length bL]
 have bW:sW w φ aQ [B1,.obj af (.map ah ag),.blk b2 28 B0] be:=bR
 refine oM Z Z (oR Z (zU Z Z (v:=.pointer (some ⟨bf,0,none⟩)) Z) (oR Z (zU Z Z (v:=jV x6) Z) (oA Z Z (oA Z Z (eN (zL (sR fL2 Z (oM Z Z (oR Z (ZZ Z Z Z) (eN (ifc aO ?_ ?_)))))))))))
 intro bm dS
 refine zt (zw (fun h=>h bm.out)) (kN (sR gEv Z (oM Z Z (oM Z Z (bnK dS fun ab cU dT=>zF 2 Z Z Z Z (zD Z Z Try.call51 (zB Z (zB Z zN)) Z) bW (fun hs=>wEy aJ bf bv bG bw bH bx bI bA bK af ah ag bB bL p1 be aQ hs cN cO cP cQ cR cS cU) (.inl Z) ?_)))))
 rintro aP d7 ey cp eu dm ⟨rfl,rfl⟩
 have dn:sW w φ aP [B1,.obj af (.map ah ag),.blk b2 28 B0] cp:=dm
 refine zV (cs:=hD KL.encI (Arr.fill 64 0).l) Z Z Z Z Z Try.zeroValue109 Z dn ?_
 intro cq aj dp
 have dq:sW w φ aP [.blk aj 109 (hD KL.encI (Arr.fill 64 0).l),B1,.obj af (.map ah ag),.blk b2 28 B0] cq:=dp
 refine zW (j:=0) (vs:=hD KL.encI ab.l) rfl rfl rfl rfl dq rfl rfl rfl rfl (fun w=>by rw [wCP (f:=KL.encI) (sz:=1) (N:=64) ab (fun _=>rfl) rfl];exact Try.sizeOf109 w) (by rw [wCP (f:=KL.encI) (sz:=1) (N:=64) ab (fun _=>rfl) rfl,wCP (f:=KL.encI) (sz:=1) (N:=64) (Arr.fill 64 0) (fun _=>rfl) rfl];exact zA rfl) (wFz (fun _=>rfl) _) (wIr _ _ (by rw [wCP (f:=KL.encI) (sz:=1) (N:=64) ab (fun _=>rfl) rfl,wCP (f:=KL.encI) (sz:=1) (N:=64) (Arr.fill 64 0) (fun _=>rfl) rfl])) rfl ?_
 intro cr dr
 have bX:sW w φ aP [.blk aj 109 (hD KL.encI ab.l),B1,.obj af (.map ah ag),.blk b2 28 B0] cr:=dr
 refine eN (sR fL1 Z (oA Z Z (eN (zL (sR fL4 Z (oR Z (zG Z Z zK Z zy) (oL Z (bX.ldB (j:=3) Z Z Z ZK (v:=.slice aH p0.Starts.length aI) Z) (oR Z (zq Z Z zE) (oM Z Z (eN (zY (bnK dT fun eD dA dU=>?_))))))))))))
 have q:=wBL dA
 obtain ⟨br,dB⟩:=q
 replace br:=zM br
 refine CK.forN' (fun am aG σ_ w_=>∃ (φ_:PHeap) (aK:Option Addr) (aM:Nat),σ_ 28=jV (↑am:Int)/\σ_ 2=.pointer (some ⟨b2,0,none⟩)/\σ_ 8=.pointer (some ⟨aj,0,none⟩)/\σ_ 9=.slice aK aG.length aM/\σ_ 27=jV (↑p0.Starts.length:Int)/\PHeap.Le aP φ_/\sW w φ φ_ [.blk aj 109 (hD KL.encI ab.l),B1,.obj af (.map ah ag),.blk b2 28 B0,.row aK aM 41 2 (hD wAE aG)] w_) dB ?_ ?_ ?_
 have dt:=bX.nilrow 41 2
 exact ⟨aP,none,0,rfl,rfl,rfl,rfl,rfl,(zO _),(dt.pick [1,2,3,4,0] _ (by decide) rfl)⟩
 rintro am aG eB eH ej bp ⟨bt,aK,aM,bn,bM,cy,cz,bN,dX,cW⟩ dV
 have bE:Hid ((↑am:Int) < (↑p0.Starts.length:Int)):=zM (wAs bp)
 replace bp:=zM bp
 have dF:Hid (w64 ((↑am:Int) + 1)=(↑(am + 1):Int)):=zM (by have h1:=br.out;have h2:=bE.out;rw [wAT] <;> omega)
 refine sR fL1 Z (oR Z (zc Z bn bN) (eN (zL (cT Z bE (kN (zL (zY (sR fL2 Z (oM Z bn (oA Z Z (eN (sR gEb Z ?_))))))))))))
 let B2:List Value:=[jV 0,jV 0]
 let B3:List Value:=[jV 1,jV 1]
 refine oR Z (zl (pv:=[(0,jV 1),(1,jV 1)]) (z:=B2) (cs:=B3) Z (wAG Z (wAG Z wAN)) ZS wCN Z Z) (zV (cs:=B2) Z Z Z Z Z ZS Z cW ?_)
 intro d9 aq cX
 refine zW (j:=0) (vs:=B3) Z Z Z Z cX Z Z Z Z ZA (zA Z) Z Z Z ?_
 intro cf cY
 let B4:Res:=.row aK aM 41 2 (hD wAE aG)
 have bQ:sW w φ bt [.blk aq 41 B3,.blk aj 109 (hD KL.encI ab.l),B1,.obj af (.map ah ag),.blk b2 28 B0,B4] cf:=cY
 refine eN (zL (sR fL4 Z (oR Z (zG Z bM zK Z zy) (oL Z (bQ.ldB (j:=4) Z Z Z ZK (v:=.slice aH p0.Starts.length aI) Z) (oR Z (zq Z Z zE) (oM Z Z (eN (zY ?_))))))))
 have q:=bnd dV
 obtain ⟨⟨ba,bb⟩,dy,bY⟩:=q
 try dsimp only at bY
 have q:=wBL dy
 obtain ⟨bq,dz⟩:=q
 replace bq:=zM bq
 refine CK.forN' (fun au (az,ap) σ_ w_=>∃ (φ_:PHeap),σ_ 35=jV (↑au:Int)/\σ_ 2=.pointer (some ⟨b2,0,none⟩)/\σ_ 8=.pointer (some ⟨aj,0,none⟩)/\σ_ 9=.slice aK aG.length aM/\σ_ 10=jV (↑am:Int)/\σ_ 11=.pointer (some ⟨aq,0,none⟩)/\σ_ 27=jV (↑p0.Starts.length:Int)/\σ_ 28=jV (↑am:Int)/\σ_ 34=jV (↑p0.Starts.length:Int)/\PHeap.Le bt φ_/\sW w φ φ_ [.blk aq 41 [jV az,jV ap],.blk aj 109 (hD KL.encI ab.l),B1,.obj af (.map ah ag),.blk b2 28 B0,B4] w_) dz ?_ ?_ ?_
 exact ⟨bt,Z,bM,cy,cz,Z,Z,bN,bn,Z,(zO _),bQ⟩
 rintro au ⟨az,ap⟩ eA eE ef bo ⟨aD,aF,aR,av,aS,ax,ak,aT,aU,aN,aX,ay⟩ bZ
 try dsimp only at bZ
 have bF:Hid ((↑au:Int) < (↑p0.Starts.length:Int)):=zM (wAs bo)
 replace bo:=zM bo
 have aW:Hid (w64 ((↑au:Int) + 1)=(↑(au + 1):Int)):=zM (by have h1:=bq.out;have h2:=bF.out;rw [wAT] <;> omega)
 refine sR fL1 Z (oR Z (zc Z aF aN) (eN (zL (cT Z bF (kN (zL (zY (sR fL2 Z (oM Z aF (oA Z Z (eN (zL (sR fL6 Z (oM Z ax (oM Z Z (bnK bZ fun _ an dG=>oR Z (Runs.iaA Z av Z Try.runUnderlying109 Try.sizeOf108 (wBm an) (wBn an)) (bnK dG fun _ ao dH=>oR Z (Runs.iaA Z Z Z Try.runUnderlying108 zC (wBm ao) (wBn ao)) ?_)))))))))))))))))
 have dC:=Arr.at_ ab (k:=(am * 8 + au)) (by have hz0:=wAY an;have hz1:=wAY ao;omega)
 refine ZJ rfl rfl rfl rfl (ay.ldB (j:=1) rfl rfl rfl zJ (wAj (sz:=1) (fun _=>rfl) _ _ 0 _ dC (by first | omega | rfl | simp) rfl)) rfl (zg rfl rfl rfl rfl (fun _=>zc rfl rfl rfl) (eN (ifc dH ?_ ?_)))
 intro bg dI
 refine cT Z bg (rR (wEI (.fx 4 .nil .stop)) Z (oR Z (zG Z ak ZX Z zC) (oL Z (ay.ldB (j:=0) Z Z Z zJ (v:=jV az) Z) (oR Z (za Z Z Z) (oR Z (zG Z ak ZX Z zC) (zW (j:=0) (vs:=[jV (w64 (az + 1))]) Z Z Z Z ay Z Z Z Z zC (zA Z) Z Z Z ?_))))))
 intro cg cZ
 have aV:sW w φ aD [.blk aq 41 [jV (w64 (az + 1)),jV ap],.blk aj 109 (hD KL.encI ab.l),B1,.obj af (.map ah ag),.blk b2 28 B0,B4] cg:=cZ
 refine eN (sR fL6 Z (oM Z Z (oM Z ax (oR Z (Runs.iaA Z av Z Try.runUnderlying109 Try.sizeOf108 (wBm ao) (wBn ao)) (oR Z (Runs.iaA Z Z Z Try.runUnderlying108 zC (wBm an) (wBn an)) ?_)))))
 have dD:=Arr.at_ ab (k:=(au * 8 + am)) (by have hz0:=wAY ao;have hz1:=wAY an;omega)
 refine ZJ rfl rfl rfl rfl (aV.ldB (j:=1) rfl rfl rfl zJ (wAj (sz:=1) (fun _=>rfl) _ _ 0 _ dD (by first | omega | rfl | simp) rfl)) rfl (zg rfl rfl rfl rfl (fun _=>yb rfl rfl rfl) (eN (ifc dI ?_ ?_)))
 intro bh dJ
 refine cT Z bh (rR (wEI (.fx 4 .nil .stop)) Z (oR Z (zG Z ak ZX Z zC) (oL Z (aV.ldB (j:=0) Z Z Z zJ (v:=jV ap) Z) (oR Z (za Z Z Z) (oR Z (zG Z ak ZX Z zC) (zW (j:=0) (vs:=[jV (w64 (ap + 1))]) Z Z Z Z aV Z Z Z Z zC (zA Z) Z Z Z ?_))))))
 intro ci c6
 have da:sW w φ aD [.blk aq 41 [jV (w64 (az + 1)),jV (w64 (ap + 1))],.blk aj 109 (hD KL.encI ab.l),B1,.obj af (.map ah ag),.blk b2 28 B0,B4] ci:=c6
 refine zb (zo (zH (rR fL2 Z (oR Z (ZG (za Z aF Z) (congrArg (jV) aW.out)) (oM Z Z (zb ?_))))))
 cases dJ
 exact zH ⟨Z,⟨aD,Z,aR,av,aS,ax,ak,aT,aU,aN,aX,da⟩⟩
 intro bh dK
 refine cF Z bh (Zh (zo (zH (rR fL2 Z (oR Z (ZG (za Z aF Z) (congrArg (jV) aW.out)) (oM Z Z (zb ?_)))))))
 cases dK
 exact zH ⟨Z,⟨aD,Z,aR,av,aS,ax,ak,aT,aU,aN,aX,aV⟩⟩
 intro bg dL
 refine cF Z bg (kN (sR fL6 Z (oM Z Z (oM Z ax (oR Z (Runs.iaA Z av Z Try.runUnderlying109 Try.sizeOf108 (wBm ao) (wBn ao)) (oR Z (Runs.iaA Z Z Z Try.runUnderlying108 zC (wBm an) (wBn an)) ?_))))))
 have dE:=Arr.at_ ab (k:=(au * 8 + am)) (by have hz0:=wAY ao;have hz1:=wAY an;omega)
 refine ZJ rfl rfl rfl rfl (ay.ldB (j:=1) rfl rfl rfl zJ (wAj (sz:=1) (fun _=>rfl) _ _ 0 _ dE (by first | omega | rfl | simp) rfl)) rfl (zg rfl rfl rfl rfl (fun _=>yb rfl rfl rfl) (eN (ifc dL ?_ ?_)))
 intro bi dM
 refine cT Z bi (rR (wEI (.fx 4 .nil .stop)) Z (oR Z (zG Z ak ZX Z zC) (oL Z (ay.ldB (j:=0) Z Z Z zJ (v:=jV ap) Z) (oR Z (za Z Z Z) (oR Z (zG Z ak ZX Z zC) (zW (j:=0) (vs:=[jV (w64 (ap + 1))]) Z Z Z Z ay Z Z Z Z zC (zA Z) Z Z Z ?_))))))
 intro cm db
 have dd:sW w φ aD [.blk aq 41 [jV az,jV (w64 (ap + 1))],.blk aj 109 (hD KL.encI ab.l),B1,.obj af (.map ah ag),.blk b2 28 B0,B4] cm:=db
 refine zb (zo (zH (rR fL2 Z (oR Z (ZG (za Z aF Z) (congrArg (jV) aW.out)) (oM Z Z (zb ?_))))))
 cases dM
 exact zH ⟨Z,⟨aD,Z,aR,av,aS,ax,ak,aT,aU,aN,aX,dd⟩⟩
 intro bi dN
 refine cF Z bi (Zh (zo (zH (rR fL2 Z (oR Z (ZG (za Z aF Z) (congrArg (jV) aW.out)) (oM Z Z (zb ?_)))))))
 cases dN
 exact zH ⟨Z,⟨aD,Z,aR,av,aS,ax,ak,aT,aU,aN,aX,ay⟩⟩
 rintro eF eg ⟨bs,cK,cA,cB,cC,ek,cD,cE,cG,cH,dW,bS⟩
 have cu:Hid (¬ ((↑(((↑p0.Starts.length:Int):Int) - 0).toNat:Int) < (↑p0.Starts.length:Int))):=zM (wAc)
 refine sR fL1 Z (oR Z (zc Z cK cH) (eN (zL (cF Z cu (Za (zi (zi (ZQ (zH (rR gEt Z (oM Z cC ?_)))))))))))
 let B5:List Value:=[jV ba,jV bb]
 refine oL Z (bS.ldBA (j:=0) Z Z cD yA ZA (vs:=B5) Z Z) (zm (pv:=[(0,.agg B5.toArray)]) (zs:=B2) (cs:=B5) Z Z Z Z Z (wAG Z wAN) ZP ZA ZS Z Z Z Z Z bS ?_)
 intro cn ct de
 let B6:Res:=.row (some ⟨ct,0,none⟩) 1 41 2 (hD wAE [(⟨ba,bb⟩:wAK)])
 have bU:sW w φ bs [B6,.blk aq 41 B5,.blk aj 109 (hD KL.encI ab.l),B1,.obj af (.map ah ag),.blk b2 28 B0,B4] cn:=de
 refine bnK bY fun ca cM dO=>Zm (j:=6) (enc:=wAE) (xs:=aG) (ys:=[(⟨ba,bb⟩:wAK)]) (zs:=ca) rfl rfl rfl rfl rfl Try.underlying24 wJz rfl rfl rfl rfl rfl rfl bU rfl rfl rfl (bU.srcR (j:=0) rfl (by decide) (wAD (f:=wAE) (sz:=2) (fun _=>rfl) [(⟨ba,bb⟩:wAK)])) (fun _=>rfl) (fun _=>rfl) cM rfl ?_
 intro bz bJ co df
 have dg:sW w φ bs [B6,.blk aq 41 B5,.blk aj 109 (hD KL.encI ab.l),B1,.obj af (.map ah ag),.blk b2 28 B0,.row bz bJ 41 2 (hD wAE ca)] co:=df
 refine oA Z Z (zb (zo (zH (rR fL2 Z (oR Z (ZG (za Z cG Z) (congrArg (jV) dF.out)) (oM Z Z (zb ?_)))))))
 cases dO
 exact zH ⟨rfl,⟨bs,bz,bJ,rfl,cA,cB,rfl,cE,(dX.trans dW),(dg.pick [2,3,4,5,6] _ (by decide) rfl)⟩⟩
 rintro eG eh ⟨dZ,cc,cw,cL,en,eo,cI,cJ,er,dh⟩
 have cx:Hid (¬ ((↑(((↑p0.Starts.length:Int):Int) - 0).toNat:Int) < (↑p0.Starts.length:Int))):=zM (wAc)
 refine sR fL1 Z (oR Z (zc Z cL cJ) (eN (zL (cF Z cx (Za (zi (zi (ZQ (zH (sR fL3 Z (oM Z cI (oA Z Z (oA Z Z (eN (zS ?_)))))))))))))))
 cases dU
 exact ⟨rfl,_,(wDx rfl rfl),dZ,_,(dh.pick [4] _ (by decide) rfl),cc,cw,rfl,rfl⟩
 intro bm dP
 refine cT Z bm (sR fL3 Z (oM Z Z (oA Z Z (oA Z Z (eN (zS (zR ?_)))))))
 have di:=bW.nilrow 41 2
 cases dP
 exact ⟨rfl,_,(wDx rfl rfl),aQ,_,(di.pick [0] _ (by decide) rfl),none,0,rfl,rfl⟩
theorem wGI (p0:wAI) (p1:Int) (af:Nat) (p2:Int) (ag:Nat) (w:World) (φ:PHeap) (hS:St0 w φ []) (ah:Cl φ af 0 [jV p1]) (ai:Cl φ ag 0 [jV p2]) {r:Bool} (hm:wCX p0 p1 p2=some r):Gv Try.prog 87 [.agg #[jV p0.Skier,jV p0.Mat,jV p0.Clock,jV p0.Time],.pointer (some ⟨af,0,none⟩),.pointer (some ⟨ag,0,none⟩)] w (wCF w [] φ (fun φ_ L_ v=>v=.bool r/\L_=[])):=by
 unfold wCX at hm
 refine Gv.of Try.func87 rfl Try.ntmps87 Try.results87 rfl (sR gDs rfl (zu (cs:=[jV p0.Skier,jV p0.Mat,jV p0.Clock,jV p0.Time]) rfl rfl rfl rfl rfl rfl (by rfl) hS ?_))
 intro W1 b2 ae
 refine oA Z Z (eN (sR fL10 Z (oR Z (zG Z Z zx Z zC) (oL Z (ae.ldB (j:=0) Z Z Z zJ (v:=jV p0.Skier) Z) (oR Z (zG Z Z zx Z zC) (oL Z (ae.ldB (j:=0) Z Z Z zJ (v:=jV p0.Mat) Z) (oR Z (zl (pv:=[(0,jV p0.Skier),(1,jV p0.Mat)]) (z:=[jV 0,jV 0]) (cs:=[jV p0.Skier,jV p0.Mat]) Z (wAG Z (wAG Z wAN)) yG wEw Z Z) (oL Z (ae.ldC (f:=0) ah (v:=jV p1) Z Z zJ Z) (oL Z (ae.ldC (f:=0) ai (v:=jV p2) Z Z zJ Z) (oR Z (zl (pv:=[(0,jV p1),(1,jV p2)]) (z:=[jV 0,jV 0]) (cs:=[jV p1,jV p2]) Z (wAG Z (wAG Z wAN)) yG wEw Z Z) (oR Z (Runs.eqS (enc:=wAU) (a:=(⟨p0.Skier,p0.Mat⟩:wAS)) (b:=(⟨p1,p2⟩:wAS)) Z Z Z wMi wMh) (oA Z Z (eN (zS ?_))))))))))))))
 first | (obtain rfl:=hU hm) | cases hm
 exact ⟨rfl,_,(ZM rfl),φ,_,(ae.pick [] _ (by decide) rfl),rfl,rfl⟩
theorem wCR (p0:List wAI) (ak:Option Addr) (am:Nat) (p1:(wAI->Option Bool)) (an:Value) (w:World) (φ:PHeap) (hS:St0 w φ []) (aS:Sl φ 4 ak am p0.length (hD wAA p0)) (aT:FnOK Try.prog φ an wJS wJT p1) {r:Int} (hm:wAp p0 p1=some r):Gv Try.prog 106 [.slice ak p0.length am,an] w (wCF w [] φ (fun φ_ L_ v=>v=jV r/\L_=[])):=by
 unfold wAp at hm
 refine Gv.of Try.func106 Z Try.ntmps106 Try.results106 Z (sR fL1 Z (oA Z Z (eN (zL (sR fL3 Z (oM Z Z (oR Z (zq Z Z zn) (oM Z Z (eN (zY ?_))))))))))
 have q:=wBa hm
 obtain ⟨r3,ag⟩:=q
 have q:=wBZ ag
 obtain ⟨ai,aW⟩:=q
 replace ai:=zM ai
 refine yH (fun k2 _ σ_ w_=>∃ (φ_:PHeap),σ_ 8=jV (↑k2:Int)/\σ_ 0=.slice ak p0.length am/\σ_ 1=an/\σ_ 7=jV (↑p0.length:Int)/\PHeap.Le φ φ_/\sW w φ φ_ [] w_) aW ?_ ?_ ?_
 exact ⟨φ,Z,Z,Z,Z,(zO _),hS⟩
 rintro k2 ⟨⟩ bo bq W8 ah ⟨br,af,aq,au,av,aj,ay⟩ aE aU
 try dsimp only at aE
 have ap:Hid ((↑k2:Int) < (↑p0.length:Int)):=zM (wAs ah)
 replace ah:=zM ah
 have aX:Hid (w64 ((↑k2:Int) + 1)=(↑(k2 + 1):Int)):=zM (by have h1:=ai.out;have h2:=ap.out;rw [wAT] <;> omega)
 refine sR fL1 Z (oR Z (zc Z af av) (eN (zL (cT Z ap (kN (zL (zY (sR fL2 Z (oM Z af (oA Z Z (eN (sR (wIJ (.fx 5 .nil .stop)) Z (oM Z au (oM Z aq (oM Z Z (bnK aE fun ac ax aY=>?_))))))))))))))))
 have aL:=aS.le aj
 have q:=aL.el (fun _=>rfl) (wAX ax)
 obtain ⟨be,bi,aO,aP⟩:=q
 refine oR Z (Zc Z Z aO Z zn ZC (wBQ ax)) (oL Z (ay.ldCA (f:=0) aP Z Z yI ZC (us:=[jV ac.Skier,jV ac.Mat,jV ac.Clock,jV ac.Time]) Z Z) (bnK aY fun bn aM aZ=>?_))
 have aN:=aT.le aj
 refine OKS.callV (a:=ac) Z Z Z Z Z Z (zB Z zN) ay aN Z aM ?_
 rintro ao bb bm aG a8 aQ ⟨rfl,rfl⟩
 have az:sW w φ ao [] aG:=aQ
 refine eN (ifc aZ ?_ ?_)
 intro ae a5
 refine ZL (congrArg hH ae.out) (sR fL2 Z (oM Z Z (oA Z Z (eN (zS (ze (zR ?_)))))))
 have q:=wAZ a5
 obtain ⟨a9,a6,aI⟩:=q
 have q:=wBI hm ag (aU a9 aI)
 obtain rfl:=q
 refine zR (ze (zR ?_))
 cases a6
 exact ⟨Z,_,(ZM Z),ao,_,az,Z,Z⟩
 intro ae a7
 refine zt (congrArg hH (hJ.2 ae.out)) (Zh (zo (zH (rR fL2 Z (oR Z (ZG (za Z af Z) (congrArg (jV) aX.out)) (oM Z Z (zb ?_)))))))
 have q:=hU a7
 obtain rfl:=q
 exact zH ⟨Z,_,Z,⟨ao,Z,aq,au,av,(aj.trans a8),az⟩⟩
 rintro ⟨⟩ bp bc ⟨ba,aK,bf,bg,aJ,bh,aR⟩ aV
 have aD:=wCO hm ag aV
 try dsimp only at aD
 have aH:Hid (¬ ((↑(((↑p0.length:Int):Int) - 0).toNat:Int) < (↑p0.length:Int))):=zM (wAc)
 refine sR fL1 Z (oR Z (zc Z aK aJ) (eN (zL (cF Z aH (Za (zi (zi (ZQ (zH (sR fL1 Z (oA Z Z (eN (zS ?_)))))))))))))
 cases aD
 exact ⟨Z,_,(ZM Z),ba,_,aR,Z,Z⟩
theorem wCL (p0:List wAI) (ac:Option Addr) (ae:Nat) (p1:(wAI->Option Bool)) (af:Value) (w:World) (φ:PHeap) (hS:St0 w φ []) (an:Sl φ 4 ac ae p0.length (hD wAA p0)) (ao:FnOK Try.prog φ af wJS wJT p1) {r:Bool} (hm:wAm p0 p1=some r):Gv Try.prog 86 [.slice ac p0.length ae,af] w (wCF w [] φ (fun φ_ L_ v=>v=.bool r/\L_=[])):=by
 unfold wAm at hm
 refine Gv.of Try.func86 Z Try.ntmps86 Try.results86 Z (sR fL1 Z (oA Z Z (eN (sR gEs Z (oM Z Z (oM Z Z (bnK hm fun x1 h2 ag=>zF 0 Z Z Z Z (zD Z Z Try.call106 (zB Z (zB Z zN)) Z) hS (fun hs=>wCR p0 ac ae p1 af w φ hs an ao h2) (.inr Z) ?_)))))))
 rintro ah L5 v6 W7 aq am ⟨rfl,rfl⟩
 have ak:sW w φ ah [] W7:=am
 refine oR Z (Runs.geq Z Z Z) (oA Z Z (eN (zS ?_)))
 first | (obtain rfl:=hU ag) | cases ag
 exact ⟨Z,_,(ZM Z),ah,_,ak,Z,Z⟩
theorem wHC (p0:wAC) (aI:Option Addr) (aK:Nat) (aJ:Option Addr) (aL:Nat) (aR:Option Addr) (aS:Nat) (ao:Option Addr) (ap:Nat) (w:World) (φ:PHeap) (hS:St0 w φ []) (cX:Sl φ 1 aI aK p0.Starts.length (hD KL.encI p0.Starts)) (cY:Sl φ 2 aJ aL p0.Splits.length (hD wAE p0.Splits)) (cZ:Sl φ 3 aR aS p0.Clocks.length (hD wAB p0.Clocks)) (bz:Sl φ 4 ao ap p0.Readings.length (hD wAA p0.Readings)) {r:(List wAS) × Int} (hm:wEP p0=some r):Gv Try.prog 53 [.agg #[.slice aI p0.Starts.length aK,.slice aJ p0.Splits.length aL,.slice aR p0.Clocks.length aS,.slice ao p0.Readings.length ap]] w (wCF w [] φ (fun φ_ L_ v=>∃ (A0:Option Addr) (c0:Nat),v=.tuple #[.slice A0 r.1.length c0,jV r.2]/\L_=[.row A0 c0 45 2 (hD wAU r.1)])):=by
 unfold wEP at hm
 refine Gv.of Try.func53 Z Try.ntmps53 Try.results53 Z (sR gDy Z ?_)
 let B0:List Value:=[.slice aI p0.Starts.length aK,.slice aJ p0.Splits.length aL,.slice aR p0.Clocks.length aS,.slice ao p0.Readings.length ap]
 refine zu (cs:=B0) rfl rfl rfl rfl rfl rfl (by rfl) hS ?_
 intro W1 b2 bx
 refine oA Z Z (oA Z Z (eN (zL (sR gEa Z (oL Z (bx.ldBA (j:=0) Z Z Z zf zX (vs:=B0) Z Z) (bnK hm fun x5 h6 dn=>zF 0 Z Z Z Z (zD Z Z Try.call68 (zB Z zN) Z) bx (fun hs=>wEN p0 aI aK aJ aL aR aS ao ap W1 φ hs cX cY cZ bz h6) (.inr Z) ?_))))))
 rintro aV L9 dH bI dq cx ⟨rfl,rfl⟩
 have bd:sW w φ aV [.blk b2 28 B0] bI:=cx
 refine oA Z Z (eN (sR fL2 Z (oM Z Z (oR Z (ZZ Z Z Z) (eN (ifc dn ?_ ?_))))))
 intro a8 dh
 refine zt (zw (fun h=>h a8.out)) (kN (sR fL1 Z (oA Z Z (eN (zL (sR fL4 Z (oR Z (zG Z Z zK Z zy) (oL Z (bd.ldB (j:=0) Z Z Z ZK (v:=.slice aI p0.Starts.length aK) Z) (oR Z (zq Z Z zE) (oM Z Z (eN (zY (bnK dh fun dN da dm=>?_)))))))))))))
 have q:=wBL da
 obtain ⟨bf,db⟩:=q
 replace bf:=zM bf
 refine CK.forN' (fun af aP σ_ w_=>∃ (φ_:PHeap) (aq:Option Addr) (av:Nat),σ_ 16=jV (↑af:Int)/\σ_ 1=.pointer (some ⟨b2,0,none⟩)/\σ_ 5=.slice aq aP.length av/\σ_ 15=jV (↑p0.Starts.length:Int)/\PHeap.Le aV φ_/\sW w φ φ_ [.blk b2 28 B0,.row aq av 45 2 (hD wAU aP)] w_) db ?_ ?_ ?_
 have cM:=bd.nilrow 45 2
 exact ⟨aV,none,0,rfl,rfl,rfl,rfl,(zO _),(cM.pick [1,0] _ (by decide) rfl)⟩
 rintro af aP dL dP dC be ⟨bF,aq,av,bc,bZ,ca,bq,bC,cN⟩ dp
 have bp:Hid ((↑af:Int) < (↑p0.Starts.length:Int)):=zM (wAs be)
 replace be:=zM be
 have dd:Hid (w64 ((↑af:Int) + 1)=(↑(af + 1):Int)):=zM (by have h1:=bf.out;have h2:=bp.out;rw [wAT] <;> omega)
 refine sR fL1 Z (oR Z (zc Z bc bq) (eN (zL (cT Z bp (kN (zL (zY (sR gEb Z (oM Z bc (zV (cs:=[jV 0]) Z Z Z Z Z zz Z cN ?_))))))))))
 intro dD ah cO
 let B1:List Value:=[jV (↑af:Int)]
 refine zW (j:=0) (vs:=B1) Z Z Z Z cO Z Z Z Z zC (zA Z) Z Z Z ?_
 intro bR cP
 let B2:Res:=.row aq av 45 2 (hD wAU aP)
 have cQ:sW w φ bF [.blk ah 3 B1,.blk b2 28 B0,B2] bR:=cP
 refine eN (sR gDw Z (zV (cs:=[jV 0]) Z Z Z Z Z zz Z cQ ?_))
 intro dE a6 cR
 refine zW (j:=0) (vs:=[jV 1]) Z Z Z Z cR Z Z Z Z zC (zA Z) Z Z Z ?_
 intro bj cS
 have cU:sW w φ bF [.blk a6 3 [jV 1],.blk ah 3 B1,.blk b2 28 B0,B2] bj:=cS
 refine eN (zY ?_)
 have q:=cU.freeze (k:=1) rfl
 obtain ⟨aU,bD,az,cV⟩:=q
 replace az:=Cl.of az
 have cW:sW w φ aU [.blk a6 3 [jV 1],.blk b2 28 B0,B2] bj:=cV
 replace az:Cl aU ah 0 B1:=az
 refine CK.iter (fun (aF,ab) σ_ w_=>∃ (φ_:PHeap) (am:Option Addr) (an:Nat) (ai:Nat),σ_ 1=.pointer (some ⟨b2,0,none⟩)/\σ_ 5=.slice am aF.length an/\σ_ 6=.pointer (some ⟨ah,0,none⟩)/\σ_ 7=.pointer (some ⟨ai,0,none⟩)/\σ_ 15=jV (↑p0.Starts.length:Int)/\σ_ 16=jV (↑af:Int)/\PHeap.Le aU φ_/\sW w φ φ_ [.blk b2 28 B0,.row am an 45 2 (hD wAU aF),.blk ai 3 [jV ab]] w_) dp ?_ ?_
 exact ⟨aU,aq,av,a6,bZ,ca,rfl,rfl,bq,bc,(zO _),(cW.pick [1,2,0] _ (by decide) rfl)⟩
 rintro ⟨aF,ab⟩ dM dQ bm ⟨dv,am,an,ai,ax,a9,aO,ay,ba,bb,aG,aD⟩ bg c6
 try dsimp only at bg
 refine zL (sR fL5 Z (oL Z (aD.ldB (j:=2) Z Z ay zJ (v:=jV ab) Z) (oR Z (zG Z ax zK Z yC) (oL Z (aD.ldB (j:=0) Z Z Z yQ (v:=.slice aJ p0.Splits.length aL) Z) (oR Z (zq Z Z ZP) (oR Z (Runs.leq Z Z Z) (eN ?_)))))))
 by_cases aj:ab <= (↑p0.Splits.length:Int)
 have bA:=bg;rw [if_pos aj] at bA;replace aj:=zM aj
 refine cT Z aj (kN (zL (zY (sR (wCa gDt) Z (oR Z (zG Z ax zK Z ZH) (oL Z (aD.ldB (j:=0) Z Z Z Zi (v:=.slice ao p0.Readings.length ap) Z) ?_))))))
 have q:=aD.freeze (k:=2) rfl
 obtain ⟨aT,aQ,ak,cu⟩:=q
 replace ak:=Cl.of ak
 let B3:Res:=.row am an 45 2 (hD wAU aF)
 have cw:sW w φ aT [.blk b2 28 B0,B3] bm:=cu
 replace ak:Cl aT ai 0 [jV ab]:=ak
 refine oR Z (yl Z zN (zB aO (zB ay zN))) ?_
 have cc:=bz.le dq
 have cd:=cc.le bC
 have cf:=cd.le bD
 have cg:=cf.le aG
 have ci:=cg.le aQ
 have cm:=az.le aG
 have br:=cm.le aQ
 have ct:FnOK Try.prog aT (.func (.func 87) #[] #[.pointer (some ⟨ah,0,none⟩),.pointer (some ⟨ai,0,none⟩)]) wJS wJT (fun x=>wCX x (↑af:Int) ab):=⟨87,[],[.pointer (some ⟨ah,0,none⟩),.pointer (some ⟨ai,0,none⟩)],rfl,Try.call87,fun du w1 x y vs le hs ha hm=>by obtain rfl:=ha;exact wGI x (↑af:Int) ah ab ai w1 du hs (br.le le) (ak.le le) hm⟩
 refine bnK bA fun dJ cn de=>zF 0 Z Z Z Z (zD Z Z Try.call86 (zB Z (zB Z zN)) Z) cw (fun hs=>wCL p0.Readings ao ap (fun x=>wCX x (↑af:Int) ab) (.func (.func 87) #[] #[.pointer (some ⟨ah,0,none⟩),.pointer (some ⟨ai,0,none⟩)]) bm aT hs ci ct cn) (.inr Z) ?_
 rintro ag dx dI bJ aH cy ⟨rfl,rfl⟩
 have aE:sW w φ ag [.blk b2 28 B0,B3] bJ:=cy
 refine oR Z (Ze Z Z) (eN (ifc de ?_ ?_))
 intro a7 df
 refine zt (nC a7.out) (Zh (zo (zH (zL (sR fL1 Z ?_)))))
 have co:=ak.le aH
 refine oL Z (aE.ldC (f:=0) co (v:=jV ab) Z ay zJ Z) (eN (rR gDw Z (zV (cs:=[jV 0]) Z Z Z Z Z zz Z aE ?_)))
 intro dz aZ cz
 refine zW (j:=0) (vs:=[jV ab]) Z Z Z Z cz Z Z Z Z zC (zA Z) Z Z Z ?_
 intro bK cA
 have bt:sW w φ ag [.blk aZ 3 [jV ab],.blk b2 28 B0,B3] bK:=cA
 refine eN (rR gDx Z (oL Z (bt.ldB (j:=0) Z Z Z zJ (v:=jV ab) Z) (oR Z (za Z Z Z) (zW (j:=0) (vs:=[jV (w64 (ab + 1))]) Z Z Z Z bt Z Z Z Z zC (zA Z) Z Z Z ?_))))
 intro bL cB
 have cC:sW w φ ag [.blk aZ 3 [jV (w64 (ab + 1))],.blk b2 28 B0,B3] bL:=cB
 refine zb ?_
 have q:=hU df
 obtain rfl:=q
 exact zH ⟨rfl,_,rfl,⟨ag,am,an,aZ,ax,a9,aO,rfl,ba,bb,((aG.trans aQ).trans aH),(cC.pick [1,2,0] _ (by decide) rfl)⟩⟩
 intro a7 dg
 refine ZL (nF (a7.out)) (rR (wEI gEi) Z (oM Z a9 ?_))
 have cp:=br.le aH
 refine oL Z (aE.ldC (f:=0) cp (v:=jV (↑af:Int)) Z aO zJ Z) ?_
 have bs:=ak.le aH
 refine oL Z (aE.ldC (f:=0) bs (v:=jV ab) Z ay zJ Z) ?_
 let B4:List Value:=[jV (↑af:Int),jV ab]
 refine oR Z (zl (pv:=[(0,jV (↑af:Int)),(1,jV ab)]) (z:=[jV 0,jV 0]) (cs:=B4) Z (wAG Z (wAG Z wAN)) yG wEw Z Z) (zm (pv:=[(0,.agg B4.toArray)]) (zs:=[jV 0,jV 0]) (cs:=B4) Z Z Z Z Z (wAG Z wAN) Zu Zf yG Z Z Z Z Z aE ?_)
 intro bM bS cD
 let B5:Res:=.row (some ⟨bS,0,none⟩) 1 45 2 (hD wAU [(⟨(↑af:Int),ab⟩:wAS)])
 have bu:sW w φ ag [B5,.blk b2 28 B0,B3] bM:=cD
 refine bnK dg fun bE cq di=>Zm (j:=2) (enc:=wAU) (xs:=aF) (ys:=[(⟨(↑af:Int),ab⟩:wAS)]) (zs:=bE) rfl rfl rfl rfl rfl Try.underlying112 wMg rfl rfl rfl rfl rfl rfl bu rfl rfl rfl (bu.srcR (j:=0) rfl (by decide) (wAD (f:=wAU) (sz:=2) (fun _=>rfl) [(⟨(↑af:Int),ab⟩:wAS)])) (fun _=>rfl) (fun _=>rfl) cq rfl ?_
 intro bi bo bN cE
 let B6:Res:=.row bi bo 45 2 (hD wAU bE)
 have bv:sW w φ ag [B5,.blk b2 28 B0,B6] bN:=cE
 refine oA Z Z (zb (zo (zH (zL (sR fL1 Z (oL Z (bv.ldC (f:=0) bs (v:=jV ab) Z ay zJ Z) (eN (rR gDw Z (zV (cs:=[jV 0]) Z Z Z Z Z zz Z bv ?_)))))))))
 intro dA a5 cG
 refine zW (j:=0) (vs:=[jV ab]) Z Z Z Z cG Z Z Z Z zC (zA Z) Z Z Z ?_
 intro bP cH
 have bw:sW w φ ag [.blk a5 3 [jV ab],B5,.blk b2 28 B0,B6] bP:=cH
 refine eN (rR gDx Z (oL Z (bw.ldB (j:=0) Z Z Z zJ (v:=jV ab) Z) (oR Z (za Z Z Z) (zW (j:=0) (vs:=[jV (w64 (ab + 1))]) Z Z Z Z bw Z Z Z Z zC (zA Z) Z Z Z ?_))))
 intro bQ cI
 have cJ:sW w φ ag [.blk a5 3 [jV (w64 (ab + 1))],B5,.blk b2 28 B0,B6] bQ:=cI
 refine zb ?_
 have q:=hU di
 obtain rfl:=q
 exact zH ⟨rfl,_,rfl,⟨ag,bi,bo,a5,ax,rfl,aO,rfl,ba,bb,((aG.trans aQ).trans aH),(cJ.pick [2,3,0] _ (by decide) rfl)⟩⟩
 have bB:=bg;rw [if_neg aj] at bB;replace aj:=zM aj
 refine cF Z aj (Za (zi ?_))
 have q:=wAZ bB
 obtain ⟨dr,dk,bW⟩:=q
 have q:=c6 dr bW
 obtain rfl:=q
 refine zi (ZQ (zo (zH (rR fL2 Z (oR Z (ZG (za Z bb Z) (congrArg (jV) dd.out)) (oM Z Z (zb ?_)))))))
 cases dk
 exact zH ⟨rfl,⟨dv,am,an,rfl,ax,a9,ba,((bC.trans bD).trans aG),(aD.pick [0,1] _ (by decide) rfl)⟩⟩
 rintro dO dB ⟨dw,bG,bU,cb,dF,bX,bY,dG,cK⟩
 have bV:Hid (¬ ((↑(((↑p0.Starts.length:Int):Int) - 0).toNat:Int) < (↑p0.Starts.length:Int))):=zM (wAc)
 refine sR fL1 Z (oR Z (zc Z cb bY) (eN (zL (cF Z bV (Za (zi (zi (ZQ (zH (sR fL3 Z (oM Z bX (oA Z Z (oA Z Z (eN (zS ?_)))))))))))))))
 cases dm
 exact ⟨rfl,_,(wDx rfl rfl),dw,_,(cK.pick [1] _ (by decide) rfl),bG,bU,rfl,rfl⟩
 intro a8 dl
 refine cT Z a8 (sR fL3 Z (oM Z Z (oA Z Z (oA Z Z (eN (zS (zR ?_)))))))
 have cL:=bd.nilrow 45 2
 cases dl
 exact ⟨rfl,_,(wDx rfl rfl),aV,_,(cL.pick [0] _ (by decide) rfl),none,0,rfl,rfl⟩
end Go.Proofs.Ytlnfbjphfoipaaa
