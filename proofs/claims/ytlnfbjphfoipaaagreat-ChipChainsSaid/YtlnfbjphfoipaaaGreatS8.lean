import Derived.Test.YtlnfbjphfoipaaaGreatS5
import Derived.Test.YtlnfbjphfoipaaaGreatS4
import Derived.Test.YtlnfbjphfoipaaaGreatS6
import Derived.Test.YtlnfbjphfoipaaaGreatS7
set_option linter.all false
open List renaming flatMap->hD,set->nA,getElem_cons_succ->nB,getElem_cons_zero->nD,length_set->nE,getElem_toArray->nG,forall_mem_cons->nK,length_append->nM
open Option.some renaming inj->hH
open Go.Value renaming bool->hJ,slice->nI
open Bool renaming eq_false_iff->hU
open Int renaming toNat_natCast->nH
open Eq renaming trans->nJ
open Nat renaming lt_of_lt_of_eq->nL
namespace Go.Proofs.YtlnfbjphfoipaaaGreat
open Go.KL
def gEm:Sch:=.fx 1 (.fl 2 .nil) .stop
def gEn:Sch:=.fx 2 (.fl 3 .nil) .stop
def gEo:Sch:=.fl 0 (.fx 1 .nil .stop)
def gEp:Sch:=.fx 0 (.fl 1 .nil) .stop
def gEq:Sch:=.fx 3 (.fl 4 .nil) .stop
def gEr:Sch:=.fx 0 (.fl 1 (.fl 2 .nil)) .stop
def gEs:Sch:=.fl 0 gEm
def gEt:Sch:=.fx 2 gEq .stop
def gEu:Sch:=.fl 0 (.fl 1 gEn)
def gEv:Sch:=.fx 0 (.fx 1 gEn .stop) .stop
def gEw:Sch:=.fx 5 (.fl 6 (.fx 7 (.fx 8 .nil .stop) .stop)) (.fx 7 (.fx 5 (.fl 6 (.fx 8 .nil .stop)) .stop) .stop)
def gEx:Sch:=.fx 6 (.fx 7 (.fx 8 (.fx 9 (.fl 10 .nil) .stop) .stop) .stop) .stop
def gEy:Sch:=.fx 6 (.fl 7 (.fl 8 (.fx 9 (.fl 10 (.fl 11 .nil)) .stop))) .stop
set_option maxHeartbeats 4000000
theorem wDY (O:wAI) (ac:Option Addr) (ah:Nat) (ae:Option Addr) (ai:Nat) (af:Option Addr) (aj:Nat) (ag:Option Addr) (ak:Nat) (p1:List wAd) (ay:Option Addr) (az:Nat) (w:World) (φ:PHeap) (hS:St0 w φ []) (bc:Sl φ 1 ac ah O.Starts.length (hD KL.encI O.Starts)) (bd:Sl φ 2 ae ai O.Splits.length (hD wAD O.Splits)) (be:Sl φ 3 af aj O.Clocks.length (hD wAN O.Clocks)) (bf:Sl φ 4 ag ak O.Readings.length (hD wAL O.Readings)) (bJ:Sl φ 4 ay az p1.length (hD wAT p1)) {r:Int × Int} (hm:wAz O p1=some r):Gv Tryz.prog 52 [.agg #[.slice ac O.Starts.length ah,.slice ae O.Splits.length ai,.slice af O.Clocks.length aj,.slice ag O.Readings.length ak],.slice ay p1.length az] w (wCG w [] φ (fun φ_ L_ v=>v=.tuple #[jV r.1,jV r.2]/\L_=[])):=by
 unfold wAz at hm
 refine Gv.of Tryz.func52 Z Tryz.ntmps52 Tryz.results52 Z (sR gEr Z ?_)
 let B0:List Value:=[.slice ac O.Starts.length ah,.slice ae O.Splits.length ai,.slice af O.Clocks.length aj,.slice ag O.Readings.length ak]
 refine zn (cs:=B0) rfl rfl rfl rfl rfl rfl (by rfl) hS ?_
 intro W1 b2 ba
 refine oA Z Z (oA Z Z (eN (zL (sR gEs Z (oL Z (ba.ldBA (j:=0) Z Z Z ZQ ZF (vs:=B0) Z Z) (bnK hm fun x5 h6 bQ=>zD 0 Z Z Z Z (zE Z Z Tryz.call34 (zB Z zM) Z) ba (fun hs=>wCw O ac ah ae ai af aj ag ak W1 φ hs bc bd be bf h6) (.inr Z) ?_))))))
 rintro aR L9 cr aS an bF ⟨rfl,rfl⟩
 have aL:sW w φ aR [.blk b2 36 B0] aS:=bF
 refine oA Z Z (eN (sR fL2 Z (oM Z Z (oR Z (ZP Z Z Z) (eN (ifc bQ ?_ ?_))))))
 intro aH bK
 refine zj (zu (fun h=>h aH.out)) (kN (zL (sR gEu Z (oL Z (aL.ldBA (j:=0) Z Z Z ZQ ZF (vs:=B0) Z Z) (oM Z Z ?_)))))
 have aU:=bc.le an
 have aV:=bd.le an
 have aW:=be.le an
 have aX:=bf.le an
 have aY:=bJ.le an
 refine bnK bK fun cx bt bL=>zD 0 Z Z Z Z (zE Z Z Tryz.call113 (zB Z (zB Z zM)) Z) aL (fun hs=>wEh O ac ah ae ai af aj ag ak p1 ay az aS aR hs aU aV aW aX aY bt) (.inr Z) ?_
 rintro aE b5 ct aG ao bG ⟨rfl,rfl⟩
 have aM:sW w φ aE [.blk b2 36 B0] aG:=bG
 refine oA Z Z (eN (sR fL2 Z (oM Z Z (oR Z (ZP Z Z Z) (eN (ifc bL ?_ ?_))))))
 intro aI bM
 refine zj (zu (fun h=>h aI.out)) (kN (zL (sR fL3 Z (oM Z Z (oR Z (zi Z Z yM) (oR Z (Zy Z Z Z) (eN (ifc bM ?_ ?_))))))))
 intro aJ bN
 refine cT Z aJ (sR fL2 Z (oA Z Z (oA Z Z (eN (zO (zQ ?_))))))
 cases bN
 exact ⟨rfl,_,(wDp rfl rfl),aE,_,(aM.pick [] _ (by decide) rfl),rfl,rfl⟩
 intro aJ bO
 refine cF Z aJ (kN (zL (zx zt [1,3,3,1,2,3,3,3,3,3,3,3] (wEF (.fx 4 (wPY (.nil)) .stop)) (by kernel_rfl) ?_)))
 have av:=aM.drew
 generalize hw_W38:({ aG with drawn:=aG.drawn + 1 }:World)=bq at av ⊢
 refine oL Z (av.ldBA (j:=0) Z Z Z ZQ ZF (vs:=B0) Z Z) (oM Z Z (bnK bO fun aq aZ bP=>?_))
 have a5:=aY.le ao
 have q:=a5.el (fun _=>rfl) (wAe aZ)
 obtain ⟨cd,cq,bD,bE⟩:=q
 refine oR Z (Zc Z Z bD Z yM YA (wCa aZ)) (oL Z (av.ldCA (f:=0) bE Z Z Tryz.isAgg179 YA (us:=[jV aq.Kind,jV aq.Skier,jV aq.Index,.bool aq.Up]) Z Z) ?_)
 have a6:=aU.le ao
 have a7:=aV.le ao
 have a8:=aW.le ao
 have a9:=aX.le ao
 have q:=bnd bP
 obtain ⟨⟨bi,bX,bY⟩,bu,bg⟩:=q
 try dsimp only at bg
 refine zD 0 Z Z Z Z (zE Z Z Tryz.call115 (zB Z (zB Z zM)) Z) av (fun hs=>wFD O ac ah ae ai af aj ag ak aq bq aE hs a6 a7 a8 a9 bu) (.inr Z) ?_
 rintro bo ca cu aT ap bH ⟨rfl,rfl⟩
 have bb:sW w φ bo [.blk b2 36 B0] aT:=bH
 refine oM Z Z (oR Z (zU Z Z (v:=jV bi) Z) (oR Z (zU Z Z (v:=jV bX) Z) (oR Z (zU Z Z (v:=jV bY) Z) (oA Z Z (oA Z Z (oA Z Z (eN (sR (wDK (.fx 3 (wJd (.nil)) .stop)) Z (oL Z (bb.ldBA (j:=0) Z Z Z ZQ ZF (vs:=B0) Z Z) (oM Z Z (oM Z Z ?_)))))))))))
 have bw:=a6.le ap
 have bx:=a7.le ap
 have bz:=a8.le ap
 have bA:=a9.le ap
 have bB:=a5.le ap
 have q:=bnd bg
 obtain ⟨⟨bZ,bj⟩,bC,bh⟩:=q
 try dsimp only at bh
 refine zD 0 Z Z Z Z (zE Z Z Tryz.call114 (zB Z (zB Z (zB Z zM))) Z) bb (fun hs=>wEs O ac ah ae ai af aj ag ak bi p1 ay az aT bo hs bw bx bz bA bB bC) (.inr Z) ?_
 rintro aF cb cw br cp bI ⟨rfl,rfl⟩
 have aN:sW w φ aF [.blk b2 36 B0] br:=bI
 refine oM Z Z (oR Z (zU Z Z (v:=jV bZ) Z) (oR Z (zU Z Z (v:=jV bj) Z) (oA Z Z (oA Z Z (eN (zL (sR fL7 Z (oM Z Z (oM Z Z (oR Z (ZP Z Z Z) (oM Z Z (ifc bh ?_ ?_))))))))))))
 intro ab bR
 refine zw Z Z Z (zI Z Z (zu (fun h=>h ab.out))) Z Z (za Z Z Z (zI Z Z (zu (fun h=>h ab.out))) (fun _=>Runs.geq Z Z Z) (oR Z (zW Z (zu (fun h=>h ab.out)) Z) (eN (ifc bR ?_ ?_))))
 intro aK bS
 refine cT Z aK (zL (yR fun bm aO=>?_))
 have cf:bm 4=jV 0:=(aO 4).trans rfl
 have cg:bm 5=jV 0:=(aO 5).trans rfl
 clear aO
 refine rR fL2 Z (oA Z Z (oA Z Z (eN (zO (zQ ?_)))))
 cases bS
 exact ⟨rfl,_,(wDp rfl rfl),aF,_,(aN.pick [] _ (by decide) rfl),rfl,rfl⟩
 intro aK bT
 refine cF Z aK (kN (zL (yR fun aQ ax=>?_)))
 have cj:aQ 4=jV 0:=(ax 4).trans rfl
 have cm:aQ 5=jV 0:=(ax 5).trans rfl
 have bs:aQ 12=jV bj:=(ax 12).trans rfl
 clear ax
 refine rR fL3 Z (oM Z bs (oA Z Z (oA Z Z (eN (zO ?_)))))
 cases bT
 exact ⟨rfl,_,(wDp rfl rfl),aF,_,(aN.pick [] _ (by decide) rfl),rfl,rfl⟩
 intro ab bU
 refine oT Z ab (oT Z ab (oR Z (zR Z (Zd ab.out) Z) (eN (ZD Z (zL (yR fun bn aP=>?_))))))
 have cn:bn 4=jV 0:=(aP 4).trans rfl
 have co:bn 5=jV 0:=(aP 5).trans rfl
 clear aP
 refine rR fL2 Z (oA Z Z (oA Z Z (eN (zO (zQ ?_)))))
 cases bU
 exact ⟨rfl,_,(wDp rfl rfl),aF,_,(aN.pick [] _ (by decide) rfl),rfl,rfl⟩
 intro aI bV
 refine cT Z aI (sR fL3 Z (oM Z Z (oA Z Z (oA Z Z (eN (zO (zQ ?_)))))))
 cases bV
 exact ⟨rfl,_,(wDp rfl rfl),aE,_,(aM.pick [] _ (by decide) rfl),rfl,rfl⟩
 intro aH bW
 refine cT Z aH (sR fL3 Z (oM Z Z (oA Z Z (oA Z Z (eN (zO (zQ ?_)))))))
 cases bW
 exact ⟨rfl,_,(wDp rfl rfl),aR,_,(aL.pick [] _ (by decide) rfl),rfl,rfl⟩
theorem wIH (p0:Int) (O:Int) (ab:Nat) (w:World) (φ:PHeap) (hS:St0 w φ []) (ac:Cl φ ab 0 [jV O]) {r:Bool} (hm:wDT p0 O=some r):Gv Tryz.prog 117 [jV p0,.pointer (some ⟨ab,0,none⟩)] w (wCG w [] φ (fun φ_ L_ v=>v=.bool r/\L_=[])):=by
 unfold wDT at hm
 refine Gv.of Tryz.func117 Z Tryz.ntmps117 Tryz.results117 Z (sR fL1 Z (oA Z Z (eN (sR fL4 Z (oM Z Z (oL Z (hS.ldC (f:=0) ac (v:=jV O) Z Z zG Z) (oR Z (Zy Z Z Z) (oA Z Z (eN (zO ?_))))))))))
 first | (obtain rfl:=hH hm) | cases hm
 exact ⟨Z,_,(ZA Z),φ,_,hS,Z,Z⟩
theorem wGR (n_:Nat):∀ (p0:Int) (p1:wAf) (ap:Nat) (aM:Option Addr) (aR:Nat) (az:Option Addr) (aF:Nat) (p2:List wAC) (af:Nat) (aj:Option Addr) (ak:Nat) (p3:(Int->Option Bool)) (aE:Nat) (aL:Value) (p4:wAg) (aq:Nat) (aK:Nat) (aN:Option Addr) (aS:Nat) (aO:Option Addr) (aT:Nat) (aP:Option Addr) (aU:Nat) (aQ:Option Addr) (aV:Nat) (aW:Nat) (bo:Array MapEntry) (bp:Nat) (aI:Option Addr) (aJ:Nat) (p5:Unit) (au:Nat) (w:World) (φ:PHeap) (hS:St0 w φ [.blk af 89 [.slice aj p2.length ak],.row aj ak 93 4 (hD wAJ p2)]) (bh:Cl φ ap 0 [.slice aM p1.far.length aR,.slice az p1.by_.length aF]) (bE:Sl φ 1 aM aR p1.far.length (hD KL.encI p1.far)) (bi:Sl φ 1 az aF p1.by_.length (hD KL.encI p1.by_)) (bj:Cl φ aE 0 [aL]) (bm:FnOK Tryz.prog φ aL wKf wKg p3) (bJ:Cl φ aq 0 [.pointer (some ⟨aK,0,none⟩)]) (bK:Cl φ aK 0 [.slice aN p4.Race.Starts.length aS,.slice aO p4.Race.Splits.length aT,.slice aP p4.Race.Clocks.length aU,.slice aQ p4.Race.Readings.length aV,.map (some aW),.slice aI p4.edges.length aJ]) (bL:Sl φ 1 aN aS p4.Race.Starts.length (hD KL.encI p4.Race.Starts)) (bM:Sl φ 2 aO aT p4.Race.Splits.length (hD wAD p4.Race.Splits)) (bN:Sl φ 3 aP aU p4.Race.Clocks.length (hD wAF p4.Race.Clocks)) (bF:Sl φ 4 aQ aV p4.Race.Readings.length (hD wAB p4.Race.Readings)) (bG:MpF φ aW bo bp wBU wBc p4.number) (bH:Sl φ 7 aI aJ p4.edges.length (hD wAP p4.edges)) (bI:Cl φ au 0 [.func (.func 130) #[] #[.pointer (some ⟨ap,0,none⟩),.pointer (some ⟨af,0,none⟩),.pointer (some ⟨aE,0,none⟩),.pointer (some ⟨aq,0,none⟩),.pointer (some ⟨au,0,none⟩)]]) {r:(List wAC)} (hm:wCL n_ p0 p1 p2 p3 p4 p5=some r),Gv Tryz.prog 130 [jV p0,.pointer (some ⟨ap,0,none⟩),.pointer (some ⟨af,0,none⟩),.pointer (some ⟨aE,0,none⟩),.pointer (some ⟨aq,0,none⟩),.pointer (some ⟨au,0,none⟩)] w (wCG w [.blk af 89 [.slice aj p2.length ak],.row aj ak 93 4 (hD wAJ p2)] φ (fun φ_ L_ v=>∃ (bq:Option Addr) (bs:Nat),v=.tuple #[]/\L_=[.row bq bs 93 4 (hD wAJ r),.blk af 89 [.slice bq r.length bs]])):=by
 induction n_ with
 | zero =>
  intros
  rename_i hm
  have cM:(none:Option ((List wAC)))=some _:=hm
  cases cM
 | succ n_ ih =>
  intro p0 p1 ap aM aR az aF p2 af aj ak p3 aE aL p4 aq aK aN aS aO aT aP aU aQ aV aW bo bp aI aJ p5 au w φ hS bh bE bi bj bm bJ bK bL bM bN bF bG bH bI r hm
  have hm:wAm (wCL n_) p0 p1 p2 p3 p4 p5=some r:=hm
  unfold wAm at hm
  refine Gv.of Tryz.func130 Z Tryz.ntmps130 Tryz.results130 Z (zL (bnK hm fun b3 da cX=>?_))
  let B0:Res:=.row aj ak 93 4 (hD wAJ p2)
  let B1:Res:=.blk af 89 [.slice aj p2.length ak]
  refine yX (fun σ_ w_=>∃ (φ_:PHeap),σ_ 0=jV p0/\σ_ 1=.pointer (some ⟨ap,0,none⟩)/\σ_ 2=.pointer (some ⟨af,0,none⟩)/\σ_ 4=.pointer (some ⟨aq,0,none⟩)/\σ_ 5=.pointer (some ⟨au,0,none⟩)/\σ_ 23=.bool b3/\PHeap.Le φ φ_/\SW w [B1,B0] φ φ_ [B0,B1] w_) ?_ ?_
  ·refine rR (wNJ (.fx 13 (.fl 14 (.fl 15 .nil)) .stop)) Z (oR Z (zF Z Z ZZ Z zg) (oL Z (hS.ldC (f:=1) bh (v:=.slice az p1.by_.length aF) Z Z zr Z) (oM Z Z (bnK da fun x7 h8 c6=>?_))))
   have q:=bi.el (fun _=>rfl) (wAe h8)
   obtain ⟨dk,dq,cr,cw⟩:=q
   refine oR Z (ZM Z Z cr Z zK zC (wBV h8) (wBb h8)) (oL Z (hS.ldC (f:=0) cw (v:=jV x7) Z Z zG Z) (oR Z (ze Z Z Z) (oM Z Z (ifc c6 ?_ ?_))))
   ·intro ab cO
    refine oT Z ab (oT Z ab (oT Z ab (oT Z ab (zy Z Z Z (wEd Z Z Z) (zy Z Z Z (wEd Z Z Z) (ZC Z Z Z (wEd Z Z Z) (oT Z ab (oR Z (zR Z (Zd ab.out) Z) (zf ?_)))))))))
    cases cO
    exact zJ ⟨rfl,⟨φ,rfl,rfl,rfl,rfl,rfl,rfl,(zS _),(hS.pick [1,0] _ (by decide) rfl)⟩⟩
   ·intro ab cP
    refine ZE Z Z Z (wF Z ab) (hS.ldB (j:=0) Z Z Z Tryz.isAgg89 (v:=.slice aj p2.length ak) Z) Z (rU Z (wF Z ab) (zi Z Z ZO) (rU Z (wF Z ab) (yI Z Z Z) (zw Z Z Z (wF Z ab) Z Z (ifc cP ?_ ?_))))
    ·intro am cQ
     refine ZE Z Z Z (wT Z am) (hS.ldC (f:=0) bj (v:=aL) Z Z Tryz.isAgg152 Z) Z (zw Z Z Z (wT Z am) Z Z (bnK cQ fun dw cc cR=>OKS.callV (a:=p0) Z Z Z (wT Z am) Z Z (zB Z zM) hS bm Z cc ?_))
     rintro bQ dg dv bS db cD ⟨rfl,rfl⟩
     have cE:SW w [B1,B0] φ bQ [B1,B0] bS:=cD
     refine rU Z (wF Z ab) (zR Z (Zd am.out) Z) (oR Z (zW Z (zu ab.out) Z) (zf ?_))
     cases cR
     exact zJ ⟨rfl,⟨bQ,rfl,rfl,rfl,rfl,rfl,rfl,db,(cE.pick [1,0] _ (by decide) rfl)⟩⟩
    ·intro am cS
     refine oF Z am (oF Z am (ZC Z Z Z (zP Z Z (zu am.out) Z) (rU Z (wF Z ab) (zW Z (zu am.out) Z) (oR Z (zW Z (zu ab.out) Z) (zf ?_)))))
     cases cS
     exact zJ ⟨rfl,⟨φ,rfl,rfl,rfl,rfl,rfl,rfl,(zS _),(hS.pick [1,0] _ (by decide) rfl)⟩⟩
  ·rintro dx br ⟨av,bY,bZ,bt,b5,ca,bu,ac,bC⟩
   refine ifc cX ?_ ?_
   ·intro ba cU
    refine ZD (bu.trans (congrArg hJ ba.out)) (zO (zQ ?_))
    have hE:=hH cU;first | subst r | cases hE
    exact ⟨Z,_,(wMN),av,_,bC,aj,ak,Z,Z⟩
   ·intro ba cV
    refine zj (bu.trans (congrArg hJ (hU.2 ba.out))) (kN (zL (zx zt [1,3,3,1,3,1,3,3,1,3,1,2,0] (wPK (.fx 11 (.fx 12 .nil .stop) .stop)) (by kernel_rfl) ?_)))
    have ao:=bC.drew
    generalize hw_W48:({ br with drawn:=br.drawn + 1 }:World)=dh at ao ⊢
    have bv:=bJ.le ac
    refine oL Z (ao.ldC (f:=0) bv (v:=.pointer (some ⟨aK,0,none⟩)) Z b5 yl Z) (oR Z (Zt Z Z) (oR Z (zF Z Z ZH Z yn) ?_))
    have bw:=bK.le ac
    refine oL Z (ao.ldC (f:=5) bw (v:=.slice aI p4.edges.length aJ) Z Z Tryz.isAgg137 Z) (oR Z (zF Z bZ ZZ Z zg) ?_)
    have bx:=bh.le ac
    refine oL Z (ao.ldC (f:=1) bx (v:=.slice az p1.by_.length aF) Z Z zr Z) (oM Z bY (bnK cV fun dd bc cW=>?_))
    have bz:=bi.le ac
    have q:=bz.el (fun _=>rfl) (wAe bc)
    obtain ⟨dl,dr,ct,cx⟩:=q
    refine oR Z (ZM Z Z ct Z zK zC (wBV bc) (wBb bc)) (oL Z (ao.ldC (f:=0) cx (v:=jV dd) Z Z zG Z) (bnK cW fun O bd cY=>?_))
    have bA:=bH.le ac
    have q:=bA.el (fun _=>rfl) (wAe bd)
    obtain ⟨dm,dt,cu,cy⟩:=q
    refine oR Z (ZM Z Z cu Z yt yu (wBV bd) (wBb bd)) (oL Z (ao.ldCA (f:=0) cy Z Z Tryz.isAgg184 yu (us:=[jV O.step.Kind,jV O.step.Skier,jV O.step.Index,.bool O.step.Up,jV O.from_,jV O.to_,jV O.count]) Z Z) (zV (cs:=[jV 0,jV 0,jV 0,.bool false,jV 0,jV 0,jV 0]) Z Z Z Z Z Tryz.zeroValue184 Z ao ?_))
    intro di ax cG
    let B2:List Value:=[jV O.step.Kind,jV O.step.Skier,jV O.step.Index,.bool O.step.Up,jV O.from_,jV O.to_,jV O.count]
    refine zX (j:=0) (vs:=B2) Z Z Z Z cG Z Z Z Z yu (zA Z) Z Z Z ?_
    intro bT cH
    have bf:SW w [B1,B0] φ av [.blk ax 184 B2,B0,B1] bT:=cH
    refine eN (sR (wDK (.fx 3 (.fx 4 (.fx 5 .nil .stop) .stop) .stop)) Z (oL Z (bf.ldB (j:=2) Z Z bt Tryz.isAgg89 (v:=.slice aj p2.length ak) Z) (oR Z (zF Z Z yU Z ZK) ?_)))
    let B3:List Value:=[jV O.step.Kind,jV O.step.Skier,jV O.step.Index,.bool O.step.Up]
    refine oL Z (bf.ldBA (j:=0) Z Z Z Zs ZK (vs:=B3) Z Z) (ZR (pv:=[(0,.agg B3.toArray)]) (zs:=[jV 0,jV 0,jV 0,.bool false]) (cs:=B3) Z Z Z Z Z (wAG Z wAR) ZO ZK Zv Z Z Z Z Z bf ?_)
    intro bU bX cI
    let B4:Res:=.row (some ⟨bX,0,none⟩) 1 93 4 (hD wAJ [O.step])
    have bD:SW w [B1,B0] φ av [B4,.blk ax 184 B2,B0,B1] bU:=cI
    refine bnK cY fun aX cd cZ=>yb (j:=2) (enc:=wAJ) (xs:=p2) (ys:=[O.step]) (zs:=aX) rfl rfl rfl rfl rfl Tryz.underlying89 wMz rfl rfl rfl rfl rfl rfl bD rfl rfl rfl (bD.srcR (j:=0) rfl (by decide) (wAE (f:=wAJ) (sz:=4) (fun _=>rfl) [O.step])) (fun _=>rfl) (fun _=>rfl) cd rfl ?_
    intro aZ bb bV cJ
    let B5:Res:=.row aZ bb 93 4 (hD wAJ aX)
    have cK:SW w [B1,B0] φ av [B4,.blk ax 184 B2,B5,B1] bV:=cJ
    let B6:List Value:=[.slice aZ aX.length bb]
    refine zX (j:=3) (vs:=B6) Z Z Z Z cK Z bt Z Z Tryz.sizeOf89 (zA Z) Z Z Z ?_
    intro a8 cL
    have bg:SW w [B1,B0] φ av [B4,.blk ax 184 B2,B5,.blk af 89 B6] a8:=cL
    refine eN (rR (wDK (.fx 3 .nil .stop)) Z ?_)
    have bB:=bI.le ac
    refine oL Z (bg.ldC (f:=0) bB (v:=.func (.func 130) #[] #[.pointer (some ⟨ap,0,none⟩),.pointer (some ⟨af,0,none⟩),.pointer (some ⟨aE,0,none⟩),.pointer (some ⟨aq,0,none⟩),.pointer (some ⟨au,0,none⟩)]) Z ca Tryz.isAgg205 Z) (oR Z (zF Z Z yU Z zC) (oL Z (bg.ldB (j:=1) Z Z Z zG (v:=jV O.from_) Z) ?_))
    have cf:=bE.le ac
    have cg:=bj.le ac
    have cj:=bm.le ac
    have cm:=bL.le ac
    have cn:=bM.le ac
    have co:=bN.le ac
    have cp:=bF.le ac
    have cq:=bG.le ac
    refine bnK cZ fun bO cb cN=>?_
    have cz:SW w [B1,B0] φ av [.blk af 89 B6,B5,B4,.blk ax 184 B2] a8:=bg.pick [3,2,0,1] _ (by decide) rfl
    refine zD 2 Z Z Z Z (zE Z Z Tryz.call130 (zB Z zM) Z) cz (fun hs=>ih O.from_ p1 ap aM aR az aF aX af aZ bb p3 aE aL p4 aq aK aN aS aO aT aP aU aQ aV aW bo bp aI aJ () au a8 av hs bx cf bz cg cj bv bw cm cn co cp cq bA bB cb) (.inl Z) ?_
    rintro bP df du bR dp cA ⟨aY,a9,rfl,rfl⟩
    have cC:SW w [B1,B0] φ bP [.row aY a9 93 4 (hD wAJ bO),.blk af 89 [.slice aY bO.length a9],B4,.blk ax 184 B2] bR:=cA
    refine zf ?_
    have hE:=hH cN;first | subst r | cases hE
    exact ⟨rfl,_,(wMN),bP,_,(cC.pick [0,1] _ (by decide) rfl),aY,a9,rfl,rfl⟩
theorem wDw (p0:List wAC) (ac:Option Addr) (ae:Nat) (w:World) (φ:PHeap) (hS:St0 w φ [.row ac ae 93 4 (hD wAJ p0)])  {r:(List wAC)} (hm:wAp p0=some r):Gv Tryz.prog 131 [.slice ac p0.length ae] w (wCG w [.row ac ae 93 4 (hD wAJ p0)] φ (fun φ_ L_ v=>v=.tuple #[]/\L_=[.row ac ae 93 4 (hD wAJ r)]/\r.length=p0.length)):=by
 unfold wAp at hm
 refine Gv.of Tryz.func131 Z Tryz.ntmps131 Tryz.results131 Z (sR fL5 Z (oM Z Z (oR Z (zi Z Z ZO) (oR Z (yO Z Z Z) (oA Z Z (oA Z Z (eN (zY ?_))))))))
 let B0:Res:=.row ac ae 93 4 (hD wAJ p0)
 refine YI (fun (O,aa,ab) σ_ w_=>∃ (φ_:PHeap),σ_ 0=.slice ac O.length ae/\σ_ 2=jV aa/\σ_ 3=jV ab/\PHeap.Le φ φ_/\SW w [B0] φ φ_ [.row ac ae 93 4 (hD wAJ O)] w_/\O.length=p0.length) hm ?_ ?_
 exact ⟨φ,Z,Z,Z,(zS _),hS,Z⟩
 rintro ⟨O,aa,ab⟩ a7 a8 az ⟨aq,aj,an,ao,aY,aF,aE⟩ av aP
 try dsimp only at av
 refine zL (sR fL3 Z (oM Z an (oM Z ao (oR Z (ze Z Z Z) (eN ?_)))))
 by_cases af:aa < ab
 have aG:=av;rw [if_pos af] at aG;replace af:=zN af
 refine cT Z af (kN (zL (zY (zx zt [3,3,3,3,3,3,3,1,3,3,3,1,3,0,3,0] (wNJ (.fx 13 (.fl 14 (.fx 15 .nil .stop)) .stop)) (by kernel_rfl) ?_))))
 have am:=aF.drew
 generalize hw_W31:({ az with drawn:=az.drawn + 1 }:World)=a5 at am ⊢
 refine oM Z aj (oM Z an (oM Z aj (oM Z ao (oM Z aj (oM Z ao (bnK aG fun _ ap aU=>?_))))))
 obtain ⟨a6,ag⟩:=am.rowSome (j:=0) rfl (by rw [wAE (f:=wAJ) (sz:=4) (fun _=>rfl) O];have hz:=wAW ap;omega)
 refine oR Z (ZM Z Z ag Z ZO ZK (wBq ap) (wBr ap)) ?_
 have aQ:=wBK (xs:=O) (wAW ap)
 let B1:List Value:=[jV ((gd O ab.toNat).Kind),jV ((gd O ab.toNat).Skier),jV ((gd O ab.toNat).Index),.bool ((gd O ab.toNat).Up)]
 refine ZE rfl rfl rfl rfl (am.ldRA (j:=0) rfl ag rfl rfl Zs ZK (vs:=B1) (wGM (sz:=4) (fun _=>rfl) _ _ _ aQ (by first | omega | rfl | simp) rfl) rfl) rfl (zw rfl rfl rfl rfl rfl aj (zw rfl rfl rfl rfl rfl an (bnK aU fun _ ah aV=>za rfl rfl rfl rfl (fun _=>ZM rfl rfl ag rfl ZO ZK (wBq ah) (wBr ah)) ?_)))
 have aR:=wBK (xs:=O) (wAW ah)
 let B2:List Value:=[jV ((gd O aa.toNat).Kind),jV ((gd O aa.toNat).Skier),jV ((gd O aa.toNat).Index),.bool ((gd O aa.toNat).Up)]
 refine ZE rfl rfl rfl rfl (am.ldRA (j:=0) rfl ag rfl rfl Zs ZK (vs:=B2) (wGM (sz:=4) (fun _=>rfl) _ _ _ aR (by first | omega | rfl | simp) rfl) rfl) rfl (za rfl rfl rfl rfl (fun _=>ZM rfl rfl ag rfl ZO ZK (wBq ah) (wBr ah)) ?_)
 have aS:=wBK (xs:=O) (wAW ah)
 refine yw (j:=0) (vs:=B1) (cs':=hD wAJ (nA O aa.toNat (gd O ab.toNat))) rfl rfl rfl rfl am rfl ag rfl rfl rfl ZK (by rw [wAE (f:=wAJ) (sz:=4) (fun _=>rfl)];have hz:=wAW ah;show _ + 4 <= _;first | omega | (simp only [nH];omega) | (simp only [nG,nB,nD];omega)) rfl (wDV (sz:=4) (fo:=0) (fun _=>rfl) _ _ _ _ aS (by first | omega | (simp only [nH];omega) | (simp only [nG,nB,nD];omega)) (zA rfl) rfl) rfl ?_
 intro aI aL
 have aM:SW w [B0] φ aq [.row ac ae 93 4 (hD wAJ (nA O aa.toNat (gd O ab.toNat)))] aI:=aL
 refine bnK aV fun _ ak aW=>za rfl rfl rfl rfl (fun _=>ZM rfl (nJ (b:=(.slice ac O.length ae:Value)) (c:=(.slice ac ((nA O aa.toNat (gd O ab.toNat)).length) ae:Value)) rfl (by simp only [nE])) ag rfl ZO ZK (wBq ak) (wBr ak)) ?_
 have aT:=wBK (xs:=(nA O aa.toNat (gd O ab.toNat))) (by first | exact wAW ak | (have hz:=wAW ak;simpa only [nE] using hz))
 refine yw (j:=0) (vs:=B2) (cs':=hD wAJ (nA (nA O aa.toNat (gd O ab.toNat)) ab.toNat (gd O aa.toNat))) rfl rfl rfl rfl aM rfl ag rfl rfl rfl ZK (by rw [wAE (f:=wAJ) (sz:=4) (fun _=>rfl)];have hz:=wAW ak;show _ + 4 <= _;first | omega | (simp only [nE];omega) | (simp only [nG,nB,nD,nE];omega) | (simp only [nH];omega) | (simp only [nG,nB,nD];omega)) rfl (wDV (sz:=4) (fo:=0) (fun _=>rfl) _ _ _ _ aT (by first | omega | (simp only [nH];omega) | (simp only [nG,nB,nD];omega)) (zA rfl) rfl) rfl ?_
 intro aJ aN
 have aO:SW w [B0] φ aq [.row ac ae 93 4 (hD wAJ (nA (nA O aa.toNat (gd O ab.toNat)) ab.toNat (gd O aa.toNat)))] aJ:=aN
 refine zf (zm (zJ (rR fL6 Z (oM Z an (oR Z (zh Z Z Z) (oM Z ao (oR Z (yO Z Z Z) (oA Z Z (oA Z Z (zf ?_))))))))))
 have q:=hH aW
 obtain rfl:=q
 exact zJ ⟨rfl,_,rfl,⟨aq,(nJ (b:=(.slice ac ((nA O aa.toNat (gd O ab.toNat)).length) ae:Value)) (c:=(.slice ac ((nA (nA O aa.toNat (gd O ab.toNat)) ab.toNat (gd O aa.toNat)).length) ae:Value)) (nJ (b:=(.slice ac O.length ae:Value)) (c:=(.slice ac ((nA O aa.toNat (gd O ab.toNat)).length) ae:Value)) aj (by simp only [nE])) (by simp only [nE])),rfl,rfl,aY,aO,((nE.trans nE).trans aE)⟩⟩
 have aH:=av;rw [if_neg af] at aH;replace af:=zN af
 refine cF Z af (Za (zq ?_))
 have q:=wAS aH
 obtain ⟨aZ,aX,aK⟩:=q
 have q:=aP aZ aK
 obtain rfl:=q
 refine zq (ZW ?_)
 have hE:=hH aX;first | subst r | cases hE
 exact ⟨Z,_,(wMN),aq,_,aF,Z,Z,aE⟩
theorem wFK (O:wAg) (aF:Nat) (aM:Option Addr) (aR:Nat) (aN:Option Addr) (aS:Nat) (aO:Option Addr) (aT:Nat) (aP:Option Addr) (aU:Nat) (aW:Nat) (bm:Array MapEntry) (bn:Nat) (aQ:Option Addr) (aV:Nat) (p1:wAf) (az:Option Addr) (aG:Nat) (aE:Option Addr) (aH:Nat) (p2:(Int->Option Bool)) (aq:Value) (p3:Int) (w:World) (φ:PHeap) (hS:St0 w φ []) (cU:Cl φ aF 0 [.slice aM O.Race.Starts.length aR,.slice aN O.Race.Splits.length aS,.slice aO O.Race.Clocks.length aT,.slice aP O.Race.Readings.length aU,.map (some aW),.slice aQ O.edges.length aV]) (cV:Sl φ 1 aM aR O.Race.Starts.length (hD KL.encI O.Race.Starts)) (cW:Sl φ 2 aN aS O.Race.Splits.length (hD wAD O.Race.Splits)) (cX:Sl φ 3 aO aT O.Race.Clocks.length (hD wAF O.Race.Clocks)) (cY:Sl φ 4 aP aU O.Race.Readings.length (hD wAB O.Race.Readings)) (cZ:MpF φ aW bm bn wBU wBc O.number) (c6:Sl φ 7 aQ aV O.edges.length (hD wAP O.edges)) (da:Sl φ 1 az aG p1.far.length (hD KL.encI p1.far)) (db:Sl φ 1 aE aH p1.by_.length (hD KL.encI p1.by_)) (dd:FnOK Tryz.prog φ aq wKf wKg p2) {r:(List wAC)} (hm:wCe O p1 p2 p3=some r):Gv Tryz.prog 116 [.pointer (some ⟨aF,0,none⟩),.agg #[.slice az p1.far.length aG,.slice aE p1.by_.length aH],aq,jV p3] w (wCG w [] φ (fun φ_ L_ v=>∃ (A0:Option Addr) (c0:Nat),v=.slice A0 r.length c0/\L_=[.row A0 c0 93 4 (hD wAJ r)])):=by
 unfold wCe at hm
 refine Gv.of Tryz.func116 Z Tryz.ntmps116 Tryz.results116 Z (sR gEv Z ?_)
 let B0:List Value:=[.pointer (some ⟨aF,0,none⟩)]
 refine zn (cs:=B0) rfl rfl rfl rfl rfl rfl (by rfl) hS ?_
 intro W1 b2 cI
 have q:=cI.freeze (k:=0) rfl
 obtain ⟨bp,ae,ap,cQ⟩:=q
 replace ap:=Cl.of ap
 have cR:sW w φ bp [] W1:=cQ
 replace ap:Cl bp b2 0 B0:=ap
 let B1:List Value:=[.slice az p1.far.length aG,.slice aE p1.by_.length aH]
 refine zn (cs:=B1) rfl rfl rfl rfl rfl rfl (by rfl) cR ?_
 intro bs av cA
 have q:=cA.freeze (k:=0) rfl
 obtain ⟨bo,ac,am,cC⟩:=q
 replace am:=Cl.of am
 have cD:sW w φ bo [] bs:=cC
 replace am:Cl bo av 0 B1:=am
 have bw:=dd.le ae
 have bg:=bw.le ac
 refine zn (cs:=[aq]) Z Z Z Z Z Z (FnOK.cells bg) cD ?_
 intro bt ay cE
 have q:=cE.freeze (k:=0) rfl
 obtain ⟨aZ,ab,an,cG⟩:=q
 replace an:=Cl.of an
 have cH:sW w φ aZ [] bt:=cG
 replace an:Cl aZ ay 0 [aq]:=an
 refine oA Z Z (eN (sR (.fx 0 .nil .stop) Z (zV (cs:=[.slice none 0 0]) Z Z Z Z Z Tryz.zeroValue89 Z cH ?_)))
 intro di ai cJ
 refine eN (sR (.fx 0 .nil .stop) Z (zV (cs:=[.nilFunc]) Z Z Z Z Z Tryz.zeroValue205 Z cJ ?_))
 intro dk ak cK
 refine eN (sR gEo Z (oR Z (YC Z zM (zB Z (zB Z (zB Z (zB Z (zB Z zM)))))) ?_))
 let B2:List Value:=[.func (.func 130) #[] #[.pointer (some ⟨av,0,none⟩),.pointer (some ⟨ai,0,none⟩),.pointer (some ⟨ay,0,none⟩),.pointer (some ⟨b2,0,none⟩),.pointer (some ⟨ak,0,none⟩)]]
 refine zX (j:=0) (vs:=B2) Z Z Z Z cK Z Z Z Z Tryz.sizeOf205 (zA Z) Z Z Z ?_
 intro aj cL
 let B3:Res:=.blk ai 89 [.slice none 0 0]
 have bj:sW w φ aZ [.blk ak 205 B2,B3] aj:=cL
 refine eN (sR (.fl 0 (.fl 1 (.fx 2 .nil .stop))) Z (oL Z (bj.ldB (j:=0) Z Z Z Tryz.isAgg205 (v:=.func (.func 130) #[] #[.pointer (some ⟨av,0,none⟩),.pointer (some ⟨ai,0,none⟩),.pointer (some ⟨ay,0,none⟩),.pointer (some ⟨b2,0,none⟩),.pointer (some ⟨ak,0,none⟩)]) Z) (oM Z Z ?_)))
 have q:=bj.freeze (k:=0) rfl
 obtain ⟨au,aa,ao,cM⟩:=q
 replace ao:=Cl.of ao
 have cN:sW w φ au [B3] aj:=cM
 replace ao:Cl au ak 0 B2:=ao
 have cO:=cN.nilrow 93 4
 let B4:Res:=.row none 0 93 4 (hD wAJ ([]:List wAC))
 let B5:Res:=.blk ai 89 [.slice none (([]:List wAC).length) 0]
 have cP:sW w φ au [B4,B5] aj:=cO
 have bx:=am.le ab
 have bz:=bx.le aa
 have bA:=da.le ae
 have bB:=bA.le ac
 have bC:=bB.le ab
 have bD:=bC.le aa
 have bE:=db.le ae
 have bF:=bE.le ac
 have bG:=bF.le ab
 have bH:=bG.le aa
 have bI:=an.le aa
 have bJ:=bg.le ab
 have bK:=bJ.le aa
 have bL:=ap.le ac
 have bM:=bL.le ab
 have bN:=bM.le aa
 have bO:=cU.le ae
 have bP:=bO.le ac
 have bQ:=bP.le ab
 have bR:=bQ.le aa
 have bS:=cV.le ae
 have bT:=bS.le ac
 have bU:=bT.le ab
 have bV:=bU.le aa
 have bW:=cW.le ae
 have bX:=bW.le ac
 have bY:=bX.le ab
 have bZ:=bY.le aa
 have b5:=cX.le ae
 have ca:=b5.le ac
 have cb:=ca.le ab
 have cc:=cb.le aa
 have cd:=cY.le ae
 have cf:=cd.le ac
 have cg:=cf.le ab
 have cj:=cg.le aa
 have cm:=cZ.le ae
 have cn:=cm.le ac
 have co:=cn.le ab
 have cp:=co.le aa
 have cq:=c6.le ae
 have cr:=cq.le ac
 have ct:=cr.le ab
 have cu:=ct.le aa
 refine bnK hm fun aI cw df=>?_
 have cS:sW w φ au [B5,B4] aj:=cP.pick [1,0] _ (by decide) rfl
 refine zD 2 Z Z Z Z (zE Z Z Tryz.call130 (zB Z zM) Z) cS (fun hs=>wGR 1000 p3 p1 av az aG aE aH ([]:List wAC) ai none 0 p2 ay aq O b2 aF aM aR aN aS aO aT aP aU aW bm bn aQ aV () ak aj au hs bz bD bH bI bK bN bR bV bZ cc cj cp cu ao cw) (.inl Z) ?_
 rintro bq dh dq bd dl cx ⟨ag,ah,rfl,rfl⟩
 let B6:Res:=.blk ai 89 [.slice ag aI.length ah]
 have bh:sW w φ bq [.row ag ah 93 4 (hD wAJ aI),B6] bd:=cx
 refine eN (sR gEo Z (oL Z (bh.ldB (j:=1) Z Z Z Tryz.isAgg89 (v:=.slice ag aI.length ah) Z) (bnK df fun aX bu de=>zD 1 Z Z Z Z (zE Z Z Tryz.call131 (zB Z zM) Z) bh (fun hs=>wDw aI ag ah bd bq hs bu) (.inl Z) ?_)))
 rintro aY dg dp be dm cy ⟨rfl,rfl,bv⟩
 let B7:Res:=.row ag ah 93 4 (hD wAJ aX)
 have cz:sW w φ aY [B7,B6] be:=cy
 have bi:sW w φ aY [B7,.blk ai 89 [.slice ag aX.length ah]] be:=by rw [bv];exact cz
 refine eN (sR fL2 Z (oL Z (bi.ldB (j:=1) Z Z Z Tryz.isAgg89 (v:=.slice ag aX.length ah) Z) (oA Z Z (eN (zO ?_)))))
 have hE:=hH de;first | subst r | cases hE
 exact ⟨rfl,_,(ZA rfl),aY,_,(bi.pick [0] _ (by decide) rfl),ag,ah,rfl,rfl⟩
theorem wJL (p0:wAA) (a6:Option Addr) (ba:Nat) (a7:Option Addr) (bb:Nat) (a8:Option Addr) (bc:Nat) (a9:Option Addr) (bd:Nat) (p1:wAM) (p2:wAM) (w:World) (φ:PHeap) (hS:St0 w φ []) (eH:Sl φ 1 a6 ba p0.Starts.length (hD KL.encI p0.Starts)) (eI:Sl φ 2 a7 bb p0.Splits.length (hD wAD p0.Splits)) (eJ:Sl φ 3 a8 bc p0.Clocks.length (hD wAF p0.Clocks)) (eK:Sl φ 4 a9 bd p0.Readings.length (hD wAB p0.Readings)) {r:(List wAC) × Int} (hm:wDe p0 p1 p2=some r):Gv Tryz.prog 53 [.agg #[.slice a6 p0.Starts.length ba,.slice a7 p0.Splits.length bb,.slice a8 p0.Clocks.length bc,.slice a9 p0.Readings.length bd],.agg #[jV p1.Skier,jV p1.Mat],.agg #[jV p2.Skier,jV p2.Mat]] w (wCG w [] φ (fun φ_ L_ v=>∃ (A0:Option Addr) (c0:Nat),v=.tuple #[.slice A0 r.1.length c0,jV r.2]/\L_=[.row A0 c0 93 4 (hD wAJ r.1)])):=by
 unfold wDe at hm
 refine Gv.of Tryz.func53 Z Tryz.ntmps53 Tryz.results53 Z (sR (.fx 0 (.fx 1 (.fx 2 (.fl 3 (.fl 4 .nil)) .stop) .stop) .stop) Z ?_)
 let B0:List Value:=[.slice a6 p0.Starts.length ba,.slice a7 p0.Splits.length bb,.slice a8 p0.Clocks.length bc,.slice a9 p0.Readings.length bd]
 refine zn (cs:=B0) rfl rfl rfl rfl rfl rfl (by rfl) hS ?_
 intro W1 b2 eD
 let O:List Value:=[jV p1.Skier,jV p1.Mat]
 refine zn (cs:=O) rfl rfl rfl rfl rfl rfl (by rfl) eD ?_
 intro W5 b6 eG
 let B2:List Value:=[jV p2.Skier,jV p2.Mat]
 refine zn (cs:=B2) rfl rfl rfl rfl rfl rfl (by rfl) eG ?_
 intro W9 ac aZ
 refine oA Z Z (oA Z Z (eN (sR (wDK (.fx 3 (.fx 4 (wIs (.nil)) .stop) .stop)) Z (oL Z (aZ.ldBA (j:=2) Z Z Z zo zZ (vs:=B0) Z Z) (oL Z (aZ.ldBA (j:=1) Z Z Z Zn ZV (vs:=O) Z Z) (oL Z (aZ.ldBA (j:=0) Z Z Z Zn ZV (vs:=B2) Z Z) (ZR (pv:=[(0,.agg O.toArray),(1,.agg B2.toArray)]) (zs:=[jV 0,jV 0,jV 0,jV 0]) (cs:=[jV p1.Skier,jV p1.Mat,jV p2.Skier,jV p2.Mat]) Z Z Z Z Z (wAG Z (wAG Z wAR)) Zz ZV yG Z Z Z Z Z aZ ?_)))))))
 intro bn bM dX
 have d5:sW w φ φ [.row (some ⟨bM,0,none⟩) 2 29 2 (hD wAY [p1,p2]),.blk ac 29 B2,.blk b6 29 O,.blk b2 27 B0] bn:=dX
 have q:=d5.freezeR (k:=0) (n:=[p1,p2].length) rfl (wAE (f:=wAY) (sz:=2) (fun _=>rfl) [p1,p2]) (by decide)
 obtain ⟨cn,a5,eX,eu⟩:=q
 have ew:sW w φ cn [.blk ac 29 B2,.blk b6 29 O,.blk b2 27 B0] bn:=eu
 have cZ:=eH.le a5
 have dl:=eI.le a5
 have dz:=eJ.le a5
 have dH:=eK.le a5
 have q:=bnd hm
 obtain ⟨⟨fg,cj⟩,dI,aQ⟩:=q
 try dsimp only at aQ
 refine zD 0 Z Z Z Z (zE Z Z Tryz.call63 (zB Z (zB Z zM)) Z) ew (fun hs=>wFC p0 a6 ba a7 bb a8 bc a9 bd [p1,p2] (some ⟨bM,0,none⟩) 2 bn cn hs cZ dl dz dH eX dI) (.inr Z) ?_
 rintro aG fD fS aI fM ca bW
 rcases fg with _ | av
 try dsimp only at aQ
 obtain ⟨rfl,rfl⟩:=bW
 have cb:sW w φ aG [.blk ac 29 B2,.blk b6 29 O,.blk b2 27 B0] aI:=ca
 refine oM Z Z (oR Z (zU Z Z (v:=.pointer none) Z) (oR Z (zU Z Z (v:=jV cj) Z) (oA Z Z (oA Z Z (eN (zL (sR fL2 Z (oM Z Z (oR Z (ZP Z Z Z) (eN (ifc aQ ?_ ?_)))))))))))
 intro bv eQ
 refine zj (zu (fun h=>h bv.out)) (kN (zL (zx zt [3,3,3,1,1,2,1,2,0] (wGD gEw) (by kernel_rfl) ?_)))
 have eE:=cb.drew
 generalize hw_W57:({ aI with drawn:=aI.drawn + 1 }:World)=fJ at eE ⊢
 refine oM Z Z ?_
 cases eQ
 intro bv eR
 refine cT Z bv (sR fL3 Z (oM Z Z (oA Z Z (oA Z Z (eN (zO (zQ ?_)))))))
 have eF:=cb.nilrow 93 4
 cases eR
 exact ⟨rfl,_,(wDp rfl rfl),aG,_,(eF.pick [0] _ (by decide) rfl),none,0,rfl,rfl⟩
 try dsimp only at aQ
 obtain ⟨af,bg,bq,bh,br,bi,bs,bj,bt,ai,am,ak,bm,bu,rfl,rfl,dJ,dK,dL,dM,aM,dN⟩:=bW
 let B3:List Value:=[.slice bg av.Race.Starts.length bq,.slice bh av.Race.Splits.length br,.slice bi av.Race.Clocks.length bs,.slice bj av.Race.Readings.length bt,.map (some ai),.slice bm av.edges.length bu]
 have cc:sW w φ aG [.blk af 139 B3,.obj ai (.map am ak),.blk ac 29 B2,.blk b6 29 O,.blk b2 27 B0] aI:=ca
 refine oM Z Z (oR Z (zU Z Z (v:=.pointer (some ⟨af,0,none⟩)) Z) (oR Z (zU Z Z (v:=jV cj) Z) (oA Z Z (oA Z Z (eN (zL (sR fL2 Z (oM Z Z (oR Z (ZP Z Z Z) (eN (ifc aQ ?_ ?_)))))))))))
 intro bw eS
 refine zj (zu (fun h=>h bw.out)) (kN (bnK eS fun az eY eU=>yX (fun σ_ w_=>∃ (φ_:PHeap) (au:Nat),σ_ 5=.pointer (some ⟨ac,0,none⟩)/\σ_ 8=.pointer (some ⟨af,0,none⟩)/\σ_ 10=.pointer (some ⟨au,0,none⟩)/\PHeap.Le aG φ_/\sW w φ φ_ [.blk af 139 B3,.obj ai (.map am ak),.blk ac 29 B2,.blk b6 29 O,.blk b2 27 B0,.blk au 3 [jV az]] w_) ?_ ?_))
 refine bnK eY fun be bV cf=>zx zt [3,3,3,1,1,2,1,2,0] (wGD gEw) (by kernel_rfl) ?_
 have aP:=cc.drew
 generalize hw_W97:({ aI with drawn:=aI.drawn + 1 }:World)=cy at aP ⊢
 refine oM Z Z (oR Z (Zt Z Z) (oR Z (zF Z Z ZH Z Zw) (oL Z (aP.ldB (j:=0) Z Z Z yC (v:=.map (some ai)) Z) (oL Z (aP.ldBA (j:=3) Z Z Z Zn ZV (vs:=O) Z Z) (ZJ ?_ ?_)))))
 refine zD 0 Z Z Z Z (zE Z Z yp (zB Z zM) Z) aP (fun hs=>wDJ p1 cy aG hs bV) (.inr Z) ?_
 rintro bD fy fN cp eZ dP ⟨rfl,rfl⟩
 have bX:sW w φ bD [.blk af 139 B3,.obj ai (.map am ak),.blk ac 29 B2,.blk b6 29 O,.blk b2 27 B0] cp:=dP
 refine oL Z (bX.lookup1 (j:=1) (mk:=wBU) (mv:=wBc) (a:=be) (z:=0) Z Z Z Z (wBj ZS) wDF ZG aM) (zV (cs:=[jV 0]) Z Z Z Z Z ZG Z bX ?_)
 intro fG bL dQ
 let B4:List Value:=[jV (wBP av.number be 0)]
 refine zX (j:=0) (vs:=B4) Z Z Z Z dQ Z Z Z Z zC (zA Z) Z Z Z ?_
 intro cq dR
 have dS:sW w φ bD [.blk bL 3 B4,.blk af 139 B3,.obj ai (.map am ak),.blk ac 29 B2,.blk b6 29 O,.blk b2 27 B0] cq:=dR
 refine zf ?_
 cases cf
 exact zJ ⟨rfl,⟨bD,bL,rfl,rfl,rfl,eZ,(dS.pick [1,2,3,4,5,0] _ (by decide) rfl)⟩⟩
 refine zV (cs:=[jV 0]) Z Z Z Z Z ZG Z aP ?_
 intro cr bp dT
 refine zD 0 Z Z Z Z (zE Z Z yp (zB Z zM) Z) dT (fun hs=>wDJ p1 cr aG hs bV) (.inr Z) ?_
 rintro bB fz fO ct e6 dU ⟨rfl,rfl⟩
 have bY:sW w φ bB [.blk bp 3 [jV 0],.blk af 139 B3,.obj ai (.map am ak),.blk ac 29 B2,.blk b6 29 O,.blk b2 27 B0] ct:=dU
 refine oL Z (bY.lookup1 (j:=2) (mk:=wBU) (mv:=wBc) (a:=be) (z:=0) Z Z Z Z (wBj ZS) wDF ZG aM) ?_
 let B5:List Value:=[jV (wBP av.number be 0)]
 refine zX (j:=0) (vs:=B5) Z Z Z Z bY Z Z Z Z zC (zA Z) Z Z Z ?_
 intro cu dV
 have dW:sW w φ bB [.blk bp 3 B5,.blk af 139 B3,.obj ai (.map am ak),.blk ac 29 B2,.blk b6 29 O,.blk b2 27 B0] cu:=dV
 refine zf ?_
 cases cf
 exact zJ ⟨rfl,⟨bB,bp,rfl,rfl,rfl,e6,(dW.pick [1,2,3,4,5,0] _ (by decide) rfl)⟩⟩
 rintro fT cw ⟨fj,au,cz,bx,bP,aR,bZ⟩
 refine sR (.fl 0 (.fl 1 (.fx 2 (wMH (.fx 7 (.fx 8 (.fl 9 (.fl 10 .nil)) .stop) .stop)) .stop))) Z (oM Z bx (oL Z (bZ.ldB (j:=5) Z Z bP zG (v:=jV az) Z) ?_))
 have bQ:=dJ.le aR
 have bR:=dK.le aR
 have bS:=dL.le aR
 have bT:=dM.le aR
 have bU:=dN.le aR
 have q:=bnd eU
 obtain ⟨⟨aq,fc,fd⟩,cA,cd⟩:=q
 try dsimp only at cd
 refine zD 2 Z Z Z Z (zE Z Z YF (zB Z (zB Z (zB Z zM))) Z) bZ (fun hs=>wBN av af bg bq bh br bi bs bj bt ai am ak bm bu az false cw fj hs bQ bR bS bT aM bU cA) (.inl Z) ?_
 rintro cm fA fP cx aS dY ⟨aU,aX,aV,aY,rfl,rfl⟩
 let B6:Res:=.row aV aY 3 1 (hD KL.encI aq.by_)
 let B7:Res:=.row aU aX 3 1 (hD KL.encI aq.far)
 have dZ:sW w φ cm [B7,B6,.blk af 139 B3,.obj ai (.map am ak),.blk ac 29 B2,.blk b6 29 O,.blk b2 27 B0,.blk au 3 [jV az]] cx:=dY
 refine oM Z Z (oR Z (zU Z Z (v:=.agg #[.slice aU aq.far.length aX,.slice aV aq.by_.length aY]) Z) (oR Z (zU Z Z (v:=jV fc) Z) (oR Z (zU Z Z (v:=.bool fd) Z) (zV (cs:=[.slice none 0 0,.slice none 0 0]) Z Z Z Z Z Zl Z dZ ?_))))
 intro fH ax d4
 let B8:List Value:=[.slice aU aq.far.length aX,.slice aV aq.by_.length aY]
 refine zX (j:=0) (vs:=B8) Z Z Z Z d4 Z Z Z Z Zx (zA Z) Z Z Z ?_
 intro bo d6
 have d7:sW w φ cm [.blk ax 133 B8,B7,B6,.blk af 139 B3,.obj ai (.map am ak),.blk ac 29 B2,.blk b6 29 O,.blk b2 27 B0,.blk au 3 [jV az]] bo:=d6
 refine yP rfl rfl rfl rfl rfl rfl (yP rfl rfl rfl rfl rfl rfl (eN (zL (zx zt [3,1,3,3,3,3,1,1,2,1,2,3,3] (wPJ (.fx 8 (.fl 9 (.fx 10 (.fl 11 (.fl 12 .nil)) .stop)) .stop)) (by kernel_rfl) ?_))))
 have bz:=d7.drew
 generalize hw_W173:({ bo with drawn:=bo.drawn + 1 }:World)=bJ at bz ⊢
 refine oM Z bx (oL Z (bz.ldBA (j:=0) Z Z Z Tryz.isAgg133 Zx (vs:=B8) Z Z) ?_)
 have q:=bz.freeze (k:=8) rfl
 obtain ⟨bC,aT,aN,d8⟩:=q
 replace aN:=Cl.of aN
 have bA:sW w φ bC [.blk ax 133 B8,B7,B6,.blk af 139 B3,.obj ai (.map am ak),.blk ac 29 B2,.blk b6 29 O,.blk b2 27 B0] bJ:=d8
 replace aN:Cl bC au 0 [jV az]:=aN
 refine oR Z (YC Z zM (zB bP zM)) (oM Z bx (oR Z (Zt Z Z) (oR Z (zF Z Z ZH Z Zw) (oL Z (bA.ldB (j:=3) Z Z Z yC (v:=.map (some ai)) Z) (oL Z (bA.ldBA (j:=5) Z Z cz Zn ZV (vs:=B2) Z Z) (bnK cd fun cg cC eM=>zD 0 Z Z Z Z (zE Z Z yp (zB Z zM) Z) bA (fun hs=>wDJ p2 bJ bC hs cC) (.inr Z) ?_))))))
 rintro fk fB fQ aH aJ d9 ⟨rfl,rfl⟩
 have b5:sW w φ fk [.blk ax 133 B8,B7,B6,.blk af 139 B3,.obj ai (.map am ak),.blk ac 29 B2,.blk b6 29 O,.blk b2 27 B0] aH:=d9
 refine oL Z (b5.lookup1 (j:=4) (mk:=wBU) (mv:=wBc) (a:=cg) (z:=0) Z Z Z Z (wBj ZS) wDF ZG aM) ?_
 have q:=b5.freezeR (k:=1) (n:=aq.far.length) rfl (wAE (f:=KL.encI) (sz:=1) (fun _=>rfl) aq.far) (by decide)
 obtain ⟨fm,aK,eV,eg⟩:=q
 have eh:sW w φ fm [.blk ax 133 B8,B6,.blk af 139 B3,.obj ai (.map am ak),.blk ac 29 B2,.blk b6 29 O,.blk b2 27 B0] aH:=eg
 have q:=eh.freezeR (k:=1) (n:=aq.by_.length) rfl (wAE (f:=KL.encI) (sz:=1) (fun _=>rfl) aq.by_) (by decide)
 obtain ⟨fq,aF,eW,ej⟩:=q
 have ek:sW w φ fq [.blk ax 133 B8,.blk af 139 B3,.obj ai (.map am ak),.blk ac 29 B2,.blk b6 29 O,.blk b2 27 B0] aH:=ej
 have q:=ek.freezeM (k:=2) rfl aM
 obtain ⟨ft,aE,eL,eo⟩:=q
 have ep:sW w φ ft [.blk ax 133 B8,.blk af 139 B3,.blk ac 29 B2,.blk b6 29 O,.blk b2 27 B0] aH:=eo
 have q:=ep.freezeTB (k:=1) rfl
 obtain ⟨bf,ay,aO,en,e9⟩:=q
 replace aO:=Cl.of aO
 have er:sW w φ bf [.blk ax 133 B8,.blk ac 29 B2,.blk b6 29 O,.blk b2 27 B0] aH:=en
 replace aO:Cl bf af 0 B3:=aO
 have cD:=bQ.le aS
 have cE:=cD.le aT
 have cG:=cE.le aJ
 have cH:=cG.le aK
 have cI:=cH.le aF
 have cJ:=cI.le aE
 have cK:=cJ.le ay
 have cL:=bR.le aS
 have cM:=cL.le aT
 have cN:=cM.le aJ
 have cO:=cN.le aK
 have cP:=cO.le aF
 have cQ:=cP.le aE
 have cR:=cQ.le ay
 have cS:=bS.le aS
 have cU:=cS.le aT
 have cV:=cU.le aJ
 have cW:=cV.le aK
 have cX:=cW.le aF
 have cY:=cX.le aE
 have c6:=cY.le ay
 have da:=bT.le aS
 have db:=da.le aT
 have dd:=db.le aJ
 have de:=dd.le aK
 have df:=de.le aF
 have dg:=df.le aE
 have dh:=dg.le ay
 have di:=eL.le ay
 have dk:=bU.le aS
 have dm:=dk.le aT
 have dp:=dm.le aJ
 have dq:=dp.le aK
 have dr:=dq.le aF
 have dt:=dr.le aE
 have du:=dt.le ay
 have dv:=eV.le aF
 have dw:=dv.le aE
 have dx:=dw.le ay
 have dy:=eW.le aE
 have dA:=dy.le ay
 have dB:=aN.le aJ
 have dC:=dB.le aK
 have dD:=dC.le aF
 have dE:=dD.le aE
 have dF:=dE.le ay
 have dO:FnOK Tryz.prog bf (.func (.func 117) #[] #[.pointer (some ⟨au,0,none⟩)]) wKf wKg (fun x=>wDT x az):=⟨117,[],[.pointer (some ⟨au,0,none⟩)],rfl,Tryz.call117,fun fh w1 x y vs le hs ha hm=>by obtain rfl:=ha;exact wIH x az au w1 fh hs (dF.le le) hm⟩
 refine bnK eM fun ff dG eO=>zD 0 Z Z Z Z (zE Z Z Tryz.call116 (zB Z (zB Z (zB Z (zB Z zM)))) Z) er (fun hs=>wFK av af bg bq bh br bi bs bj bt ai am ak bm bu aq aU aX aV aY (fun x=>wDT x az) (.func (.func 117) #[] #[.pointer (some ⟨au,0,none⟩)]) (wBP av.number cg 0) aH bf hs aO cK cR c6 dh di du dx dA dO dG) (.inr Z) ?_
 rintro fu fC fR bK e8 ey ⟨bF,bO,rfl,rfl⟩
 let B9:Res:=.row bF bO 93 4 (hD wAJ ff)
 have ez:sW w φ fu [B9,.blk ax 133 B8,.blk ac 29 B2,.blk b6 29 O,.blk b2 27 B0] bK:=ey
 have q:=e9 _ _ _ e8 ez
 obtain ⟨co,fL,eA⟩:=q
 have eB:sW w φ co [.blk af 139 B3,B9,.blk ax 133 B8,.blk ac 29 B2,.blk b6 29 O,.blk b2 27 B0] bK:=eA
 refine oA Z Z (oA Z Z (eN (zO ?_)))
 cases eO
 exact ⟨rfl,_,(wDp rfl rfl),co,_,(eB.pick [1] _ (by decide) rfl),bF,bO,rfl,rfl⟩
 intro bw eP
 refine cT Z bw (sR fL3 Z (oM Z Z (oA Z Z (oA Z Z (eN (zO (zQ ?_)))))))
 have eC:=cc.nilrow 93 4
 cases eP
 exact ⟨rfl,_,(wDp rfl rfl),aG,_,(eC.pick [0] _ (by decide) rfl),none,0,rfl,rfl⟩
end Go.Proofs.YtlnfbjphfoipaaaGreat
namespace Go.Proofs.YtlnfbjphfoipaaaGreat
open Go.KL
set_option maxHeartbeats 4000000
theorem wFj (O:wAI) (ac:Option Addr) (ag:Nat) (ae:Option Addr) (ah:Nat) (aa:Option Addr) (ab:Nat) (af:Option Addr) (ai:Nat) (w:World) (φ:PHeap) (hS:St0 w φ []) (ax:Sl φ 1 ac ag O.Starts.length (hD KL.encI O.Starts)) (ay:Sl φ 2 ae ah O.Splits.length (hD wAD O.Splits)) (az:Sl φ 3 aa ab O.Clocks.length (hD wAN O.Clocks)) (aE:Sl φ 4 af ai O.Readings.length (hD wAL O.Readings)) {r:Int} (hm:wBp O=some r):Gv Tryz.prog 120 [.agg #[.slice ac O.Starts.length ag,.slice ae O.Splits.length ah,.slice aa O.Clocks.length ab,.slice af O.Readings.length ai]] w (wCG w [] φ (fun φ_ L_ v=>v=jV r/\L_=[])):=by
 unfold wBp at hm
 refine Gv.of Tryz.func120 Z Tryz.ntmps120 Tryz.results120 Z (sR gEp Z ?_)
 let B0:List Value:=[.slice ac O.Starts.length ag,.slice ae O.Splits.length ah,.slice aa O.Clocks.length ab,.slice af O.Readings.length ai]
 refine zn (cs:=B0) rfl rfl rfl rfl rfl rfl (by rfl) hS ?_
 intro W1 b2 ak
 refine oA Z Z (eN (sR (wEF (.fx 4 (.fl 5 .nil) .stop)) Z (oL Z (ak.ldBA (j:=0) Z Z Z ZQ ZF (vs:=B0) Z Z) (oR Z (zF Z Z zb Z yF) (oL Z (ak.ldB (j:=0) Z Z Z yT (v:=.slice aa O.Clocks.length ab) Z) (oR Z (zi Z Z Zo) (bnK hm fun x5 h6 aF=>zD 0 Z Z Z Z (zE Z Z Tryz.call73 (zB Z (zB Z zM)) Z) ak (fun hs=>wCY O ac ag ae ah aa ab af ai (↑O.Clocks.length:Int) W1 φ hs ax ay az aE h6) (.inr Z) ?_)))))))
 rintro am L9 aI ao aH au ⟨rfl,rfl⟩
 have av:sW w φ am [.blk b2 36 B0] ao:=au
 refine oA Z Z (eN (zO ?_))
 have hE:=hH aF;first | subst r | cases hE
 exact ⟨rfl,_,(ZA rfl),am,_,(av.pick [] _ (by decide) rfl),rfl,rfl⟩
theorem wCD (p0:wAa) (ag:Option Addr) (ah:Nat) (ac:List Hd) (O:Int) (p2:Int) (p3:Int) (p4:Int) (w:World) (φ:PHeap) (hS:St0 w φ [.row ag ah 22 1 (hD wFa ac),inn 3 1 KL.encI ac p0.t])  {r:(List (List Int))} (hm:wAU p0 O p2 p3 p4=some r):Gv Tryz.prog 121 [.agg #[.slice ag p0.t.length ah],jV O,jV p2,jV p3,jV p4] w (wCG w [.row ag ah 22 1 (hD wFa ac),inn 3 1 KL.encI ac p0.t] φ (fun φ_ L_ v=>v=.tuple #[]/\L_=[.row ag ah 22 1 (hD wFa ac),inn 3 1 KL.encI ac r])):=by
 unfold wAU at hm
 refine Gv.of Tryz.func121 Z Tryz.ntmps121 Tryz.results121 Z (sR (.fx 0 .nil .stop) Z ?_)
 let B0:List Value:=[.slice ag p0.t.length ah]
 refine zn (cs:=B0) rfl rfl rfl rfl rfl rfl (by rfl) hS ?_
 intro W3 b4 a7
 refine eN (zL (zx zt [3,1,3,3,1,3,3,1,3,3,1,3,3,1,3,3,3,0] (wNL (.fx 17 .nil .stop)) (by kernel_rfl) ?_))
 have ao:=a7.drew
 generalize hw_W8:({ W3 with drawn:=W3.drawn + 1 }:World)=W8 at ao ⊢
 refine oR Z (zF Z Z Tryz.runUnderlying188 Z Tryz.sizeOf49) (oL Z (ao.ldB (j:=0) Z Z Z Tryz.isAgg49 (v:=.slice ag p0.t.length ah) Z) (oM Z Z (bnK hm fun _ h9 bp=>?_)))
 obtain ⟨bz,am⟩:=ao.rowSome (j:=1) rfl (by rw [wAE (f:=wFa) (sz:=1) (fun _=>rfl),(ao.innFit (j:=2) rfl).len];have hz:=wAW h9;omega)
 refine oR Z (ZM Z Z am Z Zg zg (wBq h9) (wBr h9)) ?_
 have aP:=ao.innFit (j:=2) rfl
 have bf:=wBK (xs:=ac) (k:=O.toNat) (by rw [aP.len];exact (wAW h9))
 have bu:nI (gd ac O.toNat).A (gd ac O.toNat).n (gd ac O.toNat).c=.slice ((gd ac O.toNat).A) ((gd p0.t O.toNat).length) ((gd ac O.toNat).c):=by rw [aP.at_ (k:=O.toNat) (wAW h9)]
 refine ZE rfl rfl rfl rfl (YH (ao.ldR (j:=1) rfl am rfl rfl zr (wAc (sz:=1) (fun _=>rfl) _ _ 0 _ bf (by first | omega | rfl | simp) rfl)) bu) rfl ?_
 let B1:Res:=.row ag ah 22 1 (hD wFa ac)
 have aV:SW w [B1,inn 3 1 KL.encI ac p0.t] φ φ [inn 3 1 KL.encI ac p0.t,.blk b4 188 B0,B1] W8:=ao.pick [2,0,1] _ (by decide) rfl
 have aW:=aV.innTake (k:=O.toNat) (wAW h9)
 have av:SW w [B1,inn 3 1 KL.encI ac p0.t] φ φ [.row ((gd ac O.toNat).A) ((gd ac O.toNat).c) 3 1 (hD KL.encI (gd p0.t O.toNat)),wJG 3 1 KL.encI ac p0.t O.toNat,.blk b4 188 B0,B1] W8:=aW
 refine oM Z Z (oR Z (zF Z Z Tryz.runUnderlying188 Z Tryz.sizeOf49) (oL Z (av.ldB (j:=2) Z Z Z Tryz.isAgg49 (v:=.slice ag p0.t.length ah) Z) (oM Z Z (oR Z (ZM Z Z am Z Zg zg (wBq h9) (wBr h9)) ?_))))
 have q:=av.innHFit (j:=1) rfl
 obtain ⟨aQ,aS⟩:=q
 have bg:=wBK (xs:=ac) (k:=O.toNat) (by rw [aQ.len];exact aS)
 have bv:nI (gd ac O.toNat).A (gd ac O.toNat).n (gd ac O.toNat).c=.slice ((gd ac O.toNat).A) ((gd p0.t O.toNat).length) ((gd ac O.toNat).c):=congrArg (fun n_=>nI (gd ac O.toNat).A n_ (gd ac O.toNat).c) ((aQ.at_ (k:=O.toNat) aS).trans (Eq.symm rfl))
 refine ZE rfl rfl rfl rfl (YH (av.ldR (j:=3) rfl am rfl rfl zr (wAc (sz:=1) (fun _=>rfl) _ _ 0 _ bg (by first | omega | rfl | simp) rfl)) bv) rfl (zw rfl rfl rfl rfl rfl rfl (bnK bp fun _ ai bq=>?_))
 obtain ⟨bA,az⟩:=av.rowSome (j:=0) rfl (by rw [wAE (f:=KL.encI) (sz:=1) (fun _=>rfl) (gd p0.t O.toNat)];have hz:=wAW ai;omega)
 refine oR Z (ZM Z Z az Z zK zC (wBq ai) (wBr ai)) ?_
 have bh:=wBK (xs:=(gd p0.t O.toNat)) (wAW ai)
 refine ZE rfl rfl rfl rfl (av.ldR (j:=0) rfl az rfl rfl zG (wAc (sz:=1) (fun _=>rfl) _ _ 0 _ bh (by first | omega | rfl | simp) rfl)) rfl (zw rfl rfl rfl rfl rfl rfl (za rfl rfl rfl rfl (fun _=>Runs.min rfl rfl rfl) (za rfl rfl rfl rfl (fun _=>ZM rfl rfl az rfl zK zC (wBq ai) (wBr ai)) ?_)))
 have bi:=wBK (xs:=(gd p0.t O.toNat)) (wAW ai)
 refine yw (j:=0) (vs:=[jV (min (gd (gd p0.t O.toNat) p2.toNat) p3)]) (cs':=hD KL.encI (nA (gd p0.t O.toNat) p2.toNat (min (gd (gd p0.t O.toNat) p2.toNat) p3))) rfl rfl rfl rfl av rfl az rfl rfl rfl zC (by rw [wAE (f:=KL.encI) (sz:=1) (fun _=>rfl)];have hz:=wAW ai;show _ + 1 <= _;first | omega | (simp only [nH];omega) | (simp only [nG,nB,nD];omega)) rfl (wDV (sz:=1) (fo:=0) (fun _=>rfl) _ _ _ _ bi (by first | omega | (simp only [nH];omega) | (simp only [nG,nB,nD];omega)) (zA rfl) rfl) rfl ?_
 intro aF aX
 have aY:SW w [B1,inn 3 1 KL.encI ac p0.t] φ φ [.row ((gd ac O.toNat).A) ((gd ac O.toNat).c) 3 1 (hD KL.encI (nA (gd p0.t O.toNat) p2.toNat (min (gd (gd p0.t O.toNat) p2.toNat) p3))),wJG 3 1 KL.encI ac p0.t O.toNat,.blk b4 188 B0,B1] aF:=aX
 refine eN (zx zt [3,1,3,3,1,3,3,1,3,3,1,3,3,1,3,3,3,0] (wNL (.fx 17 .nil .stop)) (by kernel_rfl) ?_)
 have ay:=aY.drew
 generalize hw_W34:({ aF with drawn:=aF.drawn + 1 }:World)=aG at ay ⊢
 refine oR Z (zF Z Z Tryz.runUnderlying188 Z Tryz.sizeOf49) (oL Z (ay.ldB (j:=2) Z Z Z Tryz.isAgg49 (v:=.slice ag p0.t.length ah) Z) (oM Z Z (bnK bq fun _ aI br=>oR Z (ZM Z Z am Z Zg zg (wBq aI) (wBr aI)) ?_)))
 have bd:=(ay.innHFit (j:=1) rfl).1
 have q:=ay.innHFit (j:=1) rfl
 obtain ⟨be,aT⟩:=q
 have aT:(nA (gd p0.t O.toNat) p2.toNat (min (gd (gd p0.t O.toNat) p2.toNat) p3)).length=(gd ac O.toNat).n:=nJ nE (be.at_ (k:=O.toNat) aT).symm
 have aZ:=ay.innBack nE
 have a5:SW w [B1,inn 3 1 KL.encI ac p0.t] φ φ [inn 3 1 KL.encI ac (nA p0.t O.toNat (nA (gd p0.t O.toNat) p2.toNat (min (gd (gd p0.t O.toNat) p2.toNat) p3))),.blk b4 188 B0,B1] aG:=aZ
 let B2:Res:=.blk b4 188 [.slice ag ((nA p0.t O.toNat (nA (gd p0.t O.toNat) p2.toNat (min (gd (gd p0.t O.toNat) p2.toNat) p3))).length) ah]
 have aJ:SW w [B1,inn 3 1 KL.encI ac p0.t] φ φ [inn 3 1 KL.encI ac (nA p0.t O.toNat (nA (gd p0.t O.toNat) p2.toNat (min (gd (gd p0.t O.toNat) p2.toNat) p3))),B2,B1] aG:=by simpa only [B0,B1,B2,nE] using a5
 have aK:=aJ.innFit (j:=0) rfl
 have aL:p2.toNat < (nA p0.t O.toNat (nA (gd p0.t O.toNat) p2.toNat (min (gd (gd p0.t O.toNat) p2.toNat) p3))).length:=nL (wAW aI) (bd.len.symm.trans aK.len)
 have bj:=wBK (xs:=ac) (k:=p2.toNat) (by rw [aK.len];exact aL)
 have bw:nI (gd ac p2.toNat).A (gd ac p2.toNat).n (gd ac p2.toNat).c=.slice ((gd ac p2.toNat).A) ((gd (nA p0.t O.toNat (nA (gd p0.t O.toNat) p2.toNat (min (gd (gd p0.t O.toNat) p2.toNat) p3))) p2.toNat).length) ((gd ac p2.toNat).c):=by rw [aK.at_ (k:=p2.toNat) aL]
 refine ZE rfl rfl rfl rfl (YH (aJ.ldR (j:=2) rfl am rfl rfl zr (wAc (sz:=1) (fun _=>rfl) _ _ 0 _ bj (by first | omega | rfl | simp) rfl)) bw) rfl ?_
 have a6:=aJ.innTake (k:=p2.toNat) aL
 have ax:SW w [B1,inn 3 1 KL.encI ac p0.t] φ φ [.row ((gd ac p2.toNat).A) ((gd ac p2.toNat).c) 3 1 (hD KL.encI (gd (nA p0.t O.toNat (nA (gd p0.t O.toNat) p2.toNat (min (gd (gd p0.t O.toNat) p2.toNat) p3))) p2.toNat)),wJG 3 1 KL.encI ac (nA p0.t O.toNat (nA (gd p0.t O.toNat) p2.toNat (min (gd (gd p0.t O.toNat) p2.toNat) p3))) p2.toNat,B2,B1] aG:=a6
 refine oM Z Z (oR Z (zF Z Z Tryz.runUnderlying188 Z Tryz.sizeOf49) (oL Z (ax.ldB (j:=2) Z Z Z Tryz.isAgg49 (v:=.slice ag ((nA p0.t O.toNat (nA (gd p0.t O.toNat) p2.toNat (min (gd (gd p0.t O.toNat) p2.toNat) p3))).length) ah) Z) (oM Z Z (bnK br fun _ aO bs=>oR Z (ZM Z Z am Z Zg zg (wBq aO) (wBr aO)) ?_))))
 have q:=ax.innHFit (j:=1) rfl
 obtain ⟨aR,aU⟩:=q
 have bm:=wBK (xs:=ac) (k:=p2.toNat) (by rw [aR.len];exact aU)
 have bx:nI (gd ac p2.toNat).A (gd ac p2.toNat).n (gd ac p2.toNat).c=.slice ((gd ac p2.toNat).A) ((gd (nA p0.t O.toNat (nA (gd p0.t O.toNat) p2.toNat (min (gd (gd p0.t O.toNat) p2.toNat) p3))) p2.toNat).length) ((gd ac p2.toNat).c):=congrArg (fun n_=>nI (gd ac p2.toNat).A n_ (gd ac p2.toNat).c) ((aR.at_ (k:=p2.toNat) aU).trans (Eq.symm rfl))
 refine ZE rfl rfl rfl rfl (YH (ax.ldR (j:=3) rfl am rfl rfl zr (wAc (sz:=1) (fun _=>rfl) _ _ 0 _ bm (by first | omega | rfl | simp) rfl)) bx) rfl (zw rfl rfl rfl rfl rfl rfl (bnK bs fun _ aj bt=>?_))
 obtain ⟨bB,aE⟩:=ax.rowSome (j:=0) rfl (by rw [wAE (f:=KL.encI) (sz:=1) (fun _=>rfl) (gd (nA p0.t O.toNat (nA (gd p0.t O.toNat) p2.toNat (min (gd (gd p0.t O.toNat) p2.toNat) p3))) p2.toNat)];have hz:=wAW aj;omega)
 refine oR Z (ZM Z Z aE Z zK zC (wBq aj) (wBr aj)) ?_
 have bn:=wBK (xs:=(gd (nA p0.t O.toNat (nA (gd p0.t O.toNat) p2.toNat (min (gd (gd p0.t O.toNat) p2.toNat) p3))) p2.toNat)) (wAW aj)
 refine ZE rfl rfl rfl rfl (ax.ldR (j:=0) rfl aE rfl rfl zG (wAc (sz:=1) (fun _=>rfl) _ _ 0 _ bn (by first | omega | rfl | simp) rfl)) rfl (zw rfl rfl rfl rfl rfl rfl (za rfl rfl rfl rfl (fun _=>Runs.min rfl rfl rfl) (za rfl rfl rfl rfl (fun _=>ZM rfl rfl aE rfl zK zC (wBq aj) (wBr aj)) ?_)))
 have bo:=wBK (xs:=(gd (nA p0.t O.toNat (nA (gd p0.t O.toNat) p2.toNat (min (gd (gd p0.t O.toNat) p2.toNat) p3))) p2.toNat)) (wAW aj)
 refine yw (j:=0) (vs:=[jV (min (gd (gd (nA p0.t O.toNat (nA (gd p0.t O.toNat) p2.toNat (min (gd (gd p0.t O.toNat) p2.toNat) p3))) p2.toNat) O.toNat) p4)]) (cs':=hD KL.encI (nA (gd (nA p0.t O.toNat (nA (gd p0.t O.toNat) p2.toNat (min (gd (gd p0.t O.toNat) p2.toNat) p3))) p2.toNat) O.toNat (min (gd (gd (nA p0.t O.toNat (nA (gd p0.t O.toNat) p2.toNat (min (gd (gd p0.t O.toNat) p2.toNat) p3))) p2.toNat) O.toNat) p4))) rfl rfl rfl rfl ax rfl aE rfl rfl rfl zC (by rw [wAE (f:=KL.encI) (sz:=1) (fun _=>rfl)];have hz:=wAW aj;show _ + 1 <= _;first | omega | (simp only [nH];omega) | (simp only [nG,nB,nD];omega)) rfl (wDV (sz:=1) (fo:=0) (fun _=>rfl) _ _ _ _ bo (by first | omega | (simp only [nH];omega) | (simp only [nG,nB,nD];omega)) (zA rfl) rfl) rfl ?_
 intro aH a8
 have a9:SW w [B1,inn 3 1 KL.encI ac p0.t] φ φ [.row ((gd ac p2.toNat).A) ((gd ac p2.toNat).c) 3 1 (hD KL.encI (nA (gd (nA p0.t O.toNat (nA (gd p0.t O.toNat) p2.toNat (min (gd (gd p0.t O.toNat) p2.toNat) p3))) p2.toNat) O.toNat (min (gd (gd (nA p0.t O.toNat (nA (gd p0.t O.toNat) p2.toNat (min (gd (gd p0.t O.toNat) p2.toNat) p3))) p2.toNat) O.toNat) p4))),wJG 3 1 KL.encI ac (nA p0.t O.toNat (nA (gd p0.t O.toNat) p2.toNat (min (gd (gd p0.t O.toNat) p2.toNat) p3))) p2.toNat,B2,B1] aH:=a8
 refine zf ?_
 have ba:=a9.innBack nE
 have bb:SW w [B1,inn 3 1 KL.encI ac p0.t] φ φ [inn 3 1 KL.encI ac (nA (nA p0.t O.toNat (nA (gd p0.t O.toNat) p2.toNat (min (gd (gd p0.t O.toNat) p2.toNat) p3))) p2.toNat (nA (gd (nA p0.t O.toNat (nA (gd p0.t O.toNat) p2.toNat (min (gd (gd p0.t O.toNat) p2.toNat) p3))) p2.toNat) O.toNat (min (gd (gd (nA p0.t O.toNat (nA (gd p0.t O.toNat) p2.toNat (min (gd (gd p0.t O.toNat) p2.toNat) p3))) p2.toNat) O.toNat) p4))),B2,B1] aH:=ba
 have bc:SW w [B1,inn 3 1 KL.encI ac p0.t] φ φ [inn 3 1 KL.encI ac (nA (nA p0.t O.toNat (nA (gd p0.t O.toNat) p2.toNat (min (gd (gd p0.t O.toNat) p2.toNat) p3))) p2.toNat (nA (gd (nA p0.t O.toNat (nA (gd p0.t O.toNat) p2.toNat (min (gd (gd p0.t O.toNat) p2.toNat) p3))) p2.toNat) O.toNat (min (gd (gd (nA p0.t O.toNat (nA (gd p0.t O.toNat) p2.toNat (min (gd (gd p0.t O.toNat) p2.toNat) p3))) p2.toNat) O.toNat) p4))),.blk b4 188 [.slice ag ((nA (nA p0.t O.toNat (nA (gd p0.t O.toNat) p2.toNat (min (gd (gd p0.t O.toNat) p2.toNat) p3))) p2.toNat (nA (gd (nA p0.t O.toNat (nA (gd p0.t O.toNat) p2.toNat (min (gd (gd p0.t O.toNat) p2.toNat) p3))) p2.toNat) O.toNat (min (gd (gd (nA p0.t O.toNat (nA (gd p0.t O.toNat) p2.toNat (min (gd (gd p0.t O.toNat) p2.toNat) p3))) p2.toNat) O.toNat) p4))).length) ah],B1] aH:=by simpa only [B1,B2,nE] using bb
 cases bt
 exact ⟨rfl,_,(wMN),φ,_,(bc.pick [2,0] _ (by decide) rfl),rfl,rfl⟩
theorem wEi (p0:wAI) (aL:Option Addr) (aN:Nat) (aM:Option Addr) (aO:Nat) (aI:Option Addr) (aJ:Nat) (aU:Option Addr) (aV:Nat) (w:World) (φ:PHeap) (hS:St0 w φ []) (cE:Sl φ 1 aL aN p0.Starts.length (hD KL.encI p0.Starts)) (cG:Sl φ 2 aM aO p0.Splits.length (hD wAD p0.Splits)) (cH:Sl φ 3 aI aJ p0.Clocks.length (hD wAN p0.Clocks)) (cI:Sl φ 4 aU aV p0.Readings.length (hD wAL p0.Readings)) {r:(List (List Int))} (hm:wBd p0=some r):Gv Tryz.prog 67 [.agg #[.slice aL p0.Starts.length aN,.slice aM p0.Splits.length aO,.slice aI p0.Clocks.length aJ,.slice aU p0.Readings.length aV]] w (wCG w [] φ (fun φ_ L_ v=>∃ (A0:Option Addr) (c0:Nat) (gV:List Hd),v=.slice A0 r.length c0/\L_=[.row A0 c0 22 1 (hD wFa gV),inn 3 1 KL.encI gV r])):=by
 unfold wBd at hm
 refine Gv.of Tryz.func67 Z Tryz.ntmps67 Tryz.results67 Z (sR gEp Z ?_)
 let B0:List Value:=[.slice aL p0.Starts.length aN,.slice aM p0.Splits.length aO,.slice aI p0.Clocks.length aJ,.slice aU p0.Readings.length aV]
 refine zn (cs:=B0) rfl rfl rfl rfl rfl rfl (by rfl) hS ?_
 intro W1 b2 fV
 refine oA Z Z (eN (sR gEs Z (oL Z (fV.ldBA (j:=0) Z Z Z ZQ ZF (vs:=B0) Z Z) (bnK hm fun x5 h6 pQ=>zD 0 Z Z Z Z (zE Z Z Tryz.call120 (zB Z zM) Z) fV (fun hs=>wFj p0 aL aN aM aO aI aJ aU aV W1 φ hs cE cG cH cI h6) (.inr Z) ?_))))
 rintro cY L9 rN eE aS lX ⟨rfl,rfl⟩
 have l4:sW w φ cY [.blk b2 36 B0] eE:=lX
 refine oA Z Z (eN (sR fL1 Z (oA Z Z (eN (zL (sR fL1 Z (oA Z Z (eN (zY (bnK pQ fun eh ol pq=>?_))))))))))
 have q:=wCC ol
 obtain ⟨dU,om⟩:=q
 replace dU:=zN dU
 refine CK.forN' (fun bt aQ σ_ w_=>∃ (φ_:PHeap) (bP:Option Addr) (bR:Nat) (az:List Hd),σ_ 5=jV (↑bt:Int)/\σ_ 1=.pointer (some ⟨b2,0,none⟩)/\σ_ 3=jV x5/\σ_ 4=.slice bP aQ.length bR/\PHeap.Le cY φ_/\sW w φ φ_ [.blk b2 36 B0,.row bP bR 22 1 (hD wFa az),inn 3 1 KL.encI az aQ] w_) om ?_ ?_ ?_
 have mw:=l4.nilrow 22 1
 have my:=mw.innNil 3 1 KL.encI
 have mz:sW w φ cY [inn 3 1 KL.encI ([]:List Hd) ([]:List (List Int)),.row none 0 22 1 [],.blk b2 36 B0] eE:=my
 exact ⟨cY,none,0,[],rfl,rfl,rfl,rfl,(zS _),(mz.pick [2,1,0] _ (by decide) rfl)⟩
 rintro bt aQ r9 so qX dP ⟨ew,bP,bR,az,fE,iI,dp,iL,qp,mJ⟩ qc
 have e6:Hid ((↑bt:Int) < x5):=zN (wBO dP)
 replace dP:=zN dP
 have o7:Hid (w64 ((↑bt:Int) + 1)=(↑(bt + 1):Int)):=zN (by have h1:=dU.out;have h2:=e6.out;rw [wAb] <;> omega)
 refine zL (sR fL3 Z (oM Z fE (oM Z dp (oR Z (ze Z Z Z) (eN (cT Z e6 (kN (zL (zY (sR gEs Z (oM Z dp (bnK qc fun aq lD pK=>OKS.makeSlice (enc:=KL.encI) (z:=(0:Int)) (v:=jV 0) Z Z Z Z Z (wBj zK) wKj Z Z Z Z Z Z lD mJ ?_))))))))))))
 intro iq av mP
 let B1:Res:=.row bP bR 22 1 (hD wFa az)
 have mT:sW w φ ew [.row (some ⟨av,0,none⟩) aq.length 3 1 (hD KL.encI aq),.blk b2 36 B0,B1,inn 3 1 KL.encI az aQ] iq:=mP
 refine oA Z Z (eN (zL (sR fL1 Z (oA Z Z (eN (zY (bnK pK fun aE oD pV=>?_)))))))
 have q:=wCC oD
 obtain ⟨dY,oE⟩:=q
 replace dY:=zN dY
 refine CK.forN' (fun a6 a8 σ_ w_=>∃ (φ_:PHeap),σ_ 7=jV (↑a6:Int)/\σ_ 1=.pointer (some ⟨b2,0,none⟩)/\σ_ 3=jV x5/\σ_ 4=.slice bP aQ.length bR/\σ_ 5=jV (↑bt:Int)/\σ_ 6=.slice (some ⟨av,0,none⟩) a8.length aq.length/\PHeap.Le ew φ_/\sW w φ φ_ [.blk b2 36 B0,B1,inn 3 1 KL.encI az aQ,.row (some ⟨av,0,none⟩) aq.length 3 1 (hD KL.encI a8)] w_/\a8.length=aq.length) oE ?_ ?_ ?_
 exact ⟨ew,rfl,iI,dp,iL,fE,rfl,(zS _),(mT.pick [1,2,3,0] _ (by decide) rfl),rfl⟩
 rintro a6 a8 sd sw q8 dT ⟨ey,bU,fC,du,fD,dv,dw,gY,f9,fR⟩ gW
 have eW:Hid ((↑a6:Int) < x5):=zN (wBO dT)
 replace dT:=zN dT
 have gC:Hid (w64 ((↑a6:Int) + 1)=(↑(a6 + 1):Int)):=zN (by have h1:=dY.out;have h2:=eW.out;rw [wAb] <;> omega)
 refine zL (sR fL3 Z (oM Z bU (oM Z du (oR Z (ze Z Z Z) (eN (cT Z eW (kN (zL (zY (sR fL3 Z (oM Z dv (oM Z bU (oR Z (ZP Z Z Z) (eN ?_))))))))))))))
 by_cases ba:(↑bt:Int)=(↑a6:Int)
 have gE:=gW;rw [if_pos ba] at gE;replace ba:=zN ba
 refine zj (zu (fun h=>h ba.out)) (Zf (zm (zJ (rR fL3 Z (oM Z bU (oR Z (ZU (zh Z Z Z) (congrArg (jV) gC.out)) (oA Z Z (zf ?_))))))))
 cases gE
 exact zJ ⟨Z,⟨ey,Z,fC,du,fD,dv,dw,gY,f9,fR⟩⟩
 have gF:=gW;rw [if_neg ba] at gF;replace ba:=zN ba
 refine cT Z ba (rR (wDK (.fx 3 .nil .stop)) Z (oM Z dw (oM Z bU (bnK gF fun _ dx o9=>oR Z (Zc Z Z Z Z zK zC (wAW dx)) ?_))))
 have oG:=wBK (xs:=a8) (wAW dx)
 refine yw (j:=3) (vs:=[jV 1125899906842624]) (cs':=hD KL.encI (nA a8 a6 1125899906842624)) rfl rfl rfl rfl f9 rfl rfl rfl rfl rfl zC (by rw [wAE (f:=KL.encI) (sz:=1) (fun _=>rfl)];have hz:=wAW dx;show _ + 1 <= _;first | omega | (simp only [nH];omega) | (simp only [nG,nB,nD];omega)) rfl (wDV (sz:=1) (fo:=0) (fun _=>rfl) _ _ _ _ oG (by first | omega | (simp only [nH];omega) | (simp only [nG,nB,nD];omega)) (zA rfl) rfl) rfl ?_
 intro ij lU
 have lV:sW w φ ey [.blk b2 36 B0,B1,inn 3 1 KL.encI az aQ,.row (some ⟨av,0,none⟩) aq.length 3 1 (hD KL.encI (nA a8 a6 1125899906842624))] ij:=lU
 refine zf (zm (zJ (rR fL3 Z (oM Z bU (oR Z (ZU (zh Z Z Z) (congrArg (jV) gC.out)) (oA Z Z (zf ?_)))))))
 cases o9
 exact zJ ⟨rfl,⟨ey,rfl,fC,du,fD,dv,(nJ (b:=(.slice (some ⟨av,0,none⟩) a8.length aq.length:Value)) (c:=(.slice (some ⟨av,0,none⟩) ((nA a8 a6 1125899906842624).length) aq.length:Value)) dw (by simp only [nE])),gY,lV,(nE.trans fR)⟩⟩
 rintro sh qS ⟨bm,ji,iC,e9,iD,iE,iF,qh,lW,rx⟩
 have ir:Hid (¬ ((↑((x5:Int) - 0).toNat:Int) < x5)):=zN (wAq)
 refine zL (sR fL3 Z (oM Z ji (oM Z e9 (oR Z (ze Z Z Z) (eN (cF Z ir (Za (zq (zq (ZW (zJ (rR (.fl 0 (.fl 1 gEt)) Z (oM Z iD (oM Z iF ?_))))))))))))))
 let B2:List Value:=[.slice (some ⟨av,0,none⟩) aE.length aq.length]
 refine ZR (pv:=[(0,.slice (some ⟨av,0,none⟩) aE.length aq.length)]) (zs:=[.slice none 0 0]) (cs:=B2) Z Z Z Z Z (wAG Z wAR) Zg zg Tryz.zeroValue22 Z Z Z Z Z lW ?_
 intro dd eU lY
 let B3:Res:=.row (some ⟨av,0,none⟩) aq.length 3 1 (hD KL.encI aE)
 let B4:Res:=.row (some ⟨eU,0,none⟩) 1 22 1 B2
 have lZ:sW w φ bm [B4,.blk b2 36 B0,B1,inn 3 1 KL.encI az aQ,B3] dd:=lY
 have l0:sW w φ bm [B3,B4,.blk b2 36 B0,B1,inn 3 1 KL.encI az aQ] dd:=lZ.pick [4,0,1,2,3] _ (by decide) rfl
 have l3:=l0.innOne
 let B5:Res:=.row (some ⟨eU,0,none⟩) 1 22 1 (hD wFa [(⟨(some ⟨av,0,none⟩),aE.length,aq.length⟩:Hd)])
 have cz:sW w φ bm [inn 3 1 KL.encI [(⟨(some ⟨av,0,none⟩),aE.length,aq.length⟩:Hd)] [aE],B5,.blk b2 36 B0,B1,inn 3 1 KL.encI az aQ] dd:=l3
 refine bnK pV fun d8 jo pd=>?_
 have dN:=cz.innFit (j:=4) rfl
 have dO:=cz.innFit (j:=0) rfl
 have q:=wOb jo dN dO
 obtain ⟨oe,gX⟩:=q
 refine yb (j:=3) (enc:=wFa) (xs:=az) (ys:=[(⟨(some ⟨av,0,none⟩),aE.length,aq.length⟩:Hd)]) rfl rfl rfl rfl rfl Tryz.underlying49 wMx rfl rfl rfl rfl rfl rfl cz rfl (slen rfl dN) (slen rfl dO) (cz.srcR (j:=1) rfl (by decide) (wAE (f:=wFa) (sz:=1) (fun _=>rfl) [(⟨(some ⟨av,0,none⟩),aE.length,aq.length⟩:Hd)])) (fun _=>rfl) (fun _=>rfl) oe rfl ?_
 intro eA eX cq l5
 have o8:(az ++ [(⟨(some ⟨av,0,none⟩),aE.length,aq.length⟩:Hd)]:List Hd).length=d8.length:=by rw [gX,nM,nM,dN.len,dO.len]
 rw [o8]
 let B6:Res:=.row eA eX 22 1 (hD wFa (az ++ [(⟨(some ⟨av,0,none⟩),aE.length,aq.length⟩:Hd)]:List Hd))
 have l6:sW w φ bm [inn 3 1 KL.encI [(⟨(some ⟨av,0,none⟩),aE.length,aq.length⟩:Hd)] [aE],B5,.blk b2 36 B0,B6,inn 3 1 KL.encI az aQ] cq:=l5
 have l7:sW w φ bm [inn 3 1 KL.encI az aQ,inn 3 1 KL.encI [(⟨(some ⟨av,0,none⟩),aE.length,aq.length⟩:Hd)] [aE],B5,.blk b2 36 B0,B6] cq:=l6.pick [4,0,1,2,3] _ (by decide) rfl
 have fS:=l7.innApp
 rw [<- gX] at fS
 have l8:sW w φ bm [inn 3 1 KL.encI (az ++ [(⟨(some ⟨av,0,none⟩),aE.length,aq.length⟩:Hd)]:List Hd) d8,B5,.blk b2 36 B0,B6] cq:=fS
 have ma:=l8.drop 1
 have mb:sW w φ bm [inn 3 1 KL.encI (az ++ [(⟨(some ⟨av,0,none⟩),aE.length,aq.length⟩:Hd)]:List Hd) d8,.blk b2 36 B0,B6] cq:=ma
 refine oA Z Z (zf (zm (zJ (rR fL3 Z (oM Z iE (oR Z (ZU (zh Z Z Z) (congrArg (jV) o7.out)) (oA Z Z (zf ?_))))))))
 cases pd
 exact zJ ⟨rfl,⟨bm,eA,eX,(az ++ [(⟨(some ⟨av,0,none⟩),aE.length,aq.length⟩:Hd)]:List Hd),rfl,iC,e9,rfl,(qp.trans qh),(mb.pick [1,2,0] _ (by decide) rfl)⟩⟩
 rintro sj qT ⟨ej,ah,ai,O,jj,iG,fb,fc,aT,mc⟩
 have it:Hid (¬ ((↑((x5:Int) - 0).toNat:Int) < x5)):=zN (wAq)
 refine zL (sR fL3 Z (oM Z jj (oM Z fb (oR Z (ze Z Z Z) (eN (cF Z it (Za (zq (zq (ZW (zJ (sR (.fl 0 (.fl 1 (.fx 2 (.fx 3 .nil .stop) .stop))) Z (oM Z fc ?_)))))))))))))
 let B7:List Value:=[.slice ah eh.length ai]
 refine oR Z (ZB (pv:=[(0,.slice ah eh.length ai)]) (z:=[.slice none 0 0]) (cs:=B7) Z (wAG Z wAR) Tryz.zeroValue188 wLa Z Z) (zV (cs:=[.slice none 0 0]) Z Z Z Z Z Tryz.zeroValue188 Z mc ?_)
 intro qU an md
 refine zX (j:=0) (vs:=B7) Z Z Z Z md Z Z Z Z Tryz.sizeOf188 (zA Z) Z Z Z ?_
 intro ik me
 let B8:Res:=.row ah ai 22 1 (hD wFa O)
 have mf:sW w φ ej [.blk an 188 B7,.blk b2 36 B0,B8,inn 3 1 KL.encI O eh] ik:=me
 refine eN (zL (sR fL1 Z (oA Z Z (eN (zY (YI (fun (bi,bu) σ_ w_=>∃ (φ_:PHeap),σ_ 1=.pointer (some ⟨b2,0,none⟩)/\σ_ 3=jV x5/\σ_ 4=.slice ah bi.length ai/\σ_ 8=.pointer (some ⟨an,0,none⟩)/\σ_ 9=jV bu/\PHeap.Le ej φ_/\sW w φ φ_ [B8,inn 3 1 KL.encI O bi,.blk an 188 [.slice ah bi.length ai],.blk b2 36 B0] w_) pq ?_ ?_))))))
 exact ⟨ej,iG,fb,fc,rfl,rfl,(zS _),(mf.pick [2,3,0,1] _ (by decide) rfl)⟩
 rintro ⟨bi,bu⟩ r0 sk eF ⟨ek,bx,fd,ff,di,bS,aK,dD⟩ d4 og
 try dsimp only at d4
 refine zL (sR fL5 Z (oM Z bS (oR Z (zF Z bx zb Z zg) (oL Z (dD.ldB (j:=3) Z Z Z zr (v:=.slice aL p0.Starts.length aN) Z) (oR Z (zi Z Z zK) (oR Z (ze Z Z Z) (eN ?_)))))))
 by_cases bb:bu < (↑p0.Starts.length:Int)
 have gG:=d4;rw [if_pos bb] at gG;replace bb:=zN bb
 refine cT Z bb (kN (zL (zY (zL (zx zt [1,1,3,2,3,1,3,3,1,3,1,3,3,1,3,0] (wDK (wPS (.fx 3 (.fx 15 .nil .stop) .stop))) (by kernel_rfl) ?_)))))
 have bg:=dD.drew
 generalize hw_W213:({ eF with drawn:=eF.drawn + 1 }:World)=il at bg ⊢
 let B9:List Value:=[.slice ah bi.length ai]
 refine oL Z (bg.ldBA (j:=2) Z Z di Tryz.isAgg188 Tryz.sizeOf188 (vs:=B9) Z Z) (oL Z (bg.ldBA (j:=3) Z Z bx ZQ ZF (vs:=B0) Z Z) (oM Z bS (oR Z (zF Z bx zb Z zg) (oL Z (bg.ldB (j:=3) Z Z Z zr (v:=.slice aL p0.Starts.length aN) Z) (oM Z bS (bnK gG fun cN bC pe=>?_))))))
 have jp:=cE.le aS
 have jq:=jp.le aT
 have cx:=jq.le aK
 have q:=cx.el (fun _=>rfl) (wAe bC)
 obtain ⟨q9,rF,lE,lM⟩:=q
 refine oR Z (ZM Z Z lE Z zK zC (wBV bC) (wBb bC)) (oL Z (bg.ldC (f:=0) lM (v:=jV cN) Z Z zG Z) (oR Z (zF Z bx zb Z zg) (oL Z (bg.ldB (j:=3) Z Z Z zr (v:=.slice aL p0.Starts.length aN) Z) (oM Z bS ?_))))
 have q:=cx.el (fun _=>rfl) (wAe bC)
 obtain ⟨rc,rG,lF,lN⟩:=q
 refine oR Z (ZM Z Z lF Z zK zC (wBV bC) (wBb bC)) (oL Z (bg.ldC (f:=0) lN (v:=jV cN) Z Z zG Z) (oR Z (YD Z Z) ?_))
 have jr:=cG.le aS
 have jt:=jr.le aT
 have fJ:=jt.le aK
 have ju:=cH.le aS
 have jv:=ju.le aT
 have fK:=jv.le aK
 have jw:=cI.le aS
 have jx:=jw.le aT
 have fL:=jx.le aK
 refine bnK pe fun qy jy pf=>zD 0 Z Z Z Z (zE Z Z ym (zB Z (zB Z (zB Z zM))) Z) bg (fun hs=>wAk p0 aL aN aM aO aI aJ aU aV bu 0 il ek hs cx fJ fK fL jy) (.inr Z) ?_
 rintro gZ qH rO eG bX mg ⟨rfl,rfl⟩
 have fT:sW w φ gZ [B8,inn 3 1 KL.encI O bi,.blk an 188 B9,.blk b2 36 B0] eG:=mg
 refine bnK pf fun cO jz pg=>?_
 have ga:=fT.innFit (j:=1) rfl
 refine zD 2 Z Z Z Z (zE Z Z Tryz.call121 (zB Z (zB Z (zB Z (zB Z (zB Z zM))))) Z) fT (fun hs=>wCD (⟨bi⟩:wAa) ah ai O 0 qy cN (w64 (-cN)) eG gZ hs jz) (.inl Z) ?_
 rintro cW qI rP eH bY mh ⟨rfl,rfl⟩
 have fU:sW w φ cW [B8,inn 3 1 KL.encI O cO,.blk an 188 B9,.blk b2 36 B0] eH:=mh
 have ge:=fU.innFit (j:=1) rfl
 have mi:sW w φ cW [B8,inn 3 1 KL.encI O cO,.blk an 188 [.slice ah cO.length ai],.blk b2 36 B0] eH:=by rw [ge.len.symm.trans ga.len];exact fU
 refine eN (sR fL1 Z (oA Z Z (eN (zY (YI (fun (a7,cb) σ_ w_=>∃ (φ_:PHeap),σ_ 1=.pointer (some ⟨b2,0,none⟩)/\σ_ 3=jV x5/\σ_ 4=.slice ah a7.length ai/\σ_ 8=.pointer (some ⟨an,0,none⟩)/\σ_ 9=jV bu/\σ_ 10=jV cb/\PHeap.Le cW φ_/\sW w φ φ_ [B8,inn 3 1 KL.encI O a7,.blk an 188 [.slice ah a7.length ai],.blk b2 36 B0] w_) pg ?_ ?_)))))
 exact ⟨cW,bx,fd,(nJ (b:=(.slice ah bi.length ai:Value)) (c:=(.slice ah cO.length ai:Value)) ff (by rw [ge.len.symm.trans ga.len])),di,bS,rfl,(zS _),mi⟩
 rintro ⟨a7,cb⟩ r6 sl eI ⟨g7,bo,fg,fh,dk,ct,bz,bO,dE⟩ d5 oh
 try dsimp only at d5
 refine zL (sR fL5 Z (oM Z bz (oR Z (zF Z bo zb Z Zm) (oL Z (dE.ldB (j:=3) Z Z Z Zq (v:=.slice aM p0.Splits.length aO) Z) (oR Z (zi Z Z ZI) (oR Z (ze Z Z Z) (eN ?_)))))))
 by_cases bc:cb < (↑p0.Splits.length:Int)
 have gH:=d5;rw [if_pos bc] at gH;replace bc:=zN bc
 refine cT Z bc (kN (zL (zY (zx zt [1,1,3,3,2,1,3,3,3,2,3,1,3,3,3,1,3,1,3,3,3,1,3,0] (wEF (wIM (wOG (.fx 4 (.fx 9 (.fx 23 .nil .stop) .stop) .stop)))) (by kernel_rfl) ?_))))
 have aZ:=dE.drew
 generalize hw_W287:({ eI with drawn:=eI.drawn + 1 }:World)=im at aZ ⊢
 let cm:List Value:=[.slice ah a7.length ai]
 refine oL Z (aZ.ldBA (j:=2) Z Z dk Tryz.isAgg188 Tryz.sizeOf188 (vs:=cm) Z Z) (oL Z (aZ.ldBA (j:=3) Z Z bo ZQ ZF (vs:=B0) Z Z) (oM Z ct (oM Z bz (oL Z (aZ.ldBA (j:=3) Z Z bo ZQ ZF (vs:=B0) Z Z) (oM Z ct (oM Z bz (oR Z (zh Z Z Z) (oR Z (zF Z bo zb Z Zm) (oL Z (aZ.ldB (j:=3) Z Z Z Zq (v:=.slice aM p0.Splits.length aO) Z) (oM Z bz (bnK gH fun cP bD ph=>?_)))))))))))
 have jA:=fJ.le bX
 have jB:=jA.le bY
 have cy:=jB.le bO
 have q:=cy.el (fun _=>rfl) (wAe bD)
 obtain ⟨rd,rH,lG,lO⟩:=q
 refine oR Z (ZM Z Z lG Z ZI zz (wBV bD) (wBb bD)) (oR Z (zF Z Z ZT Z zC) (oL Z (aZ.ldC (f:=1) lO (v:=jV cP.Hi) Z Z zG Z) (oR Z (zF Z bo zb Z Zm) (oL Z (aZ.ldB (j:=3) Z Z Z Zq (v:=.slice aM p0.Splits.length aO) Z) (oM Z bz ?_)))))
 have q:=cy.el (fun _=>rfl) (wAe bD)
 obtain ⟨rf,rI,lH,lP⟩:=q
 refine oR Z (ZM Z Z lH Z ZI zz (wBV bD) (wBb bD)) (oR Z (zF Z Z ZT Z zC) (oL Z (aZ.ldC (f:=0) lP (v:=jV cP.Lo) Z Z zG Z) (oR Z (YD Z Z) ?_)))
 have jC:=cx.le bX
 have jD:=jC.le bY
 have fM:=jD.le bO
 have jE:=fK.le bX
 have jF:=jE.le bY
 have fN:=jF.le bO
 have jG:=fL.le bX
 have jH:=jG.le bY
 have fO:=jH.le bO
 refine bnK ph fun qz jI pj=>zD 0 Z Z Z Z (zE Z Z ym (zB Z (zB Z (zB Z zM))) Z) aZ (fun hs=>wAk p0 aL aN aM aO aI aJ aU aV bu cb im g7 hs fM cy fN fO jI) (.inr Z) ?_
 rintro g8 qJ rQ eJ bZ mj ⟨rfl,rfl⟩
 have ml:sW w φ g8 [B8,inn 3 1 KL.encI O a7,.blk an 188 cm,.blk b2 36 B0] eJ:=mj
 have jJ:=fM.le bZ
 have jK:=cy.le bZ
 have jL:=fN.le bZ
 have jM:=fO.le bZ
 refine bnK pj fun qA jN pk=>zD 0 Z Z Z Z (zE Z Z ym (zB Z (zB Z (zB Z zM))) Z) ml (fun hs=>wAk p0 aL aN aM aO aI aJ aU aV bu (w64 (cb + 1)) eJ g8 hs jJ jK jL jM jN) (.inr Z) ?_
 rintro g9 qK rS eK qi mo ⟨rfl,rfl⟩
 have fW:sW w φ g9 [B8,inn 3 1 KL.encI O a7,.blk an 188 cm,.blk b2 36 B0] eK:=mo
 refine bnK pk fun cQ jO pm=>?_
 have gg:=fW.innFit (j:=1) rfl
 refine zD 2 Z Z Z Z (zE Z Z Tryz.call121 (zB Z (zB Z (zB Z (zB Z (zB Z zM))))) Z) fW (fun hs=>wCD (⟨a7⟩:wAa) ah ai O qz qA cP.Hi (w64 (-cP.Lo)) eK g9 hs jO) (.inl Z) ?_
 rintro en qL rT eL qj mp ⟨rfl,rfl⟩
 have fY:sW w φ en [B8,inn 3 1 KL.encI O cQ,.blk an 188 cm,.blk b2 36 B0] eL:=mp
 have gh:=fY.innFit (j:=1) rfl
 have mq:sW w φ en [B8,inn 3 1 KL.encI O cQ,.blk an 188 [.slice ah cQ.length ai],.blk b2 36 B0] eL:=by rw [gh.len.symm.trans gg.len];exact fY
 refine zf (zm (zJ (rR fL3 Z (oM Z bz (oR Z (zh Z Z Z) (oA Z Z (zf ?_)))))))
 have q:=hH pm
 obtain rfl:=q
 exact zJ ⟨rfl,_,rfl,⟨en,bo,fg,(nJ (b:=(.slice ah a7.length ai:Value)) (c:=(.slice ah cQ.length ai:Value)) fh (by rw [gh.len.symm.trans gg.len])),dk,ct,rfl,(((bO.trans bZ).trans qi).trans qj),mq⟩⟩
 have gI:=d5;rw [if_neg bc] at gI;replace bc:=zN bc
 refine cF Z bc (Za (zq ?_))
 have q:=wAS gI
 obtain ⟨qu,pn,iy⟩:=q
 have q:=oh qu iy
 obtain rfl:=q
 refine zq (ZW (zm (zJ (rR fL3 Z (oM Z ct (oR Z (zh Z Z Z) (oA Z Z (zf ?_))))))))
 have q:=hH pn
 obtain rfl:=q
 exact zJ ⟨Z,_,Z,⟨g7,bo,fg,fh,dk,Z,(((aK.trans bX).trans bY).trans bO),dE⟩⟩
 have gJ:=d4;rw [if_neg bb] at gJ;replace bb:=zN bb
 refine cF Z bb (Za (zq ?_))
 have q:=wAS gJ
 obtain ⟨qv,po,iz⟩:=q
 have q:=og qv iz
 obtain rfl:=q
 refine zq (ZW (zJ (zL (sR fL1 Z (oA Z Z (eN (zY (YI (fun (bj,cR) σ_ w_=>∃ (φ_:PHeap),σ_ 1=.pointer (some ⟨b2,0,none⟩)/\σ_ 3=jV x5/\σ_ 4=.slice ah bj.length ai/\σ_ 8=.pointer (some ⟨an,0,none⟩)/\σ_ 11=jV cR/\PHeap.Le ek φ_/\sW w φ φ_ [B8,inn 3 1 KL.encI O bj,.blk an 188 [.slice ah bj.length ai],.blk b2 36 B0] w_) po ?_ ?_))))))))
 exact ⟨ek,bx,fd,ff,di,Z,(zS _),dD⟩
 rintro ⟨bj,cR⟩ r7 sm eM ⟨eo,bA,fj,fk,dl,bT,a9,dF⟩ d6 oi
 try dsimp only at d6
 refine zL (sR fL5 Z (oM Z bT (oR Z (zF Z bA zb Z yF) (oL Z (dF.ldB (j:=3) Z Z Z yT (v:=.slice aI p0.Clocks.length aJ) Z) (oR Z (zi Z Z Zo) (oR Z (ze Z Z Z) (eN ?_)))))))
 by_cases bd:cR < (↑p0.Clocks.length:Int)
 have gK:=d6;rw [if_pos bd] at gK;replace bd:=zN bd
 refine cT Z bd (kN (zL (zY (zx zt [1,1,3,2,3,1,3,3,3,3,1,3,3,1,3,3,3,3,1,0] (wDK (wPU (.fx 3 (.fx 19 .nil .stop) .stop))) (by kernel_rfl) ?_))))
 have bh:=dF.drew
 generalize hw_W386:({ eM with drawn:=eM.drawn + 1 }:World)=io at bh ⊢
 let cZ:List Value:=[.slice ah bj.length ai]
 refine oL Z (bh.ldBA (j:=2) Z Z dl Tryz.isAgg188 Tryz.sizeOf188 (vs:=cZ) Z Z) (oL Z (bh.ldBA (j:=3) Z Z bA ZQ ZF (vs:=B0) Z Z) (oM Z bT (oR Z (zF Z bA zb Z yF) (oL Z (bh.ldB (j:=3) Z Z Z yT (v:=.slice aI p0.Clocks.length aJ) Z) (oM Z bT (bnK gK fun cS bE pp=>?_))))))
 have jP:=cH.le aS
 have jQ:=jP.le aT
 have jR:=jQ.le aK
 have dy:=jR.le a9
 have q:=dy.el (fun _=>rfl) (wAe bE)
 obtain ⟨rh,rJ,lI,lQ⟩:=q
 refine oR Z (ZM Z Z lI Z Zo yo (wBV bE) (wBb bE)) (oR Z (zF Z Z yV Z zz) (oR Z (zF Z Z ZT Z zC) (oL Z (bh.ldC (f:=0) lQ (v:=jV cS.Offset.Lo) Z Z zG Z) (oR Z (YD Z Z) (oR Z (zF Z bA zb Z yF) (oL Z (bh.ldB (j:=3) Z Z Z yT (v:=.slice aI p0.Clocks.length aJ) Z) (oM Z bT ?_)))))))
 have q:=dy.el (fun _=>rfl) (wAe bE)
 obtain ⟨ri,rK,lJ,lR⟩:=q
 refine oR Z (ZM Z Z lJ Z Zo yo (wBV bE) (wBb bE)) (oR Z (zF Z Z yV Z zz) (oR Z (zF Z Z ZT Z zC) (oL Z (bh.ldC (f:=1) lR (v:=jV cS.Offset.Hi) Z Z zG Z) ?_)))
 have jS:=cE.le aS
 have jT:=jS.le aT
 have jU:=jT.le aK
 have jW:=jU.le a9
 have jX:=cG.le aS
 have jY:=jX.le aT
 have jZ:=jY.le aK
 have j0:=jZ.le a9
 have j5:=cI.le aS
 have j6:=j5.le aT
 have j7:=j6.le aK
 have j8:=j7.le a9
 refine bnK pp fun qB j9 pu=>zD 0 Z Z Z Z (zE Z Z Tryz.call73 (zB Z (zB Z zM)) Z) bh (fun hs=>wCY p0 aL aN aM aO aI aJ aU aV cR io eo hs jW j0 dy j8 j9) (.inr Z) ?_
 rintro ib qM rV eO qk mr ⟨rfl,rfl⟩
 have fZ:sW w φ ib [B8,inn 3 1 KL.encI O bj,.blk an 188 cZ,.blk b2 36 B0] eO:=mr
 refine bnK pu fun cU k5 py=>?_
 have gi:=fZ.innFit (j:=1) rfl
 refine zD 2 Z Z Z Z (zE Z Z Tryz.call121 (zB Z (zB Z (zB Z (zB Z (zB Z zM))))) Z) fZ (fun hs=>wCD (⟨bj⟩:wAa) ah ai O 0 qB (w64 (-cS.Offset.Lo)) cS.Offset.Hi eO ib hs k5) (.inl Z) ?_
 rintro ep qN rW eP qm ms ⟨rfl,rfl⟩
 have f4:sW w φ ep [B8,inn 3 1 KL.encI O cU,.blk an 188 cZ,.blk b2 36 B0] eP:=ms
 have gj:=f4.innFit (j:=1) rfl
 have mu:sW w φ ep [B8,inn 3 1 KL.encI O cU,.blk an 188 [.slice ah cU.length ai],.blk b2 36 B0] eP:=by rw [gj.len.symm.trans gi.len];exact f4
 refine zf (zm (zJ (rR fL3 Z (oM Z bT (oR Z (zh Z Z Z) (oA Z Z (zf ?_)))))))
 have q:=hH py
 obtain rfl:=q
 exact zJ ⟨rfl,_,rfl,⟨ep,bA,fj,(nJ (b:=(.slice ah bj.length ai:Value)) (c:=(.slice ah cU.length ai:Value)) fk (by rw [gj.len.symm.trans gi.len])),dl,rfl,((a9.trans qk).trans qm),mu⟩⟩
 have gL:=d6;rw [if_neg bd] at gL;replace bd:=zN bd
 refine cF Z bd (Za (zq ?_))
 have q:=wAS gL
 obtain ⟨qw,pz,iA⟩:=q
 have q:=oi qw iA
 obtain rfl:=q
 refine zq (ZW (zJ (zL (sR fL1 Z (oA Z Z (eN (zY (YI (fun (aR,d9) σ_ w_=>∃ (φ_:PHeap),σ_ 1=.pointer (some ⟨b2,0,none⟩)/\σ_ 3=jV x5/\σ_ 4=.slice ah aR.length ai/\σ_ 8=.pointer (some ⟨an,0,none⟩)/\σ_ 12=jV d9/\PHeap.Le eo φ_/\sW w φ φ_ [B8,inn 3 1 KL.encI O aR,.blk an 188 [.slice ah aR.length ai],.blk b2 36 B0] w_) pz ?_ ?_))))))))
 exact ⟨eo,bA,fj,fk,dl,Z,(zS _),dF⟩
 rintro ⟨aR,d9⟩ r8 sn qV ⟨cX,bB,fm,fq,ft,dm,b5,bW⟩ d7 oj
 try dsimp only at d7
 refine zL (sR fL5 Z (oM Z dm (oR Z (zF Z bB zb Z yh) (oL Z (bW.ldB (j:=3) Z Z Z yv (v:=.slice aU p0.Readings.length aV) Z) (oR Z (zi Z Z yL) (oR Z (ze Z Z Z) (eN ?_)))))))
 by_cases be:d9 < (↑p0.Readings.length:Int)
 have gM:=d7;rw [if_pos be] at gM;replace be:=zN be
 refine cT Z be (kN (zL (zY (sR (wGD (.fx 5 (.fx 6 .nil .stop) .stop)) Z (oR Z (zF Z bB zb Z yh) (oL Z (bW.ldB (j:=3) Z Z Z yv (v:=.slice aU p0.Readings.length aV) Z) (oM Z dm (bnK gM fun ay dz pB=>?_))))))))
 have k6:=cI.le aS
 have k7:=k6.le aT
 have k8:=k7.le aK
 have lb:=k8.le a9
 have dA:=lb.le b5
 have q:=dA.el (fun _=>rfl) (wAe dz)
 obtain ⟨rk,rL,lK,lS⟩:=q
 refine oR Z (ZM Z Z lK Z yL yi (wBV dz) (wBb dz)) (oL Z (bW.ldCA (f:=0) lS Z Z Tryz.isAgg117 yi (us:=[jV ay.Skier,jV ay.Mat,jV ay.Clock,jV ay.Time]) Z Z) (zV (cs:=[jV 0,jV 0,jV 0,jV 0]) Z Z Z Z Z Tryz.zeroValue117 Z bW ?_))
 intro qW bw mA
 let bn:List Value:=[jV ay.Skier,jV ay.Mat,jV ay.Clock,jV ay.Time]
 refine zX (j:=0) (vs:=bn) Z Z Z Z mA Z Z Z Z yi (zA Z) Z Z Z ?_
 intro de mB
 let bQ:Res:=.blk an 188 [.slice ah aR.length ai]
 have cA:sW w φ cX [.blk bw 117 bn,B8,inn 3 1 KL.encI O aR,bQ,.blk b2 36 B0] de:=mB
 refine eN (sR fL8 Z (oR Z (zF Z bB zb Z yF) (oL Z (cA.ldB (j:=4) Z Z Z yT (v:=.slice aI p0.Clocks.length aJ) Z) (oR Z (zF Z Z Zi Z zC) (oL Z (cA.ldB (j:=0) Z Z Z zG (v:=jV ay.Clock) Z) (bnK pB fun eg dB pC=>?_))))))
 have lf:=cH.le aS
 have lg:=lf.le aT
 have lh:=lg.le aK
 have li:=lh.le a9
 have dC:=li.le b5
 have q:=dC.el (fun _=>rfl) (wAe dB)
 obtain ⟨rn,rM,lL,lT⟩:=q
 refine za rfl rfl rfl rfl (fun _=>ZM rfl rfl lL rfl Zo yo (wBV dB) (wBb dB)) (za rfl rfl rfl rfl (fun _=>zF rfl rfl yV rfl zC) (ZE rfl rfl rfl rfl (cA.ldC (f:=2) lT (v:=jV eg.Error) rfl rfl zG rfl) rfl (yP rfl rfl rfl rfl rfl rfl (eN (zx zt [1,1,3,1,2,1,3,1,3,1,2,3,1,3,3,3,3,1,3,0] (wEF (wIs (wOI (.fx 4 (.fx 10 (.fx 19 .nil .stop) .stop) .stop)))) (by kernel_rfl) ?_)))))
 have aX:=cA.drew
 generalize hw_W500:({ de with drawn:=de.drawn + 1 }:World)=ip at aX ⊢
 refine oL Z (aX.ldBA (j:=3) Z Z ft Tryz.isAgg188 Tryz.sizeOf188 (vs:=[.slice ah aR.length ai]) Z Z) (oL Z (aX.ldBA (j:=4) Z Z bB ZQ ZF (vs:=B0) Z Z) (oR Z (zF Z Z Zi Z zC) (oL Z (aX.ldB (j:=0) Z Z Z zG (v:=jV ay.Clock) Z) (oL Z (aX.ldBA (j:=4) Z Z bB ZQ ZF (vs:=B0) Z Z) (oR Z (zF Z Z Zi Z zC) (oL Z (aX.ldB (j:=0) Z Z Z zG (v:=jV ay.Skier) Z) (oR Z (zF Z Z Zi Z zC) (oL Z (aX.ldB (j:=0) Z Z Z zG (v:=jV ay.Mat) Z) (oR Z (zF Z Z Zi Z zC) (oL Z (aX.ldB (j:=0) Z Z Z zG (v:=jV ay.Time) Z) (oM Z Z (oR Z (zh Z Z Z) (oM Z Z (oR Z (zF Z Z Zi Z zC) (oL Z (aX.ldB (j:=0) Z Z Z zG (v:=jV ay.Time) Z) (oR Z (yO Z Z Z) ?_))))))))))))))))
 have lj:=cE.le aS
 have lk:=lj.le aT
 have ll:=lk.le aK
 have lm:=ll.le a9
 have fP:=lm.le b5
 have ln:=cG.le aS
 have lp:=ln.le aT
 have ls:=lp.le aK
 have lu:=ls.le a9
 have fQ:=lu.le b5
 refine bnK pC fun qC lv pD=>zD 0 Z Z Z Z (zE Z Z Tryz.call73 (zB Z (zB Z zM)) Z) aX (fun hs=>wCY p0 aL aN aM aO aI aJ aU aV ay.Clock ip cX hs fP fQ dC dA lv) (.inr Z) ?_
 rintro ic qO rX eQ ca mC ⟨rfl,rfl⟩
 have mD:sW w φ ic [.blk bw 117 bn,B8,inn 3 1 KL.encI O aR,bQ,.blk b2 36 B0] eQ:=mC
 have lw:=fP.le ca
 have lx:=fQ.le ca
 have ly:=dC.le ca
 have lz:=dA.le ca
 refine bnK pD fun qD lA pE=>zD 0 Z Z Z Z (zE Z Z ym (zB Z (zB Z (zB Z zM))) Z) mD (fun hs=>wAk p0 aL aN aM aO aI aJ aU aV ay.Skier ay.Mat eQ ic hs lw lx ly lz lA) (.inr Z) ?_
 rintro er qP rY df qn mE ⟨rfl,rfl⟩
 have f5:sW w φ er [.blk bw 117 bn,B8,inn 3 1 KL.encI O aR,bQ,.blk b2 36 B0] df:=mE
 refine bnK pE fun cV lB pF=>?_
 have gk:=f5.innFit (j:=2) rfl
 have mF:sW w φ er [B8,inn 3 1 KL.encI O aR,.blk bw 117 bn,bQ,.blk b2 36 B0] df:=f5.pick [1,2,0,3,4] _ (by decide) rfl
 refine zD 2 Z Z Z Z (zE Z Z Tryz.call121 (zB Z (zB Z (zB Z (zB Z (zB Z zM))))) Z) mF (fun hs=>wCD (⟨aR⟩:wAa) ah ai O qC qD (w64 (ay.Time + eg.Error)) (w64 (eg.Error - ay.Time)) df er hs lB) (.inl Z) ?_
 rintro eu qQ rZ eR qo mG ⟨rfl,rfl⟩
 have f6:sW w φ eu [B8,inn 3 1 KL.encI O cV,.blk bw 117 bn,bQ,.blk b2 36 B0] eR:=mG
 have gp:=f6.innFit (j:=1) rfl
 have mH:sW w φ eu [B8,inn 3 1 KL.encI O cV,.blk bw 117 bn,.blk an 188 [.slice ah cV.length ai],.blk b2 36 B0] eR:=by rw [gp.len.symm.trans gk.len];exact f6
 refine zf (zm (zJ (rR fL3 Z (oM Z dm (oR Z (zh Z Z Z) (oA Z Z (zf ?_)))))))
 have q:=hH pF
 obtain rfl:=q
 exact zJ ⟨rfl,_,rfl,⟨eu,bB,fm,(nJ (b:=(.slice ah aR.length ai:Value)) (c:=(.slice ah cV.length ai:Value)) fq (by rw [gp.len.symm.trans gk.len])),ft,rfl,(((b5.trans ca).trans qn).trans qo),(mH.pick [0,1,3,4] _ (by decide) rfl)⟩⟩
 have gN:=d7;rw [if_neg be] at gN;replace be:=zN be
 refine cF Z be (Za (zq ?_))
 have q:=wAS gN
 obtain ⟨qx,pG,iB⟩:=q
 have q:=oj qx iB
 obtain rfl:=q
 refine zq (ZW (zJ (zL (sR fL1 Z (oA Z Z (eN (zY (bnK pG fun se oo pH=>?_))))))))
 have q:=wCC oo
 obtain ⟨dV,oq⟩:=q
 replace dV:=zN dV
 refine CK.forN' (fun ac cK σ_ w_=>∃ (φ_:PHeap),σ_ 15=jV (↑ac:Int)/\σ_ 3=jV x5/\σ_ 4=.slice ah cK.length ai/\PHeap.Le cX φ_/\sW w φ φ_ [B8,inn 3 1 KL.encI O cK,.blk an 188 [.slice ah cK.length ai],.blk b2 36 B0] w_) oq ?_ ?_ ?_
 exact ⟨cX,Z,fm,fq,(zS _),bW⟩
 rintro ac cK sa sq qY dQ ⟨ie,fG,fu,iH,qq,mI⟩ qd
 have eY:Hid ((↑ac:Int) < x5):=zN (wBO dQ)
 replace dQ:=zN dQ
 have o5:Hid (w64 ((↑ac:Int) + 1)=(↑(ac + 1):Int)):=zN (by have h1:=dV.out;have h2:=eY.out;rw [wAb] <;> omega)
 refine zL (sR fL3 Z (oM Z fG (oM Z fu (oR Z (ze Z Z Z) (eN (cT Z eY (kN (zL (zY (sR fL1 Z (oA Z Z (eN (zY (bnK qd fun sf ot pI=>?_))))))))))))))
 have q:=wCC ot
 obtain ⟨dW,ou⟩:=q
 replace dW:=zN dW
 refine CK.forN' (fun aa cL σ_ w_=>∃ (φ_:PHeap),σ_ 16=jV (↑aa:Int)/\σ_ 3=jV x5/\σ_ 4=.slice ah cL.length ai/\σ_ 15=jV (↑ac:Int)/\PHeap.Le ie φ_/\sW w φ φ_ [B8,inn 3 1 KL.encI O cL,.blk an 188 [.slice ah cL.length ai],.blk b2 36 B0] w_) ou ?_ ?_ ?_
 exact ⟨ie,Z,fu,iH,fG,(zS _),mI⟩
 rintro aa cL sb sr qZ dR ⟨ig,fH,fy,iJ,iK,qr,mK⟩ qe
 have eZ:Hid ((↑aa:Int) < x5):=zN (wBO dR)
 replace dR:=zN dR
 have o6:Hid (w64 ((↑aa:Int) + 1)=(↑(aa + 1):Int)):=zN (by have h1:=dW.out;have h2:=eZ.out;rw [wAb] <;> omega)
 refine zL (sR fL3 Z (oM Z fH (oM Z fy (oR Z (ze Z Z Z) (eN (cT Z eZ (kN (zL (zY (sR fL1 Z (oA Z Z (eN (zY (bnK qe fun sg ov pJ=>?_))))))))))))))
 have q:=wCC ov
 obtain ⟨dX,ow⟩:=q
 replace dX:=zN dX
 refine CK.forN' (fun ap ab σ_ w_=>∃ (φ_:PHeap),σ_ 17=jV (↑ap:Int)/\σ_ 3=jV x5/\σ_ 4=.slice ah ab.length ai/\σ_ 15=jV (↑ac:Int)/\σ_ 16=jV (↑aa:Int)/\PHeap.Le ig φ_/\sW w φ φ_ [B8,inn 3 1 KL.encI O ab,.blk an 188 [.slice ah ab.length ai],.blk b2 36 B0] w_) ow ?_ ?_ ?_
 exact ⟨ig,Z,fy,iJ,iK,fH,(zS _),mK⟩
 rintro ap ab sc ss eS dS ⟨ao,fI,fz,iM,iN,iO,cM,mL⟩ qf
 have e8:Hid ((↑ap:Int) < x5):=zN (wBO dS)
 replace dS:=zN dS
 have cJ:Hid (w64 ((↑ap:Int) + 1)=(↑(ap + 1):Int)):=zN (by have h1:=dX.out;have h2:=e8.out;rw [wAb] <;> omega)
 refine zL (sR fL3 Z (oM Z fI (oM Z fz (oR Z (ze Z Z Z) (eN (cT Z e8 (kN (zL (zY (zL (yR fun cc bJ=>?_)))))))))))
 have cu:cc 3=jV x5:=(bJ 3).trans fz
 have aY:cc 4=.slice ah ab.length ai:=(bJ 4).trans iM
 have bf:cc 15=jV (↑ac:Int):=(bJ 15).trans iN
 have bp:cc 16=jV (↑aa:Int):=(bJ 16).trans iO
 have bq:cc 17=jV (↑ap:Int):=(bJ 17).trans fI
 clear bJ
 refine zx zt [3,3,3,1,3,3,1,3,3,3,3,3,1,3,3,1,3,3,3,3,3,3,1,3,3,1,3,3,3,1,3,3,1,3,3,3,3,1,3,3,1,3,3] fL43 (by kernel_rfl) ?_
 have bG:=mL.drew
 generalize hw_W662:({ eS with drawn:=eS.drawn + 1 }:World)=aH at bG ⊢
 refine oM Z aY (oM Z bp (bnK qf fun _ aF pL=>?_))
 obtain ⟨rp,aG⟩:=bG.rowSome (j:=0) rfl (by rw [wAE (f:=wFa) (sz:=1) (fun _=>rfl),(bG.innFit (j:=1) rfl).len];have hz:=wAW aF;omega)
 refine oR Z (Zc Z Z aG Z Zg zg (wAW aF)) ?_
 have gq:=bG.innFit (j:=1) rfl
 have oH:=wBK (xs:=O) (k:=aa) (by rw [gq.len];exact (wAW aF))
 have pY:nI (gd O aa).A (gd O aa).n (gd O aa).c=.slice ((gd O aa).A) ((gd ab aa).length) ((gd O aa).c):=by rw [gq.at_ (k:=aa) (wAW aF)]
 refine ZE rfl rfl rfl rfl (YH (bG.ldR (j:=0) rfl aG rfl rfl zr (wAc (sz:=1) (fun _=>rfl) _ _ 0 _ oH (by first | omega | rfl | simp) rfl)) pY) rfl ?_
 let au:Res:=.blk an 188 [.slice ah ab.length ai]
 have mM:sW w φ ao [inn 3 1 KL.encI O ab,B8,au,.blk b2 36 B0] aH:=bG.pick [1,0,2,3] _ (by decide) rfl
 have mN:=mM.innTake (k:=aa) (wAW aF)
 let cn:Res:=.row ((gd O aa).A) ((gd O aa).c) 3 1 (hD KL.encI (gd ab aa))
 have bH:sW w φ ao [cn,wJG 3 1 KL.encI O ab aa,B8,au,.blk b2 36 B0] aH:=mN
 refine oM Z bf (bnK pL fun _ br pM=>?_)
 obtain ⟨rq,aW⟩:=bH.rowSome (j:=0) rfl (by rw [wAE (f:=KL.encI) (sz:=1) (fun _=>rfl) (gd ab aa)];have hz:=wAW br;omega)
 refine oR Z (Zc Z Z aW Z zK zC (wAW br)) ?_
 have oI:=wBK (xs:=(gd ab aa)) (wAW br)
 refine ZE rfl rfl rfl rfl (bH.ldR (j:=0) rfl aW rfl rfl zG (wAc (sz:=1) (fun _=>rfl) _ _ 0 _ oI (by first | omega | rfl | simp) rfl)) rfl (za rfl rfl rfl rfl (fun _=>ze rfl rfl rfl) (zw rfl rfl rfl rfl rfl rfl (ifc pM ?_ ?_)))
 intro ax pN
 refine zw Z Z Z (wT Z ax) Z aY (zw Z Z Z (wT Z ax) Z bf (bnK pN fun _ aP pO=>rU Z (wT Z ax) (Zc Z Z aG Z Zg zg (wAW aP)) ?_))
 have ry:=(bH.innHFit (j:=1) rfl).1
 have q:=bH.innHFit (j:=1) rfl
 obtain ⟨ox,gO⟩:=q
 have gO:(gd ab aa).length=(gd O aa).n:=nJ rfl (ox.at_ (k:=aa) gO).symm
 have mO:=bH.innBack0
 have dG:sW w φ ao [inn 3 1 KL.encI O ab,B8,au,.blk b2 36 B0] aH:=mO
 have gt:=dG.innFit (j:=0) rfl
 have oJ:=wBK (xs:=O) (k:=ac) (by rw [gt.len];exact (wAW aP))
 have pZ:nI (gd O ac).A (gd O ac).n (gd O ac).c=.slice ((gd O ac).A) ((gd ab ac).length) ((gd O ac).c):=by rw [gt.at_ (k:=ac) (wAW aP)]
 refine ZE rfl rfl rfl (zI rfl rfl (Zd ax.out)) (YH (dG.ldR (j:=1) rfl aG rfl rfl zr (wAc (sz:=1) (fun _=>rfl) _ _ 0 _ oJ (by first | omega | rfl | simp) rfl)) pZ) rfl ?_
 have mQ:=dG.innTake (k:=ac) (wAW aP)
 let c6:Res:=.row ((gd O ac).A) ((gd O ac).c) 3 1 (hD KL.encI (gd ab ac))
 have bI:sW w φ ao [c6,wJG 3 1 KL.encI O ab ac,B8,au,.blk b2 36 B0] aH:=mQ
 refine zw Z Z Z (wT Z ax) Z bq (bnK pO fun _ bs pP=>?_)
 obtain ⟨rv,bF⟩:=bI.rowSome (j:=0) rfl (by rw [wAE (f:=KL.encI) (sz:=1) (fun _=>rfl) (gd ab ac)];have hz:=wAW bs;omega)
 refine rU Z (wT Z ax) (Zc Z Z bF Z zK zC (wAW bs)) ?_
 have oK:=wBK (xs:=(gd ab ac)) (wAW bs)
 refine ZE rfl rfl rfl (zI rfl rfl (Zd ax.out)) (bI.ldR (j:=0) rfl bF rfl rfl zG (wAc (sz:=1) (fun _=>rfl) _ _ 0 _ oK (by first | omega | rfl | simp) rfl)) rfl (za rfl rfl rfl (zI rfl rfl (Zd ax.out)) (fun _=>ze rfl rfl rfl) (za rfl rfl rfl rfl (fun _=>zR rfl (Zd ax.out) rfl) (zw rfl rfl rfl rfl rfl rfl (ifc pP ?_ ?_))))
 intro ag pR
 refine zw Z Z Z (wT Z ag) Z aY (zw Z Z Z (wT Z ag) Z bp (rU Z (wT Z ag) (Zc Z Z aG Z Zg zg (wAW aF)) ?_))
 have rz:=(bI.innHFit (j:=1) rfl).1
 have q:=bI.innHFit (j:=1) rfl
 obtain ⟨oy,gP⟩:=q
 have gP:(gd ab ac).length=(gd O ac).n:=nJ rfl (oy.at_ (k:=ac) gP).symm
 have mR:=bI.innBack0
 have dH:sW w φ ao [inn 3 1 KL.encI O ab,B8,au,.blk b2 36 B0] aH:=mR
 have gu:=dH.innFit (j:=0) rfl
 have oO:=wBK (xs:=O) (k:=aa) (by rw [gu.len];exact (wAW aF))
 have p6:nI (gd O aa).A (gd O aa).n (gd O aa).c=.slice ((gd O aa).A) ((gd ab aa).length) ((gd O aa).c):=by rw [gu.at_ (k:=aa) (wAW aF)]
 refine ZE rfl rfl rfl (zI rfl rfl (Zd ag.out)) (YH (dH.ldR (j:=1) rfl aG rfl rfl zr (wAc (sz:=1) (fun _=>rfl) _ _ 0 _ oO (by first | omega | rfl | simp) rfl)) p6) rfl ?_
 have mS:=dH.innTake (k:=aa) (wAW aF)
 have cC:sW w φ ao [cn,wJG 3 1 KL.encI O ab aa,B8,au,.blk b2 36 B0] aH:=mS
 refine zw Z Z Z (wT Z ag) Z bf (rU Z (wT Z ag) (Zc Z Z aW Z zK zC (wAW br)) ?_)
 have oP:=wBK (xs:=(gd ab aa)) (wAW br)
 refine ZE rfl rfl rfl (zI rfl rfl (Zd ag.out)) (cC.ldR (j:=0) rfl aW rfl rfl zG (wAc (sz:=1) (fun _=>rfl) _ _ 0 _ oP (by first | omega | rfl | simp) rfl)) rfl (zw rfl rfl rfl (zI rfl rfl (Zd ag.out)) rfl aY (zw rfl rfl rfl (zI rfl rfl (Zd ag.out)) rfl bf (za rfl rfl rfl (zI rfl rfl (Zd ag.out)) (fun _=>Zc rfl rfl aG rfl Zg zg (wAW aP)) ?_)))
 have rA:=(cC.innHFit (j:=1) rfl).1
 have q:=cC.innHFit (j:=1) rfl
 obtain ⟨oz,gQ⟩:=q
 have gQ:(gd ab aa).length=(gd O aa).n:=nJ rfl (oz.at_ (k:=aa) gQ).symm
 have mU:=cC.innBack0
 have dI:sW w φ ao [inn 3 1 KL.encI O ab,B8,au,.blk b2 36 B0] aH:=mU
 have gv:=dI.innFit (j:=0) rfl
 have oQ:=wBK (xs:=O) (k:=ac) (by rw [gv.len];exact (wAW aP))
 have p7:nI (gd O ac).A (gd O ac).n (gd O ac).c=.slice ((gd O ac).A) ((gd ab ac).length) ((gd O ac).c):=by rw [gv.at_ (k:=ac) (wAW aP)]
 refine ZE rfl rfl rfl (zI rfl rfl (Zd ag.out)) (YH (dI.ldR (j:=1) rfl aG rfl rfl zr (wAc (sz:=1) (fun _=>rfl) _ _ 0 _ oQ (by first | omega | rfl | simp) rfl)) p7) rfl ?_
 have mV:=dI.innTake (k:=ac) (wAW aP)
 have cD:sW w φ ao [c6,wJG 3 1 KL.encI O ab ac,B8,au,.blk b2 36 B0] aH:=mV
 refine zw Z Z Z (wT Z ag) Z bq (rU Z (wT Z ag) (Zc Z Z bF Z zK zC (wAW bs)) ?_)
 have oS:=wBK (xs:=(gd ab ac)) (wAW bs)
 refine ZE rfl rfl rfl (zI rfl rfl (Zd ag.out)) (cD.ldR (j:=0) rfl bF rfl rfl zG (wAc (sz:=1) (fun _=>rfl) _ _ 0 _ oS (by first | omega | rfl | simp) rfl)) rfl (za rfl rfl rfl (zI rfl rfl (Zd ag.out)) (fun _=>zh rfl rfl rfl) (zw rfl rfl rfl (zI rfl rfl (Zd ag.out)) rfl aY (zw rfl rfl rfl (zI rfl rfl (Zd ag.out)) rfl bp (za rfl rfl rfl (zI rfl rfl (Zd ag.out)) (fun _=>Zc rfl rfl aG rfl Zg zg (wAW aF)) ?_))))
 have rC:=(cD.innHFit (j:=1) rfl).1
 have q:=cD.innHFit (j:=1) rfl
 obtain ⟨oB,gR⟩:=q
 have gR:(gd ab ac).length=(gd O ac).n:=nJ rfl (oB.at_ (k:=ac) gR).symm
 have mW:=cD.innBack0
 have dJ:sW w φ ao [inn 3 1 KL.encI O ab,B8,au,.blk b2 36 B0] aH:=mW
 have gw:=dJ.innFit (j:=0) rfl
 have oU:=wBK (xs:=O) (k:=aa) (by rw [gw.len];exact (wAW aF))
 have p8:nI (gd O aa).A (gd O aa).n (gd O aa).c=.slice ((gd O aa).A) ((gd ab aa).length) ((gd O aa).c):=by rw [gw.at_ (k:=aa) (wAW aF)]
 refine ZE rfl rfl rfl (zI rfl rfl (Zd ag.out)) (YH (dJ.ldR (j:=1) rfl aG rfl rfl zr (wAc (sz:=1) (fun _=>rfl) _ _ 0 _ oU (by first | omega | rfl | simp) rfl)) p8) rfl ?_
 have mX:=dJ.innTake (k:=aa) (wAW aF)
 have dK:sW w φ ao [cn,wJG 3 1 KL.encI O ab aa,B8,au,.blk b2 36 B0] aH:=mX
 refine zw Z Z Z (wT Z ag) Z bq (bnK pR fun _ bV pS=>rU Z (wT Z ag) (Zc Z Z aW Z zK zC (wAW bV)) ?_)
 have oV:=wBK (xs:=(gd ab aa)) (wAW bV)
 refine ZE rfl rfl rfl (zI rfl rfl (Zd ag.out)) (dK.ldR (j:=0) rfl aW rfl rfl zG (wAc (sz:=1) (fun _=>rfl) _ _ 0 _ oV (by first | omega | rfl | simp) rfl)) rfl (za rfl rfl rfl (zI rfl rfl (Zd ag.out)) (fun _=>ze rfl rfl rfl) (za rfl rfl rfl rfl (fun _=>zR rfl (Zd ag.out) rfl) (eN (ifc pS ?_ ?_))))
 intro dh pT
 refine cT Z dh (yR fun cd bK=>?_)
 have iP:cd 3=jV x5:=(bK 3).trans cu
 have cw:cd 4=.slice ah ab.length ai:=(bK 4).trans aY
 have dq:cd 15=jV (↑ac:Int):=(bK 15).trans bf
 have dr:cd 16=jV (↑aa:Int):=(bK 16).trans bp
 have dt:cd 17=jV (↑ap:Int):=(bK 17).trans bq
 clear bK
 refine zx zt [3,3,3,1,3,3,3,3,1,3,3,1,3,3,3,1,3,3,1,3,3,3,0] (wNM (.fx 22 .nil .stop)) (by kernel_rfl) ?_
 have a5:=dK.drew
 generalize hw_W749:({ aH with drawn:=aH.drawn + 1 }:World)=cr at a5 ⊢
 refine oM Z cw (oM Z dr (oR Z (Zc Z Z aG Z Zg zg (wAW aF)) ?_))
 have q:=a5.innHFit (j:=1) rfl
 obtain ⟨gx,gS⟩:=q
 have oW:=wBK (xs:=O) (k:=aa) (by rw [gx.len];exact gS)
 have p9:nI (gd O aa).A (gd O aa).n (gd O aa).c=.slice ((gd O aa).A) ((gd ab aa).length) ((gd O aa).c):=congrArg (fun n_=>nI (gd O aa).A n_ (gd O aa).c) ((gx.at_ (k:=aa) gS).trans (Eq.symm rfl))
 refine ZE rfl rfl rfl rfl (YH (a5.ldR (j:=2) rfl aG rfl rfl zr (wAc (sz:=1) (fun _=>rfl) _ _ 0 _ oW (by first | omega | rfl | simp) rfl)) p9) rfl (zw rfl rfl rfl rfl rfl dt (zw rfl rfl rfl rfl rfl cw (zw rfl rfl rfl rfl rfl dr (za rfl rfl rfl rfl (fun _=>Zc rfl rfl aG rfl Zg zg (wAW aF)) ?_))))
 have q:=a5.innHFit (j:=1) rfl
 obtain ⟨gy,gT⟩:=q
 have oX:=wBK (xs:=O) (k:=aa) (by rw [gy.len];exact gT)
 have qa:nI (gd O aa).A (gd O aa).n (gd O aa).c=.slice ((gd O aa).A) ((gd ab aa).length) ((gd O aa).c):=congrArg (fun n_=>nI (gd O aa).A n_ (gd O aa).c) ((gy.at_ (k:=aa) gT).trans (Eq.symm rfl))
 refine ZE rfl rfl rfl rfl (YH (a5.ldR (j:=2) rfl aG rfl rfl zr (wAc (sz:=1) (fun _=>rfl) _ _ 0 _ oX (by first | omega | rfl | simp) rfl)) qa) rfl (zw rfl rfl rfl rfl rfl dq (za rfl rfl rfl rfl (fun _=>Zc rfl rfl aW rfl zK zC (wAW br)) ?_))
 have oY:=wBK (xs:=(gd ab aa)) (wAW br)
 refine ZE rfl rfl rfl rfl (a5.ldR (j:=0) rfl aW rfl rfl zG (wAc (sz:=1) (fun _=>rfl) _ _ 0 _ oY (by first | omega | rfl | simp) rfl)) rfl (zw rfl rfl rfl rfl rfl cw (zw rfl rfl rfl rfl rfl dq (za rfl rfl rfl rfl (fun _=>Zc rfl rfl aG rfl Zg zg (wAW aP)) ?_)))
 have rD:=(a5.innHFit (j:=1) rfl).1
 have q:=a5.innHFit (j:=1) rfl
 obtain ⟨gz,dZ⟩:=q
 have dZ:(gd ab aa).length=(gd O aa).n:=nJ rfl (gz.at_ (k:=aa) dZ).symm
 have mY:=a5.innBack0
 have dL:sW w φ ao [inn 3 1 KL.encI O ab,B8,au,.blk b2 36 B0] cr:=mY
 have gA:=dL.innFit (j:=0) rfl
 have oZ:=wBK (xs:=O) (k:=ac) (by rw [gA.len];exact (wAW aP))
 have qb:nI (gd O ac).A (gd O ac).n (gd O ac).c=.slice ((gd O ac).A) ((gd ab ac).length) ((gd O ac).c):=by rw [gA.at_ (k:=ac) (wAW aP)]
 refine ZE rfl rfl rfl rfl (YH (dL.ldR (j:=1) rfl aG rfl rfl zr (wAc (sz:=1) (fun _=>rfl) _ _ 0 _ oZ (by first | omega | rfl | simp) rfl)) qb) rfl ?_
 have mZ:=dL.innTake (k:=ac) (wAW aP)
 have dM:sW w φ ao [c6,wJG 3 1 KL.encI O ab ac,B8,au,.blk b2 36 B0] cr:=mZ
 refine oM Z dt (oR Z (Zc Z Z bF Z zK zC (wAW bs)) ?_)
 have o0:=wBK (xs:=(gd ab ac)) (wAW bs)
 refine ZE rfl rfl rfl rfl (dM.ldR (j:=0) rfl bF rfl rfl zG (wAc (sz:=1) (fun _=>rfl) _ _ 0 _ o0 (by first | omega | rfl | simp) rfl)) rfl (za rfl rfl rfl rfl (fun _=>zh rfl rfl rfl) (za rfl rfl rfl rfl (fun _=>Runs.max rfl rfl rfl) ?_))
 have q:=dM.innHFit (j:=1) rfl
 obtain ⟨oC,gU⟩:=q
 have gU:(gd ab ac).length=(gd O ac).n:=nJ rfl (oC.at_ (k:=ac) gU).symm
 have m0:=dM.innBack0
 have f8:sW w φ ao [inn 3 1 KL.encI O ab,B8,au,.blk b2 36 B0] cr:=m0
 have gB:=f8.innFit (j:=0) rfl
 have gD:aa < ab.length:=nL (wAW aF) (gz.len.symm.trans gB.len)
 have m4:=f8.innTake (k:=aa) gD
 have m5:sW w φ ao [cn,wJG 3 1 KL.encI O ab aa,B8,au,.blk b2 36 B0] cr:=m4
 refine oR Z (Zc Z (nJ (b:=(.slice ((gd O aa).A) ((gd O aa).n) ((gd O aa).c):Value)) (c:=(.slice ((gd O aa).A) ((gd ab aa).length) ((gd O aa).c):Value)) (nJ (b:=(.slice ((gd O aa).A) ((gd ab aa).length) ((gd O aa).c):Value)) (c:=(.slice ((gd O aa).A) ((gd O aa).n) ((gd O aa).c):Value)) Z (congrArg (fun n_=>nI ((gd O aa).A) n_ ((gd O aa).c)) dZ)) (congrArg (fun n_=>nI ((gd O aa).A) n_ ((gd O aa).c)) (gB.at_ (k:=aa) gD))) aW Z zK zC (wAW bV)) ?_
 have o3:=wBK (xs:=(gd ab aa)) (wAW bV)
 refine yw (j:=0) (vs:=[jV (max (w64 ((gd (gd ab aa) ac) + (gd (gd ab ac) ap))) (-1125899906842624))]) (cs':=hD KL.encI (nA (gd ab aa) ap (max (w64 ((gd (gd ab aa) ac) + (gd (gd ab ac) ap))) (-1125899906842624)))) rfl rfl rfl rfl m5 rfl aW rfl rfl rfl zC (by rw [wAE (f:=KL.encI) (sz:=1) (fun _=>rfl)];have hz:=wAW bV;show _ + 1 <= _;first | omega | (simp only [nH];omega) | (simp only [nG,nB,nD];omega)) rfl (wDV (sz:=1) (fo:=0) (fun _=>rfl) _ _ _ _ o3 (by first | omega | (simp only [nH];omega) | (simp only [nG,nB,nD];omega)) (zA rfl) rfl) rfl ?_
 intro dg m6
 have m7:sW w φ ao [.row ((gd O aa).A) ((gd O aa).c) 3 1 (hD KL.encI (nA (gd ab aa) ap (max (w64 ((gd (gd ab aa) ac) + (gd (gd ab ac) ap))) (-1125899906842624)))),wJG 3 1 KL.encI O ab aa,B8,au,.blk b2 36 B0] dg:=m6
 refine zf (zm (zJ (rR fL3 Z (oM Z dt (oR Z (ZU (zh Z Z Z) (congrArg (jV) cJ.out)) (oA Z Z (zf ?_)))))))
 have m8:=m7.innBack nE
 have m9:sW w φ ao [inn 3 1 KL.encI O (nA ab aa (nA (gd ab aa) ap (max (w64 ((gd (gd ab aa) ac) + (gd (gd ab ac) ap))) (-1125899906842624)))),B8,au,.blk b2 36 B0] dg:=m8
 have n3:sW w φ ao [inn 3 1 KL.encI O (nA ab aa (nA (gd ab aa) ap (max (w64 ((gd (gd ab aa) ac) + (gd (gd ab ac) ap))) (-1125899906842624)))),B8,.blk an 188 [.slice ah ((nA ab aa (nA (gd ab aa) ap (max (w64 ((gd (gd ab aa) ac) + (gd (gd ab ac) ap))) (-1125899906842624)))).length) ai],.blk b2 36 B0] dg:=by simpa only [B0,au,B8,nE] using m9
 cases pT
 exact zJ ⟨rfl,⟨ao,rfl,iP,(nJ (b:=(.slice ah ab.length ai:Value)) (c:=(.slice ah ((nA ab aa (nA (gd ab aa) ap (max (w64 ((gd (gd ab aa) ac) + (gd (gd ab ac) ap))) (-1125899906842624)))).length) ai:Value)) cw (by simp only [nE])),dq,dr,cM,(n3.pick [1,0,2,3] _ (by decide) rfl)⟩⟩
 intro dh pU
 refine cF Z dh (Zf (zm (zJ (yR fun cf bL=>?_))))
 have iQ:cf 3=jV x5:=(bL 3).trans cu
 have iR:cf 4=.slice ah ab.length ai:=(bL 4).trans aY
 have iS:cf 15=jV (↑ac:Int):=(bL 15).trans bf
 have iT:cf 16=jV (↑aa:Int):=(bL 16).trans bp
 have iU:cf 17=jV (↑ap:Int):=(bL 17).trans bq
 clear bL
 refine rR fL3 Z (oM Z iU (oR Z (ZU (zh Z Z Z) (congrArg (jV) cJ.out)) (oA Z Z (zf ?_))))
 have n4:=dK.innBack0
 have n5:sW w φ ao [inn 3 1 KL.encI O ab,B8,au,.blk b2 36 B0] aH:=n4
 cases pU
 exact zJ ⟨rfl,⟨ao,rfl,iQ,iR,iS,iT,cM,(n5.pick [1,0,2,3] _ (by decide) rfl)⟩⟩
 intro ag pW
 refine oF Z ag (oF Z ag (oF Z ag (oF Z ag (oF Z ag (oF Z ag (oF Z ag (oF Z ag (oF Z ag (oF Z ag (oF Z ag (oF Z ag (oF Z ag (oF Z ag (oF Z ag (oF Z ag (oF Z ag (oF Z ag (oF Z ag (oF Z ag (oF Z ag (oF Z ag (oF Z ag (oR Z (zW Z (zu ag.out) Z) (eN (zj Z (Zf (zm (zJ (yR fun cg bM=>?_)))))))))))))))))))))))))))))
 have iV:cg 3=jV x5:=(bM 3).trans cu
 have iW:cg 4=.slice ah ab.length ai:=(bM 4).trans aY
 have iX:cg 15=jV (↑ac:Int):=(bM 15).trans bf
 have iY:cg 16=jV (↑aa:Int):=(bM 16).trans bp
 have iZ:cg 17=jV (↑ap:Int):=(bM 17).trans bq
 clear bM
 refine rR fL3 Z (oM Z iZ (oR Z (ZU (zh Z Z Z) (congrArg (jV) cJ.out)) (oA Z Z (zf ?_))))
 have n6:=bI.innBack0
 have n7:sW w φ ao [inn 3 1 KL.encI O ab,B8,au,.blk b2 36 B0] aH:=n6
 cases pW
 exact zJ ⟨rfl,⟨ao,rfl,iV,iW,iX,iY,cM,(n7.pick [1,0,2,3] _ (by decide) rfl)⟩⟩
 intro ax pX
 refine oF Z ax (oF Z ax (oF Z ax (oF Z ax (oF Z ax (oF Z ax (oF Z ax (oF Z ax (oR Z (zW Z (zu ax.out) Z) (oM Z Z (oN Z (oN Z (oN Z (oN Z (oN Z (oN Z (oN Z (oN Z (oN Z (oN Z (oN Z (oN Z (oN Z (oN Z (oN Z (oN Z (oN Z (oN Z (oN Z (oN Z (oN Z (oN Z (oN Z (oR Z (zW Z Z Z) (eN (zj Z (Zf (zm (zJ (yR fun cj bN=>?_)))))))))))))))))))))))))))))))))))))))
 have i4:cj 3=jV x5:=(bN 3).trans cu
 have i6:cj 4=.slice ah ab.length ai:=(bN 4).trans aY
 have i8:cj 15=jV (↑ac:Int):=(bN 15).trans bf
 have i9:cj 16=jV (↑aa:Int):=(bN 16).trans bp
 have ja:cj 17=jV (↑ap:Int):=(bN 17).trans bq
 clear bN
 refine rR fL3 Z (oM Z ja (oR Z (ZU (zh Z Z Z) (congrArg (jV) cJ.out)) (oA Z Z (zf ?_))))
 have n8:=bH.innBack0
 have n9:sW w φ ao [inn 3 1 KL.encI O ab,B8,au,.blk b2 36 B0] aH:=n8
 cases pX
 exact zJ ⟨rfl,⟨ao,rfl,i4,i6,i8,i9,cM,(n9.pick [1,0,2,3] _ (by decide) rfl)⟩⟩
 rintro su q0 ⟨qE,jk,fA,jb,jc,jd,qs,oa⟩
 have iu:Hid (¬ ((↑((x5:Int) - 0).toNat:Int) < x5)):=zN (wAq)
 refine zL (sR fL3 Z (oM Z jk (oM Z fA (oR Z (ze Z Z Z) (eN (cF Z iu (Za (zq (zq (ZW (zm (zJ (rR fL3 Z (oM Z jd (oR Z (ZU (zh Z Z Z) (congrArg (jV) o6.out)) (oA Z Z (zf ?_)))))))))))))))))
 cases pJ
 exact zJ ⟨Z,⟨qE,Z,fA,jb,jc,(qr.trans qs),oa⟩⟩
 rintro sv q6 ⟨qF,jl,fB,je,jf,qt,oc⟩
 have iv:Hid (¬ ((↑((x5:Int) - 0).toNat:Int) < x5)):=zN (wAq)
 refine zL (sR fL3 Z (oM Z jl (oM Z fB (oR Z (ze Z Z Z) (eN (cF Z iv (Za (zq (zq (ZW (zm (zJ (rR fL3 Z (oM Z jf (oR Z (ZU (zh Z Z Z) (congrArg (jV) o5.out)) (oA Z Z (zf ?_)))))))))))))))))
 cases pI
 exact zJ ⟨Z,⟨qF,Z,fB,je,(qq.trans qt),oc⟩⟩
 rintro sA q7 ⟨qG,jm,jg,jh,rE,od⟩
 have iw:Hid (¬ ((↑((x5:Int) - 0).toNat:Int) < x5)):=zN (wAq)
 refine zL (sR fL3 Z (oM Z jm (oM Z jg (oR Z (ze Z Z Z) (eN (cF Z iw (Za (zq (zq (ZW (zJ (sR fL2 Z (oM Z jh (oA Z Z (eN (zO ?_))))))))))))))))
 have hE:=hH pH;first | subst r | cases hE
 exact ⟨rfl,_,(ZA rfl),qG,_,(od.pick [0,1] _ (by decide) rfl),ah,ai,O,rfl,rfl⟩
end Go.Proofs.YtlnfbjphfoipaaaGreat
namespace Go.Proofs.YtlnfbjphfoipaaaGreat
open Go.KL
set_option maxHeartbeats 4000000
theorem wGA (O:wAI) (ag:Option Addr) (ak:Nat) (ah:Option Addr) (am:Nat) (ai:Option Addr) (an:Nat) (aj:Option Addr) (ao:Nat) (w:World) (φ:PHeap) (hS:St0 w φ []) (bh:Sl φ 1 ag ak O.Starts.length (hD KL.encI O.Starts)) (bi:Sl φ 2 ah am O.Splits.length (hD wAD O.Splits)) (bj:Sl φ 3 ai an O.Clocks.length (hD wAN O.Clocks)) (bm:Sl φ 4 aj ao O.Readings.length (hD wAL O.Readings)) {r:Bool} (hm:wCV O=some r):Gv Tryz.prog 72 [.agg #[.slice ag O.Starts.length ak,.slice ah O.Splits.length am,.slice ai O.Clocks.length an,.slice aj O.Readings.length ao]] w (wCG w [] φ (fun φ_ L_ v=>v=.bool r/\L_=[])):=by
 unfold wCV at hm
 refine Gv.of Tryz.func72 Z Tryz.ntmps72 Tryz.results72 Z (sR gEp Z ?_)
 let B0:List Value:=[.slice ag O.Starts.length ak,.slice ah O.Splits.length am,.slice ai O.Clocks.length an,.slice aj O.Readings.length ao]
 refine zn (cs:=B0) rfl rfl rfl rfl rfl rfl (by rfl) hS ?_
 intro W1 b2 aO
 refine oA Z Z (eN (sR gEs Z (oL Z (aO.ldBA (j:=0) Z Z Z ZQ ZF (vs:=B0) Z Z) (bnK hm fun x5 h6 aE=>zD 0 Z Z Z Z (zE Z Z Tryz.call67 (zB Z zM) Z) aO (fun hs=>wEi O ag ak ah am ai an aj ao W1 φ hs bh bi bj bm h6) (.inr Z) ?_))))
 rintro bD L9 bN aI bI bc ⟨aH,aJ,aL,rfl,rfl⟩
 have bd:sW w φ bD [.row aH aJ 22 1 (hD wFa aL),inn 3 1 KL.encI aL x5,.blk b2 36 B0] aI:=bc
 have q:=St.freezeN (R:=wMw) bd (fun _ _ _ _ h=>⟨_,_,rfl,h⟩) (fun _=>rfl) (by decide) rfl
 obtain ⟨aF,bJ,bx,be⟩:=q
 have bf:sW w φ aF [.blk b2 36 B0] aI:=be
 refine oA Z Z (eN (zL (sR fL1 Z (oA Z Z (eN (zY ?_))))))
 have q:=wCA aE
 obtain ⟨bM,ax⟩:=q
 have q:=wCT ax
 obtain ⟨az,bp⟩:=q
 replace az:=zN az
 refine yc (fun aa _ σ_ w_=>∃ (φ_:PHeap),σ_ 4=jV (↑aa:Int)/\σ_ 3=.slice aH x5.length aJ/\PHeap.Le aF φ_/\sW w φ φ_ [.blk b2 36 B0] w_) bp ?_ ?_ ?_
 exact ⟨aF,Z,Z,(zS _),bf⟩
 rintro aa ⟨⟩ bP bQ bF ay ⟨aG,ae,au,aR,af⟩ aQ bn
 try dsimp only at aQ
 have aK:Hid ((↑aa:Int) < (↑x5.length:Int)):=zN (wBO ay)
 replace ay:=zN ay
 have bq:Hid (w64 ((↑aa:Int) + 1)=(↑(aa + 1):Int)):=zN (by have h1:=az.out;have h2:=aK.out;rw [wAb] <;> omega)
 refine zL (sR fL4 Z (oM Z ae (oM Z au (oR Z (zi Z Z Zg) (oR Z (ze Z Z Z) (eN (cT Z aK (kN (zL (zY (sR fL8 Z (oM Z au (oM Z ae (bnK aQ fun aU aM br=>?_))))))))))))))
 have a6:=bx.le aR
 have q:=a6.el (wAe aM)
 obtain ⟨aW,bz,bO,a9,av,bw⟩:=q
 obtain ⟨aS,aT,rfl,a7⟩:=bw
 replace av:Cl aG aW (bz + aa * 1) [.slice aS aU.length aT]:=av
 refine oR Z (Zc Z Z a9 Z Zg zg (wCa aM)) (oL Z (af.ldC (f:=0) av (v:=.slice aS aU.length aT) Z Z zr Z) (oM Z ae (bnK br fun bB aN bs=>?_)))
 have q:=a7.el (fun _=>rfl) (wAe aN)
 obtain ⟨bH,bL,ba,bb⟩:=q
 refine oR Z (Zc Z Z ba Z zK zC (wCa aN)) (oL Z (af.ldC (f:=0) bb (v:=jV bB) Z Z zG Z) (oR Z (ze Z Z Z) (eN (ifc bs ?_ ?_))))
 intro aq bt
 refine cT Z aq (sR fL1 Z (oA Z Z (eN (zO (zc (zQ ?_))))))
 have q:=wAS bt
 obtain ⟨bA,bu,aY⟩:=q
 have q:=wAt aE ax (bn bA aY)
 obtain rfl:=q
 refine zQ (zc (zQ ?_))
 have hE:=hH bu;first | subst r | cases hE
 exact ⟨rfl,_,(ZA rfl),aG,_,(af.pick [] _ (by decide) rfl),rfl,rfl⟩
 intro aq bv
 refine cF Z aq (Zf (zm (zJ (rR fL3 Z (oM Z ae (oR Z (ZU (zh Z Z Z) (congrArg (jV) bq.out)) (oA Z Z (zf ?_))))))))
 have q:=hH bv
 obtain rfl:=q
 exact zJ ⟨Z,_,Z,⟨aG,Z,au,aR,af⟩⟩
 rintro ⟨⟩ bR bG ⟨bC,a5,aZ,bK,bg⟩ bo
 have aP:=wCs aE ax bo
 try dsimp only at aP
 have aX:Hid (¬ ((↑(((↑x5.length:Int):Int) - 0).toNat:Int) < (↑x5.length:Int))):=zN (wAq)
 refine zL (sR fL4 Z (oM Z a5 (oM Z aZ (oR Z (zi Z Z Zg) (oR Z (ze Z Z Z) (eN (cF Z aX (Za (zq (zq (ZW (zJ (sR fL1 Z (oA Z Z (eN (zO ?_))))))))))))))))
 have hE:=hH aP;first | subst r | cases hE
 exact ⟨rfl,_,(ZA rfl),bC,_,(bg.pick [] _ (by decide) rfl),rfl,rfl⟩
theorem wDg (O:wAI) (ab:Option Addr) (ag:Nat) (ac:Option Addr) (ah:Nat) (ae:Option Addr) (ai:Nat) (af:Option Addr) (aj:Nat) (w:World) (φ:PHeap) (hS:St0 w φ []) (az:Sl φ 1 ab ag O.Starts.length (hD KL.encI O.Starts)) (aE:Sl φ 2 ac ah O.Splits.length (hD wAD O.Splits)) (aF:Sl φ 3 ae ai O.Clocks.length (hD wAN O.Clocks)) (aG:Sl φ 4 af aj O.Readings.length (hD wAL O.Readings)) {r:Int} (hm:wBD O=some r):Gv Tryz.prog 38 [.agg #[.slice ab O.Starts.length ag,.slice ac O.Splits.length ah,.slice ae O.Clocks.length ai,.slice af O.Readings.length aj]] w (wCG w [] φ (fun φ_ L_ v=>v=jV r/\L_=[])):=by
 unfold wBD at hm
 refine Gv.of Tryz.func38 Z Tryz.ntmps38 Tryz.results38 Z (sR gEp Z ?_)
 let B0:List Value:=[.slice ab O.Starts.length ag,.slice ac O.Splits.length ah,.slice ae O.Clocks.length ai,.slice af O.Readings.length aj]
 refine zn (cs:=B0) rfl rfl rfl rfl rfl rfl (by rfl) hS ?_
 intro W1 b2 ax
 refine oA Z Z (eN (zL (sR gEs Z (oL Z (ax.ldBA (j:=0) Z Z Z ZQ ZF (vs:=B0) Z Z) (bnK hm fun x5 h6 aW=>zD 0 Z Z Z Z (zE Z Z Tryz.call34 (zB Z zM) Z) ax (fun hs=>wCw O ab ag ac ah ae ai af aj W1 φ hs az aE aF aG h6) (.inr Z) ?_)))))
 rintro aq L9 a5 au ak aP ⟨rfl,rfl⟩
 have ao:sW w φ aq [.blk b2 36 B0] au:=aP
 refine oA Z Z (eN (sR fL2 Z (oM Z Z (oR Z (ZP Z Z Z) (eN (ifc aW ?_ ?_))))))
 intro am aR
 refine zj (zu (fun h=>h am.out)) (kN (zL (sR gEo Z (oL Z (ao.ldBA (j:=0) Z Z Z ZQ ZF (vs:=B0) Z Z) ?_))))
 have aJ:=az.le ak
 have aK:=aE.le ak
 have aL:=aF.le ak
 have aM:=aG.le ak
 refine bnK aR fun a7 aN aS=>zD 0 Z Z Z Z (zE Z Z Tryz.call72 (zB Z zM) Z) ao (fun hs=>wGA O ab ag ac ah ae ai af aj au aq hs aJ aK aL aM aN) (.inr Z) ?_
 rintro ap aX a6 aI aZ aQ ⟨rfl,rfl⟩
 have ay:sW w φ ap [.blk b2 36 B0] aI:=aQ
 refine eN (ifc aS ?_ ?_)
 intro an aT
 refine ZD (congrArg hJ an.out) (sR fL1 Z (oA Z Z (eN (zO (zQ ?_)))))
 cases aT
 exact ⟨rfl,_,(ZA rfl),ap,_,(ay.pick [] _ (by decide) rfl),rfl,rfl⟩
 intro an aU
 refine zj (congrArg hJ (hU.2 an.out)) (kN (sR fL1 Z (oA Z Z (eN (zO ?_)))))
 cases aU
 exact ⟨rfl,_,(ZA rfl),ap,_,(ay.pick [] _ (by decide) rfl),rfl,rfl⟩
 intro am aV
 refine cT Z am (sR fL2 Z (oM Z Z (oA Z Z (eN (zO (zQ ?_))))))
 have hE:=hH aV;first | subst r | cases hE
 exact ⟨rfl,_,(ZA rfl),aq,_,(ao.pick [] _ (by decide) rfl),rfl,rfl⟩
theorem wGB (O:wAI) (ac:Option Addr) (ah:Nat) (ae:Option Addr) (ai:Nat) (af:Option Addr) (aj:Nat) (ag:Option Addr) (ak:Nat) (p1:wAQ) (p2:wAQ) (w:World) (φ:PHeap) (hS:St0 w φ []) (aY:Sl φ 1 ac ah O.Starts.length (hD KL.encI O.Starts)) (aZ:Sl φ 2 ae ai O.Splits.length (hD wAD O.Splits)) (a5:Sl φ 3 af aj O.Clocks.length (hD wAN O.Clocks)) (a6:Sl φ 4 ag ak O.Readings.length (hD wAL O.Readings)) {r:Int} (hm:wCW O p1 p2=some r):Gv Tryz.prog 46 [.agg #[.slice ac O.Starts.length ah,.slice ae O.Splits.length ai,.slice af O.Clocks.length aj,.slice ag O.Readings.length ak],.agg #[jV p1.Skier,jV p1.Mat],.agg #[jV p2.Skier,jV p2.Mat]] w (wCG w [] φ (fun φ_ L_ v=>v=jV r/\L_=[])):=by
 unfold wCW at hm
 refine Gv.of Tryz.func46 Z Tryz.ntmps46 Tryz.results46 Z (sR gEv Z ?_)
 let B0:List Value:=[.slice ac O.Starts.length ah,.slice ae O.Splits.length ai,.slice af O.Clocks.length aj,.slice ag O.Readings.length ak]
 refine zn (cs:=B0) rfl rfl rfl rfl rfl rfl (by rfl) hS ?_
 intro W1 b2 bj
 let B1:List Value:=[jV p1.Skier,jV p1.Mat]
 refine zn (cs:=B1) rfl rfl rfl rfl rfl rfl (by rfl) bj ?_
 intro W5 b6 bo
 let B2:List Value:=[jV p2.Skier,jV p2.Mat]
 refine zn (cs:=B2) rfl rfl rfl rfl rfl rfl (by rfl) bo ?_
 intro W9 aq aX
 refine oA Z Z (eN (zL (sR gEs Z (oL Z (aX.ldBA (j:=2) Z Z Z ZQ ZF (vs:=B0) Z Z) (bnK hm fun bN ba br=>zD 0 Z Z Z Z (zE Z Z Tryz.call34 (zB Z zM) Z) aX (fun hs=>wCw O ac ah ae ai af aj ag ak W9 φ hs aY aZ a5 a6 ba) (.inr Z) ?_)))))
 rintro aJ bC bJ aM az bi ⟨rfl,rfl⟩
 have ax:sW w φ aJ [.blk aq 44 B2,.blk b6 44 B1,.blk b2 36 B0] aM:=bi
 refine oA Z Z (eN (sR fL2 Z (oM Z Z (oR Z (ZP Z Z Z) (eN (ifc br ?_ ?_))))))
 intro aG bs
 refine zj (zu (fun h=>h aG.out)) (kN (zL (sR (.fl 0 (.fl 1 (.fx 2 (wKB (.fx 6 (.fl 7 .nil) .stop)) .stop))) Z (oL Z (ax.ldBA (j:=2) Z Z Z ZQ ZF (vs:=B0) Z Z) (oL Z (ax.ldBA (j:=1) Z Z Z yj yY (vs:=B1) Z Z) ?_)))))
 have aP:=aY.le az
 have aQ:=aZ.le az
 have aR:=a5.le az
 have aS:=a6.le az
 refine bnK bs fun bO bb bt=>zD 0 Z Z Z Z (zE Z Z Tryz.call110 (zB Z (zB Z zM)) Z) ax (fun hs=>wDG O ac ah ae ai af aj ag ak p1 aM aJ hs aP aQ aR aS bb) (.inr Z) ?_
 rintro aK bD bK aN aE bm ⟨rfl,rfl⟩
 have ay:sW w φ aK [.blk aq 44 B2,.blk b6 44 B1,.blk b2 36 B0] aN:=bm
 refine oM Z Z (ifc bt ?_ ?_)
 intro ab bu
 refine zy Z Z Z (zP Z Z (congrArg hJ ab.out) Z) (zy Z Z Z (zP Z Z (congrArg hJ ab.out) Z) (ZC Z Z Z (zP Z Z (congrArg hJ ab.out) Z) (oR Z (zR Z (congrArg hJ ab.out) Z) (eN (ZD Z (sR fL1 Z (oA Z Z (eN (zO (zQ ?_))))))))))
 cases bu
 exact ⟨rfl,_,(ZA rfl),aK,_,(ay.pick [] _ (by decide) rfl),rfl,rfl⟩
 intro ab bv
 refine ZE Z Z Z (zI Z Z (congrArg hJ (hU.2 ab.out))) (ay.ldBA (j:=2) Z Z Z ZQ ZF (vs:=B0) Z Z) Z (ZE Z Z Z (zI Z Z (congrArg hJ (hU.2 ab.out))) (ay.ldBA (j:=0) Z Z Z yj yY (vs:=B2) Z Z) Z ?_)
 have aT:=aP.le aE
 have aU:=aQ.le aE
 have aV:=aR.le aE
 have aW:=aS.le aE
 refine bnK bv fun bP bc bw=>zD 0 Z Z Z (zI Z Z (congrArg hJ (hU.2 ab.out))) (zE Z Z Tryz.call110 (zB Z (zB Z zM)) Z) ay (fun hs=>wDG O ac ah ae ai af aj ag ak p2 aN aK hs aT aU aV aW bc) (.inr Z) ?_
 rintro aL bE bL aO aF bn ⟨rfl,rfl⟩
 have aI:sW w φ aL [.blk aq 44 B2,.blk b6 44 B1,.blk b2 36 B0] aO:=bn
 refine oR Z (zW Z (congrArg hJ (hU.2 ab.out)) Z) (eN (ifc bw ?_ ?_))
 intro aH bx
 refine ZD (congrArg hJ aH.out) (sR fL1 Z (oA Z Z (eN (zO (zQ ?_)))))
 cases bx
 exact ⟨rfl,_,(ZA rfl),aL,_,(aI.pick [] _ (by decide) rfl),rfl,rfl⟩
 intro aH bz
 refine zj (congrArg hJ (hU.2 aH.out)) (kN (sR gEs Z (oL Z (aI.ldBA (j:=2) Z Z Z ZQ ZF (vs:=B0) Z Z) ?_)))
 have bd:=aT.le aF
 have be:=aU.le aF
 have bf:=aV.le aF
 have bg:=aW.le aF
 refine bnK bz fun bQ bh bA=>zD 0 Z Z Z Z (zE Z Z Tryz.call38 (zB Z zM) Z) aI (fun hs=>wDg O ac ah ae ai af aj ag ak aO aL hs bd be bf bg bh) (.inr Z) ?_
 rintro a7 bF bM a8 bI bp ⟨rfl,rfl⟩
 have bq:sW w φ a7 [.blk aq 44 B2,.blk b6 44 B1,.blk b2 36 B0] a8:=bp
 refine oA Z Z (eN (zO ?_))
 have hE:=hH bA;first | subst r | cases hE
 exact ⟨rfl,_,(ZA rfl),a7,_,(bq.pick [] _ (by decide) rfl),rfl,rfl⟩
 intro aG bB
 refine cT Z aG (sR fL2 Z (oM Z Z (oA Z Z (eN (zO (zQ ?_))))))
 have hE:=hH bB;first | subst r | cases hE
 exact ⟨rfl,_,(ZA rfl),aJ,_,(ax.pick [] _ (by decide) rfl),rfl,rfl⟩
theorem wGj (O:wAI) (an:Option Addr) (au:Nat) (ao:Option Addr) (av:Nat) (ap:Option Addr) (ax:Nat) (aq:Option Addr) (ay:Nat) (p1:wAQ) (p2:wAQ) (w:World) (φ:PHeap) (hS:St0 w φ []) (br:Sl φ 1 an au O.Starts.length (hD KL.encI O.Starts)) (bs:Sl φ 2 ao av O.Splits.length (hD wAD O.Splits)) (bt:Sl φ 3 ap ax O.Clocks.length (hD wAN O.Clocks)) (bu:Sl φ 4 aq ay O.Readings.length (hD wAL O.Readings)) {r:wAO × Int} (hm:wBu O p1 p2=some r):Gv Tryz.prog 17 [.agg #[.slice an O.Starts.length au,.slice ao O.Splits.length av,.slice ap O.Clocks.length ax,.slice aq O.Readings.length ay],.agg #[jV p1.Skier,jV p1.Mat],.agg #[jV p2.Skier,jV p2.Mat]] w (wCG w [] φ (fun φ_ L_ v=>v=.tuple #[.agg #[jV r.1.Lo,jV r.1.Hi],jV r.2]/\L_=[])):=by
 unfold wBu at hm
 refine Gv.of Tryz.func17 Z Tryz.ntmps17 Tryz.results17 Z (sR (.fx 0 (.fx 1 gEt .stop) .stop) Z ?_)
 let B0:List Value:=[.slice an O.Starts.length au,.slice ao O.Splits.length av,.slice ap O.Clocks.length ax,.slice aq O.Readings.length ay]
 refine zn (cs:=B0) rfl rfl rfl rfl rfl rfl (by rfl) hS ?_
 intro W1 b2 cq
 let B1:List Value:=[jV p1.Skier,jV p1.Mat]
 refine zn (cs:=B1) rfl rfl rfl rfl rfl rfl (by rfl) cq ?_
 intro W5 b6 cx
 let B2:List Value:=[jV p2.Skier,jV p2.Mat]
 refine zn (cs:=B2) rfl rfl rfl rfl rfl rfl (by rfl) cx ?_
 intro W9 aj cm
 let B3:List Value:=[jV 0,jV 0]
 refine zV (cs:=B3) Z Z Z Z Z ZX Z cm ?_
 intro bH ah aK
 refine oA Z Z (eN (zL (sR (wDK gEq) Z (oL Z (aK.ldBA (j:=3) Z Z Z ZQ ZF (vs:=B0) Z Z) (oL Z (aK.ldBA (j:=2) Z Z Z yj yY (vs:=B1) Z Z) (oL Z (aK.ldBA (j:=1) Z Z Z yj yY (vs:=B2) Z Z) (bnK hm fun cV bP cI=>zD 0 Z Z Z Z (zE Z Z Tryz.call46 (zB Z (zB Z (zB Z zM))) Z) aK (fun hs=>wGB O an au ao av ap ax aq ay p1 p2 bH φ hs br bs bt bu bP) (.inr Z) ?_)))))))
 rintro aO cX dl a6 aL cp ⟨rfl,rfl⟩
 have aX:sW w φ aO [.blk ah 39 B3,.blk aj 44 B2,.blk b6 44 B1,.blk b2 36 B0] a6:=cp
 refine oA Z Z (eN (sR fL2 Z (oM Z Z (oR Z (ZP Z Z Z) (eN (ifc cI ?_ ?_))))))
 intro aQ cJ
 refine zj (zu (fun h=>h aQ.out)) (kN (sR gEs Z (oL Z (aX.ldBA (j:=3) Z Z Z ZQ ZF (vs:=B0) Z Z) ?_)))
 have be:=br.le aL
 have bf:=bs.le aL
 have bg:=bt.le aL
 have bh:=bu.le aL
 refine bnK cJ fun bB bQ cK=>zD 0 Z Z Z Z (zE Z Z Tryz.call67 (zB Z zM) Z) aX (fun hs=>wEi O an au ao av ap ax aq ay a6 aO hs be bf bg bh bQ) (.inr Z) ?_
 rintro cW cY dm aJ aM cr ⟨a5,a8,bi,rfl,rfl⟩
 have ct:sW w φ cW [.row a5 a8 22 1 (hD wFa bi),inn 3 1 KL.encI bi bB,.blk ah 39 B3,.blk aj 44 B2,.blk b6 44 B1,.blk b2 36 B0] aJ:=cr
 have q:=St.freezeN (R:=wMw) ct (fun _ _ _ _ h=>⟨_,_,rfl,h⟩) (fun _=>rfl) (by decide) rfl
 obtain ⟨bF,aN,cQ,cu⟩:=q
 have cw:sW w φ bF [.blk ah 39 B3,.blk aj 44 B2,.blk b6 44 B1,.blk b2 36 B0] aJ:=cu
 refine yP rfl rfl rfl rfl rfl rfl (eN (zL (zx zt [1,3,1,3,1,2,1,3,1,3,1,2,3,3] (wGD (wKZ (.fx 5 (.fx 11 (.fl 12 (.fl 13 .nil)) .stop) .stop))) (by kernel_rfl) ?_)))
 have ai:=cw.drew
 generalize hw_W54:({ aJ with drawn:=aJ.drawn + 1 }:World)=bK at ai ⊢
 refine oL Z (ai.ldBA (j:=3) Z Z Z ZQ ZF (vs:=B0) Z Z) (oR Z (zF Z Z yN Z zC) (oL Z (ai.ldB (j:=2) Z Z Z zG (v:=jV p1.Skier) Z) (oR Z (zF Z Z yN Z zC) (oL Z (ai.ldB (j:=2) Z Z Z zG (v:=jV p1.Mat) Z) (oL Z (ai.ldBA (j:=3) Z Z Z ZQ ZF (vs:=B0) Z Z) (oR Z (zF Z Z yN Z zC) (oL Z (ai.ldB (j:=1) Z Z Z zG (v:=jV p2.Skier) Z) (oR Z (zF Z Z yN Z zC) (oL Z (ai.ldB (j:=1) Z Z Z zG (v:=jV p2.Mat) Z) ?_)))))))))
 have bR:=be.le aM
 have bj:=bR.le aN
 have bS:=bf.le aM
 have bm:=bS.le aN
 have bT:=bg.le aM
 have bn:=bT.le aN
 have bU:=bh.le aM
 have bo:=bU.le aN
 refine bnK cK fun bC bV cL=>zD 0 Z Z Z Z (zE Z Z ym (zB Z (zB Z (zB Z zM))) Z) ai (fun hs=>wAk O an au ao av ap ax aq ay p1.Skier p1.Mat bK bF hs bj bm bn bo bV) (.inr Z) ?_
 rintro bG cZ dp a7 aG cy ⟨rfl,rfl⟩
 have cz:sW w φ bG [.blk ah 39 B3,.blk aj 44 B2,.blk b6 44 B1,.blk b2 36 B0] a7:=cy
 have bW:=bj.le aG
 have bX:=bm.le aG
 have bY:=bn.le aG
 have bZ:=bo.le aG
 refine bnK cL fun bD b5 cM=>zD 0 Z Z Z Z (zE Z Z ym (zB Z (zB Z (zB Z zM))) Z) cz (fun hs=>wAk O an au ao av ap ax aq ay p2.Skier p2.Mat a7 bG hs bW bX bY bZ b5) (.inr Z) ?_
 rintro aI c6 dq aP cR cA ⟨rfl,rfl⟩
 have cC:sW w φ aI [.blk ah 39 B3,.blk aj 44 B2,.blk b6 44 B1,.blk b2 36 B0] aP:=cA
 refine oA Z Z (oA Z Z (eN (zL (yR fun aH aE=>?_))))
 have a9:aH 6=.pointer (some ⟨ah,0,none⟩):=(aE 6).trans rfl
 have dh:aH 7=jV 0:=(aE 7).trans rfl
 have ba:aH 9=.slice a5 bB.length a8:=(aE 9).trans rfl
 have bb:aH 10=jV bC:=(aE 10).trans rfl
 have bc:aH 11=jV bD:=(aE 11).trans rfl
 clear aE
 refine zx zt [3,3,3,1,3,3,1,3,3,3,3,1,3,3,1,3,0,3] (wNK (.fx 16 (.fl 17 .nil) .stop)) (by kernel_rfl) ?_
 have az:=cC.drew
 generalize hw_W95:({ aP with drawn:=aP.drawn + 1 }:World)=de at az ⊢
 refine oM Z ba (oM Z bc (bnK cM fun bE aU cN=>?_))
 have ca:=cQ.le aG
 have bd:=ca.le cR
 have q:=bd.el (wAe aU)
 obtain ⟨bL,cS,dr,cb,aV,cO⟩:=q
 obtain ⟨bv,bx,rfl,bN⟩:=cO
 replace aV:Cl aI bL (cS + bD.toNat * 1) [.slice bv bE.length bx]:=aV
 refine oR Z (ZM Z Z cb Z Zg zg (wBV aU) (wBb aU)) (oL Z (az.ldC (f:=0) aV (v:=.slice bv bE.length bx) Z Z zr Z) (oM Z bb (bnK cN fun aY aR cD=>?_)))
 have q:=bN.el (fun _=>rfl) (wAe aR)
 obtain ⟨df,di,cc,cg⟩:=q
 refine oR Z (ZM Z Z cc Z zK zC (wBV aR) (wBb aR)) (oL Z (az.ldC (f:=0) cg (v:=jV aY) Z Z zG Z) (oR Z (YD Z Z) (oM Z ba (oM Z bb (bnK cD fun bA aS cE=>?_)))))
 have q:=bd.el (wAe aS)
 obtain ⟨bM,cU,dt,cd,aW,cP⟩:=q
 obtain ⟨bw,bz,rfl,bO⟩:=cP
 replace aW:Cl aI bM (cU + bC.toNat * 1) [.slice bw bA.length bz]:=aW
 refine oR Z (ZM Z Z cd Z Zg zg (wBV aS) (wBb aS)) (oL Z (az.ldC (f:=0) aW (v:=.slice bw bA.length bz) Z Z zr Z) (oM Z bc (bnK cE fun aZ aT cG=>?_)))
 have q:=bO.el (fun _=>rfl) (wAe aT)
 obtain ⟨dg,dk,cf,cj⟩:=q
 refine oR Z (ZM Z Z cf Z zK zC (wBV aT) (wBb aT)) (oL Z (az.ldC (f:=0) cj (v:=jV aZ) Z Z zG Z) ?_)
 let B4:List Value:=[jV (w64 (-aY)),jV aZ]
 refine oR Z (ZB (pv:=[(0,jV (w64 (-aY))),(1,jV aZ)]) (z:=B3) (cs:=B4) Z (wAG Z (wAG Z wAR)) ZX wCu Z Z) (zX (j:=0) (vs:=B4) Z Z Z Z az Z a9 Z Z zz (zA Z) Z Z Z ?_)
 intro bI cn
 have bp:sW w φ aI [.blk ah 39 B4,.blk aj 44 B2,.blk b6 44 B1,.blk b2 36 B0] bI:=cn
 refine oA Z Z (eN (zO ?_))
 cases cG
 exact ⟨rfl,_,(wEk (rs:=[.cell 6 39,.tmp 7]) (vs:=[.agg B4.toArray,jV 0]) ⟨⟨_,a9,(wBQ yA zz (bp.blkAt (k:=0) rfl) (vs:=B4) rfl rfl)⟩,⟨rfl,trivial⟩⟩ rfl),aI,_,(bp.pick [] _ (by decide) rfl),rfl,rfl⟩
 intro aQ cH
 refine cT Z aQ (sR gEu Z (oR Z (ZB (pv:=[]) (z:=B3) (cs:=B3) Z wAR ZX wCu Z Z) (oM Z Z (zX (j:=0) (vs:=B3) Z Z Z Z aX Z Z Z Z zz (zA Z) Z Z Z ?_))))
 intro bJ co
 have bq:sW w φ aO [.blk ah 39 B3,.blk aj 44 B2,.blk b6 44 B1,.blk b2 36 B0] bJ:=co
 refine oA Z Z (eN (zO (zQ ?_)))
 cases cH
 exact ⟨rfl,_,(wEk (rs:=[.cell 6 39,.tmp 7]) (vs:=[.agg B3.toArray,jV cV]) ⟨⟨_,rfl,(wBQ yA zz (bq.blkAt (k:=0) rfl) (vs:=B3) rfl rfl)⟩,⟨rfl,trivial⟩⟩ rfl),aO,_,(bq.pick [] _ (by decide) rfl),rfl,rfl⟩
theorem wII (p0:Int) (O:Int) (ab:Nat) (w:World) (φ:PHeap) (hS:St0 w φ []) (ac:Cl φ ab 0 [jV O]) {r:Bool} (hm:wCc p0 O=some r):Gv Tryz.prog 118 [jV p0,.pointer (some ⟨ab,0,none⟩)] w (wCG w [] φ (fun φ_ L_ v=>v=.bool r/\L_=[])):=by
 unfold wCc at hm
 refine Gv.of Tryz.func118 Z Tryz.ntmps118 Tryz.results118 Z (sR fL1 Z (oA Z Z (eN (sR fL4 Z (oM Z Z (oL Z (hS.ldC (f:=0) ac (v:=jV O) Z Z zG Z) (oR Z (Zy Z Z Z) (oA Z Z (eN (zO ?_))))))))))
 first | (obtain rfl:=hH hm) | cases hm
 exact ⟨Z,_,(ZA Z),φ,_,hS,Z,Z⟩
theorem wHH (O:wAA) (aX:Option Addr) (a6:Nat) (aY:Option Addr) (a7:Nat) (aZ:Option Addr) (a8:Nat) (a5:Option Addr) (a9:Nat) (w:World) (φ:PHeap) (hS:St0 w φ []) (ek:Sl φ 1 aX a6 O.Starts.length (hD KL.encI O.Starts)) (en:Sl φ 2 aY a7 O.Splits.length (hD wAD O.Splits)) (eo:Sl φ 3 aZ a8 O.Clocks.length (hD wAF O.Clocks)) (ep:Sl φ 4 a5 a9 O.Readings.length (hD wAB O.Readings)) {r:(List wAC) × Int} (hm:wCd O=some r):Gv Tryz.prog 54 [.agg #[.slice aX O.Starts.length a6,.slice aY O.Splits.length a7,.slice aZ O.Clocks.length a8,.slice a5 O.Readings.length a9]] w (wCG w [] φ (fun φ_ L_ v=>∃ (A0:Option Addr) (c0:Nat),v=.tuple #[.slice A0 r.1.length c0,jV r.2]/\L_=[.row A0 c0 93 4 (hD wAJ r.1)])):=by
 unfold wCd at hm
 refine Gv.of Tryz.func54 Z Tryz.ntmps54 Tryz.results54 Z (sR gEr Z ?_)
 let B0:List Value:=[.slice aX O.Starts.length a6,.slice aY O.Splits.length a7,.slice aZ O.Clocks.length a8,.slice a5 O.Readings.length a9]
 refine zn (cs:=B0) rfl rfl rfl rfl rfl rfl (by rfl) hS ?_
 intro W1 b2 bV
 refine oA Z Z (oA Z Z (eN (sR (.fl 0 (.fx 1 (wHE (.nil)) .stop)) Z (oL Z (bV.ldBA (j:=0) Z Z Z zo zZ (vs:=B0) Z Z) ?_))))
 have q:=bnd hm
 obtain ⟨⟨x5,x6⟩,h7,aN⟩:=q
 try dsimp only at aN
 refine zD 0 Z Z Z Z (zE Z Z Tryz.call80 (zB Z zM) Z) bV (fun hs=>wEZ O aX a6 aY a7 aZ a8 a5 a9 W1 φ hs ek en eo ep h7) (.inr Z) ?_
 rintro bb e6 fm aS fh bS bR
 rcases x5 with _ | ae
 try dsimp only at aN
 obtain ⟨rfl,rfl⟩:=bR
 have dX:sW w φ bb [.blk b2 27 B0] aS:=bS
 refine oM Z Z (oR Z (zU Z Z (v:=.pointer none) Z) (oR Z (zU Z Z (v:=jV x6) Z) (oA Z Z (oA Z Z (eN (zL (sR fL2 Z (oM Z Z (oR Z (ZP Z Z Z) (eN (ifc aN ?_ ?_)))))))))))
 intro bm eF
 refine zj (zu (fun h=>h bm.out)) (kN (sR (.fl 0 (.fx 1 (wMG gEx) .stop)) Z (oM Z Z ?_)))
 cases eF
 intro bm eG
 refine cT Z bm (sR fL3 Z (oM Z Z (oA Z Z (oA Z Z (eN (zO (zQ ?_)))))))
 have dY:=dX.nilrow 93 4
 cases eG
 exact ⟨rfl,_,(wDp rfl rfl),bb,_,(dY.pick [0] _ (by decide) rfl),none,0,rfl,rfl⟩
 try dsimp only at aN
 obtain ⟨ab,bc,bg,bd,bh,be,bi,bf,bj,af,am,ak,aI,aK,rfl,rfl,dx,dy,dz,dA,br⟩:=bR
 let B1:List Value:=[.slice bc ae.Race.Starts.length bg,.slice bd ae.Race.Splits.length bh,.slice be ae.Race.Clocks.length bi,.slice bf ae.Race.Readings.length bj,.map (some af),.slice aI ae.edges.length aK]
 have bW:sW w φ bb [.blk ab 139 B1,.obj af (.map am ak),.row aI aK 184 7 (hD wAP ae.edges),.blk b2 27 B0] aS:=bS
 refine oM Z Z (oR Z (zU Z Z (v:=.pointer (some ⟨ab,0,none⟩)) Z) (oR Z (zU Z Z (v:=jV x6) Z) (oA Z Z (oA Z Z (eN (zL (sR fL2 Z (oM Z Z (oR Z (ZP Z Z Z) (eN (ifc aN ?_ ?_)))))))))))
 intro bn eH
 refine zj (zu (fun h=>h bn.out)) (kN (sR (.fl 0 (.fx 1 (wMG gEx) .stop)) Z (oM Z Z ?_)))
 have q:=bW.freezeR (k:=2) (n:=ae.edges.length) rfl (wAE (f:=wAP) (sz:=7) (fun _=>rfl) ae.edges) (by decide)
 obtain ⟨cc,aW,bu,dZ⟩:=q
 have d4:sW w φ cc [.blk ab 139 B1,.obj af (.map am ak),.blk b2 27 B0] aS:=dZ
 have bM:=dx.le aW
 have bN:=dy.le aW
 have bO:=dz.le aW
 have bP:=dA.le aW
 have q:=bnd eH
 obtain ⟨⟨ag,bw,eU⟩,dB,bX⟩:=q
 try dsimp only at bX
 refine zD 2 Z Z Z Z (zE Z Z YF (zB Z (zB Z (zB Z zM))) Z) d4 (fun hs=>wBN ae ab bc bg bd bh be bi bf bj af am ak aI aK (-1) false aS cc hs bM bN bO bP br bu dB) (.inl Z) ?_
 rintro aH e9 ft cg aF d5 ⟨aR,aT,aJ,aL,rfl,rfl⟩
 let B2:Res:=.row aJ aL 3 1 (hD KL.encI ag.by_)
 let B3:Res:=.row aR aT 3 1 (hD KL.encI ag.far)
 have d6:sW w φ aH [B3,B2,.blk ab 139 B1,.obj af (.map am ak),.blk b2 27 B0] cg:=d5
 refine oM Z Z (oR Z (zU Z Z (v:=.agg #[.slice aR ag.far.length aT,.slice aJ ag.by_.length aL]) Z) (oR Z (zU Z Z (v:=jV bw) Z) (oR Z (zU Z Z (v:=.bool eU) Z) (zV (cs:=[.slice none 0 0,.slice none 0 0]) Z Z Z Z Z Zl Z d6 ?_))))
 intro fc aj d7
 refine zV (cs:=[jV 0]) Z Z Z Z Z ZG Z d7 ?_
 intro fd an d8
 let B4:List Value:=[.slice aR ag.far.length aT,.slice aJ ag.by_.length aL]
 refine zX (j:=1) (vs:=B4) Z Z Z Z d8 Z Z Z Z Zx (zA Z) Z Z Z ?_
 intro cj d9
 have eg:sW w φ aH [.blk an 3 [jV 0],.blk aj 133 B4,B3,B2,.blk ab 139 B1,.obj af (.map am ak),.blk b2 27 B0] cj:=d9
 refine zX (j:=0) (vs:=[jV bw]) Z Z Z Z eg Z Z Z Z zC (zA Z) Z Z Z ?_
 intro cm eh
 have aV:sW w φ aH [.blk an 3 [jV bw],.blk aj 133 B4,B3,B2,.blk ab 139 B1,.obj af (.map am ak),.blk b2 27 B0] cm:=eh
 refine oA Z Z (eN (zL (sR fL1 Z (oM Z Z (eN (ifc bX ?_ ?_))))))
 intro bo eI
 refine ZD (congrArg hJ bo.out) (sR fL2 Z (oA Z Z (oA Z Z (eN (zO (zQ ?_))))))
 have ej:=aV.nilrow 93 4
 cases eI
 exact ⟨rfl,_,(wDp rfl rfl),aH,_,(ej.pick [0] _ (by decide) rfl),none,0,rfl,rfl⟩
 intro bo eJ
 refine zj (congrArg hJ (hU.2 bo.out)) (kN (zL (sR fL6 Z (oM Z Z (oR Z (Zt Z Z) (oR Z (zF Z Z ZH Z Zw) (oL Z (aV.ldB (j:=4) Z Z Z yC (v:=.map (some af)) Z) (oL Z (aV.lenM (j:=5) (mk:=wBU) (mv:=wBc) Z Z Z (wBj ZS) br) (oM Z Z (eN (zY (bnK eJ fun aG er eA=>?_))))))))))))
 have q:=wCC er
 obtain ⟨bt,eu⟩:=q
 replace bt:=zN bt
 refine CK.forN' (fun aO bx σ_ w_=>∃ (φ_:PHeap),σ_ 29=jV (↑aO:Int)/\σ_ 4=.pointer (some ⟨ab,0,none⟩)/\σ_ 6=.pointer (some ⟨aj,0,none⟩)/\σ_ 7=.pointer (some ⟨an,0,none⟩)/\σ_ 28=jV (↑(ae.number.length):Int)/\PHeap.Le aH φ_/\sW w φ φ_ [.blk an 3 [jV bx],B3,B2,.blk aj 133 B4,.blk ab 139 B1,.obj af (.map am ak),.blk b2 27 B0] w_) eu ?_ ?_ ?_
 exact ⟨aH,rfl,rfl,rfl,rfl,rfl,(zS _),(aV.pick [0,2,3,1,4,5,6] _ (by decide) rfl)⟩
 rintro aO bx fu fy bC bs ⟨b5,bL,bH,bI,bp,bJ,bY,dG⟩ eM
 have bF:Hid ((↑aO:Int) < (↑(ae.number.length):Int)):=zN (wBO bs)
 replace bs:=zN bs
 have ez:Hid (w64 ((↑aO:Int) + 1)=(↑(aO + 1):Int)):=zN (by have h1:=bt.out;have h2:=bF.out;rw [wAb] <;> omega)
 refine sR fL1 rfl (za rfl rfl rfl rfl (fun _=>ze rfl bL bJ) (eN (zL (cT Z bF (kN (zL (zY (zx zt [3,3,3,1,3,1,1,3,1,3,3,1,0] (wPL (.fx 12 .nil .stop)) (by kernel_rfl) ?_))))))))
 have ap:=dG.drew
 generalize hw_W123:({ bC with drawn:=bC.drawn + 1 }:World)=fb at ap ⊢
 refine oM Z bH (oR Z (Zt Z Z) (oR Z (zF Z Z ZH Z yn) (oL Z (ap.ldB (j:=4) Z Z Z Tryz.isAgg137 (v:=.slice aI ae.edges.length aK) Z) (oR Z (zF Z bI ZZ Z zg) (oL Z (ap.ldB (j:=3) Z Z Z zr (v:=.slice aJ ag.by_.length aL) Z) (oL Z (ap.ldB (j:=0) Z Z bp zG (v:=jV bx) Z) (bnK eM fun _ aU eB=>?_)))))))
 obtain ⟨ff,bQ⟩:=ap.rowSome (j:=2) rfl (by rw [wAE (f:=KL.encI) (sz:=1) (fun _=>rfl) ag.by_];have hz:=wAW aU;omega)
 refine oR Z (ZM Z Z bQ Z zK zC (wBq aU) (wBr aU)) ?_
 have ey:=wBK (xs:=ag.by_) (wAW aU)
 refine ZE rfl rfl rfl rfl (ap.ldR (j:=2) rfl bQ rfl rfl zG (wAc (sz:=1) (fun _=>rfl) _ _ 0 _ ey (by first | omega | rfl | simp) rfl)) rfl (bnK eB fun bv bq eC=>?_)
 have ct:=bu.le aF
 have cu:=ct.le bY
 have q:=cu.el (fun _=>rfl) (wAe bq)
 obtain ⟨fg,fk,dD,dE⟩:=q
 refine oR Z (ZM Z Z dD Z yt yu (wBV bq) (wBb bq)) (oR Z (zF Z Z yU Z zC) (oL Z (ap.ldC (f:=4) dE (v:=jV bv.from_) Z Z zG Z) (zX (j:=0) (vs:=[jV bv.from_]) Z Z Z Z ap Z bp Z Z zC (zA Z) Z Z Z ?_)))
 intro cf dH
 have dI:sW w φ b5 [.blk an 3 [jV bv.from_],B3,B2,.blk aj 133 B4,.blk ab 139 B1,.obj af (.map am ak),.blk b2 27 B0] cf:=dH
 refine zf (zm (zJ (rR fL2 Z (oR Z (ZU (zh Z bL Z) (congrArg (jV) ez.out)) (oM Z Z (zf ?_))))))
 cases eC
 exact zJ ⟨Z,⟨b5,Z,bH,bI,bp,bJ,bY,dI⟩⟩
 rintro fz ay ⟨fA,cr,co,cp,bK,cq,aP,bT⟩
 have cn:Hid (¬ ((↑(((↑(ae.number.length):Int):Int) - 0).toNat:Int) < (↑(ae.number.length):Int))):=zN (wAq)
 refine sR fL1 Z (oR Z (ze Z cr cq) (eN (zL (cF Z cn (Za (zq (zq (ZW (zJ (sR (wEF (.fx 4 (.fl 5 (.fl 6 .nil)) .stop)) Z (oM Z co (oL Z (bT.ldBA (j:=3) Z Z cp Tryz.isAgg133 Zx (vs:=B4) Z Z) ?_))))))))))))
 have q:=bT.freeze (k:=0) rfl
 obtain ⟨ca,aQ,az,dJ⟩:=q
 replace az:=Cl.of az
 have bU:sW w φ ca [B3,B2,.blk aj 133 B4,.blk ab 139 B1,.obj af (.map am ak),.blk b2 27 B0] ay:=dJ
 replace az:Cl ca an 0 [jV aG]:=az
 refine oR Z (YC Z zM (zB bK zM)) (oL Z (bU.ldC (f:=0) az (v:=jV aG) Z bK zG Z) ?_)
 have q:=bU.freezeR (k:=0) (n:=ag.far.length) rfl (wAE (f:=KL.encI) (sz:=1) (fun _=>rfl) ag.far) (by decide)
 obtain ⟨eW,aE,eK,dK⟩:=q
 have dL:sW w φ eW [B2,.blk aj 133 B4,.blk ab 139 B1,.obj af (.map am ak),.blk b2 27 B0] ay:=dK
 have q:=dL.freezeR (k:=0) (n:=ag.by_.length) rfl (wAE (f:=KL.encI) (sz:=1) (fun _=>rfl) ag.by_) (by decide)
 obtain ⟨eX,av,eL,dM⟩:=q
 have dN:sW w φ eX [.blk aj 133 B4,.blk ab 139 B1,.obj af (.map am ak),.blk b2 27 B0] ay:=dM
 have q:=dN.freezeM (k:=2) rfl br
 obtain ⟨eY,aq,ew,dP⟩:=q
 have dQ:sW w φ eY [.blk aj 133 B4,.blk ab 139 B1,.blk b2 27 B0] ay:=dP
 have q:=dQ.freezeTB (k:=1) rfl
 obtain ⟨ba,ao,aM,dO,eP⟩:=q
 replace aM:=Cl.of aM
 have dR:sW w φ ba [.blk aj 133 B4,.blk b2 27 B0] ay:=dO
 replace aM:Cl ba ab 0 B1:=aM
 have cw:=bM.le aF
 have cx:=cw.le aP
 have cy:=cx.le aQ
 have cz:=cy.le aE
 have cA:=cz.le av
 have cC:=cA.le aq
 have cD:=cC.le ao
 have cE:=bN.le aF
 have cG:=cE.le aP
 have cH:=cG.le aQ
 have cI:=cH.le aE
 have cJ:=cI.le av
 have cK:=cJ.le aq
 have cL:=cK.le ao
 have cM:=bO.le aF
 have cN:=cM.le aP
 have cO:=cN.le aQ
 have cP:=cO.le aE
 have cQ:=cP.le av
 have cR:=cQ.le aq
 have cS:=cR.le ao
 have cU:=bP.le aF
 have cV:=cU.le aP
 have cW:=cV.le aQ
 have cX:=cW.le aE
 have cY:=cX.le av
 have cZ:=cY.le aq
 have c6:=cZ.le ao
 have da:=ew.le ao
 have db:=bu.le aF
 have dd:=db.le aP
 have de:=dd.le aQ
 have df:=de.le aE
 have dg:=df.le av
 have dh:=dg.le aq
 have di:=dh.le ao
 have dk:=eK.le av
 have dl:=dk.le aq
 have dm:=dl.le ao
 have dp:=eL.le aq
 have dq:=dp.le ao
 have dr:=az.le aE
 have dt:=dr.le av
 have du:=dt.le aq
 have dv:=du.le ao
 have dF:FnOK Tryz.prog ba (.func (.func 118) #[] #[.pointer (some ⟨an,0,none⟩)]) wKf wKg (fun x=>wCc x aG):=⟨118,[],[.pointer (some ⟨an,0,none⟩)],rfl,Tryz.call118,fun eV w1 x y vs le hs ha hm=>by obtain rfl:=ha;exact wII x aG an w1 eV hs (dv.le le) hm⟩
 refine bnK eA fun eR dw eD=>zD 0 Z Z Z Z (zE Z Z Tryz.call116 (zB Z (zB Z (zB Z (zB Z zM)))) Z) dR (fun hs=>wFK ae ab bc bg bd bh be bi bf bj af am ak aI aK ag aR aT aJ aL (fun x=>wCc x aG) (.func (.func 118) #[] #[.pointer (some ⟨an,0,none⟩)]) aG ay ba hs aM cD cL cS c6 da di dm dq dF dw) (.inr Z) ?_
 rintro eZ e8 fq bD eO dS ⟨bA,bG,rfl,rfl⟩
 let B5:Res:=.row bA bG 93 4 (hD wAJ eR)
 have dT:sW w φ eZ [B5,.blk aj 133 B4,.blk b2 27 B0] bD:=dS
 have q:=eP _ _ _ eO dT
 obtain ⟨cb,fj,dU⟩:=q
 have dV:sW w φ cb [.blk ab 139 B1,B5,.blk aj 133 B4,.blk b2 27 B0] bD:=dU
 refine oA Z Z (oA Z Z (eN (zO ?_)))
 cases eD
 exact ⟨rfl,_,(wDp rfl rfl),cb,_,(dV.pick [1] _ (by decide) rfl),bA,bG,rfl,rfl⟩
 intro bn eE
 refine cT Z bn (sR fL3 Z (oM Z Z (oA Z Z (oA Z Z (eN (zO (zQ ?_)))))))
 have dW:=bW.nilrow 93 4
 cases eE
 exact ⟨rfl,_,(wDp rfl rfl),bb,_,(dW.pick [0] _ (by decide) rfl),none,0,rfl,rfl⟩
end Go.Proofs.YtlnfbjphfoipaaaGreat
namespace Go.Proofs.YtlnfbjphfoipaaaGreat
open Go.KL
set_option maxHeartbeats 4000000
theorem wEg (O:List wAi) (ap:Option Addr) (au:Nat) (p1:List wAi) (aq:Option Addr) (av:Nat) (w:World) (φ:PHeap) (hS:St0 w φ []) (aY:Sl φ 3 ap au O.length (hD wAF O)) (aZ:Sl φ 3 aq av p1.length (hD wAF p1)) {r:Bool} (hm:wBi O p1=some r):Gv Tryz.prog 76 [.slice ap O.length au,.slice aq p1.length av] w (wCG w [] φ (fun φ_ L_ v=>v=.bool r/\L_=[])):=by
 unfold wBi at hm
 refine Gv.of Tryz.func76 Z Tryz.ntmps76 Tryz.results76 Z (sR fL1 Z (oA Z Z (eN (zL (sR fL5 Z (oM Z Z (oR Z (zi Z Z Ze) (oM Z Z (oR Z (zi Z Z Ze) (oR Z (ZP Z Z Z) (eN ?_)))))))))))
 by_cases c1:(↑O.length:Int)=(↑p1.length:Int)
 have af:=hm;rw [if_pos c1] at af;replace c1:=zN c1
 refine zj (zu (fun h=>h c1.out)) (kN (zL (sR fL3 Z (oM Z Z (oR Z (zi Z Z Ze) (oM Z Z (eN (zY ?_))))))))
 have q:=wCA af
 obtain ⟨r5,ak⟩:=q
 have q:=wCT ak
 obtain ⟨an,a7⟩:=q
 replace an:=zN an
 refine yc (fun k4 _ σ_ w_=>∃ (φ_:PHeap),σ_ 13=jV (↑k4:Int)/\σ_ 0=.slice ap O.length au/\σ_ 1=.slice aq p1.length av/\σ_ 12=jV (↑O.length:Int)/\PHeap.Le φ φ_/\sW w φ φ_ [] w_) a7 ?_ ?_ ?_
 exact ⟨φ,Z,Z,Z,Z,(zS _),hS⟩
 rintro k4 ⟨⟩ bs bu ax am ⟨aL,aj,az,aE,aF,ao,aW⟩ aK a5
 try dsimp only at aK
 have ay:Hid ((↑k4:Int) < (↑O.length:Int)):=zN (wBO am)
 replace am:=zN am
 have a8:Hid (w64 ((↑k4:Int) + 1)=(↑(k4 + 1):Int)):=zN (by have h1:=an.out;have h2:=ay.out;rw [wAb] <;> omega)
 refine sR fL1 rfl (za rfl rfl rfl rfl (fun _=>ze rfl aj aF) (eN (zL (cT Z ay (kN (zL (zY (sR fL2 rfl (zw rfl rfl rfl rfl rfl aj (yP rfl rfl rfl rfl rfl rfl (eN (zL (zx zt [3,3,3,1,3,3,3,1,3] fL9 (by kernel_rfl) ?_)))))))))))))
 have ac:=aW.drew
 generalize hw_W25:({ ax with drawn:=ax.drawn + 1 }:World)=bg at ac ⊢
 refine oM Z az (oM Z Z (bnK aK fun ag aG a9=>?_))
 have aQ:=aY.le ao
 have q:=aQ.el (fun _=>rfl) (wAe aG)
 obtain ⟨bi,bp,aS,aU⟩:=q
 refine oR Z (Zc Z Z aS Z Ze yE (wCa aG)) (oL Z (ac.ldCA (f:=0) aU Z Z Tryz.isAgg112 yE (us:=[jV ag.Offset.Lo,jV ag.Offset.Hi,jV ag.Error]) Z Z) (oM Z aE (oM Z Z (bnK a9 fun ah aH ba=>?_))))
 have aR:=aZ.le ao
 have q:=aR.el (fun _=>rfl) (wAe aH)
 obtain ⟨bj,bq,aT,aV⟩:=q
 refine oR Z (Zc Z Z aT Z Ze yE (wCa aH)) (oL Z (ac.ldCA (f:=0) aV Z Z Tryz.isAgg112 yE (us:=[jV ah.Offset.Lo,jV ah.Offset.Hi,jV ah.Error]) Z Z) (oR Z (ZU (Runs.neS (enc:=wAF) (a:=ag) (b:=ah) Z Z Z wOr wOq) (congrArg hJ (decide_not).symm)) (eN (ifc ba ?_ ?_))))
 intro ai bb
 refine zj (zu (fun h=>h ai.out)) (Zf (zm (zJ (rR fL2 Z (oR Z (ZU (zh Z aj Z) (congrArg (jV) a8.out)) (oM Z Z (zf ?_)))))))
 have q:=hH bb
 obtain rfl:=q
 exact zJ ⟨Z,_,Z,⟨aL,Z,az,aE,aF,ao,ac⟩⟩
 intro ai bc
 refine cT Z ai (sR fL1 Z (oA Z Z (eN (zO (zc (zQ ?_))))))
 have q:=wAS bc
 obtain ⟨be,bd,aN⟩:=q
 have q:=wAt af ak (a5 be aN)
 obtain rfl:=q
 refine zQ (zc (zQ ?_))
 have hE:=hH bd;first | subst r | cases hE
 exact ⟨Z,_,(ZA Z),aL,_,ac,Z,Z⟩
 rintro ⟨⟩ bt bh ⟨bf,aP,bm,bn,aO,bo,aX⟩ a6
 have aI:=wCs af ak a6
 try dsimp only at aI
 have aM:Hid (¬ ((↑(((↑O.length:Int):Int) - 0).toNat:Int) < (↑O.length:Int))):=zN (wAq)
 refine sR fL1 Z (oR Z (ze Z aP aO) (eN (zL (cF Z aM (Za (zq (zq (ZW (zJ (sR fL1 Z (oA Z Z (eN (zO ?_)))))))))))))
 have hE:=hH aI;first | subst r | cases hE
 exact ⟨Z,_,(ZA Z),bf,_,aX,Z,Z⟩
 have aJ:=hm;rw [if_neg c1] at aJ;replace c1:=zN c1
 refine cT Z c1 (sR fL1 Z (oA Z Z (eN (zO (zQ ?_)))))
 have hE:=hH aJ;first | subst r | cases hE
 exact ⟨Z,_,(ZA Z),φ,_,hS,Z,Z⟩
theorem wEM (O:List wAK) (ap:Option Addr) (au:Nat) (p1:List wAK) (aq:Option Addr) (av:Nat) (w:World) (φ:PHeap) (hS:St0 w φ []) (aY:Sl φ 4 ap au O.length (hD wAB O)) (aZ:Sl φ 4 aq av p1.length (hD wAB p1)) {r:Bool} (hm:wBa O p1=some r):Gv Tryz.prog 77 [.slice ap O.length au,.slice aq p1.length av] w (wCG w [] φ (fun φ_ L_ v=>v=.bool r/\L_=[])):=by
 unfold wBa at hm
 refine Gv.of Tryz.func77 Z Tryz.ntmps77 Tryz.results77 Z (sR fL1 Z (oA Z Z (eN (zL (sR fL5 Z (oM Z Z (oR Z (zi Z Z ZN) (oM Z Z (oR Z (zi Z Z ZN) (oR Z (ZP Z Z Z) (eN ?_)))))))))))
 by_cases c1:(↑O.length:Int)=(↑p1.length:Int)
 have ah:=hm;rw [if_pos c1] at ah;replace c1:=zN c1
 refine zj (zu (fun h=>h c1.out)) (kN (zL (sR fL3 Z (oM Z Z (oR Z (zi Z Z ZN) (oM Z Z (eN (zY ?_))))))))
 have q:=wCA ah
 obtain ⟨r5,ak⟩:=q
 have q:=wCT ak
 obtain ⟨an,a7⟩:=q
 replace an:=zN an
 refine yc (fun k4 _ σ_ w_=>∃ (φ_:PHeap),σ_ 13=jV (↑k4:Int)/\σ_ 0=.slice ap O.length au/\σ_ 1=.slice aq p1.length av/\σ_ 12=jV (↑O.length:Int)/\PHeap.Le φ φ_/\sW w φ φ_ [] w_) a7 ?_ ?_ ?_
 exact ⟨φ,Z,Z,Z,Z,(zS _),hS⟩
 rintro k4 ⟨⟩ bs bu ax am ⟨aL,aj,az,aE,aF,ao,aW⟩ aK a5
 try dsimp only at aK
 have ay:Hid ((↑k4:Int) < (↑O.length:Int)):=zN (wBO am)
 replace am:=zN am
 have a8:Hid (w64 ((↑k4:Int) + 1)=(↑(k4 + 1):Int)):=zN (by have h1:=an.out;have h2:=ay.out;rw [wAb] <;> omega)
 refine sR fL1 rfl (za rfl rfl rfl rfl (fun _=>ze rfl aj aF) (eN (zL (cT Z ay (kN (zL (zY (sR fL2 rfl (zw rfl rfl rfl rfl rfl aj (yP rfl rfl rfl rfl rfl rfl (eN (zL (zx zt [3,3,3,1,3,3,3,1,3] fL9 (by kernel_rfl) ?_)))))))))))))
 have ac:=aW.drew
 generalize hw_W25:({ ax with drawn:=ax.drawn + 1 }:World)=bg at ac ⊢
 refine oM Z az (oM Z Z (bnK aK fun af aG a9=>?_))
 have aQ:=aY.le ao
 have q:=aQ.el (fun _=>rfl) (wAe aG)
 obtain ⟨bi,bp,aS,aU⟩:=q
 refine oR Z (Zc Z Z aS Z ZN Zb (wCa aG)) (oL Z (ac.ldCA (f:=0) aU Z Z yf Zb (us:=[jV af.Skier,jV af.Mat,jV af.Clock,jV af.Time]) Z Z) (oM Z aE (oM Z Z (bnK a9 fun ag aH ba=>?_))))
 have aR:=aZ.le ao
 have q:=aR.el (fun _=>rfl) (wAe aH)
 obtain ⟨bj,bq,aT,aV⟩:=q
 refine oR Z (Zc Z Z aT Z ZN Zb (wCa aH)) (oL Z (ac.ldCA (f:=0) aV Z Z yf Zb (us:=[jV ag.Skier,jV ag.Mat,jV ag.Clock,jV ag.Time]) Z Z) (oR Z (ZU (Runs.neS (enc:=wAB) (a:=af) (b:=ag) Z Z Z wOu wOt) (congrArg hJ (decide_not).symm)) (eN (ifc ba ?_ ?_))))
 intro ai bb
 refine zj (zu (fun h=>h ai.out)) (Zf (zm (zJ (rR fL2 Z (oR Z (ZU (zh Z aj Z) (congrArg (jV) a8.out)) (oM Z Z (zf ?_)))))))
 have q:=hH bb
 obtain rfl:=q
 exact zJ ⟨Z,_,Z,⟨aL,Z,az,aE,aF,ao,ac⟩⟩
 intro ai bc
 refine cT Z ai (sR fL1 Z (oA Z Z (eN (zO (zc (zQ ?_))))))
 have q:=wAS bc
 obtain ⟨be,bd,aN⟩:=q
 have q:=wAt ah ak (a5 be aN)
 obtain rfl:=q
 refine zQ (zc (zQ ?_))
 have hE:=hH bd;first | subst r | cases hE
 exact ⟨Z,_,(ZA Z),aL,_,ac,Z,Z⟩
 rintro ⟨⟩ bt bh ⟨bf,aP,bm,bn,aO,bo,aX⟩ a6
 have aI:=wCs ah ak a6
 try dsimp only at aI
 have aM:Hid (¬ ((↑(((↑O.length:Int):Int) - 0).toNat:Int) < (↑O.length:Int))):=zN (wAq)
 refine sR fL1 Z (oR Z (ze Z aP aO) (eN (zL (cF Z aM (Za (zq (zq (ZW (zJ (sR fL1 Z (oA Z Z (eN (zO ?_)))))))))))))
 have hE:=hH aI;first | subst r | cases hE
 exact ⟨Z,_,(ZA Z),bf,_,aX,Z,Z⟩
 have aJ:=hm;rw [if_neg c1] at aJ;replace c1:=zN c1
 refine cT Z c1 (sR fL1 Z (oA Z Z (eN (zO (zQ ?_)))))
 have hE:=hH aJ;first | subst r | cases hE
 exact ⟨Z,_,(ZA Z),φ,_,hS,Z,Z⟩
theorem wEt (O:wAA) (ai:Option Addr) (au:Nat) (aj:Option Addr) (av:Nat) (ak:Option Addr) (ax:Nat) (am:Option Addr) (ay:Nat) (p1:wAA) (an:Option Addr) (az:Nat) (ao:Option Addr) (aE:Nat) (ap:Option Addr) (aF:Nat) (aq:Option Addr) (aG:Nat) (w:World) (φ:PHeap) (hS:St0 w φ []) (br:Sl φ 1 ai au O.Starts.length (hD KL.encI O.Starts)) (bs:Sl φ 2 aj av O.Splits.length (hD wAD O.Splits)) (bt:Sl φ 3 ak ax O.Clocks.length (hD wAF O.Clocks)) (bu:Sl φ 4 am ay O.Readings.length (hD wAB O.Readings)) (bv:Sl φ 1 an az p1.Starts.length (hD KL.encI p1.Starts)) (bw:Sl φ 2 ao aE p1.Splits.length (hD wAD p1.Splits)) (bx:Sl φ 3 ap aF p1.Clocks.length (hD wAF p1.Clocks)) (bz:Sl φ 4 aq aG p1.Readings.length (hD wAB p1.Readings)) {r:Bool} (hm:wBk O p1=some r):Gv Tryz.prog 21 [.agg #[.slice ai O.Starts.length au,.slice aj O.Splits.length av,.slice ak O.Clocks.length ax,.slice am O.Readings.length ay],.agg #[.slice an p1.Starts.length az,.slice ao p1.Splits.length aE,.slice ap p1.Clocks.length aF,.slice aq p1.Readings.length aG]] w (wCG w [] φ (fun φ_ L_ v=>v=.bool r/\L_=[])):=by
 unfold wBk at hm
 refine Gv.of Tryz.func21 Z Tryz.ntmps21 Tryz.results21 Z (sR (.fx 0 gEm .stop) Z ?_)
 let B0:List Value:=[.slice ai O.Starts.length au,.slice aj O.Splits.length av,.slice ak O.Clocks.length ax,.slice am O.Readings.length ay]
 refine zn (cs:=B0) rfl rfl rfl rfl rfl rfl (by rfl) hS ?_
 intro W1 b2 bm
 let B1:List Value:=[.slice an p1.Starts.length az,.slice ao p1.Splits.length aE,.slice ap p1.Clocks.length aF,.slice aq p1.Readings.length aG]
 refine zn (cs:=B1) rfl rfl rfl rfl rfl rfl (by rfl) bm ?_
 intro W5 b6 aN
 refine oA Z Z (eN (sR (wEF (.fx 4 (wIs (.fx 10 (wOH (.fx 17 (wOL (.fx 24 (.fl 25 (.fl 26 .nil)) .stop)) .stop)) .stop)) .stop)) Z (oR Z (zF Z Z zT Z zg) (oL Z (aN.ldB (j:=1) Z Z Z zr (v:=.slice ai O.Starts.length au) Z) (oR Z (zF Z Z zT Z zg) (oL Z (aN.ldB (j:=0) Z Z Z zr (v:=.slice an p1.Starts.length az) Z) (bnK hm fun x9 aY bA=>zD 0 Z Z Z Z (zE Z Z Tryz.call26 (zB Z (zB Z zM)) Z) aN (fun hs=>wDW O.Starts ai au p1.Starts an az W5 φ hs br bv aY) (.inr Z) ?_)))))))
 rintro aO bK bQ aR af bj ⟨rfl,rfl⟩
 have aJ:sW w φ aO [.blk b6 27 B1,.blk b2 27 B0] aR:=bj
 refine oM Z Z (ifc bA ?_ ?_)
 intro ab bB
 refine za Z Z Z (zI Z Z (congrArg hJ ab.out)) (fun _=>zF Z Z zT Z Zm) (ZE Z Z Z (zI Z Z (congrArg hJ ab.out)) (aJ.ldB (j:=1) Z Z Z Zq (v:=.slice aj O.Splits.length av) Z) Z (za Z Z Z (zI Z Z (congrArg hJ ab.out)) (fun _=>zF Z Z zT Z Zm) (ZE Z Z Z (zI Z Z (congrArg hJ ab.out)) (aJ.ldB (j:=0) Z Z Z Zq (v:=.slice ao p1.Splits.length aE) Z) Z ?_)))
 have aZ:=bs.le af
 have a5:=bw.le af
 refine bnK bB fun bU a6 bC=>zD 0 Z Z Z (zI Z Z (congrArg hJ ab.out)) (zE Z Z Tryz.call44 (zB Z (zB Z zM)) Z) aJ (fun hs=>wDf O.Splits aj av p1.Splits ao aE aR aO hs aZ a5 a6) (.inr Z) ?_
 rintro aP bL bR aS aM bn ⟨rfl,rfl⟩
 have aK:sW w φ aP [.blk b6 27 B1,.blk b2 27 B0] aS:=bn
 refine oR Z (zR Z (congrArg hJ ab.out) Z) (oM Z Z (ifc bC ?_ ?_))
 intro ac bD
 refine za Z Z Z (zI Z Z (congrArg hJ ac.out)) (fun _=>zF Z Z zT Z yQ) (ZE Z Z Z (zI Z Z (congrArg hJ ac.out)) (aK.ldB (j:=1) Z Z Z yZ (v:=.slice ak O.Clocks.length ax) Z) Z (za Z Z Z (zI Z Z (congrArg hJ ac.out)) (fun _=>zF Z Z zT Z yQ) (ZE Z Z Z (zI Z Z (congrArg hJ ac.out)) (aK.ldB (j:=0) Z Z Z yZ (v:=.slice ap p1.Clocks.length aF) Z) Z ?_)))
 have a7:=bt.le af
 have a8:=a7.le aM
 have a9:=bx.le af
 have ba:=a9.le aM
 refine bnK bD fun bV bb bE=>zD 0 Z Z Z (zI Z Z (congrArg hJ ac.out)) (zE Z Z Tryz.call76 (zB Z (zB Z zM)) Z) aK (fun hs=>wEg O.Clocks ak ax p1.Clocks ap aF aS aP hs a8 ba bb) (.inr Z) ?_
 rintro aQ bM bS aT aU bo ⟨rfl,rfl⟩
 have aL:sW w φ aQ [.blk b6 27 B1,.blk b2 27 B0] aT:=bo
 refine oR Z (zR Z (congrArg hJ ac.out) Z) (oM Z Z (ifc bE ?_ ?_))
 intro ae bF
 refine za Z Z Z (zI Z Z (congrArg hJ ae.out)) (fun _=>zF Z Z zT Z Zr) (ZE Z Z Z (zI Z Z (congrArg hJ ae.out)) (aL.ldB (j:=1) Z Z Z yD (v:=.slice am O.Readings.length ay) Z) Z (za Z Z Z (zI Z Z (congrArg hJ ae.out)) (fun _=>zF Z Z zT Z Zr) (ZE Z Z Z (zI Z Z (congrArg hJ ae.out)) (aL.ldB (j:=0) Z Z Z yD (v:=.slice aq p1.Readings.length aG) Z) Z ?_)))
 have bc:=bu.le af
 have bd:=bc.le aM
 have be:=bd.le aU
 have bf:=bz.le af
 have bg:=bf.le aM
 have bh:=bg.le aU
 refine bnK bF fun bW bi bG=>zD 0 Z Z Z (zI Z Z (congrArg hJ ae.out)) (zE Z Z Tryz.call77 (zB Z (zB Z zM)) Z) aL (fun hs=>wEM O.Readings am ay p1.Readings aq aG aT aQ hs be bh bi) (.inr Z) ?_
 rintro aV bN bT aX bP bp ⟨rfl,rfl⟩
 have bq:sW w φ aV [.blk b6 27 B1,.blk b2 27 B0] aX:=bp
 refine oR Z (zR Z (congrArg hJ ae.out) Z) (oA Z Z (eN (zO ?_)))
 have hE:=hH bG;first | subst r | cases hE
 exact ⟨rfl,_,(ZA rfl),aV,_,(bq.pick [] _ (by decide) rfl),rfl,rfl⟩
 intro ae bH
 refine zy Z Z Z (zP Z Z (congrArg hJ (hU.2 ae.out)) Z) (zy Z Z Z (zP Z Z (congrArg hJ (hU.2 ae.out)) Z) (zy Z Z Z (zP Z Z (congrArg hJ (hU.2 ae.out)) Z) (zy Z Z Z (zP Z Z (congrArg hJ (hU.2 ae.out)) Z) (ZC Z Z Z (zP Z Z (congrArg hJ (hU.2 ae.out)) Z) (oR Z (zW Z (congrArg hJ (hU.2 ae.out)) Z) (oA Z Z (eN (zO ?_))))))))
 have hE:=hH bH;first | subst r | cases hE
 exact ⟨rfl,_,(ZA rfl),aQ,_,(aL.pick [] _ (by decide) rfl),rfl,rfl⟩
 intro ac bI
 refine zy Z Z Z (zP Z Z (congrArg hJ (hU.2 ac.out)) Z) (zy Z Z Z (zP Z Z (congrArg hJ (hU.2 ac.out)) Z) (zy Z Z Z (zP Z Z (congrArg hJ (hU.2 ac.out)) Z) (zy Z Z Z (zP Z Z (congrArg hJ (hU.2 ac.out)) Z) (ZC Z Z Z (zP Z Z (congrArg hJ (hU.2 ac.out)) Z) (oR Z (zW Z (congrArg hJ (hU.2 ac.out)) Z) (oM Z Z (oN Z (oN Z (oN Z (oN Z (ZC Z Z Z (zP Z Z Z Z) (oR Z (zW Z Z Z) (oA Z Z (eN (zO ?_)))))))))))))))
 have hE:=hH bI;first | subst r | cases hE
 exact ⟨rfl,_,(ZA rfl),aP,_,(aK.pick [] _ (by decide) rfl),rfl,rfl⟩
 intro ab bJ
 refine zy Z Z Z (zP Z Z (congrArg hJ (hU.2 ab.out)) Z) (zy Z Z Z (zP Z Z (congrArg hJ (hU.2 ab.out)) Z) (zy Z Z Z (zP Z Z (congrArg hJ (hU.2 ab.out)) Z) (zy Z Z Z (zP Z Z (congrArg hJ (hU.2 ab.out)) Z) (ZC Z Z Z (zP Z Z (congrArg hJ (hU.2 ab.out)) Z) (oR Z (zW Z (congrArg hJ (hU.2 ab.out)) Z) (oM Z Z (oN Z (oN Z (oN Z (oN Z (ZC Z Z Z (zP Z Z Z Z) (oR Z (zW Z Z Z) (oM Z Z (oN Z (oN Z (oN Z (oN Z (ZC Z Z Z (zP Z Z Z Z) (oR Z (zW Z Z Z) (oA Z Z (eN (zO ?_))))))))))))))))))))))
 have hE:=hH bJ;first | subst r | cases hE
 exact ⟨rfl,_,(ZA rfl),aO,_,(aJ.pick [] _ (by decide) rfl),rfl,rfl⟩
theorem wDa (O:List wAC) (ap:Option Addr) (au:Nat) (p1:List wAC) (aq:Option Addr) (av:Nat) (w:World) (φ:PHeap) (hS:St0 w φ []) (aY:Sl φ 4 ap au O.length (hD wAJ O)) (aZ:Sl φ 4 aq av p1.length (hD wAJ p1)) {r:Bool} (hm:wAn O p1=some r):Gv Tryz.prog 55 [.slice ap O.length au,.slice aq p1.length av] w (wCG w [] φ (fun φ_ L_ v=>v=.bool r/\L_=[])):=by
 unfold wAn at hm
 refine Gv.of Tryz.func55 Z Tryz.ntmps55 Tryz.results55 Z (sR fL1 Z (oA Z Z (eN (zL (sR fL5 Z (oM Z Z (oR Z (zi Z Z ZO) (oM Z Z (oR Z (zi Z Z ZO) (oR Z (ZP Z Z Z) (eN ?_)))))))))))
 by_cases c1:(↑O.length:Int)=(↑p1.length:Int)
 have ah:=hm;rw [if_pos c1] at ah;replace c1:=zN c1
 refine zj (zu (fun h=>h c1.out)) (kN (zL (sR fL3 Z (oM Z Z (oR Z (zi Z Z ZO) (oM Z Z (eN (zY ?_))))))))
 have q:=wCA ah
 obtain ⟨r5,ak⟩:=q
 have q:=wCT ak
 obtain ⟨an,a7⟩:=q
 replace an:=zN an
 refine yc (fun k4 _ σ_ w_=>∃ (φ_:PHeap),σ_ 13=jV (↑k4:Int)/\σ_ 0=.slice ap O.length au/\σ_ 1=.slice aq p1.length av/\σ_ 12=jV (↑O.length:Int)/\PHeap.Le φ φ_/\sW w φ φ_ [] w_) a7 ?_ ?_ ?_
 exact ⟨φ,Z,Z,Z,Z,(zS _),hS⟩
 rintro k4 ⟨⟩ bs bu ax am ⟨aL,aj,az,aE,aF,ao,aW⟩ aK a5
 try dsimp only at aK
 have ay:Hid ((↑k4:Int) < (↑O.length:Int)):=zN (wBO am)
 replace am:=zN am
 have a8:Hid (w64 ((↑k4:Int) + 1)=(↑(k4 + 1):Int)):=zN (by have h1:=an.out;have h2:=ay.out;rw [wAb] <;> omega)
 refine sR fL1 rfl (za rfl rfl rfl rfl (fun _=>ze rfl aj aF) (eN (zL (cT Z ay (kN (zL (zY (sR fL2 rfl (zw rfl rfl rfl rfl rfl aj (yP rfl rfl rfl rfl rfl rfl (eN (zL (zx zt [3,3,3,1,3,3,3,1,3] fL9 (by kernel_rfl) ?_)))))))))))))
 have ac:=aW.drew
 generalize hw_W25:({ ax with drawn:=ax.drawn + 1 }:World)=bg at ac ⊢
 refine oM Z az (oM Z Z (bnK aK fun af aG a9=>?_))
 have aQ:=aY.le ao
 have q:=aQ.el (fun _=>rfl) (wAe aG)
 obtain ⟨bi,bp,aS,aU⟩:=q
 refine oR Z (Zc Z Z aS Z ZO ZK (wCa aG)) (oL Z (ac.ldCA (f:=0) aU Z Z Zs ZK (us:=[jV af.Kind,jV af.Skier,jV af.Index,.bool af.Up]) Z Z) (oM Z aE (oM Z Z (bnK a9 fun ag aH ba=>?_))))
 have aR:=aZ.le ao
 have q:=aR.el (fun _=>rfl) (wAe aH)
 obtain ⟨bj,bq,aT,aV⟩:=q
 refine oR Z (Zc Z Z aT Z ZO ZK (wCa aH)) (oL Z (ac.ldCA (f:=0) aV Z Z Zs ZK (us:=[jV ag.Kind,jV ag.Skier,jV ag.Index,.bool ag.Up]) Z Z) (oR Z (ZU (Runs.neS (enc:=wAJ) (a:=af) (b:=ag) Z Z Z eqT93 eqG93) (congrArg hJ (decide_not).symm)) (eN (ifc ba ?_ ?_))))
 intro ai bb
 refine zj (zu (fun h=>h ai.out)) (Zf (zm (zJ (rR fL2 Z (oR Z (ZU (zh Z aj Z) (congrArg (jV) a8.out)) (oM Z Z (zf ?_)))))))
 have q:=hH bb
 obtain rfl:=q
 exact zJ ⟨Z,_,Z,⟨aL,Z,az,aE,aF,ao,ac⟩⟩
 intro ai bc
 refine cT Z ai (sR fL1 Z (oA Z Z (eN (zO (zc (zQ ?_))))))
 have q:=wAS bc
 obtain ⟨be,bd,aN⟩:=q
 have q:=wAt ah ak (a5 be aN)
 obtain rfl:=q
 refine zQ (zc (zQ ?_))
 have hE:=hH bd;first | subst r | cases hE
 exact ⟨Z,_,(ZA Z),aL,_,ac,Z,Z⟩
 rintro ⟨⟩ bt bh ⟨bf,aP,bm,bn,aO,bo,aX⟩ a6
 have aI:=wCs ah ak a6
 try dsimp only at aI
 have aM:Hid (¬ ((↑(((↑O.length:Int):Int) - 0).toNat:Int) < (↑O.length:Int))):=zN (wAq)
 refine sR fL1 Z (oR Z (ze Z aP aO) (eN (zL (cF Z aM (Za (zq (zq (ZW (zJ (sR fL1 Z (oA Z Z (eN (zO ?_)))))))))))))
 have hE:=hH aI;first | subst r | cases hE
 exact ⟨Z,_,(ZA Z),bf,_,aX,Z,Z⟩
 have aJ:=hm;rw [if_neg c1] at aJ;replace c1:=zN c1
 refine cT Z c1 (sR fL1 Z (oA Z Z (eN (zO (zQ ?_)))))
 have hE:=hH aJ;first | subst r | cases hE
 exact ⟨Z,_,(ZA Z),φ,_,hS,Z,Z⟩
theorem wFF (p0:wAA) (ct:Option Addr) (cy:Nat) (cu:Option Addr) (cz:Nat) (cw:Option Addr) (cA:Nat) (cx:Option Addr) (cC:Nat) (p1:wAM) (p2:wAM) (p3:List wAC) (aN:Option Addr) (aO:Nat) (w:World) (φ:PHeap) (hS:St0 w φ []) (dF:Sl φ 1 ct cy p0.Starts.length (hD KL.encI p0.Starts)) (dG:Sl φ 2 cu cz p0.Splits.length (hD wAD p0.Splits)) (dH:Sl φ 3 cw cA p0.Clocks.length (hD wAF p0.Clocks)) (dI:Sl φ 4 cx cC p0.Readings.length (hD wAB p0.Readings)) (jX:Sl φ 4 aN aO p3.length (hD wAJ p3)) {r:Bool} (hm:wCO p0 p1 p2 p3=some r):Gv Tryz.prog 7 [.agg #[.slice ct p0.Starts.length cy,.slice cu p0.Splits.length cz,.slice cw p0.Clocks.length cA,.slice cx p0.Readings.length cC],.agg #[jV p1.Skier,jV p1.Mat],.agg #[jV p2.Skier,jV p2.Mat],.slice aN p3.length aO] w (wCG w [] φ (fun φ_ L_ v=>v=.bool r/\L_=[])):=by
 unfold wCO at hm
 refine Gv.of Tryz.func7 Z Tryz.ntmps7 Tryz.results7 Z (sR gEv Z ?_)
 let B0:List Value:=[.slice ct p0.Starts.length cy,.slice cu p0.Splits.length cz,.slice cw p0.Clocks.length cA,.slice cx p0.Readings.length cC]
 refine zn (cs:=B0) rfl rfl rfl rfl rfl rfl (by rfl) hS ?_
 intro W1 b2 Be
 let O:List Value:=[jV p1.Skier,jV p1.Mat]
 refine zn (cs:=O) rfl rfl rfl rfl rfl rfl (by rfl) Be ?_
 intro W5 b6 Cg
 let B2:List Value:=[jV p2.Skier,jV p2.Mat]
 refine zn (cs:=B2) rfl rfl rfl rfl rfl rfl (by rfl) Cg ?_
 intro W9 ab jQ
 refine oA Z Z (eN (zL (sR (.fl 0 (.fx 1 (wHE (.nil)) .stop)) Z (oL Z (jQ.ldBA (j:=2) Z Z Z zo zZ (vs:=B0) Z Z) (bnK hm fun Iy sX Dn=>zD 0 Z Z Z Z (zE Z Z Tryz.call8 (zB Z zM) Z) jQ (fun hs=>wGO p0 ct cy cu cz cw cA cx cC W9 φ hs dF dG dH dI sX) (.inr Z) ?_)))))
 rintro dR FR Ib dt aJ Bc ⟨rfl,rfl⟩
 have f4:sW w φ dR [.blk ab 29 B2,.blk b6 29 O,.blk b2 27 B0] dt:=Bc
 refine oM Z Z (ifc Dn ?_ ?_)
 intro b5 DW
 refine zy Z Z Z (zP Z Z (congrArg hJ b5.out) Z) (zy Z Z Z (zP Z Z (congrArg hJ b5.out) Z) (zy Z Z Z (zP Z Z (congrArg hJ b5.out) Z) (oR Z (zR Z (congrArg hJ b5.out) Z) (eN (ZD Z (sR gEp Z (bnK DW fun IF wh DX=>zD 0 Z Z Z Z (zE Z Z Tryz.call9 zM Z) f4 (fun hs=>wCv dt dR hs wh) (.inr Z) ?_)))))))
 rintro lI FU Ic l5 HE Bi ⟨rfl,rfl⟩
 have Bj:sW w φ lI [.blk ab 29 B2,.blk b6 29 O,.blk b2 27 B0] l5:=Bi
 refine oA Z Z (eN (zO (zQ ?_)))
 have hE:=hH DX;first | subst r | cases hE
 exact ⟨rfl,_,(ZA rfl),lI,_,(Bj.pick [] _ (by decide) rfl),rfl,rfl⟩
 intro b5 DY
 refine zw Z Z Z (zI Z Z (congrArg hJ (hU.2 b5.out))) Z Z (za Z Z Z (zI Z Z (congrArg hJ (hU.2 b5.out))) (fun _=>zi Z Z ZO) (za Z Z Z (zI Z Z (congrArg hJ (hU.2 b5.out))) (fun _=>yI Z Z Z) (oR Z (zW Z (congrArg hJ (hU.2 b5.out)) Z) (eN (ifc DY ?_ ?_)))))
 intro e8 DZ
 refine cT Z e8 (sR gEp Z (bnK DZ fun IG wA D0=>zD 0 Z Z Z Z (zE Z Z Tryz.call9 zM Z) f4 (fun hs=>wCv dt dR hs wA) (.inr Z) ?_))
 rintro lJ FZ Ih mb HI Bv ⟨rfl,rfl⟩
 have Bx:sW w φ lJ [.blk ab 29 B2,.blk b6 29 O,.blk b2 27 B0] mb:=Bv
 refine oA Z Z (eN (zO (zQ ?_)))
 have hE:=hH D0;first | subst r | cases hE
 exact ⟨rfl,_,(ZA rfl),lJ,_,(Bx.pick [] _ (by decide) rfl),rfl,rfl⟩
 intro e8 D1
 refine cF Z e8 (kN ?_)
 have q:=bnd D1
 obtain ⟨⟨bG,br,bs,bt,aP,aX,aY,aZ,a5⟩,EB,lh⟩:=q
 try dsimp only at lh
 refine yX (fun σ_ w_=>∃ (φ_:PHeap) (ag:Nat) (bI:Option Addr) (bN:Nat) (bz:Option Addr) (bC:Nat) (bA:Option Addr) (bD:Nat) (bB:Option Addr) (bE:Nat) (aR:Option Addr) (aU:Nat) (aj:Nat) (bh:Option Addr) (bn:Nat) (bi:Option Addr) (bo:Nat) (bj:Option Addr) (bp:Nat) (bm:Option Addr) (bq:Nat) (ak:Nat) (am:Nat),σ_ 3=.slice aN p3.length aO/\σ_ 4=.pointer (some ⟨b2,0,none⟩)/\σ_ 5=.pointer (some ⟨b6,0,none⟩)/\σ_ 6=.pointer (some ⟨ab,0,none⟩)/\σ_ 9=.pointer (some ⟨ag,0,none⟩)/\σ_ 10=.slice aR aP.length aU/\σ_ 11=.pointer (some ⟨aj,0,none⟩)/\σ_ 12=.pointer (some ⟨ak,0,none⟩)/\σ_ 13=.pointer (some ⟨am,0,none⟩)/\PHeap.Le dR φ_/\sW w φ φ_ [.blk ab 29 B2,.blk b6 29 O,.blk b2 27 B0,.blk ag 27 [.slice bI bG.length bN,.slice bz br.length bC,.slice bA bs.length bD,.slice bB bt.length bE],.row bI bN 3 1 (hD KL.encI bG),.row bz bC 39 2 (hD wAD br),.row bA bD 112 3 (hD wAF bs),.row bB bE 115 4 (hD wAB bt),.row aR aU 93 4 (hD wAJ aP),.blk aj 36 [.slice bh aX.length bn,.slice bi aY.length bo,.slice bj aZ.length bp,.slice bm a5.length bq],.row bh bn 3 1 (hD KL.encI aX),.row bi bo 39 2 (hD wAD aY),.row bj bp 116 3 (hD wAN aZ),.row bm bq 117 4 (hD wAL a5),.blk ak 44 O,.blk am 44 B2] w_) ?_ ?_
 refine bnK EB fun aF An DT=>bnK DT fun d9 pD DU=>bnK DU fun aE sT DV=>zx zt [1,2,3,2,1,2,1004,1004,2,2,2,2,1005,3,1005,1005,1006,b6,ab] (.fl 0 (.fl 2 (.fl 4 (.fl 6 (.fl 7 (adT [(1,[0]),(3,[1,2]),(5,[3,4]),(8,[]),(9,[]),(10,[]),(11,[])] (.fx 12 (.fl 13 (.fx 14 (.fx 15 (.fx 16 .nil .stop) .stop) .stop)) .stop) 8 [1,3,5,8,9,10,11] [0,2,4,6,7])))))) (by kernel_rfl) ?_
 have cX:=f4.drew
 generalize hw_W192:({ dt with drawn:=dt.drawn + 1 }:World)=Gk at cX ⊢
 refine ZE rfl rfl rfl rfl (cX.ldBA (j:=2) rfl rfl rfl zo zZ (vs:=B0) rfl rfl) rfl (zw rfl rfl rfl rfl rfl rfl (ZE rfl rfl rfl rfl (cX.ldBA (j:=2) rfl rfl rfl zo zZ (vs:=B0) rfl rfl) rfl (OKS.mtP (T:=[b6,ab]) [1] [.blk b6 29 O] rfl rfl rfl rfl cX rfl (by decide) rfl ⟨fun b h=>(by cases h;exact .head _),trivial⟩ (fun _ CD=>(CD.ldBA (j:=0) rfl rfl rfl Zn ZV (vs:=O) rfl rfl)) rfl (OKS.mtP (T:=[b6,ab]) [0] [.blk ab 29 B2] rfl rfl rfl rfl cX rfl (by decide) rfl ⟨fun b h=>(by cases h;exact .tail _ (.head _)),trivial⟩ (fun _ CE=>(CE.ldBA (j:=0) rfl rfl rfl Zn ZV (vs:=B2) rfl rfl)) rfl ?_))))
 let B3:List Value:=[.slice none 0 0,.slice none 0 0,.slice none 0 0,.slice none 0 0]
 let B4:List Value:=[jV 0,jV 0]
 refine OKS.adders (φ0:=dR) (L0:=[.blk ab 29 B2,.blk b6 29 O,.blk b2 27 B0]) [(1,[0]),(3,[1,2]),(5,[3,4]),(8,[]),(9,[]),(10,[]),(11,[])] [⟨1,33,fun v R=>∃ (gk:Option Addr) (im:Nat) (gp:Option Addr) (io:Nat) (gq:Option Addr) (ip:Nat) (gt:Option Addr) (iq:Nat),v=.agg #[.slice gk aF.Starts.length im,.slice gp aF.Splits.length io,.slice gq aF.Clocks.length ip,.slice gt aF.Readings.length iq]/\R=[.row gk im 3 1 (hD KL.encI aF.Starts),.row gp io 39 2 (hD wAD aF.Splits),.row gq ip 112 3 (hD wAF aF.Clocks),.row gt iq 115 4 (hD wAB aF.Readings)]⟩,⟨3,35,fun v R=>∃ (gu:Option Addr) (ir:Nat),v=.slice gu d9.length ir/\R=[.row gu ir 93 4 (hD wAJ d9)]⟩,⟨5,37,fun v R=>∃ (gv:Option Addr) (it:Nat) (gw:Option Addr) (iu:Nat) (gx:Option Addr) (iv:Nat) (gy:Option Addr) (iw:Nat),v=.agg #[.slice gv aE.Starts.length it,.slice gw aE.Splits.length iu,.slice gx aE.Clocks.length iv,.slice gy aE.Readings.length iw]/\R=[.row gv it 3 1 (hD KL.encI aE.Starts),.row gw iu 39 2 (hD wAD aE.Splits),.row gx iv 116 3 (hD wAN aE.Clocks),.row gy iw 117 4 (hD wAL aE.Readings)]⟩,⟨8,9,fun v R=>∃ (ie:Nat),v=.pointer (some ⟨ie,0,none⟩)/\R=[.blk ie 27 B3]⟩,⟨9,11,fun v R=>∃ (ig:Nat),v=.pointer (some ⟨ig,0,none⟩)/\R=[.blk ig 36 B3]⟩,⟨10,12,fun v R=>∃ (ii:Nat),v=.pointer (some ⟨ii,0,none⟩)/\R=[.blk ii 44 B4]⟩,⟨11,13,fun v R=>∃ (ij:Nat),v=.pointer (some ⟨ij,0,none⟩)/\R=[.blk ij 44 B4]⟩] [(3,.slice aN p3.length aO),(4,.pointer (some ⟨b2,0,none⟩)),(5,.pointer (some ⟨b6,0,none⟩)),(6,.pointer (some ⟨ab,0,none⟩)),(32,.agg B0.toArray),(34,.slice aN p3.length aO),(36,.agg B0.toArray),(38,.agg O.toArray),(39,.agg B2.toArray)] [0,2,4,6,7] (by rfl) (nK.2 ⟨?_,nK.2 ⟨?_,nK.2 ⟨?_,nK.2 ⟨?_,nK.2 ⟨?_,nK.2 ⟨?_,nK.2 ⟨?_,fun _ h=>nomatch h⟩⟩⟩⟩⟩⟩⟩) ?_ ⟨rfl,rfl,rfl,rfl,rfl,rfl,rfl,rfl,rfl,trivial⟩ cX
 intro ES Fa gY Fm lT CF d6 Bd EC
 obtain ⟨Gs,Gu,Gw,Gx,m4,Gy,Gz,GA,GB,_⟩:=CF
 show OKS _ _ _ _ _ _ (.fx 1 ES .stop) Fa gY
 have wi:=dF.le aJ
 have wj:=wi.le d6
 have wk:=dG.le aJ
 have wl:=wk.le d6
 have wm:=dH.le aJ
 have wn:=wm.le d6
 have wo:=dI.le aJ
 have wp:=wo.le d6
 refine zD 0 Z Z Z Z (zE Z Z Tryz.call10 (zB m4 zM) Z) Bd (fun hs=>wFz p0 ct cy cu cz cw cA cx cC gY Fm hs wj wl wn wp An) (.inr Z) ?_
 rintro Fo FV Ie l4 EL Bf ⟨gz,iy,gA,iz,gB,iA,gC,iB,rfl,rfl⟩
 have Bg:sW w φ Fo (.row gz iy 3 1 (hD KL.encI aF.Starts) :: .row gA iz 39 2 (hD wAD aF.Splits) :: .row gB iA 112 3 (hD wAF aF.Clocks) :: .row gC iB 115 4 (hD wAB aF.Readings) :: (lT ++ [.blk ab 29 B2,.blk b6 29 O,.blk b2 27 B0])) l4:=Bf
 exact EC _ _ _ _ EL Bg ⟨gz,iy,gA,iz,gB,iA,gC,iB,Z,Z⟩
 intro ET Fb gZ Fp lU CG EM Bh ED
 obtain ⟨GC,GD,GE,GF,GG,m5,GH,GI,GJ,_⟩:=CG
 show OKS _ _ _ _ _ _ (.fx 3 ET .stop) Fb gZ
 have wq:=jX.le aJ
 have wr:=wq.le EM
 refine zD 0 Z Z Z Z (zE Z Z Tryz.call47 (zB m5 zM) Z) Bh (fun hs=>wEm p3 aN aO gZ Fp hs wr pD) (.inr Z) ?_
 rintro Fq FW If l6 EN Bk ⟨gD,iC,rfl,rfl⟩
 have Bl:sW w φ Fq (.row gD iC 93 4 (hD wAJ d9) :: (lU ++ [.blk ab 29 B2,.blk b6 29 O,.blk b2 27 B0])) l6:=Bk
 exact ED _ _ _ _ EN Bl ⟨gD,iC,Z,Z⟩
 intro EU Fc g7 Fr lV CH d7 Bm EE
 obtain ⟨GK,GL,GM,GN,GO,GP,m6,GQ,GR,_⟩:=CH
 show OKS _ _ _ _ _ _ (.fx 5 EU .stop) Fc g7
 have ws:=dF.le aJ
 have wt:=ws.le d7
 have wu:=dG.le aJ
 have wv:=wu.le d7
 have ww:=dH.le aJ
 have wx:=ww.le d7
 have wy:=dI.le aJ
 have wz:=wy.le d7
 refine zD 0 Z Z Z Z (zE Z Z Tryz.call11 (zB m6 zM) Z) Bm (fun hs=>wGQ p0 ct cy cu cz cw cA cx cC g7 Fr hs wt wv wx wz sT) (.inr Z) ?_
 rintro Fs FX Ig l7 EO Bn ⟨gE,iD,gF,iE,gG,iF,gH,iG,rfl,rfl⟩
 have Bo:sW w φ Fs (.row gE iD 3 1 (hD KL.encI aE.Starts) :: .row gF iE 39 2 (hD wAD aE.Splits) :: .row gG iF 116 3 (hD wAN aE.Clocks) :: .row gH iG 117 4 (hD wAL aE.Readings) :: (lV ++ [.blk ab 29 B2,.blk b6 29 O,.blk b2 27 B0])) l7:=Bn
 exact EE _ _ _ _ EO Bo ⟨gE,iD,gF,iE,gG,iF,gH,iG,Z,Z⟩
 intro EV Fd l8 IM FY CJ HF Bp EF
 obtain ⟨GS,GT,GU,GV,GW,GX,GY,GZ,G0,_⟩:=CJ
 show OKS _ _ _ _ _ _ (.fx 8 EV .stop) Fd l8
 refine zV (cs:=B3) Z Z Z Z Z yy Z Bp ?_
 intro Gl mr Bq
 exact EF _ _ _ _ (zS _) Bq ⟨mr,Z,Z⟩
 intro EW Fe ma IN F0 CL HG Br EG
 obtain ⟨G1,G3,G4,G5,G6,G7,G8,G9,Ha,_⟩:=CL
 show OKS _ _ _ _ _ _ (.fx 9 EW .stop) Fe ma
 refine zV (cs:=B3) Z Z Z Z Z yq Z Br ?_
 intro Gm ms Bs
 exact EG _ _ _ _ (zS _) Bs ⟨ms,Z,Z⟩
 intro EX Ff mc IP F1 CM HH Bt EH
 obtain ⟨Hb,Hc,He,Hf,Hg,Hh,Hj,Hk,Hl,_⟩:=CM
 show OKS _ _ _ _ _ _ (.fx 10 EX .stop) Ff mc
 refine zV (cs:=B4) Z Z Z Z Z Tryz.zeroValue44 Z Bt ?_
 intro Gn mu Bu
 exact EH _ _ _ _ (zS _) Bu ⟨mu,Z,Z⟩
 intro EY Fg md IQ F2 CN HJ Bw EI
 obtain ⟨Hm,Hn,Ho,Hp,Hq,Hr,Hs,Ht,Hu,_⟩:=CN
 show OKS _ _ _ _ _ _ (.fx 11 EY .stop) Fg md
 refine zV (cs:=B4) Z Z Z Z Z Tryz.zeroValue44 Z Bw ?_
 intro Gp mw By
 exact EI _ _ _ _ (zS _) By ⟨mw,Z,Z⟩
 refine fun Ii Gc wB Ij Gd wC Ik Ge wD Il Gf wE Im Gg wG In Gh wH Io Gi wI=>?_
 obtain ⟨ez,e9,eA,fb,eB,fc,eC,fd,rfl,rfl⟩:=wB
 obtain ⟨gI,iH,rfl,rfl⟩:=wC
 obtain ⟨eD,ff,eE,fg,eF,fh,eG,fj,rfl,rfl⟩:=wD
 obtain ⟨cS,rfl,rfl⟩:=wE
 obtain ⟨cU,rfl,rfl⟩:=wG
 obtain ⟨cV,rfl,rfl⟩:=wH
 obtain ⟨cW,rfl,rfl⟩:=wI
 intro IJ me da CO EA EP Bz
 obtain ⟨m7,m8,m9,n3,Hv,Hw,Hx,n4,n5,_⟩:=CO
 obtain ⟨n6,n7,n8,iR,iS,iT,iU,_⟩:=EA
 let B5:Res:=.row eG fj 117 4 (hD wAL aE.Readings)
 let B6:Res:=.row eF fh 116 3 (hD wAN aE.Clocks)
 let B7:Res:=.row eC fd 115 4 (hD wAB aF.Readings)
 let B8:Res:=.row eB fc 112 3 (hD wAF aF.Clocks)
 let B9:Res:=.row eE fg 39 2 (hD wAD aE.Splits)
 let de:Res:=.row eA fb 39 2 (hD wAD aF.Splits)
 let df:Res:=.row gI iH 93 4 (hD wAJ d9)
 let dg:Res:=.row eD ff 3 1 (hD KL.encI aE.Starts)
 let dh:Res:=.row ez e9 3 1 (hD KL.encI aF.Starts)
 have BA:sW w φ da [dh,de,B8,B7,df,dg,B9,B6,B5,.blk cS 27 B3,.blk cU 36 B3,.blk cV 44 B4,.blk cW 44 B4,.blk ab 29 B2,.blk b6 29 O,.blk b2 27 B0] me:=Bz
 let di:List Value:=[.slice ez aF.Starts.length e9,.slice eA aF.Splits.length fb,.slice eB aF.Clocks.length fc,.slice eC aF.Readings.length fd]
 refine OKS.stP (j:=9) (vs:=di) (T2:=[b6,ab]) (ts:=[14,13]) rfl rfl rfl rfl BA rfl iR n6 rfl zZ (zA rfl) rfl rfl rfl rfl ⟨⟨14,by decide,_,rfl,rfl⟩,⟨13,by decide,_,rfl,rfl⟩,trivial⟩ rfl ?_
 intro mf BB
 have BC:sW w φ da [dh,de,B8,B7,df,dg,B9,B6,B5,.blk cS 27 di,.blk cU 36 B3,.blk cV 44 B4,.blk cW 44 B4,.blk ab 29 B2,.blk b6 29 O,.blk b2 27 B0] mf:=BB
 refine oA Z n7 ?_
 let dT:List Value:=[.slice eD aE.Starts.length ff,.slice eE aE.Splits.length fg,.slice eF aE.Clocks.length fh,.slice eG aE.Readings.length fj]
 refine OKS.stP (j:=10) (vs:=dT) (T2:=[b6,ab]) (ts:=[14,13]) rfl rfl rfl rfl BC rfl iS n8 rfl ZF (zA rfl) rfl rfl rfl rfl ⟨⟨14,by decide,_,rfl,rfl⟩,⟨13,by decide,_,rfl,rfl⟩,trivial⟩ rfl ?_
 intro mg BD
 have BE:sW w φ da [dh,de,B8,B7,df,dg,B9,B6,B5,.blk cS 27 di,.blk cU 36 dT,.blk cV 44 B4,.blk cW 44 B4,.blk ab 29 B2,.blk b6 29 O,.blk b2 27 B0] mg:=BD
 refine OKS.stP (j:=11) (vs:=O) (T2:=[b6,ab]) (ts:=[14,13]) rfl rfl rfl rfl BE rfl iT n4 rfl yY (zA rfl) rfl rfl rfl rfl ⟨⟨14,by decide,_,rfl,rfl⟩,⟨13,by decide,_,rfl,rfl⟩,trivial⟩ rfl ?_
 intro mh BF
 have BG:sW w φ da [dh,de,B8,B7,df,dg,B9,B6,B5,.blk cS 27 di,.blk cU 36 dT,.blk cV 44 O,.blk cW 44 B4,.blk ab 29 B2,.blk b6 29 O,.blk b2 27 B0] mh:=BF
 refine zX (j:=12) (vs:=B2) Z Z Z Z BG Z iU n5 Z yY (zA Z) Z Z Z ?_
 intro mi BH
 have BJ:sW w φ da [dh,de,B8,B7,df,dg,B9,B6,B5,.blk cS 27 di,.blk cU 36 dT,.blk cV 44 O,.blk cW 44 B2,.blk ab 29 B2,.blk b6 29 O,.blk b2 27 B0] mi:=BH
 refine zf ?_
 cases DV
 exact zJ ⟨rfl,⟨da,cS,ez,e9,eA,fb,eB,fc,eC,fd,gI,iH,cU,eD,ff,eE,fg,eF,fh,eG,fj,cV,cW,m7,m8,m9,n3,iR,rfl,iS,iT,iU,EP,(BJ.pick [13,14,15,9,0,1,2,3,4,10,5,6,7,8,11,12] _ (by decide) rfl)⟩⟩
 rintro IK cR ⟨IR,ag,bI,bN,bz,bC,bA,bD,bB,bE,aR,aU,aj,bh,bn,bi,bo,bj,bp,bm,bq,ak,am,iV,n9,iW,iX,fu,fy,iY,iZ,i4,cg,dY⟩
 refine sR (wEF (.fx 4 (wIs (.nil)) .stop)) Z ?_
 let ai:List Value:=[.slice bI bG.length bN,.slice bz br.length bC,.slice bA bs.length bD,.slice bB bt.length bE]
 refine oL Z (dY.ldBA (j:=3) Z Z fu zo zZ (vs:=ai) Z Z) (oL Z (dY.ldBA (j:=1) Z Z iW Zn ZV (vs:=O) Z Z) (oL Z (dY.ldBA (j:=0) Z Z iX Zn ZV (vs:=B2) Z Z) (oM Z fy ?_)))
 have q:=dY.freezeR (k:=4) (n:=bG.length) rfl (wAE (f:=KL.encI) (sz:=1) (fun _=>rfl) bG) (by decide)
 obtain ⟨Ft,cj,En,BK⟩:=q
 let ah:List Value:=[.slice bh aX.length bn,.slice bi aY.length bo,.slice bj aZ.length bp,.slice bm a5.length bq]
 let bQ:Res:=.row bm bq 117 4 (hD wAL a5)
 let bV:Res:=.row bj bp 116 3 (hD wAN aZ)
 let cm:Res:=.row bi bo 39 2 (hD wAD aY)
 let cG:Res:=.row bh bn 3 1 (hD KL.encI aX)
 let dU:Res:=.row aR aU 93 4 (hD wAJ aP)
 let eH:Res:=.row bB bE 115 4 (hD wAB bt)
 let gM:Res:=.row bA bD 112 3 (hD wAF bs)
 have BL:sW w φ Ft [.blk ab 29 B2,.blk b6 29 O,.blk b2 27 B0,.blk ag 27 ai,.row bz bC 39 2 (hD wAD br),gM,eH,dU,.blk aj 36 ah,cG,cm,bV,bQ,.blk ak 44 O,.blk am 44 B2] cR:=BK
 have q:=BL.freezeR (k:=4) (n:=br.length) rfl (wAE (f:=wAD) (sz:=2) (fun _=>rfl) br) (by decide)
 obtain ⟨Fu,bU,Eo,BM⟩:=q
 have BN:sW w φ Fu [.blk ab 29 B2,.blk b6 29 O,.blk b2 27 B0,.blk ag 27 ai,gM,eH,dU,.blk aj 36 ah,cG,cm,bV,bQ,.blk ak 44 O,.blk am 44 B2] cR:=BM
 have q:=BN.freezeR (k:=4) (n:=bs.length) rfl (wAE (f:=wAF) (sz:=3) (fun _=>rfl) bs) (by decide)
 obtain ⟨Fv,bO,Ep,BO⟩:=q
 have BP:sW w φ Fv [.blk ab 29 B2,.blk b6 29 O,.blk b2 27 B0,.blk ag 27 ai,eH,dU,.blk aj 36 ah,cG,cm,bV,bQ,.blk ak 44 O,.blk am 44 B2] cR:=BO
 have q:=BP.freezeR (k:=4) (n:=bt.length) rfl (wAE (f:=wAB) (sz:=4) (fun _=>rfl) bt) (by decide)
 obtain ⟨Fw,bH,Er,BQ⟩:=q
 have BR:sW w φ Fw [.blk ab 29 B2,.blk b6 29 O,.blk b2 27 B0,.blk ag 27 ai,dU,.blk aj 36 ah,cG,cm,bV,bQ,.blk ak 44 O,.blk am 44 B2] cR:=BQ
 have q:=BR.freezeR (k:=4) (n:=aP.length) rfl (wAE (f:=wAJ) (sz:=4) (fun _=>rfl) aP) (by decide)
 obtain ⟨lK,bu,lm,BS⟩:=q
 have BT:sW w φ lK [.blk ab 29 B2,.blk b6 29 O,.blk b2 27 B0,.blk ag 27 ai,.blk aj 36 ah,cG,cm,bV,bQ,.blk ak 44 O,.blk am 44 B2] cR:=BS
 have wJ:=En.le bU
 have wK:=wJ.le bO
 have wL:=wK.le bH
 have jv:=wL.le bu
 have wM:=Eo.le bO
 have wN:=wM.le bH
 have jw:=wN.le bu
 have wO:=Ep.le bH
 have jx:=wO.le bu
 have jy:=Er.le bu
 have q:=bnd lh
 obtain ⟨⟨E6,E7⟩,wP,k8⟩:=q
 try dsimp only at k8
 refine zD 0 Z Z Z Z (zE Z Z Tryz.call48 (zB Z (zB Z (zB Z (zB Z zM)))) Z) BT (fun hs=>wGi (⟨bG,br,bs,bt⟩:wAA) bI bN bz bC bA bD bB bE p1 p2 aP aR aU cR lK hs jv jw jx jy lm wP) (.inr Z) ?_
 rintro lL F3 Ip eM bb BU ⟨rfl,rfl⟩
 have BV:sW w φ lL [.blk ab 29 B2,.blk b6 29 O,.blk b2 27 B0,.blk ag 27 ai,.blk aj 36 ah,cG,cm,bV,bQ,.blk ak 44 O,.blk am 44 B2] eM:=BU
 refine zw rfl rfl rfl rfl rfl rfl (za rfl rfl rfl rfl (fun _=>zU rfl rfl (v:=jV E6) rfl) (za rfl rfl rfl rfl (fun _=>zU rfl rfl (v:=jV E7) rfl) (yP rfl rfl rfl rfl rfl rfl (yP rfl rfl rfl rfl rfl rfl (eN (zL (zx zt [1,1,1,3,2,2,3,3,3,3,3] (wEF (.fx 4 (.fx 5 (wKZ (.nil)) .stop) .stop)) (by kernel_rfl) ?_)))))))
 have dD:=BV.drew
 generalize hw_W657:({ eM with drawn:=eM.drawn + 1 }:World)=mj at dD ⊢
 refine oL Z (dD.ldBA (j:=4) Z Z iY ZQ ZF (vs:=ah) Z Z) (oL Z (dD.ldBA (j:=9) Z Z iZ yj yY (vs:=O) Z Z) (oL Z (dD.ldBA (j:=10) Z Z i4 yj yY (vs:=B2) Z Z) (oM Z iV ?_)))
 have wQ:=jX.le aJ
 have wR:=wQ.le cg
 have wS:=wR.le cj
 have wU:=wS.le bU
 have wV:=wU.le bO
 have wW:=wV.le bH
 have wX:=wW.le bu
 have jz:=wX.le bb
 refine bnK k8 fun eh wY D5=>zD 0 Z Z Z Z (zE Z Z Tryz.call50 (zB Z zM) Z) dD (fun hs=>wCX p3 aN aO mj lL hs jz wY) (.inr Z) ?_
 rintro Fx F4 Iq cI bc BW ⟨gJ,iI,rfl,rfl⟩
 let dk:Res:=.row gJ iI 179 4 (hD wAT eh)
 have BX:sW w φ Fx [dk,.blk ab 29 B2,.blk b6 29 O,.blk b2 27 B0,.blk ag 27 ai,.blk aj 36 ah,cG,cm,bV,bQ,.blk ak 44 O,.blk am 44 B2] cI:=BW
 have q:=BX.freezeR (k:=6) (n:=aX.length) rfl (wAE (f:=KL.encI) (sz:=1) (fun _=>rfl) aX) (by decide)
 obtain ⟨Fy,bd,Es,BY⟩:=q
 have BZ:sW w φ Fy [dk,.blk ab 29 B2,.blk b6 29 O,.blk b2 27 B0,.blk ag 27 ai,.blk aj 36 ah,cm,bV,bQ,.blk ak 44 O,.blk am 44 B2] cI:=BY
 have q:=BZ.freezeR (k:=6) (n:=aY.length) rfl (wAE (f:=wAD) (sz:=2) (fun _=>rfl) aY) (by decide)
 obtain ⟨Fz,aV,Et,Ca⟩:=q
 have Cb:sW w φ Fz [dk,.blk ab 29 B2,.blk b6 29 O,.blk b2 27 B0,.blk ag 27 ai,.blk aj 36 ah,bV,bQ,.blk ak 44 O,.blk am 44 B2] cI:=Ca
 have q:=Cb.freezeR (k:=6) (n:=aZ.length) rfl (wAE (f:=wAN) (sz:=3) (fun _=>rfl) aZ) (by decide)
 obtain ⟨FA,aQ,Eu,Cc⟩:=q
 have Cd:sW w φ FA [dk,.blk ab 29 B2,.blk b6 29 O,.blk b2 27 B0,.blk ag 27 ai,.blk aj 36 ah,bQ,.blk ak 44 O,.blk am 44 B2] cI:=Cc
 have q:=Cd.freezeR (k:=6) (n:=a5.length) rfl (wAE (f:=wAL) (sz:=4) (fun _=>rfl) a5) (by decide)
 obtain ⟨FB,aM,Ev,Ce⟩:=q
 have Cf:sW w φ FB [dk,.blk ab 29 B2,.blk b6 29 O,.blk b2 27 B0,.blk ag 27 ai,.blk aj 36 ah,.blk ak 44 O,.blk am 44 B2] cI:=Ce
 have q:=Cf.freezeR (k:=0) (n:=eh.length) rfl (wAE (f:=wAT) (sz:=4) (fun _=>rfl) eh) (by decide)
 obtain ⟨lM,aK,Ew,Ch⟩:=q
 have Ci:sW w φ lM [.blk ab 29 B2,.blk b6 29 O,.blk b2 27 B0,.blk ag 27 ai,.blk aj 36 ah,.blk ak 44 O,.blk am 44 B2] cI:=Ch
 have wZ:=Es.le aV
 have w5:=wZ.le aQ
 have w6:=w5.le aM
 have jA:=w6.le aK
 have w7:=Et.le aQ
 have w8:=w7.le aM
 have jB:=w8.le aK
 have w9:=Eu.le aM
 have jC:=w9.le aK
 have jD:=Ev.le aK
 have q:=bnd D5
 obtain ⟨⟨lw,lx⟩,xa,lb⟩:=q
 try dsimp only at lb
 refine zD 0 Z Z Z Z (zE Z Z Tryz.call49 (zB Z (zB Z (zB Z (zB Z zM)))) Z) Ci (fun hs=>wEa (⟨aX,aY,aZ,a5⟩:wAI) bh bn bi bo bj bp bm bq (⟨p1.Skier,p1.Mat⟩:wAQ) (⟨p2.Skier,p2.Mat⟩:wAQ) eh gJ iI cI lM hs jA jB jC jD Ew xa) (.inr Z) ?_
 rintro eu F5 Ir g8 aL Cj ⟨rfl,rfl⟩
 have dZ:sW w φ eu [.blk ab 29 B2,.blk b6 29 O,.blk b2 27 B0,.blk ag 27 ai,.blk aj 36 ah,.blk ak 44 O,.blk am 44 B2] g8:=Cj
 refine oM Z Z (oR Z (zU Z Z (v:=jV lw) Z) (oR Z (zU Z Z (v:=jV lx) Z) (oA Z Z (oA Z Z (eN (zL (sR fL8 Z (oM Z Z (oM Z Z (oR Z (ZP Z Z Z) (oM Z Z (ifc lb ?_ ?_))))))))))))
 intro ca D6
 refine zw Z Z Z (zI Z Z (zu (fun h=>h ca.out))) Z Z (zw Z Z Z (zI Z Z (zu (fun h=>h ca.out))) Z Z (za Z Z Z (zI Z Z (zu (fun h=>h ca.out))) (fun _=>ZP Z Z Z) (oR Z (zW Z (zu (fun h=>h ca.out)) Z) (eN (ifc D6 ?_ ?_)))))
 intro fk D7
 refine zj (zu (fun h=>h fk.out)) (kN (sR (.fl 0 (.fl 1 (.fx 2 (wPQ (.nil)) .stop))) Z (oL Z (dZ.ldBA (j:=3) Z Z fu zo zZ (vs:=ai) Z Z) (oM Z fy ?_))))
 have xb:=jv.le bb
 have xc:=xb.le bc
 have xd:=xc.le bd
 have xe:=xd.le aV
 have xf:=xe.le aQ
 have xg:=xf.le aM
 have xh:=xg.le aK
 have jE:=xh.le aL
 have xi:=jw.le bb
 have xj:=xi.le bc
 have xk:=xj.le bd
 have xl:=xk.le aV
 have xm:=xl.le aQ
 have xn:=xm.le aM
 have xo:=xn.le aK
 have jF:=xo.le aL
 have xp:=jx.le bb
 have xq:=xp.le bc
 have xr:=xq.le bd
 have xt:=xr.le aV
 have xu:=xt.le aQ
 have xv:=xu.le aM
 have xw:=xv.le aK
 have jG:=xw.le aL
 have xx:=jy.le bb
 have xz:=xx.le bc
 have xA:=xz.le bd
 have xB:=xA.le aV
 have xC:=xB.le aQ
 have xD:=xC.le aM
 have xE:=xD.le aK
 have jH:=xE.le aL
 have xF:=lm.le bb
 have xG:=xF.le bc
 have xH:=xG.le bd
 have xI:=xH.le aV
 have xJ:=xI.le aQ
 have xK:=xJ.le aM
 have xL:=xK.le aK
 have fJ:=xL.le aL
 have q:=bnd D7
 obtain ⟨⟨ly,lz⟩,xM,lf⟩:=q
 try dsimp only at lf
 refine zD 0 Z Z Z Z (zE Z Z Tryz.call51 (zB Z (zB Z zM)) Z) dZ (fun hs=>wGH (⟨bG,br,bs,bt⟩:wAA) bI bN bz bC bA bD bB bE aP aR aU g8 eu hs jE jF jG jH fJ xM) (.inr Z) ?_
 rintro lN F6 Is eO aG Ck ⟨rfl,rfl⟩
 have Cm:sW w φ lN [.blk ab 29 B2,.blk b6 29 O,.blk b2 27 B0,.blk ag 27 ai,.blk aj 36 ah,.blk ak 44 O,.blk am 44 B2] eO:=Ck
 refine oM Z Z (oR Z (zU Z Z (v:=jV ly) Z) (oR Z (zU Z Z (v:=jV lz) Z) (oA Z Z (oA Z Z (eN (zL (yR fun bx aW=>?_)))))))
 have i6:bx 3=.slice aN p3.length aO:=(aW 3).trans iV
 have oa:bx 4=.pointer (some ⟨b2,0,none⟩):=(aW 4).trans n9
 have oc:bx 5=.pointer (some ⟨b6,0,none⟩):=(aW 5).trans iW
 have od:bx 6=.pointer (some ⟨ab,0,none⟩):=(aW 6).trans iX
 have i8:bx 9=.pointer (some ⟨ag,0,none⟩):=(aW 9).trans fu
 have oe:bx 10=.slice aR aP.length aU:=(aW 10).trans fy
 have fz:bx 11=.pointer (some ⟨aj,0,none⟩):=(aW 11).trans iY
 have i9:bx 12=.pointer (some ⟨ak,0,none⟩):=(aW 12).trans iZ
 have ja:bx 13=.pointer (some ⟨am,0,none⟩):=(aW 13).trans i4
 have og:bx 14=jV ly:=(aW 14).trans rfl
 have oh:bx 15=jV lz:=(aW 15).trans rfl
 have Hy:bx 16=jV lw:=(aW 16).trans rfl
 have Hz:bx 17=jV lx:=(aW 17).trans rfl
 clear aW
 refine zx zt [1,3,2,2,3,3,3,3,3] (.fl 0 (.fl 1 (.fx 2 (.fx 3 (wJd (.nil)) .stop) .stop))) (by kernel_rfl) ?_
 have f5:=Cm.drew
 generalize hw_W796:({ eO with drawn:=eO.drawn + 1 }:World)=ml at f5 ⊢
 refine oL Z (f5.ldBA (j:=4) Z Z fz ZQ ZF (vs:=ah) Z Z) (oM Z i6 ?_)
 have xN:=jz.le bc
 have xO:=xN.le bd
 have xP:=xO.le aV
 have xQ:=xP.le aQ
 have xR:=xQ.le aM
 have xS:=xR.le aK
 have xT:=xS.le aL
 have fK:=xT.le aG
 refine bnK lf fun ej xU D8=>zD 0 Z Z Z Z (zE Z Z Tryz.call50 (zB Z zM) Z) f5 (fun hs=>wCX p3 aN aO ml lN hs fK xU) (.inr Z) ?_
 rintro FC F7 It eP ax Cn ⟨gK,iJ,rfl,rfl⟩
 have Co:sW w φ FC [.row gK iJ 179 4 (hD wAT ej),.blk ab 29 B2,.blk b6 29 O,.blk b2 27 B0,.blk ag 27 ai,.blk aj 36 ah,.blk ak 44 O,.blk am 44 B2] eP:=Cn
 have q:=Co.freezeR (k:=0) (n:=ej.length) rfl (wAE (f:=wAT) (sz:=4) (fun _=>rfl) ej) (by decide)
 obtain ⟨lO,ay,Ex,Cp⟩:=q
 have Cq:sW w φ lO [.blk ab 29 B2,.blk b6 29 O,.blk b2 27 B0,.blk ag 27 ai,.blk aj 36 ah,.blk ak 44 O,.blk am 44 B2] eP:=Cp
 have xV:=jA.le aL
 have xW:=xV.le aG
 have xX:=xW.le ax
 have jI:=xX.le ay
 have xY:=jB.le aL
 have xZ:=xY.le aG
 have x8:=xZ.le ax
 have jJ:=x8.le ay
 have y4:=jC.le aL
 have y5:=y4.le aG
 have y6:=y5.le ax
 have jK:=y6.le ay
 have y7:=jD.le aL
 have y8:=y7.le aG
 have y9:=y8.le ax
 have jL:=y9.le ay
 have q:=bnd D8
 obtain ⟨⟨E8,E9⟩,z3,lg⟩:=q
 try dsimp only at lg
 refine zD 0 Z Z Z Z (zE Z Z Tryz.call52 (zB Z (zB Z zM)) Z) Cq (fun hs=>wDY (⟨aX,aY,aZ,a5⟩:wAI) bh bn bi bo bj bp bm bq ej gK iJ eP lO hs jI jJ jK jL Ex z3) (.inr Z) ?_
 rintro ew F8 Iu g9 az Cr ⟨rfl,rfl⟩
 have cY:sW w φ ew [.blk ab 29 B2,.blk b6 29 O,.blk b2 27 B0,.blk ag 27 ai,.blk aj 36 ah,.blk ak 44 O,.blk am 44 B2] g9:=Cr
 refine oM Z Z (oR Z (zU Z Z (v:=jV E8) Z) (oR Z (zU Z Z (v:=jV E9) Z) (oA Z Z (oA Z Z (eN (zL (sR fL8 Z (oM Z oh (oM Z Z (oR Z (ZP Z Z Z) (oM Z Z (ifc lg ?_ ?_))))))))))))
 intro cb D9
 refine zw Z Z Z (zI Z Z (zu (fun h=>h cb.out))) Z og (zw Z Z Z (zI Z Z (zu (fun h=>h cb.out))) Z Z (za Z Z Z (zI Z Z (zu (fun h=>h cb.out))) (fun _=>ZP Z Z Z) (oR Z (zW Z (zu (fun h=>h cb.out)) Z) (eN (ifc D9 ?_ ?_)))))
 intro fm Ea
 refine zj (zu (fun h=>h fm.out)) (kN (sR (wDK (.fx 3 (wJd (.nil)) .stop)) Z (oL Z (cY.ldBA (j:=3) Z Z i8 zo zZ (vs:=ai) Z Z) (oL Z (cY.ldBA (j:=1) Z Z oc Zn ZV (vs:=O) Z Z) (oL Z (cY.ldBA (j:=0) Z Z od Zn ZV (vs:=B2) Z Z) ?_)))))
 have z4:=jE.le aG
 have z5:=z4.le ax
 have z6:=z5.le ay
 have fL:=z6.le az
 have z7:=jF.le aG
 have z8:=z7.le ax
 have z9:=z8.le ay
 have fM:=z9.le az
 have Aa:=jG.le aG
 have Ab:=Aa.le ax
 have Ac:=Ab.le ay
 have fN:=Ac.le az
 have Ae:=jH.le aG
 have Af:=Ae.le ax
 have Ag:=Af.le ay
 have fO:=Ag.le az
 have q:=bnd Ea
 obtain ⟨⟨cP,ek⟩,Ah,li⟩:=q
 try dsimp only at li
 refine zD 0 Z Z Z Z (zE Z Z Tryz.call53 (zB Z (zB Z (zB Z zM))) Z) cY (fun hs=>wJL (⟨bG,br,bs,bt⟩:wAA) bI bN bz bC bA bD bB bE p1 p2 g9 ew hs fL fM fN fO Ah) (.inr Z) ?_
 rintro lP F9 Iv ib au Cs ⟨dd,dw,rfl,rfl⟩
 let bR:Res:=.row dd dw 93 4 (hD wAJ cP)
 have d4:sW w φ lP [bR,.blk ab 29 B2,.blk b6 29 O,.blk b2 27 B0,.blk ag 27 ai,.blk aj 36 ah,.blk ak 44 O,.blk am 44 B2] ib:=Cs
 refine oM Z Z (oR Z (zU Z Z (v:=.slice dd cP.length dw) Z) (oR Z (zU Z Z (v:=jV ek) Z) (oA Z Z (oA Z Z (eN (sR (wDK (.fx 3 (wPR (.fx 7 (.fx 8 (.fl 9 .nil) .stop) .stop)) .stop)) Z (oL Z (d4.ldBA (j:=5) Z Z fz ZQ ZF (vs:=ah) Z Z) (oL Z (d4.ldBA (j:=6) Z Z i9 yj yY (vs:=O) Z Z) (oL Z (d4.ldBA (j:=7) Z Z ja yj yY (vs:=B2) Z Z) ?_)))))))))
 have Ai:=jI.le az
 have fP:=Ai.le au
 have Aj:=jJ.le az
 have fQ:=Aj.le au
 have Ak:=jK.le az
 have fR:=Ak.le au
 have Al:=jL.le az
 have fS:=Al.le au
 have q:=bnd li
 obtain ⟨⟨dQ,f9⟩,Am,lj⟩:=q
 try dsimp only at lj
 refine zD 0 Z Z Z Z (zE Z Z Tryz.call17 (zB Z (zB Z (zB Z zM))) Z) d4 (fun hs=>wGj (⟨aX,aY,aZ,a5⟩:wAI) bh bn bi bo bj bp bm bq (⟨p1.Skier,p1.Mat⟩:wAQ) (⟨p2.Skier,p2.Mat⟩:wAQ) ib lP hs fP fQ fR fS Am) (.inr Z) ?_
 rintro db Ga Iw mo ao Ct ⟨rfl,rfl⟩
 have Cu:sW w φ db [bR,.blk ab 29 B2,.blk b6 29 O,.blk b2 27 B0,.blk ag 27 ai,.blk aj 36 ah,.blk ak 44 O,.blk am 44 B2] mo:=Ct
 refine oM Z Z (oR Z (zU Z Z (v:=.agg #[jV dQ.Lo,jV dQ.Hi]) Z) (oR Z (zU Z Z (v:=jV f9) Z) (zV (cs:=[jV 0,jV 0]) Z Z Z Z Z ZX Z Cu ?_)))
 intro Gr an Cv
 let aq:List Value:=[jV dQ.Lo,jV dQ.Hi]
 refine zX (j:=0) (vs:=aq) Z Z Z Z Cv Z Z Z Z zz (zA Z) Z Z Z ?_
 intro mq Cw
 have f6:sW w φ db [.blk an 39 aq,bR,.blk ab 29 B2,.blk b6 29 O,.blk b2 27 B0,.blk ag 27 ai,.blk aj 36 ah,.blk ak 44 O,.blk am 44 B2] mq:=Cw
 refine oA Z Z (eN (zL (bnK lj fun my ln Eb=>yX (fun σ_ w_=>∃ (φ_:PHeap),σ_ 3=.slice aN p3.length aO/\σ_ 4=.pointer (some ⟨b2,0,none⟩)/\σ_ 9=.pointer (some ⟨ag,0,none⟩)/\σ_ 10=.slice aR aP.length aU/\σ_ 11=.pointer (some ⟨aj,0,none⟩)/\σ_ 12=.pointer (some ⟨ak,0,none⟩)/\σ_ 13=.pointer (some ⟨am,0,none⟩)/\σ_ 15=jV ek/\σ_ 18=.slice dd cP.length dw/\σ_ 19=.pointer (some ⟨an,0,none⟩)/\σ_ 111=.bool my/\PHeap.Le db φ_/\sW w φ φ_ [.blk an 39 aq,.blk ab 29 B2,.blk b6 29 O,.blk b2 27 B0,.blk ag 27 ai,.blk aj 36 ah,.blk ak 44 O,.blk am 44 B2,bR] w_) ?_ ?_)))
 refine yR fun bP bF=>?_
 have fA:bP 3=.slice aN p3.length aO:=(bF 3).trans i6
 have fB:bP 4=.pointer (some ⟨b2,0,none⟩):=(bF 4).trans oa
 have fC:bP 9=.pointer (some ⟨ag,0,none⟩):=(bF 9).trans i8
 have fD:bP 10=.slice aR aP.length aU:=(bF 10).trans oe
 have fE:bP 11=.pointer (some ⟨aj,0,none⟩):=(bF 11).trans fz
 have fG:bP 12=.pointer (some ⟨ak,0,none⟩):=(bF 12).trans i9
 have fH:bP 13=.pointer (some ⟨am,0,none⟩):=(bF 13).trans ja
 have dx:bP 15=jV ek:=(bF 15).trans rfl
 have oi:bP 17=jV f9:=(bF 17).trans rfl
 have dX:bP 18=.slice dd cP.length dw:=(bF 18).trans rfl
 have fI:bP 19=.pointer (some ⟨an,0,none⟩):=(bF 19).trans rfl
 clear bF
 refine rR fL12 Z (oM Z dx (oM Z oi (oR Z (ZP Z Z Z) (oM Z Z ?_))))
 by_cases aI:ek=f9
 have lk:=ln;rw [if_pos aI] at lk;replace aI:=zN aI
 refine zw Z Z Z (zI Z Z (zu (fun h=>h aI.out))) Z dx (za Z Z Z (zI Z Z (zu (fun h=>h aI.out))) (fun _=>ZP Z Z Z) (zw Z Z Z (zI Z Z (zu (fun h=>h aI.out))) Z Z (ifc lk ?_ ?_)))
 intro cc Ec
 refine zy Z Z Z (zP Z Z (zu (fun h=>h cc.out)) Z) (zy Z Z Z (zP Z Z (zu (fun h=>h cc.out)) Z) (zy Z Z Z (zP Z Z (zu (fun h=>h cc.out)) Z) (za Z Z Z (zI Z Z (zu (fun h=>h aI.out))) (fun _=>zW Z (zu (fun h=>h cc.out)) Z) (oR Z (zW Z (zu (fun h=>h aI.out)) Z) (zf ?_)))))
 cases Ec
 exact zJ ⟨rfl,⟨db,fA,fB,fC,fD,fE,fG,fH,dx,dX,fI,rfl,(zS _),(f6.pick [0,2,3,4,5,6,7,8,1] _ (by decide) rfl)⟩⟩
 intro cc Ee
 refine zw Z Z Z (wT Z cc) Z dX (rU Z (wT Z cc) (zi Z Z ZO) (rU Z (wT Z cc) (yI Z Z Z) (za Z Z Z (zI Z Z (zu (fun h=>h aI.out))) (fun _=>zR Z (Zd cc.out) Z) (oR Z (zW Z (zu (fun h=>h aI.out)) Z) (zf ?_)))))
 have q:=hH Ee
 obtain rfl:=q
 exact zJ ⟨rfl,⟨db,fA,fB,fC,fD,fE,fG,fH,dx,dX,fI,rfl,(zS _),(f6.pick [0,2,3,4,5,6,7,8,1] _ (by decide) rfl)⟩⟩
 have ll:=ln;rw [if_neg aI] at ll;replace aI:=zN aI
 refine oT Z aI (oT Z aI (oT Z aI (zy Z Z Z (wEd Z Z Z) (zy Z Z Z (wEd Z Z Z) (zy Z Z Z (wEd Z Z Z) (oT Z aI (oR Z (zR Z (Zd aI.out) Z) (zf ?_))))))))
 cases ll
 exact zJ ⟨rfl,⟨db,fA,fB,fC,fD,fE,fG,fH,dx,dX,fI,rfl,(zS _),(f6.pick [0,2,3,4,5,6,7,8,1] _ (by decide) rfl)⟩⟩
 rintro IL eQ ⟨lQ,dy,dz,cL,dA,dB,oj,ol,om,oo,oq,jb,ap,d5⟩
 refine ifc Eb ?_ ?_
 intro fq Ef
 refine ZD (jb.trans (congrArg hJ fq.out)) (sR fL1 Z (oA Z Z (eN (zO (zQ ?_)))))
 have hE:=hH Ef;first | subst r | cases hE
 exact ⟨rfl,_,(ZA rfl),lQ,_,(d5.pick [] _ (by decide) rfl),rfl,rfl⟩
 intro fq Eg
 refine zj (jb.trans (congrArg hJ (hU.2 fq.out))) (kN (zL (sR fL2 Z (oM Z om (oR Z (Zy Z Z Z) (eN (ifc Eg ?_ ?_)))))))
 intro ft Eh
 refine cT Z ft (zL (zx zt [1,1,1,3,2,2,3,3,3,3,3] (wEF (.fx 4 (.fx 5 (wKZ (.nil)) .stop) .stop)) (by kernel_rfl) ?_))
 have dE:=d5.drew
 generalize hw_W958:({ eQ with drawn:=eQ.drawn + 1 }:World)=ic at dE ⊢
 refine oL Z (dE.ldBA (j:=5) Z Z dB ZQ ZF (vs:=ah) Z Z) (oL Z (dE.ldBA (j:=6) Z Z oj yj yY (vs:=O) Z Z) (oL Z (dE.ldBA (j:=7) Z Z ol yj yY (vs:=B2) Z Z) (oM Z oo ?_)))
 have q:=dE.freezeR (k:=8) (n:=cP.length) rfl (wAE (f:=wAJ) (sz:=4) (fun _=>rfl) cP) (by decide)
 obtain ⟨lR,be,Ey,Cx⟩:=q
 have Cy:sW w φ lR [.blk an 39 aq,.blk ab 29 B2,.blk b6 29 O,.blk b2 27 B0,.blk ag 27 ai,.blk aj 36 ah,.blk ak 44 O,.blk am 44 B2] ic:=Cx
 refine bnK Eh fun en Ao Ei=>zD 0 Z Z Z Z (zE Z Z Tryz.call50 (zB Z zM) Z) Cy (fun hs=>wCX cP dd dw ic lR hs Ey Ao) (.inr Z) ?_
 rintro FD Gb Ix eR bf Cz ⟨gL,iK,rfl,rfl⟩
 have CA:sW w φ FD [.row gL iK 179 4 (hD wAT en),.blk an 39 aq,.blk ab 29 B2,.blk b6 29 O,.blk b2 27 B0,.blk ag 27 ai,.blk aj 36 ah,.blk ak 44 O,.blk am 44 B2] eR:=Cz
 have q:=CA.freezeR (k:=0) (n:=en.length) rfl (wAE (f:=wAT) (sz:=4) (fun _=>rfl) en) (by decide)
 obtain ⟨lS,bg,Ez,CB⟩:=q
 have CC:sW w φ lS [.blk an 39 aq,.blk ab 29 B2,.blk b6 29 O,.blk b2 27 B0,.blk ag 27 ai,.blk aj 36 ah,.blk ak 44 O,.blk am 44 B2] eR:=CB
 have Ap:=fP.le ao
 have Aq:=Ap.le ap
 have Ar:=Aq.le be
 have As:=Ar.le bf
 have jM:=As.le bg
 have Au:=fQ.le ao
 have Av:=Au.le ap
 have Aw:=Av.le be
 have Ax:=Aw.le bf
 have jN:=Ax.le bg
 have Ay:=fR.le ao
 have Az:=Ay.le ap
 have AA:=Az.le be
 have AB:=AA.le bf
 have jO:=AB.le bg
 have AC:=fS.le ao
 have AD:=AC.le ap
 have AE:=AD.le be
 have ot:=AE.le bf
 have jc:=ot.le bg
 have q:=bnd Ei
 obtain ⟨⟨EZ,E0⟩,ou,jY⟩:=q
 try dsimp only at jY
 refine zD 0 Z Z Z Z (zE Z Z Tryz.call49 (zB Z (zB Z (zB Z (zB Z zM)))) Z) CC (fun hs=>wEa (⟨aX,aY,aZ,a5⟩:wAI) bh bn bi bo bj bp bm bq (⟨p1.Skier,p1.Mat⟩:wAQ) (⟨p2.Skier,p2.Mat⟩:wAQ) en gL iK eR lS hs jM jN jO jc Ez ou) (.inr Z) ?_
 rintro eo FE HK gP a6 AF ⟨rfl,rfl⟩
 have dC:sW w φ eo [.blk an 39 aq,.blk ab 29 B2,.blk b6 29 O,.blk b2 27 B0,.blk ag 27 ai,.blk aj 36 ah,.blk ak 44 O,.blk am 44 B2] gP:=AF
 refine oM Z Z (oR Z (zU Z Z (v:=jV EZ) Z) (oR Z (zU Z Z (v:=jV E0) Z) (oA Z Z (oA Z Z (eN (sR fL8 Z (oM Z Z (oR Z (ZP Z Z Z) (oM Z Z (ifc jY ?_ ?_))))))))))
 intro bK CP
 refine zw Z Z Z (zI Z Z (zu (fun h=>h bK.out))) Z Z (za Z Z Z (zI Z Z (zu (fun h=>h bK.out))) (fun _=>zF Z oq ZT Z zC) (ZE Z Z Z (zI Z Z (zu (fun h=>h bK.out))) (dC.ldB (j:=0) Z Z Z zG (v:=jV dQ.Hi) Z) Z (za Z Z Z (zI Z Z (zu (fun h=>h bK.out))) (fun _=>ZP Z Z Z) (oR Z (zW Z (zu (fun h=>h bK.out)) Z) (eN (ifc CP ?_ ?_))))))
 intro eS CQ
 refine zj (zu (fun h=>h eS.out)) (kN (sR (.fl 0 (.fx 1 (wHE (.nil)) .stop)) Z (oL Z (dC.ldBA (j:=4) Z Z cL zo zZ (vs:=ai) Z Z) ?_)))
 have ov:=fL.le au
 have ow:=ov.le ao
 have ox:=ow.le ap
 have oy:=ox.le be
 have oz:=oy.le bf
 have oB:=oz.le bg
 have jd:=oB.le a6
 have oC:=fM.le au
 have oD:=oC.le ao
 have oE:=oD.le ap
 have oG:=oE.le be
 have oH:=oG.le bf
 have oI:=oH.le bg
 have je:=oI.le a6
 have oJ:=fN.le au
 have oK:=oJ.le ao
 have oO:=oK.le ap
 have oP:=oO.le be
 have oQ:=oP.le bf
 have oS:=oQ.le bg
 have jf:=oS.le a6
 have oU:=fO.le au
 have oV:=oU.le ao
 have oW:=oV.le ap
 have oX:=oW.le be
 have oY:=oX.le bf
 have oZ:=oY.le bg
 have jg:=oZ.le a6
 have q:=bnd CQ
 obtain ⟨⟨cZ,f8⟩,o0,jZ⟩:=q
 try dsimp only at jZ
 refine zD 0 Z Z Z Z (zE Z Z Tryz.call54 (zB Z zM) Z) dC (fun hs=>wHH (⟨bG,br,bs,bt⟩:wAA) bI bN bz bC bA bD bB bE gP eo hs jd je jf jg o0) (.inr Z) ?_
 rintro lA FF HL gQ a7 AG ⟨dS,dV,rfl,rfl⟩
 let gN:Res:=.row dS dV 93 4 (hD wAJ cZ)
 have jP:sW w φ lA [gN,.blk an 39 aq,.blk ab 29 B2,.blk b6 29 O,.blk b2 27 B0,.blk ag 27 ai,.blk aj 36 ah,.blk ak 44 O,.blk am 44 B2] gQ:=AG
 refine oM Z Z (oR Z (zU Z Z (v:=.slice dS cZ.length dV) Z) (oR Z (zU Z Z (v:=jV f8) Z) (oA Z Z (oA Z Z (eN (sR gEs Z (oL Z (jP.ldBA (j:=6) Z Z dB ZQ ZF (vs:=ah) Z Z) ?_)))))))
 have o3:=jM.le a6
 have jh:=o3.le a7
 have o5:=jN.le a6
 have ji:=o5.le a7
 have o6:=jO.le a6
 have jj:=o6.le a7
 have o7:=jc.le a6
 have jk:=o7.le a7
 refine bnK jZ fun lu o8 cp=>zD 0 Z Z Z Z (zE Z Z Tryz.call38 (zB Z zM) Z) jP (fun hs=>wDg (⟨aX,aY,aZ,a5⟩:wAI) bh bn bi bo bj bp bm bq gQ lA hs jh ji jj jk o8) (.inr Z) ?_
 rintro cD FG HM eI a8 AH ⟨rfl,rfl⟩
 have cM:sW w φ cD [gN,.blk an 39 aq,.blk ab 29 B2,.blk b6 29 O,.blk b2 27 B0,.blk ag 27 ai,.blk aj 36 ah,.blk ak 44 O,.blk am 44 B2] eI:=AH
 refine oA Z Z (eN ?_)
 have q:=wCA cp
 obtain ⟨EQ,cd⟩:=q
 refine yX (fun σ_ w_=>EQ=.inl ()/\∃ (φ_:PHeap),σ_ 3=.slice aN p3.length aO/\σ_ 4=.pointer (some ⟨b2,0,none⟩)/\σ_ 9=.pointer (some ⟨ag,0,none⟩)/\σ_ 10=.slice aR aP.length aU/\PHeap.Le cD φ_/\sW w φ φ_ [.blk an 39 aq,.blk ab 29 B2,.blk b6 29 O,.blk b2 27 B0,.blk ag 27 ai,.blk aj 36 ah,.blk ak 44 O,.blk am 44 B2] w_) ?_ ?_
 refine zY (sR fL3 Z (oM Z Z (oR Z (Zy Z Z Z) (oA Z Z (eN ?_)))))
 by_cases cn:lu=7
 have j0:=cd;rw [if_pos cn] at j0;replace cn:=zN cn
 refine cT Z cn (zL (zx zt [1,3,2,2,3,3,3,3,3] (.fl 0 (.fl 1 (.fx 2 (.fx 3 (wJd (.nil)) .stop) .stop))) (by kernel_rfl) ?_))
 have fT:=cM.drew
 generalize hw_W1082:({ eI with drawn:=eI.drawn + 1 }:World)=gR at fT ⊢
 refine oL Z (fT.ldBA (j:=6) Z Z dB ZQ ZF (vs:=ah) Z Z) (oM Z Z ?_)
 have q:=fT.freezeR (k:=0) (n:=cZ.length) rfl (wAE (f:=wAJ) (sz:=4) (fun _=>rfl) cZ) (by decide)
 obtain ⟨lB,dJ,Ej,AI⟩:=q
 have AJ:sW w φ lB [.blk an 39 aq,.blk ab 29 B2,.blk b6 29 O,.blk b2 27 B0,.blk ag 27 ai,.blk aj 36 ah,.blk ak 44 O,.blk am 44 B2] gR:=AI
 refine bnK j0 fun d8 o9 CR=>zD 0 Z Z Z Z (zE Z Z Tryz.call50 (zB Z zM) Z) AJ (fun hs=>wCX cZ dS dV gR lB hs Ej o9) (.inr Z) ?_
 rintro Fh FH HN eJ dK AK ⟨gi,ik,rfl,rfl⟩
 have AL:sW w φ Fh [.row gi ik 179 4 (hD wAT d8),.blk an 39 aq,.blk ab 29 B2,.blk b6 29 O,.blk b2 27 B0,.blk ag 27 ai,.blk aj 36 ah,.blk ak 44 O,.blk am 44 B2] eJ:=AK
 have q:=AL.freezeR (k:=0) (n:=d8.length) rfl (wAE (f:=wAT) (sz:=4) (fun _=>rfl) d8) (by decide)
 obtain ⟨lC,dL,Ek,AM⟩:=q
 have AN:sW w φ lC [.blk an 39 aq,.blk ab 29 B2,.blk b6 29 O,.blk b2 27 B0,.blk ag 27 ai,.blk aj 36 ah,.blk ak 44 O,.blk am 44 B2] eJ:=AM
 have pd:=jh.le a8
 have pe:=pd.le dJ
 have pf:=pe.le dK
 have pg:=pf.le dL
 have ph:=ji.le a8
 have pj:=ph.le dJ
 have pk:=pj.le dK
 have pm:=pk.le dL
 have pn:=jj.le a8
 have po:=pn.le dJ
 have pp:=po.le dK
 have pq:=pp.le dL
 have pu:=jk.le a8
 have py:=pu.le dJ
 have pz:=py.le dK
 have pB:=pz.le dL
 have q:=bnd CR
 obtain ⟨⟨E1,lv⟩,pC,j5⟩:=q
 try dsimp only at j5
 refine zD 0 Z Z Z Z (zE Z Z Tryz.call52 (zB Z (zB Z zM)) Z) AN (fun hs=>wDY (⟨aX,aY,aZ,a5⟩:wAI) bh bn bi bo bj bp bm bq d8 gi ik eJ lC hs pg pm pq pB Ek pC) (.inr Z) ?_
 rintro ep FI HO lW EJ AO ⟨rfl,rfl⟩
 have fU:sW w φ ep [.blk an 39 aq,.blk ab 29 B2,.blk b6 29 O,.blk b2 27 B0,.blk ag 27 ai,.blk aj 36 ah,.blk ak 44 O,.blk am 44 B2] lW:=AO
 refine oM Z Z (oR Z (zU Z Z (v:=jV E1) Z) (oR Z (zU Z Z (v:=jV lv) Z) (oA Z Z (oA Z Z (eN (zL (yR fun c6 cO=>?_)))))))
 have mN:c6 3=.slice aN p3.length aO:=(cO 3).trans dy
 have mO:c6 4=.pointer (some ⟨b2,0,none⟩):=(cO 4).trans dz
 have mP:c6 9=.pointer (some ⟨ag,0,none⟩):=(cO 9).trans cL
 have mQ:c6 10=.slice aR aP.length aU:=(cO 10).trans dA
 have mR:c6 15=jV f8:=(cO 15).trans rfl
 have mS:c6 23=jV lv:=(cO 23).trans rfl
 clear cO
 refine rR fL6 Z (oM Z mR (oR Z (ZP Z Z Z) (oM Z Z (ifc j5 ?_ ?_))))
 intro cJ CS
 refine zw Z Z Z (zI Z Z (zu (fun h=>h cJ.out))) Z mS (za Z Z Z (zI Z Z (zu (fun h=>h cJ.out))) (fun _=>ZP Z Z Z) (oR Z (zW Z (zu (fun h=>h cJ.out)) Z) (eN (ifc CS ?_ ?_))))
 intro eU CT
 exact zj (zu (fun h=>h eU.out)) (Zf (zm (zJ ⟨Z,(hH CT).symm,⟨ep,mN,mO,mP,mQ,(((dJ.trans dK).trans dL).trans EJ),fU⟩⟩)))
 intro eU CU
 refine cT Z eU (sR fL1 Z (oA Z Z (eN (zO (zc ?_)))))
 have q:=wAS CU
 obtain ⟨HP,CV,mz⟩:=q
 have q:=wAt cp cd mz
 obtain rfl:=q
 refine zQ ?_
 have hE:=hH CV;first | subst r | cases hE
 exact ⟨rfl,_,(ZA rfl),ep,_,(fU.pick [] _ (by decide) rfl),rfl,rfl⟩
 intro cJ CW
 refine oT Z cJ (oT Z cJ (oR Z (zR Z (Zd cJ.out) Z) (eN (ZD Z (sR fL1 Z (oA Z Z (eN (zO (zc ?_)))))))))
 have q:=wAS CW
 obtain ⟨HQ,CX,mA⟩:=q
 have q:=wAt cp cd mA
 obtain rfl:=q
 refine zQ ?_
 have hE:=hH CX;first | subst r | cases hE
 exact ⟨rfl,_,(ZA rfl),ep,_,(fU.pick [] _ (by decide) rfl),rfl,rfl⟩
 have j6:=cd;rw [if_neg cn] at j6;replace cn:=zN cn
 refine cF Z cn (zL (yR fun cQ cr=>?_))
 have iL:cQ 3=.slice aN p3.length aO:=(cr 3).trans dy
 have iM:cQ 4=.pointer (some ⟨b2,0,none⟩):=(cr 4).trans dz
 have iN:cQ 9=.pointer (some ⟨ag,0,none⟩):=(cr 9).trans cL
 have iO:cQ 10=.slice aR aP.length aU:=(cr 10).trans dA
 have iP:cQ 15=jV f8:=(cr 15).trans rfl
 have dW:cQ 17=jV lu:=(cr 17).trans rfl
 have iQ:cQ 18=.slice dS cZ.length dV:=(cr 18).trans rfl
 clear cr
 refine rR fL21 Z (oM Z dW (oR Z (Zy Z Z Z) (oM Z Z (ifc j6 ?_ ?_))))
 intro aS CY
 refine zw Z Z Z (wT Z aS) Z iP (rU Z (wT Z aS) (ZP Z Z Z) (oR Z (zR Z (Zd aS.out) Z) (oM Z Z (ifc CY ?_ ?_))))
 intro bL CZ
 refine zw Z Z Z (zI Z Z (zu (fun h=>h bL.out))) Z dW (za Z Z Z (zI Z Z (zu (fun h=>h bL.out))) (fun _=>ZP Z Z Z) (zw Z Z Z (zI Z Z (zu (fun h=>h bL.out))) Z Z (zy Z Z Z (zP Z Z (zu (fun h=>h aS.out)) Z) (zy Z Z Z (zP Z Z (zu (fun h=>h aS.out)) Z) (zy Z Z Z (zP Z Z (zu (fun h=>h aS.out)) Z) (za Z Z Z (zI Z Z (zu (fun h=>h bL.out))) (fun _=>zW Z (zu (fun h=>h aS.out)) Z) (oR Z (zW Z (zu (fun h=>h bL.out)) Z) (oM Z Z (zw Z Z Z (zI Z Z Z) Z iQ (za Z Z Z (zI Z Z Z) (fun _=>zi Z Z ZO) (za Z Z Z (zI Z Z Z) (fun _=>yI Z Z Z) (oR Z (zW Z Z Z) (oA Z Z (eN (ifc CZ ?_ ?_)))))))))))))))
 intro eV C0
 refine cT Z eV (sR fL1 Z (oA Z Z (eN (zO (zc ?_)))))
 have q:=wAS C0
 obtain ⟨HR,C1,mB⟩:=q
 have q:=wAt cp cd mB
 obtain rfl:=q
 refine zQ ?_
 have hE:=hH C1;first | subst r | cases hE
 exact ⟨rfl,_,(ZA rfl),cD,_,(cM.pick [] _ (by decide) rfl),rfl,rfl⟩
 intro eV C2
 exact cF Z eV (Zf (zm (zJ ⟨rfl,(hH C2).symm,⟨cD,iL,iM,iN,iO,(zS _),(cM.pick [1,2,3,4,5,6,7,8] _ (by decide) rfl)⟩⟩)))
 intro bL C3
 refine oT Z bL (oT Z bL (oT Z bL (zy Z Z Z (wEd Z Z Z) (zy Z Z Z (wEd Z Z Z) (zy Z Z Z (wEd Z Z Z) (oT Z bL (oR Z (zR Z (Zd bL.out) Z) (oM Z Z (oN Z (oN Z (oN Z (oR Z (zR Z Z Z) (oA Z Z (eN (ZD Z (sR fL1 Z (oA Z Z (eN (zO (zc ?_))))))))))))))))))))
 have q:=wAS C3
 obtain ⟨HS,C4,mC⟩:=q
 have q:=wAt cp cd mC
 obtain rfl:=q
 refine zQ ?_
 have hE:=hH C4;first | subst r | cases hE
 exact ⟨rfl,_,(ZA rfl),cD,_,(cM.pick [] _ (by decide) rfl),rfl,rfl⟩
 intro aS C5
 refine oF Z aS (oF Z aS (oR Z (zW Z (zu aS.out) Z) (oM Z Z (zw Z Z Z (zI Z Z Z) Z dW (za Z Z Z (zI Z Z Z) (fun _=>ZP Z Z Z) (zw Z Z Z (zI Z Z Z) Z Z (zw Z Z Z (wT Z aS) Z iP (zw Z Z Z (wT Z aS) Z dW (rU Z (wT Z aS) (ZP Z Z Z) (za Z Z Z (zI Z Z Z) (fun _=>zR Z (Zd aS.out) Z) (oR Z (zW Z Z Z) (oM Z Z (ifc C5 ?_ ?_)))))))))))))
 intro bW C6
 refine zw Z Z Z (zI Z Z (zu (fun h=>h bW.out))) Z iQ (za Z Z Z (zI Z Z (zu (fun h=>h bW.out))) (fun _=>zi Z Z ZO) (za Z Z Z (zI Z Z (zu (fun h=>h bW.out))) (fun _=>yI Z Z Z) (oR Z (zW Z (zu (fun h=>h bW.out)) Z) (oA Z Z (eN (ifc C6 ?_ ?_))))))
 intro eW C7
 refine cT Z eW (sR fL1 Z (oA Z Z (eN (zO (zc ?_)))))
 have q:=wAS C7
 obtain ⟨HT,C8,mD⟩:=q
 have q:=wAt cp cd mD
 obtain rfl:=q
 refine zQ ?_
 have hE:=hH C8;first | subst r | cases hE
 exact ⟨rfl,_,(ZA rfl),cD,_,(cM.pick [] _ (by decide) rfl),rfl,rfl⟩
 intro eW C9
 exact cF Z eW (Zf (zm (zJ ⟨rfl,(hH C9).symm,⟨cD,iL,iM,iN,iO,(zS _),(cM.pick [1,2,3,4,5,6,7,8] _ (by decide) rfl)⟩⟩)))
 intro bW Da
 refine oT Z bW (oT Z bW (oT Z bW (oR Z (zR Z (Zd bW.out) Z) (oA Z Z (eN (ZD Z (sR fL1 Z (oA Z Z (eN (zO (zc ?_)))))))))))
 have q:=wAS Da
 obtain ⟨HU,Db,mE⟩:=q
 have q:=wAt cp cd mE
 obtain rfl:=q
 refine zQ ?_
 have hE:=hH Db;first | subst r | cases hE
 exact ⟨rfl,_,(ZA rfl),cD,_,(cM.pick [] _ (by decide) rfl),rfl,rfl⟩
 rintro IH lX ⟨mL,⟨Fi,mT,mU,mV,mW,bS,fV⟩⟩
 have j7:=wCs cp cd mL
 try dsimp only at j7
 refine sR (.fl 0 (.fl 1 (.fx 2 (wKB gEy) .stop))) Z (oL Z (fV.ldBA (j:=4) Z Z mV zo zZ (vs:=ai) Z Z) (oL Z (fV.ldBA (j:=3) Z Z mU zo zZ (vs:=B0) Z Z) ?_))
 have pE:=jd.le a7
 have pF:=pE.le a8
 have pG:=pF.le bS
 have pH:=je.le a7
 have pI:=pH.le a8
 have pJ:=pI.le bS
 have pK:=jf.le a7
 have pL:=pK.le a8
 have pM:=pL.le bS
 have pN:=jg.le a7
 have pO:=pN.le a8
 have pP:=pO.le bS
 have pQ:=dF.le aJ
 have pR:=pQ.le cg
 have pS:=pR.le cj
 have pT:=pS.le bU
 have pU:=pT.le bO
 have pV:=pU.le bH
 have pW:=pV.le bu
 have pX:=pW.le bb
 have pY:=pX.le bc
 have pZ:=pY.le bd
 have p6:=pZ.le aV
 have p7:=p6.le aQ
 have p8:=p7.le aM
 have p9:=p8.le aK
 have qa:=p9.le aL
 have qb:=qa.le aG
 have qc:=qb.le ax
 have qd:=qc.le ay
 have qe:=qd.le az
 have qf:=qe.le au
 have qh:=qf.le ao
 have qi:=qh.le ap
 have qj:=qi.le be
 have qk:=qj.le bf
 have qm:=qk.le bg
 have qn:=qm.le a6
 have qo:=qn.le a7
 have qp:=qo.le a8
 have qq:=qp.le bS
 have qr:=dG.le aJ
 have qs:=qr.le cg
 have qt:=qs.le cj
 have qu:=qt.le bU
 have qv:=qu.le bO
 have qw:=qv.le bH
 have qx:=qw.le bu
 have qy:=qx.le bb
 have qz:=qy.le bc
 have qA:=qz.le bd
 have qB:=qA.le aV
 have qC:=qB.le aQ
 have qD:=qC.le aM
 have qE:=qD.le aK
 have qF:=qE.le aL
 have qG:=qF.le aG
 have qH:=qG.le ax
 have qI:=qH.le ay
 have qJ:=qI.le az
 have qK:=qJ.le au
 have qL:=qK.le ao
 have qM:=qL.le ap
 have qN:=qM.le be
 have qO:=qN.le bf
 have qP:=qO.le bg
 have qQ:=qP.le a6
 have qR:=qQ.le a7
 have qS:=qR.le a8
 have qT:=qS.le bS
 have qU:=dH.le aJ
 have qV:=qU.le cg
 have qW:=qV.le cj
 have qX:=qW.le bU
 have qY:=qX.le bO
 have qZ:=qY.le bH
 have q0:=qZ.le bu
 have q6:=q0.le bb
 have q7:=q6.le bc
 have q8:=q7.le bd
 have q9:=q8.le aV
 have rc:=q9.le aQ
 have rd:=rc.le aM
 have rf:=rd.le aK
 have rh:=rf.le aL
 have ri:=rh.le aG
 have rk:=ri.le ax
 have rn:=rk.le ay
 have rp:=rn.le az
 have rq:=rp.le au
 have rv:=rq.le ao
 have rx:=rv.le ap
 have ry:=rx.le be
 have rz:=ry.le bf
 have rA:=rz.le bg
 have rC:=rA.le a6
 have rD:=rC.le a7
 have rE:=rD.le a8
 have rF:=rE.le bS
 have rG:=dI.le aJ
 have rH:=rG.le cg
 have rI:=rH.le cj
 have rJ:=rI.le bU
 have rK:=rJ.le bO
 have rL:=rK.le bH
 have rM:=rL.le bu
 have rN:=rM.le bb
 have rO:=rN.le bc
 have rP:=rO.le bd
 have rQ:=rP.le aV
 have rS:=rQ.le aQ
 have rT:=rS.le aM
 have rV:=rT.le aK
 have rW:=rV.le aL
 have rX:=rW.le aG
 have rY:=rX.le ax
 have rZ:=rY.le ay
 have r0:=rZ.le az
 have r6:=r0.le au
 have r7:=r6.le ao
 have r8:=r7.le ap
 have r9:=r8.le be
 have sa:=r9.le bf
 have sb:=sa.le bg
 have sc:=sb.le a6
 have sd:=sc.le a7
 have se:=sd.le a8
 have sf:=se.le bS
 refine bnK j7 fun Iz sg Dc=>zD 0 Z Z Z Z (zE Z Z Tryz.call21 (zB Z (zB Z zM)) Z) fV (fun hs=>wEt (⟨bG,br,bs,bt⟩:wAA) bI bN bz bC bA bD bB bE p0 ct cy cu cz cw cA cx cC lX Fi hs pG pJ pM pP qq qT rF sf sg) (.inr Z) ?_
 rintro ga FJ HV gS lp AP ⟨rfl,rfl⟩
 have jR:sW w φ ga [.blk an 39 aq,.blk ab 29 B2,.blk b6 29 O,.blk b2 27 B0,.blk ag 27 ai,.blk aj 36 ah,.blk ak 44 O,.blk am 44 B2] gS:=AP
 refine oM Z Z (ifc Dc ?_ ?_)
 intro bX Dd
 refine zw Z Z Z (zI Z Z (congrArg hJ bX.out)) Z mW (zw Z Z Z (zI Z Z (congrArg hJ bX.out)) Z mT ?_)
 have sh:=fJ.le aG
 have sj:=sh.le ax
 have sk:=sj.le ay
 have sl:=sk.le az
 have sm:=sl.le au
 have sn:=sm.le ao
 have so:=sn.le ap
 have sq:=so.le be
 have sr:=sq.le bf
 have ss:=sr.le bg
 have su:=ss.le a6
 have sv:=su.le a7
 have sw:=sv.le a8
 have sA:=sw.le bS
 have sB:=sA.le lp
 have sC:=fK.le ax
 have sD:=sC.le ay
 have sE:=sD.le az
 have sF:=sE.le au
 have sG:=sF.le ao
 have sH:=sG.le ap
 have sI:=sH.le be
 have sJ:=sI.le bf
 have sK:=sJ.le bg
 have sL:=sK.le a6
 have sM:=sL.le a7
 have sN:=sM.le a8
 have sO:=sN.le bS
 have sP:=sO.le lp
 refine bnK Dd fun IA sQ De=>zD 0 Z Z Z (zI Z Z (congrArg hJ bX.out)) (zE Z Z Tryz.call55 (zB Z (zB Z zM)) Z) jR (fun hs=>wDa aP aR aU p3 aN aO gS ga hs sB sP sQ) (.inr Z) ?_
 rintro ge FK HW gT HA AQ ⟨rfl,rfl⟩
 have jS:sW w φ ge [.blk an 39 aq,.blk ab 29 B2,.blk b6 29 O,.blk b2 27 B0,.blk ag 27 ai,.blk aj 36 ah,.blk ak 44 O,.blk am 44 B2] gT:=AQ
 refine oR Z (zR Z (congrArg hJ bX.out) Z) (oM Z Z (ifc De ?_ ?_))
 intro du Df
 refine bnK Df fun IB sS Dg=>zD 0 Z Z Z (zI Z Z (congrArg hJ du.out)) (zE Z Z Tryz.call9 zM Z) jS (fun hs=>wCv gT ge hs sS) (.inr Z) ?_
 rintro lD FL HX lY HB AS ⟨rfl,rfl⟩
 have AT:sW w φ lD [.blk an 39 aq,.blk ab 29 B2,.blk b6 29 O,.blk b2 27 B0,.blk ag 27 ai,.blk aj 36 ah,.blk ak 44 O,.blk am 44 B2] lY:=AS
 refine oR Z (zR Z (congrArg hJ du.out) Z) (oA Z Z (eN (zO ?_)))
 have hE:=hH Dg;first | subst r | cases hE
 exact ⟨rfl,_,(ZA rfl),lD,_,(AT.pick [] _ (by decide) rfl),rfl,rfl⟩
 intro du Dh
 refine ZC Z Z Z (zP Z Z (congrArg hJ (hU.2 du.out)) Z) (oR Z (zW Z (congrArg hJ (hU.2 du.out)) Z) (oA Z Z (eN (zO ?_))))
 have hE:=hH Dh;first | subst r | cases hE
 exact ⟨rfl,_,(ZA rfl),ge,_,(jS.pick [] _ (by decide) rfl),rfl,rfl⟩
 intro bX Di
 refine zy Z Z Z (zP Z Z (congrArg hJ (hU.2 bX.out)) Z) (zy Z Z Z (zP Z Z (congrArg hJ (hU.2 bX.out)) Z) (ZC Z Z Z (zP Z Z (congrArg hJ (hU.2 bX.out)) Z) (oR Z (zW Z (congrArg hJ (hU.2 bX.out)) Z) (oM Z Z (ZC Z Z Z (zP Z Z Z Z) (oR Z (zW Z Z Z) (oA Z Z (eN (zO ?_)))))))))
 have hE:=hH Di;first | subst r | cases hE
 exact ⟨rfl,_,(ZA rfl),ga,_,(jR.pick [] _ (by decide) rfl),rfl,rfl⟩
 intro eS Dj
 refine cT Z eS (sR fL1 Z (oA Z Z (eN (zO (zQ ?_)))))
 have hE:=hH Dj;first | subst r | cases hE
 exact ⟨rfl,_,(ZA rfl),eo,_,(dC.pick [] _ (by decide) rfl),rfl,rfl⟩
 intro bK Dk
 refine oT Z bK (oT Z bK (oT Z bK (oT Z bK (oR Z (zR Z (Zd bK.out) Z) (eN (ZD Z (sR fL1 Z (oA Z Z (eN (zO (zQ ?_)))))))))))
 have hE:=hH Dk;first | subst r | cases hE
 exact ⟨rfl,_,(ZA rfl),eo,_,(dC.pick [] _ (by decide) rfl),rfl,rfl⟩
 intro ft Dl
 refine cF Z ft (kN (sR (.fl 0 (.fx 1 (wHE (.nil)) .stop)) Z (oL Z (d5.ldBA (j:=4) Z Z cL zo zZ (vs:=ai) Z Z) ?_)))
 have sU:=fL.le au
 have sV:=sU.le ao
 have jl:=sV.le ap
 have sY:=fM.le au
 have sZ:=sY.le ao
 have jm:=sZ.le ap
 have s3:=fN.le au
 have s4:=s3.le ao
 have jo:=s4.le ap
 have s5:=fO.le au
 have s6:=s5.le ao
 have jp:=s6.le ap
 have q:=bnd Dl
 obtain ⟨⟨dP,E2⟩,s7,j8⟩:=q
 try dsimp only at j8
 refine zD 0 Z Z Z Z (zE Z Z Tryz.call54 (zB Z zM) Z) d5 (fun hs=>wHH (⟨bG,br,bs,bt⟩:wAA) bI bN bz bC bA bD bB bE eQ lQ hs jl jm jo jp s7) (.inr Z) ?_
 rintro lE FM HY gU a9 AU ⟨ey,eX,rfl,rfl⟩
 let gO:Res:=.row ey eX 93 4 (hD wAJ dP)
 have jT:sW w φ lE [gO,.blk an 39 aq,.blk ab 29 B2,.blk b6 29 O,.blk b2 27 B0,.blk ag 27 ai,.blk aj 36 ah,.blk ak 44 O,.blk am 44 B2,bR] gU:=AU
 refine oM Z Z (oR Z (zU Z Z (v:=.slice ey dP.length eX) Z) (oR Z (zU Z Z (v:=jV E2) Z) (oA Z Z (oA Z Z (eN (sR gEs Z (oL Z (jT.ldBA (j:=6) Z Z dB ZQ ZF (vs:=ah) Z Z) ?_)))))))
 have s8:=fP.le ao
 have s9:=s8.le ap
 have jq:=s9.le a9
 have ta:=fQ.le ao
 have tb:=ta.le ap
 have jr:=tb.le a9
 have tc:=fR.le ao
 have te:=tc.le ap
 have jt:=te.le a9
 have tf:=fS.le ao
 have tg:=tf.le ap
 have ju:=tg.le a9
 refine bnK j8 fun E3 th cq=>zD 0 Z Z Z Z (zE Z Z Tryz.call38 (zB Z zM) Z) jT (fun hs=>wDg (⟨aX,aY,aZ,a5⟩:wAI) bh bn bi bo bj bp bm bq gU lE hs jq jr jt ju th) (.inr Z) ?_
 rintro cE FN HZ eK ba AV ⟨rfl,rfl⟩
 have cN:sW w φ cE [gO,.blk an 39 aq,.blk ab 29 B2,.blk b6 29 O,.blk b2 27 B0,.blk ag 27 ai,.blk aj 36 ah,.blk ak 44 O,.blk am 44 B2,bR] eK:=AV
 refine oA Z Z (eN ?_)
 have q:=wCA cq
 obtain ⟨ER,cf⟩:=q
 refine yX (fun σ_ w_=>ER=.inl ()/\∃ (φ_:PHeap),σ_ 3=.slice aN p3.length aO/\σ_ 4=.pointer (some ⟨b2,0,none⟩)/\σ_ 9=.pointer (some ⟨ag,0,none⟩)/\σ_ 10=.slice aR aP.length aU/\PHeap.Le cE φ_/\sW w φ φ_ [.blk an 39 aq,.blk ab 29 B2,.blk b6 29 O,.blk b2 27 B0,.blk ag 27 ai,.blk aj 36 ah,.blk ak 44 O,.blk am 44 B2] w_) ?_ ?_
 refine zY (sR fL3 Z (oM Z Z (oR Z (Zy Z Z Z) (oA Z Z (eN ?_)))))
 by_cases co:E3=7
 have j9:=cf;rw [if_pos co] at j9;replace co:=zN co
 refine cT Z co (zL (zx zt [1,3,2,2,3,3,3,3,3] (.fl 0 (.fl 1 (.fx 2 (.fx 3 (wJd (.nil)) .stop) .stop))) (by kernel_rfl) ?_))
 have fW:=cN.drew
 generalize hw_W1450:({ eK with drawn:=eK.drawn + 1 }:World)=gV at fW ⊢
 refine oL Z (fW.ldBA (j:=6) Z Z dB ZQ ZF (vs:=ah) Z Z) (oM Z Z ?_)
 have q:=fW.freezeR (k:=0) (n:=dP.length) rfl (wAE (f:=wAJ) (sz:=4) (fun _=>rfl) dP) (by decide)
 obtain ⟨lF,dM,El,AW⟩:=q
 have AX:sW w φ lF [.blk an 39 aq,.blk ab 29 B2,.blk b6 29 O,.blk b2 27 B0,.blk ag 27 ai,.blk aj 36 ah,.blk ak 44 O,.blk am 44 B2,bR] gV:=AW
 refine bnK j9 fun eg tj Dm=>zD 0 Z Z Z Z (zE Z Z Tryz.call50 (zB Z zM) Z) AX (fun hs=>wCX dP ey eX gV lF hs El tj) (.inr Z) ?_
 rintro Fj FO H0 eL dN AY ⟨gj,il,rfl,rfl⟩
 have AZ:sW w φ Fj [.row gj il 179 4 (hD wAT eg),.blk an 39 aq,.blk ab 29 B2,.blk b6 29 O,.blk b2 27 B0,.blk ag 27 ai,.blk aj 36 ah,.blk ak 44 O,.blk am 44 B2,bR] eL:=AY
 have q:=AZ.freezeR (k:=0) (n:=eg.length) rfl (wAE (f:=wAT) (sz:=4) (fun _=>rfl) eg) (by decide)
 obtain ⟨lG,dO,Em,A4⟩:=q
 have A5:sW w φ lG [.blk an 39 aq,.blk ab 29 B2,.blk b6 29 O,.blk b2 27 B0,.blk ag 27 ai,.blk aj 36 ah,.blk ak 44 O,.blk am 44 B2,bR] eL:=A4
 have tm:=jq.le ba
 have tn:=tm.le dM
 have tp:=tn.le dN
 have tq:=tp.le dO
 have tr:=jr.le ba
 have tt:=tr.le dM
 have tu:=tt.le dN
 have tv:=tu.le dO
 have tw:=jt.le ba
 have tx:=tw.le dM
 have tz:=tx.le dN
 have tA:=tz.le dO
 have tB:=ju.le ba
 have tC:=tB.le dM
 have tD:=tC.le dN
 have tE:=tD.le dO
 have q:=bnd Dm
 obtain ⟨⟨E4,E5⟩,tF,k5⟩:=q
 try dsimp only at k5
 refine zD 0 Z Z Z Z (zE Z Z Tryz.call52 (zB Z (zB Z zM)) Z) A5 (fun hs=>wDY (⟨aX,aY,aZ,a5⟩:wAI) bh bn bi bo bj bp bm bq eg gj il eL lG hs tq tv tA tE Em tF) (.inr Z) ?_
 rintro er FP H1 lZ EK A6 ⟨rfl,rfl⟩
 have fY:sW w φ er [.blk an 39 aq,.blk ab 29 B2,.blk b6 29 O,.blk b2 27 B0,.blk ag 27 ai,.blk aj 36 ah,.blk ak 44 O,.blk am 44 B2,bR] lZ:=A6
 refine oM Z Z (oR Z (zU Z Z (v:=jV E4) Z) (oR Z (zU Z Z (v:=jV E5) Z) (oA Z Z (oA Z Z (eN (sR fL6 Z (oM Z Z (oR Z (ZP Z Z Z) (oM Z Z (ifc k5 ?_ ?_))))))))))
 intro cK Do
 refine zw Z Z Z (zI Z Z (zu (fun h=>h cK.out))) Z Z (za Z Z Z (zI Z Z (zu (fun h=>h cK.out))) (fun _=>ZP Z Z Z) (oR Z (zW Z (zu (fun h=>h cK.out)) Z) (eN (ifc Do ?_ ?_))))
 intro eY Dp
 exact zj (zu (fun h=>h eY.out)) (Zf (zm (zJ ⟨rfl,(hH Dp).symm,⟨er,dy,dz,cL,dA,(((dM.trans dN).trans dO).trans EK),(fY.pick [0,1,2,3,4,5,6,7] _ (by decide) rfl)⟩⟩)))
 intro eY Dq
 refine cT Z eY (sR fL1 Z (oA Z Z (eN (zO (zc ?_)))))
 have q:=wAS Dq
 obtain ⟨H2,Dr,mF⟩:=q
 have q:=wAt cq cf mF
 obtain rfl:=q
 refine zQ ?_
 have hE:=hH Dr;first | subst r | cases hE
 exact ⟨rfl,_,(ZA rfl),er,_,(fY.pick [] _ (by decide) rfl),rfl,rfl⟩
 intro cK Ds
 refine oT Z cK (oT Z cK (oR Z (zR Z (Zd cK.out) Z) (eN (ZD Z (sR fL1 Z (oA Z Z (eN (zO (zc ?_)))))))))
 have q:=wAS Ds
 obtain ⟨H3,Dt,mG⟩:=q
 have q:=wAt cq cf mG
 obtain rfl:=q
 refine zQ ?_
 have hE:=hH Dt;first | subst r | cases hE
 exact ⟨rfl,_,(ZA rfl),er,_,(fY.pick [] _ (by decide) rfl),rfl,rfl⟩
 have k6:=cf;rw [if_neg co] at k6;replace co:=zN co
 refine cF Z co (sR fL21 Z (oM Z Z (oR Z (Zy Z Z Z) (oM Z Z (ifc k6 ?_ ?_)))))
 intro aT Du
 refine zw Z Z Z (wT Z aT) Z Z (rU Z (wT Z aT) (ZP Z Z Z) (oR Z (zR Z (Zd aT.out) Z) (oM Z Z (ifc Du ?_ ?_))))
 intro bM Dv
 refine zw Z Z Z (zI Z Z (zu (fun h=>h bM.out))) Z Z (za Z Z Z (zI Z Z (zu (fun h=>h bM.out))) (fun _=>ZP Z Z Z) (zw Z Z Z (zI Z Z (zu (fun h=>h bM.out))) Z Z (zy Z Z Z (zP Z Z (zu (fun h=>h aT.out)) Z) (zy Z Z Z (zP Z Z (zu (fun h=>h aT.out)) Z) (zy Z Z Z (zP Z Z (zu (fun h=>h aT.out)) Z) (za Z Z Z (zI Z Z (zu (fun h=>h bM.out))) (fun _=>zW Z (zu (fun h=>h aT.out)) Z) (oR Z (zW Z (zu (fun h=>h bM.out)) Z) (oM Z Z (zw Z Z Z (zI Z Z Z) Z Z (za Z Z Z (zI Z Z Z) (fun _=>zi Z Z ZO) (za Z Z Z (zI Z Z Z) (fun _=>yI Z Z Z) (oR Z (zW Z Z Z) (oA Z Z (eN (ifc Dv ?_ ?_)))))))))))))))
 intro eZ Dw
 refine cT Z eZ (sR fL1 Z (oA Z Z (eN (zO (zc ?_)))))
 have q:=wAS Dw
 obtain ⟨H4,Dx,mH⟩:=q
 have q:=wAt cq cf mH
 obtain rfl:=q
 refine zQ ?_
 have hE:=hH Dx;first | subst r | cases hE
 exact ⟨rfl,_,(ZA rfl),cE,_,(cN.pick [] _ (by decide) rfl),rfl,rfl⟩
 intro eZ Dy
 exact cF Z eZ (Zf (zm (zJ ⟨rfl,(hH Dy).symm,⟨cE,dy,dz,cL,dA,(zS _),(cN.pick [1,2,3,4,5,6,7,8] _ (by decide) rfl)⟩⟩)))
 intro bM Dz
 refine oT Z bM (oT Z bM (oT Z bM (zy Z Z Z (wEd Z Z Z) (zy Z Z Z (wEd Z Z Z) (zy Z Z Z (wEd Z Z Z) (oT Z bM (oR Z (zR Z (Zd bM.out) Z) (oM Z Z (oN Z (oN Z (oN Z (oR Z (zR Z Z Z) (oA Z Z (eN (ZD Z (sR fL1 Z (oA Z Z (eN (zO (zc ?_))))))))))))))))))))
 have q:=wAS Dz
 obtain ⟨H5,DA,mI⟩:=q
 have q:=wAt cq cf mI
 obtain rfl:=q
 refine zQ ?_
 have hE:=hH DA;first | subst r | cases hE
 exact ⟨rfl,_,(ZA rfl),cE,_,(cN.pick [] _ (by decide) rfl),rfl,rfl⟩
 intro aT DB
 refine oF Z aT (oF Z aT (oR Z (zW Z (zu aT.out) Z) (oM Z Z (zw Z Z Z (zI Z Z Z) Z Z (za Z Z Z (zI Z Z Z) (fun _=>ZP Z Z Z) (zw Z Z Z (zI Z Z Z) Z Z (zw Z Z Z (wT Z aT) Z Z (zw Z Z Z (wT Z aT) Z Z (rU Z (wT Z aT) (ZP Z Z Z) (za Z Z Z (zI Z Z Z) (fun _=>zR Z (Zd aT.out) Z) (oR Z (zW Z Z Z) (oM Z Z (ifc DB ?_ ?_)))))))))))))
 intro bY DC
 refine zw Z Z Z (zI Z Z (zu (fun h=>h bY.out))) Z Z (za Z Z Z (zI Z Z (zu (fun h=>h bY.out))) (fun _=>zi Z Z ZO) (za Z Z Z (zI Z Z (zu (fun h=>h bY.out))) (fun _=>yI Z Z Z) (oR Z (zW Z (zu (fun h=>h bY.out)) Z) (oA Z Z (eN (ifc DC ?_ ?_))))))
 intro e6 DD
 refine cT Z e6 (sR fL1 Z (oA Z Z (eN (zO (zc ?_)))))
 have q:=wAS DD
 obtain ⟨H6,DE,mJ⟩:=q
 have q:=wAt cq cf mJ
 obtain rfl:=q
 refine zQ ?_
 have hE:=hH DE;first | subst r | cases hE
 exact ⟨rfl,_,(ZA rfl),cE,_,(cN.pick [] _ (by decide) rfl),rfl,rfl⟩
 intro e6 DF
 exact cF Z e6 (Zf (zm (zJ ⟨rfl,(hH DF).symm,⟨cE,dy,dz,cL,dA,(zS _),(cN.pick [1,2,3,4,5,6,7,8] _ (by decide) rfl)⟩⟩)))
 intro bY DG
 refine oT Z bY (oT Z bY (oT Z bY (oR Z (zR Z (Zd bY.out) Z) (oA Z Z (eN (ZD Z (sR fL1 Z (oA Z Z (eN (zO (zc ?_)))))))))))
 have q:=wAS DG
 obtain ⟨H7,DH,mK⟩:=q
 have q:=wAt cq cf mK
 obtain rfl:=q
 refine zQ ?_
 have hE:=hH DH;first | subst r | cases hE
 exact ⟨rfl,_,(ZA rfl),cE,_,(cN.pick [] _ (by decide) rfl),rfl,rfl⟩
 rintro II l0 ⟨mM,⟨Fk,mX,mY,mZ,m0,bT,fZ⟩⟩
 have k7:=wCs cq cf mM
 try dsimp only at k7
 refine sR (.fl 0 (.fl 1 (.fx 2 (wKB gEy) .stop))) Z (oL Z (fZ.ldBA (j:=4) Z Z mZ zo zZ (vs:=ai) Z Z) (oL Z (fZ.ldBA (j:=3) Z Z mY zo zZ (vs:=B0) Z Z) ?_))
 have tG:=jl.le a9
 have tH:=tG.le ba
 have tI:=tH.le bT
 have tJ:=jm.le a9
 have tK:=tJ.le ba
 have tL:=tK.le bT
 have tM:=jo.le a9
 have tN:=tM.le ba
 have tO:=tN.le bT
 have tP:=jp.le a9
 have tQ:=tP.le ba
 have tR:=tQ.le bT
 have tS:=dF.le aJ
 have tT:=tS.le cg
 have tU:=tT.le cj
 have tV:=tU.le bU
 have tW:=tV.le bO
 have tX:=tW.le bH
 have tY:=tX.le bu
 have tZ:=tY.le bb
 have t4:=tZ.le bc
 have t5:=t4.le bd
 have t6:=t5.le aV
 have t7:=t6.le aQ
 have t8:=t7.le aM
 have t9:=t8.le aK
 have ua:=t9.le aL
 have ub:=ua.le aG
 have ud:=ub.le ax
 have ue:=ud.le ay
 have uf:=ue.le az
 have ug:=uf.le au
 have uh:=ug.le ao
 have ui:=uh.le ap
 have uj:=ui.le a9
 have uk:=uj.le ba
 have um:=uk.le bT
 have uo:=dG.le aJ
 have uq:=uo.le cg
 have ur:=uq.le cj
 have uu:=ur.le bU
 have uv:=uu.le bO
 have uw:=uv.le bH
 have ux:=uw.le bu
 have uy:=ux.le bb
 have uz:=uy.le bc
 have uA:=uz.le bd
 have uB:=uA.le aV
 have uC:=uB.le aQ
 have uD:=uC.le aM
 have uE:=uD.le aK
 have uF:=uE.le aL
 have uG:=uF.le aG
 have uH:=uG.le ax
 have uI:=uH.le ay
 have uJ:=uI.le az
 have uK:=uJ.le au
 have uL:=uK.le ao
 have uM:=uL.le ap
 have uN:=uM.le a9
 have uO:=uN.le ba
 have uP:=uO.le bT
 have uQ:=dH.le aJ
 have uR:=uQ.le cg
 have uS:=uR.le cj
 have uT:=uS.le bU
 have uU:=uT.le bO
 have uV:=uU.le bH
 have uW:=uV.le bu
 have uX:=uW.le bb
 have uY:=uX.le bc
 have uZ:=uY.le bd
 have u0:=uZ.le aV
 have u7:=u0.le aQ
 have u8:=u7.le aM
 have u9:=u8.le aK
 have va:=u9.le aL
 have vb:=va.le aG
 have vc:=vb.le ax
 have vd:=vc.le ay
 have ve:=vd.le az
 have vf:=ve.le au
 have vg:=vf.le ao
 have vh:=vg.le ap
 have vi:=vh.le a9
 have vj:=vi.le ba
 have vk:=vj.le bT
 have vl:=dI.le aJ
 have vm:=vl.le cg
 have vn:=vm.le cj
 have vo:=vn.le bU
 have vp:=vo.le bO
 have vq:=vp.le bH
 have vr:=vq.le bu
 have vt:=vr.le bb
 have vu:=vt.le bc
 have vv:=vu.le bd
 have vw:=vv.le aV
 have vx:=vw.le aQ
 have vy:=vx.le aM
 have vz:=vy.le aK
 have vA:=vz.le aL
 have vB:=vA.le aG
 have vC:=vB.le ax
 have vD:=vC.le ay
 have vE:=vD.le az
 have vF:=vE.le au
 have vG:=vF.le ao
 have vH:=vG.le ap
 have vI:=vH.le a9
 have vJ:=vI.le ba
 have vK:=vJ.le bT
 refine bnK k7 fun IC vL DI=>zD 0 Z Z Z Z (zE Z Z Tryz.call21 (zB Z (zB Z zM)) Z) fZ (fun hs=>wEt (⟨bG,br,bs,bt⟩:wAA) bI bN bz bC bA bD bB bE p0 ct cy cu cz cw cA cx cC l0 Fk hs tI tL tO tR um uP vk vK vL) (.inr Z) ?_
 rintro gg FQ H8 gW ls A8 ⟨rfl,rfl⟩
 have jU:sW w φ gg [.blk an 39 aq,.blk ab 29 B2,.blk b6 29 O,.blk b2 27 B0,.blk ag 27 ai,.blk aj 36 ah,.blk ak 44 O,.blk am 44 B2] gW:=A8
 refine oM Z Z (ifc DI ?_ ?_)
 intro bZ DJ
 refine zw Z Z Z (zI Z Z (congrArg hJ bZ.out)) Z m0 (zw Z Z Z (zI Z Z (congrArg hJ bZ.out)) Z mX ?_)
 have vM:=fJ.le aG
 have vN:=vM.le ax
 have vO:=vN.le ay
 have vP:=vO.le az
 have vQ:=vP.le au
 have vR:=vQ.le ao
 have vS:=vR.le ap
 have vT:=vS.le a9
 have vU:=vT.le ba
 have vV:=vU.le bT
 have vW:=vV.le ls
 have vX:=fK.le ax
 have vY:=vX.le ay
 have vZ:=vY.le az
 have v4:=vZ.le au
 have v5:=v4.le ao
 have v7:=v5.le ap
 have v8:=v7.le a9
 have v9:=v8.le ba
 have wc:=v9.le bT
 have wd:=wc.le ls
 refine bnK DJ fun ID we DK=>zD 0 Z Z Z (zI Z Z (congrArg hJ bZ.out)) (zE Z Z Tryz.call55 (zB Z (zB Z zM)) Z) jU (fun hs=>wDa aP aR aU p3 aN aO gW gg hs vW wd we) (.inr Z) ?_
 rintro gh FS H9 gX HC A9 ⟨rfl,rfl⟩
 have jW:sW w φ gh [.blk an 39 aq,.blk ab 29 B2,.blk b6 29 O,.blk b2 27 B0,.blk ag 27 ai,.blk aj 36 ah,.blk ak 44 O,.blk am 44 B2] gX:=A9
 refine oR Z (zR Z (congrArg hJ bZ.out) Z) (oM Z Z (ifc DK ?_ ?_))
 intro dv DL
 refine bnK DL fun IE wg DM=>zD 0 Z Z Z (zI Z Z (congrArg hJ dv.out)) (zE Z Z Tryz.call9 zM Z) jW (fun hs=>wCv gX gh hs wg) (.inr Z) ?_
 rintro lH FT Ia l3 HD Ba ⟨rfl,rfl⟩
 have Bb:sW w φ lH [.blk an 39 aq,.blk ab 29 B2,.blk b6 29 O,.blk b2 27 B0,.blk ag 27 ai,.blk aj 36 ah,.blk ak 44 O,.blk am 44 B2] l3:=Ba
 refine oR Z (zR Z (congrArg hJ dv.out) Z) (oA Z Z (eN (zO ?_)))
 have hE:=hH DM;first | subst r | cases hE
 exact ⟨rfl,_,(ZA rfl),lH,_,(Bb.pick [] _ (by decide) rfl),rfl,rfl⟩
 intro dv DN
 refine ZC Z Z Z (zP Z Z (congrArg hJ (hU.2 dv.out)) Z) (oR Z (zW Z (congrArg hJ (hU.2 dv.out)) Z) (oA Z Z (eN (zO ?_))))
 have hE:=hH DN;first | subst r | cases hE
 exact ⟨rfl,_,(ZA rfl),gh,_,(jW.pick [] _ (by decide) rfl),rfl,rfl⟩
 intro bZ DO
 refine zy Z Z Z (zP Z Z (congrArg hJ (hU.2 bZ.out)) Z) (zy Z Z Z (zP Z Z (congrArg hJ (hU.2 bZ.out)) Z) (ZC Z Z Z (zP Z Z (congrArg hJ (hU.2 bZ.out)) Z) (oR Z (zW Z (congrArg hJ (hU.2 bZ.out)) Z) (oM Z Z (ZC Z Z Z (zP Z Z Z Z) (oR Z (zW Z Z Z) (oA Z Z (eN (zO ?_)))))))))
 have hE:=hH DO;first | subst r | cases hE
 exact ⟨rfl,_,(ZA rfl),gg,_,(jU.pick [] _ (by decide) rfl),rfl,rfl⟩
 intro fm DP
 refine cT Z fm (sR fL1 Z (oA Z Z (eN (zO (zQ ?_)))))
 have hE:=hH DP;first | subst r | cases hE
 exact ⟨rfl,_,(ZA rfl),ew,_,(cY.pick [] _ (by decide) rfl),rfl,rfl⟩
 intro cb DQ
 refine oT Z cb (oT Z cb (oT Z cb (oR Z (zR Z (Zd cb.out) Z) (eN (ZD Z (sR fL1 Z (oA Z Z (eN (zO (zQ ?_))))))))))
 have hE:=hH DQ;first | subst r | cases hE
 exact ⟨rfl,_,(ZA rfl),ew,_,(cY.pick [] _ (by decide) rfl),rfl,rfl⟩
 intro fk DR
 refine cT Z fk (sR fL1 Z (oA Z Z (eN (zO (zQ ?_)))))
 have hE:=hH DR;first | subst r | cases hE
 exact ⟨rfl,_,(ZA rfl),eu,_,(dZ.pick [] _ (by decide) rfl),rfl,rfl⟩
 intro ca DS
 refine oT Z ca (oT Z ca (oT Z ca (oR Z (zR Z (Zd ca.out) Z) (eN (ZD Z (sR fL1 Z (oA Z Z (eN (zO (zQ ?_))))))))))
 have hE:=hH DS;first | subst r | cases hE
 exact ⟨rfl,_,(ZA rfl),eu,_,(dZ.pick [] _ (by decide) rfl),rfl,rfl⟩
end Go.Proofs.YtlnfbjphfoipaaaGreat
