import Derived.Test.YtkeeechdijfkhaaGreatY7
import Derived.Test.YtkeeechdijfkhaaGreatY6
import Derived.Test.YtkeeechdijfkhaaGreatY8
set_option linter.all false
open List renaming flatMap->nA,length_set->nE,getElem_cons_succ->nG,getElem_cons_zero->nH,getElem_toArray->nJ,set->nK,length_append->nN
open Option.some renaming inj->nB
open Go.Value renaming bool->nD
open Bool renaming eq_false_iff->nI
open Int renaming toNat_natCast->nL
open Eq renaming trans->nM
namespace Go.Proofs.YtkeeechdijfkhaaGreat
open Go.KL
def gDq:Sch:=.fx 0 (.fl 1 .nil) .stop
def gDr:Sch:=.fx 2 (.fl 3 .nil) .stop
def gDs:Sch:=.fx 3 (.fl 4 .nil) .stop
def gDt:Sch:=.fx 15 (.fl 16 (.fx 17 .nil .stop)) .stop
def gDu:Sch:=.fx 11 (.fl 12 (.fl 13 .nil)) .stop
def gDv:Sch:=.fl 0 (.fl 1 (.fx 2 .nil .stop))
def gDw:Sch:=.fl 0 (.fl 1 gDr)
def gDx:Sch:=.fl 0 (.fl 1 (.fx 2 (.fl 3 (.fl 4 .nil)) .stop))
set_option maxHeartbeats 4000000
theorem wCc (p0:Int) (p1:Int) (p2:Int) (w:World) (U:PHeap) (hS:St0 w U [])  {r:Bool} (hm:wBS p0 p1 p2=some r):Gv Tryz.prog 23 [jV p0,jV p1,jV p2] w (wCQ w [] U (fun U_ L_ v=>v=.bool r/\L_=[])):=by
 unfold wBS at hm
 refine Gv.of Tryz.func23 Z Tryz.ntmps23 Tryz.results23 Z (sR fL1 Z (oA Z Z (eN (sR fL9 Z (oM Z Z (oM Z Z (oR Z (Runs.geq Z Z Z) (oM Z Z ?_))))))))
 by_cases c1:p1 <= p0
 have ab:=hm;rw [if_pos c1] at ab;replace c1:=zO c1
 refine zL Z Z Z (wT Z c1) Z Z (zL Z Z Z (wT Z c1) Z Z (rU Z (wT Z c1) (yb Z Z Z) (oR Z (zY Z (ZY c1.out) Z) (oA Z Z (eN (zS ?_))))))
 first | (obtain rfl:=nB ab) | cases ab
 exact ⟨Z,_,(ZT Z),U,_,hS,Z,Z⟩
 have ai:=hm;rw [if_neg c1] at ai;replace c1:=zO c1
 refine oF Z c1 (oF Z c1 (oF Z c1 (oR Z (zZ Z (ZL c1.out) Z) (oA Z Z (eN (zS ?_))))))
 have hE:=nB ai;first | subst r | cases hE
 exact ⟨Z,_,(ZT Z),U,_,hS,Z,Z⟩
theorem wEH (p0:wAG) (p1:(wAG->Option Bool)) (ak:Nat) (ah:Value) (w:World) (U:PHeap) (hS:St0 w U []) (az:Cl U ak 0 [ah]) (aS:FnOK Tryz.prog U ah wRY wRZ p1) {r:Bool} (hm:wAw p0 p1=some r):Gv Tryz.prog 82 [.agg #[jV p0.Who,jV p0.From,jV p0.To],.pointer (some ⟨ak,0,none⟩)] w (wCQ w [] U (fun U_ L_ v=>v=.bool r/\L_=[])):=by
 unfold wAw at hm
 refine Gv.of Tryz.func82 Z Tryz.ntmps82 Tryz.results82 Z (sR gDq Z ?_)
 let B0:List Value:=[jV p0.Who,jV p0.From,jV p0.To]
 refine ZG (cs:=B0) rfl rfl rfl rfl rfl rfl (by rfl) hS ?_
 intro W1 b2 ae
 refine oA Z Z (eN (sR gDx Z (oL Z (ae.ldC (f:=0) az (v:=ah) Z Z Tryz.isAgg80 Z) (oL Z (ae.ldBA (j:=0) Z Z Z Tryz.isAgg62 yF (vs:=B0) Z Z) (bnK hm fun x5 h6 aT=>yZ (a:=p0) Z Z Z Z Z Z (zB Z zM) ae aS Z h6 ?_)))))
 rintro U8 L9 aX am aW au ⟨rfl,rfl⟩
 have av:sW w U U8 [.blk b2 62 B0] am:=au
 refine oR Z (Zb Z Z) (oA Z Z (eN (zS ?_)))
 cases aT
 exact ⟨rfl,_,(ZT rfl),U8,_,(av.pick [] _ (by decide) rfl),rfl,rfl⟩
theorem wCR (p0:List wAG) (aq:Option Addr) (au:Nat) (p1:(wAG->Option Bool)) (av:Value) (w:World) (U:PHeap) (hS:St0 w U []) (bt:Sl U 3 aq au p0.length (nA wAY p0)) (bu:FnOK Tryz.prog U av wRY wRZ p1) {r:Int} (hm:wAh p0 p1=some r):Gv Tryz.prog 39 [.slice aq p0.length au,av] w (wCQ w [] U (fun U_ L_ v=>v=jV r/\L_=[])):=by
 unfold wAh at hm
 refine Gv.of Tryz.func39 Z Tryz.ntmps39 Tryz.results39 Z (sR fL1 Z (oA Z Z (eN (zN (sR fL3 Z (oM Z Z (oR Z (ZU Z Z Zk) (oM Z Z (eN (zf ?_))))))))))
 have q:=wCY hm
 obtain ⟨r3,aj⟩:=q
 have q:=wCh aj
 obtain ⟨am,bz⟩:=q
 replace am:=zO am
 refine ya (fun k2 _ σ_ w_=>∃ (U_:PHeap),σ_ 8=jV (↑k2:Int)/\σ_ 0=.slice aq p0.length au/\σ_ 1=av/\σ_ 7=jV (↑p0.length:Int)/\PHeap.Le U U_/\sW w U U_ [] w_) bz ?_ ?_ ?_
 exact ⟨U,Z,Z,Z,Z,(zK _),hS⟩
 rintro k2 ⟨⟩ bU bW W8 ak ⟨bJ,ai,aS,aT,aU,ap,aW⟩ aZ bv
 try dsimp only at aZ
 have az:Hid ((↑k2:Int) < (↑p0.length:Int)):=zO (wBs ak)
 replace ak:=zO ak
 have bA:Hid (w64 ((↑k2:Int) + 1)=(↑(k2 + 1):Int)):=zO (by have h1:=am.out;have h2:=az.out;rw [wAb] <;> omega)
 refine sR fL1 Z (oR Z (zP Z ai aU) (eN (zN (cT Z az (kN (zN (zf (sR fL2 Z (oM Z ai (oA Z Z (eN (sR (wDC (.fx 5 .nil .stop)) Z (oM Z aT (oM Z aS (oM Z Z (bnK aZ fun x22 aV bB=>?_))))))))))))))))
 have bk:=bt.le ap
 have q:=bk.el (fun _=>rfl) (wBB aV)
 obtain ⟨bM,bQ,bo,bp⟩:=q
 refine oR Z (yQ Z Z bo Z Zk yF (wFk aV)) (oL Z (aW.ldCA (f:=0) bp Z Z Tryz.isAgg62 yF (us:=[jV x22.Who,jV x22.From,jV x22.To]) Z Z) (bnK bB fun bT bm bC=>?_))
 have bn:=bu.le ap
 refine yZ (a:=x22) Z Z Z Z Z Z (zB Z zM) aW bn Z bm ?_
 rintro ae bI bS bf bG bq ⟨rfl,rfl⟩
 have aX:sW w U ae [] bf:=bq
 refine eN (ifc bC ?_ ?_)
 intro ah bD
 refine ZH (congrArg nD ah.out) (sR fL2 Z (oM Z Z (oA Z Z (eN (zS (zo (zW ?_)))))))
 have q:=wAe bD
 obtain ⟨bH,bE,bh⟩:=q
 have q:=wCA hm aj (bv bH bh)
 obtain rfl:=q
 refine zW (zo (zW ?_))
 cases bE
 exact ⟨Z,_,(ZT Z),ae,_,aX,Z,Z⟩
 intro ah bF
 refine zn (congrArg nD (nI.2 ah.out)) (ZS (zm (zI (rR fL2 Z (oR Z (Zc (zU Z ai Z) (congrArg (jV) bA.out)) (oM Z Z (zd ?_)))))))
 have q:=nB bF
 obtain rfl:=q
 exact zI ⟨Z,_,Z,⟨ae,Z,aS,aT,aU,(ap.trans bG),aX⟩⟩
 rintro ⟨⟩ bV bK ⟨bb,bj,bN,bO,bi,bP,br⟩ bw
 have aY:=wDe hm aj bw
 try dsimp only at aY
 have bg:Hid (¬ ((↑(((↑p0.length:Int):Int) - 0).toNat:Int) < (↑p0.length:Int))):=zO (wBM)
 refine sR fL1 Z (oR Z (zP Z bj bi) (eN (zN (cF Z bg (ZX (zj (zj (ZN (zI (sR fL1 Z (oA Z Z (eN (zS ?_)))))))))))))
 cases aY
 exact ⟨Z,_,(ZT Z),bb,_,br,Z,Z⟩
theorem wBG (p0:List wAG) (ae:Option Addr) (ah:Nat) (p1:(wAG->Option Bool)) (ai:Value) (w:World) (U:PHeap) (hS:St0 w U []) (av:Sl U 3 ae ah p0.length (nA wAY p0)) (az:FnOK Tryz.prog U ai wRY wRZ p1) {r:Bool} (hm:wAX p0 p1=some r):Gv Tryz.prog 24 [.slice ae p0.length ah,ai] w (wCQ w [] U (fun U_ L_ v=>v=.bool r/\L_=[])):=by
 unfold wAX at hm
 refine Gv.of Tryz.func24 Z Tryz.ntmps24 Tryz.results24 Z (sR fL1 Z (oA Z Z (eN (sR gDx Z (oM Z Z (oM Z Z (bnK hm fun x1 h2 ak=>zH 0 Z Z Z Z (zG Z Z Tryz.call39 (zB Z (zB Z zM)) Z) hS (fun hs=>wCR p0 ae ah p1 ai w U hs av az h2) (.inr Z) ?_)))))))
 rintro U4 L5 v6 W7 aT au ⟨rfl,rfl⟩
 have aq:sW w U U4 [] W7:=au
 refine oR Z (Runs.geq Z Z Z) (oA Z Z (eN (zS ?_)))
 first | (obtain rfl:=nB ak) | cases ak
 exact ⟨Z,_,(ZT Z),U4,_,aq,Z,Z⟩
theorem wEd (p0:List wAG) (ak:Option Addr) (am:Nat) (p1:(wAG->Option Bool)) (ai:Value) (w:World) (U:PHeap) (hS:St0 w U []) (bf:Sl U 3 ak am p0.length (nA wAY p0)) (au:FnOK Tryz.prog U ai wRY wRZ p1) {r:Bool} (hm:wBi p0 p1=some r):Gv Tryz.prog 57 [.slice ak p0.length am,ai] w (wCQ w [] U (fun U_ L_ v=>v=.bool r/\L_=[])):=by
 unfold wBi at hm
 refine Gv.of Tryz.func57 Z Tryz.ntmps57 Tryz.results57 Z (sR gDq Z (ZG (cs:=[ai]) Z Z Z Z Z Z (FnOK.cells au) hS ?_))
 intro W1 b2 aZ
 have q:=aZ.freeze (k:=0) rfl
 obtain ⟨U5,av,ab,ba⟩:=q
 replace ab:=Cl.of ab
 have bb:sW w U U5 [] W1:=ba
 replace ab:Cl U5 b2 0 [ai]:=ab
 refine oA Z Z (eN (sR gDx Z (oM Z Z (oR Z (Runs.mkf Z zM (zB Z zM)) ?_))))
 have aT:=bf.le av
 have aU:=au.le av
 have aW:FnOK Tryz.prog U5 (.func (.func 82) #[] #[.pointer (some ⟨b2,0,none⟩)]) wRY wRZ (fun x=>wAw x p1):=⟨82,[],[.pointer (some ⟨b2,0,none⟩)],rfl,Tryz.call82,fun U1 w1 x y vs le hs ha hm=>by obtain rfl:=ha;exact wEH x p1 b2 ai w1 U1 hs (ab.le le) (aU.le le) hm⟩
 refine bnK hm fun bm aV bg=>zH 0 Z Z Z Z (zG Z Z Tryz.call24 (zB Z (zB Z zM)) Z) bb (fun hs=>wBG p0 ak am (fun x=>wAw x p1) (.func (.func 82) #[] #[.pointer (some ⟨b2,0,none⟩)]) W1 U5 hs aT aW aV) (.inr Z) ?_
 rintro ap bi bk aS bj aX ⟨rfl,rfl⟩
 have aY:sW w U ap [] aS:=aX
 refine oR Z (Zb Z Z) (oA Z Z (eN (zS ?_)))
 cases bg
 exact ⟨Z,_,(ZT Z),ap,_,aY,Z,Z⟩
theorem wFD (p0:wAG) (w:World) (U:PHeap) (hS:St0 w U [])  {r:Bool} (hm:wBH p0=some r):Gv Tryz.prog 58 [.agg #[jV p0.Who,jV p0.From,jV p0.To]] w (wCQ w [] U (fun U_ L_ v=>v=.bool r/\L_=[])):=by
 unfold wBH at hm
 refine Gv.of Tryz.func58 Z Tryz.ntmps58 Tryz.results58 Z (sR gDq Z ?_)
 let B0:List Value:=[jV p0.Who,jV p0.From,jV p0.To]
 refine ZG (cs:=B0) rfl rfl rfl rfl rfl rfl (by rfl) hS ?_
 intro W1 b2 au
 refine oA Z Z (eN (sR (.fl 0 (.fl 1 (.fx 2 (wRv (.fx 8 (wTm (.nil)) .stop)) .stop))) Z (oR Z (zJ Z Z Zu Z zC) (oL Z (au.ldB (j:=0) Z Z Z zE (v:=jV p0.Who) Z) (bnK hm fun x5 h6 bb=>zH 0 Z Z Z Z (zG Z Z Tryz.call23 (zB Z (zB Z (zB Z zM))) Z) au (fun hs=>wCc p0.Who 0 99 W1 U hs h6) (.inr Z) ?_)))))
 rintro U8 L9 bj ap bh aV ⟨rfl,rfl⟩
 have ah:sW w U U8 [.blk b2 62 B0] ap:=aV
 refine oM Z Z (ifc bb ?_ ?_)
 intro ab aX
 refine zV Z Z Z (zR Z Z (congrArg nD ab.out)) (fun _=>zJ Z Z Zu Z zC) (ZD Z Z Z (zR Z Z (congrArg nD ab.out)) (ah.ldB (j:=0) Z Z Z zE (v:=jV p0.From) Z) Z (zV Z Z Z (zR Z Z (congrArg nD ab.out)) (fun _=>zJ Z Z Zu Z zC) (ZD Z Z Z (zR Z Z (congrArg nD ab.out)) (ah.ldB (j:=0) Z Z Z zE (v:=jV p0.To) Z) Z (bnK aX fun bm aT aY=>zH 0 Z Z Z (zR Z Z (congrArg nD ab.out)) (zG Z Z Tryz.call23 (zB Z (zB Z (zB Z zM))) Z) ah (fun hs=>wCc p0.From 0 p0.To ap U8 hs aT) (.inr Z) ?_))))
 rintro aj bf bk aS bi aW ⟨rfl,rfl⟩
 have am:sW w U aj [.blk b2 62 B0] aS:=aW
 refine oR Z (zY Z (congrArg nD ab.out) Z) (oM Z Z (ifc aY ?_ ?_))
 intro ae av
 refine zV Z Z Z (zR Z Z (congrArg nD ae.out)) (fun _=>zJ Z Z Zu Z zC) (ZD Z Z Z (zR Z Z (congrArg nD ae.out)) (am.ldB (j:=0) Z Z Z zE (v:=jV p0.To) Z) Z (zV Z Z Z (zR Z Z (congrArg nD ae.out)) (fun _=>yb Z Z Z) (oR Z (zY Z (congrArg nD ae.out) Z) (oA Z Z (eN (zS ?_))))))
 first | (obtain rfl:=nB av) | cases av
 exact ⟨rfl,_,(ZT rfl),aj,_,(am.pick [] _ (by decide) rfl),rfl,rfl⟩
 intro ae aZ
 refine ZW Z Z Z (ZA Z Z (congrArg nD (nI.2 ae.out)) Z) (ZW Z Z Z (ZA Z Z (congrArg nD (nI.2 ae.out)) Z) (ZW Z Z Z (ZA Z Z (congrArg nD (nI.2 ae.out)) Z) (oR Z (zZ Z (congrArg nD (nI.2 ae.out)) Z) (oA Z Z (eN (zS ?_))))))
 have hE:=nB aZ;first | subst r | cases hE
 exact ⟨rfl,_,(ZT rfl),aj,_,(am.pick [] _ (by decide) rfl),rfl,rfl⟩
 intro ab ba
 refine ZW Z Z Z (ZA Z Z (congrArg nD (nI.2 ab.out)) Z) (ZW Z Z Z (ZA Z Z (congrArg nD (nI.2 ab.out)) Z) (ZW Z Z Z (ZA Z Z (congrArg nD (nI.2 ab.out)) Z) (ZW Z Z Z (ZA Z Z (congrArg nD (nI.2 ab.out)) Z) (OKS.px Z Z Z (ZA Z Z (congrArg nD (nI.2 ab.out)) Z) (oR Z (zZ Z (congrArg nD (nI.2 ab.out)) Z) (oM Z Z (oN Z (oN Z (oN Z (oR Z (zZ Z Z Z) (oA Z Z (eN (zS ?_)))))))))))))
 have hE:=nB ba;first | subst r | cases hE
 exact ⟨rfl,_,(ZT rfl),U8,_,(ah.pick [] _ (by decide) rfl),rfl,rfl⟩
theorem wFw (p0:List wAG) (aj:Option Addr) (ak:Nat) (w:World) (U:PHeap) (hS:St0 w U []) (aX:Sl U 3 aj ak p0.length (nA wAY p0)) {r:Int} (hm:wCN p0=some r):Gv Tryz.prog 36 [.slice aj p0.length ak] w (wCQ w [] U (fun U_ L_ v=>v=jV r/\L_=[])):=by
 unfold wCN at hm
 refine Gv.of Tryz.func36 Z Tryz.ntmps36 Tryz.results36 Z (sR fL1 Z (oA Z Z (eN (zN (zf (sR gDx Z (oM Z Z (oR Z (ZU Z Z Zk) (bnK hm fun x1 h2 bg=>zH 0 Z Z Z Z (zG Z Z Tryz.call23 (zB Z (zB Z (zB Z zM))) Z) hS (fun hs=>wCc (↑p0.length:Int) 1 30 w U hs h2) (.inr Z) ?_)))))))))
 rintro U4 L5 v6 W7 bh aW ⟨rfl,rfl⟩
 have ap:sW w U U4 [] W7:=aW
 refine oR Z (Zb Z Z) (oA Z Z (eN (ifc bg ?_ ?_)))
 intro ah aY
 refine zn (nC ah.out) (sR (.fl 0 (.fx 1 (.fl 2 (.fl 3 .nil)) .stop)) Z (oM Z Z ?_))
 have az:=aX.le bh
 have aU:FnOK Tryz.prog U4 (.func (.func 58) #[] #[]) wRY wRZ wBH:=⟨58,[],[],rfl,Tryz.call58,fun U1 w1 x y vs le hs ha hm=>by obtain rfl:=ha;exact wFD x w1 U1 hs  hm⟩
 refine bnK aY fun bq aS aZ=>zH 0 Z Z Z Z (zG Z Z Tryz.call57 (zB Z (zB Z zM)) Z) ap (fun hs=>wEd p0 aj ak wBH (.func (.func 58) #[] #[]) W7 U4 hs az aU aS) (.inr Z) ?_
 rintro ae bj bn av bm aV ⟨rfl,rfl⟩
 have aq:sW w U ae [] av:=aV
 refine oR Z (Zb Z Z) (oA Z Z (eN (ifc aZ ?_ ?_)))
 intro ai ba
 refine zn (nC ai.out) (ZS (zm (zI (sR fL1 Z (oA Z Z (eN (zS ?_)))))))
 cases ba
 exact ⟨Z,_,(ZT Z),ae,_,aq,Z,Z⟩
 intro ai bb
 refine ZH (nF (ai.out)) (sR fL1 Z (oA Z Z (eN (zS (zo (zW ?_))))))
 cases bb
 exact ⟨Z,_,(ZT Z),ae,_,aq,Z,Z⟩
 intro ah bf
 refine ZH (nF (ah.out)) (sR fL1 Z (oA Z Z (eN (zS (zo (zW ?_))))))
 cases bf
 exact ⟨Z,_,(ZT Z),U4,_,ap,Z,Z⟩
theorem wDt (p0:List wAG) (aq:Option Addr) (au:Nat) (p1:Int) (p2:Int) (w:World) (U:PHeap) (hS:St0 w U []) (aY:Sl U 3 aq au p0.length (nA wAY p0)) {r:Int} (hm:wBg p0 p1 p2=some r):Gv Tryz.prog 21 [.slice aq p0.length au,jV p1,jV p2] w (wCQ w [] U (fun U_ L_ v=>v=jV r/\L_=[])):=by
 unfold wBg at hm
 refine Gv.of Tryz.func21 Z Tryz.ntmps21 Tryz.results21 Z (sR fL1 Z (oA Z Z (eN (zN (sR (.fl 0 (.fx 1 (.fl 2 .nil) .stop)) Z (oM Z Z (bnK hm fun x1 h2 bi=>zH 0 Z Z Z Z (zG Z Z Tryz.call36 (zB Z zM) Z) hS (fun hs=>wFw p0 aq au w U hs aY h2) (.inr Z) ?_)))))))
 rintro U4 L5 v6 W7 bq aX ⟨rfl,rfl⟩
 have az:sW w U U4 [] W7:=aX
 refine oA Z Z (eN (sR fL2 Z (oM Z Z (oR Z (yU Z Z Z) (eN (ifc bi ?_ ?_))))))
 intro ak aZ
 refine zn (ZL (fun h=>h ak.out)) (kN (zN (sR (.fl 0 (.fx 1 (wTe (.nil)) .stop)) Z (oM Z Z (bnK aZ fun bv aU ba=>zH 0 Z Z Z Z (zG Z Z Tryz.call23 (zB Z (zB Z (zB Z zM))) Z) az (fun hs=>wCc p1 0 10000 W7 U4 hs aU) (.inr Z) ?_)))))
 rintro ae bn br aT bp aW ⟨rfl,rfl⟩
 have ai:sW w U ae [] aT:=aW
 refine oR Z (Zb Z Z) (oM Z Z (ifc ba ?_ ?_))
 intro aa bb
 refine zL Z Z Z (zR Z Z (nC aa.out)) Z Z (zL Z Z Z (zR Z Z (nC aa.out)) Z Z (zV Z Z Z (zR Z Z (nC aa.out)) (fun _=>yb Z Z Z) (oR Z (zZ Z (nC aa.out) Z) (oM Z Z (ifc bb ?_ ?_)))))
 intro ab bf
 refine oT Z ab (oT Z ab (oR Z (zY Z (ZY ab.out) Z) (eN (ZH Z (sR fL1 Z (oA Z Z (eN (zS (zW ?_)))))))))
 cases bf
 exact ⟨Z,_,(ZT Z),ae,_,ai,Z,Z⟩
 intro ab bg
 refine zL Z Z Z (wF Z ab) Z Z (rU Z (wF Z ab) (yN Z Z Z) (oR Z (zZ Z (ZL ab.out) Z) (eN (ifc bg ?_ ?_))))
 intro am bh
 refine cT Z am (sR fL1 Z (oA Z Z (eN (zS (zW ?_)))))
 cases bh
 exact ⟨Z,_,(ZT Z),ae,_,ai,Z,Z⟩
 intro am bj
 refine cF Z am (kN (sR fL1 Z (oA Z Z (eN (zS ?_)))))
 cases bj
 exact ⟨Z,_,(ZT Z),ae,_,ai,Z,Z⟩
 intro aa bk
 refine ZW Z Z Z (ZA Z Z (nF (aa.out)) Z) (ZW Z Z Z (ZA Z Z (nF (aa.out)) Z) (ZW Z Z Z (ZA Z Z (nF (aa.out)) Z) (oR Z (zY Z (nF (aa.out)) Z) (oM Z Z (oN Z (oN Z (oR Z (zY Z Z Z) (eN (ZH Z (sR fL1 Z (oA Z Z (eN (zS (zW ?_))))))))))))))
 cases bk
 exact ⟨Z,_,(ZT Z),ae,_,ai,Z,Z⟩
 intro ak bm
 refine cT Z ak (sR fL2 Z (oM Z Z (oA Z Z (eN (zS (zW ?_))))))
 have hE:=nB bm;first | subst r | cases hE
 exact ⟨Z,_,(ZT Z),U4,_,az,Z,Z⟩
theorem wHU (p0:Int) (p1:Int) (p2:List wAG) (au:Nat) (ae:Option Addr) (ah:Nat) (w:World) (U:PHeap) (hS:St0 w U []) (ak:Cl U au 0 [.slice ae p2.length ah]) (am:Sl U 3 ae ah p2.length (nA wAY p2)) {r:Int} (hm:wBh p0 p1 p2=some r):Gv Tryz.prog 38 [jV p0,jV p1,.pointer (some ⟨au,0,none⟩)] w (wCQ w [] U (fun U_ L_ v=>v=jV r/\L_=[])):=by
 unfold wBh at hm
 refine Gv.of Tryz.func38 rfl Tryz.ntmps38 Tryz.results38 rfl (sR fL1 rfl (Zx rfl rfl rfl rfl rfl rfl (eN (zN (zt zq [1,3,3,3,1,1,3,3,3,1,3,3] fL12 (by kernel_rfl) ?_)))))
 have aa:=hS.drew
 generalize hw_W2:({ w with drawn:=w.drawn + 1 }:World)=W2 at aa ⊢
 refine oL Z (aa.ldC (f:=0) ak (v:=.slice ae p2.length ah) Z Z Tryz.isAgg34 Z) (oM Z Z (bnK hm fun x3 h4 aV=>?_))
 have q:=am.el (fun _=>rfl) (wBB h4)
 obtain ⟨b6,bf,az,aT⟩:=q
 refine oR Z (zl Z Z az Z Zk yF (wCC h4) (wCL h4)) (oR Z (zJ Z Z Zu Z zC) (oL Z (aa.ldC (f:=2) aT (v:=jV x3.To) Z Z zE Z) (oL Z (aa.ldC (f:=0) ak (v:=.slice ae p2.length ah) Z Z Tryz.isAgg34 Z) (oM Z Z (bnK aV fun aW ai aU=>?_)))))
 have q:=am.el (fun _=>rfl) (wBB ai)
 obtain ⟨aZ,bb,av,aS⟩:=q
 refine oR Z (zl Z Z av Z Zk yF (wCC ai) (wCL ai)) (oR Z (zJ Z Z Zu Z zC) (oL Z (aa.ldC (f:=2) aS (v:=jV aW.To) Z Z zE Z) (oR Z (ZV Z Z Z) (oA Z Z (eN (zS ?_))))))
 cases aU
 exact ⟨Z,_,(ZT Z),U,_,aa,Z,Z⟩
theorem wBl (p0:List Int) (ah:Option Addr) (ai:Nat) (p1:Int) (p2:Int) (p3:((Int × Int)->Option Int)) (bf:Value) (w:World) (U:PHeap) (hS:St0 w U [.row ah ai 3 1 (nA KL.encI p0)]) (bY:FnOK Tryz.prog U bf wRa wRb p3) {r:(List Int)} (hm:wAU p0 p1 p2 p3=some r):Gv Tryz.prog 83 [.slice ah p0.length ai,jV p1,jV p2,bf] w (wCQ w [.row ah ai 3 1 (nA KL.encI p0)] U (fun U_ L_ v=>v=.tuple #[]/\L_=[.row ah ai 3 1 (nA KL.encI r)]/\r.length=p0.length)):=by
 unfold wAU at hm
 refine Gv.of Tryz.func83 Z Tryz.ntmps83 Tryz.results83 Z (sR fL3 Z (oM Z Z (oR Z (zU Z Z Z) (oA Z Z (eN (zf ?_))))))
 let B0:Res:=.row ah ai 3 1 (nA KL.encI p0)
 refine yf (fun (l8,x9) σ_ w_=>∃ (U_:PHeap),σ_ 0=.slice ah l8.length ai/\σ_ 1=jV p1/\σ_ 2=jV p2/\σ_ 3=bf/\σ_ 8=jV x9/\PHeap.Le U U_/\SW w [B0] U U_ [.row ah ai 3 1 (nA KL.encI l8)] w_/\l8.length=p0.length) hm ?_ ?_
 exact ⟨U,Z,Z,Z,Z,Z,(zK _),hS,Z⟩
 rintro ⟨l8,x9⟩ cK cM cC ⟨bg,bM,bN,bt,bO,bj,bq,bv,bu⟩ bo bZ
 try dsimp only at bo
 refine zN (sR fL3 Z (oM Z bj (oM Z bt (oR Z (zP Z Z Z) (eN ?_)))))
 by_cases ap:x9 < p2
 have bC:=bo;rw [if_pos ap] at bC;replace ap:=zO ap
 refine cT Z ap (kN (zN (zf (sR fL2 Z (oM Z bj (oA Z Z (eN (zf (yf (fun (aa,ae) σ_ w_=>∃ (U_:PHeap),σ_ 0=.slice ah aa.length ai/\σ_ 1=jV p1/\σ_ 2=jV p2/\σ_ 3=bf/\σ_ 8=jV x9/\σ_ 9=jV ae/\PHeap.Le bg U_/\SW w [B0] U U_ [.row ah ai 3 1 (nA KL.encI aa)] w_/\aa.length=p0.length) bC ?_ ?_)))))))))
 exact ⟨bg,bM,bN,bt,bO,bj,Z,(zK _),bv,bu⟩
 rintro ⟨aa,ae⟩ cL cN br ⟨bG,am,aX,bk,aY,bm,aq,bb,bS,bn⟩ bp bz
 try dsimp only at bp
 refine zN (zN (zt zq [3,3,3,3,3,3,3,3,1,3,3,3,3,1,2,3,3] (wTY (.fx 14 (.fl 15 (.fl 16 .nil)) .stop)) (by kernel_rfl) ?_))
 have az:=bS.drew
 generalize hw_W54:({ br with drawn:=br.drawn + 1 }:World)=cD at az ⊢
 refine oM Z aq (oM Z aX (oR Z (yN Z Z Z) (oM Z Z ?_)))
 by_cases ab:p1 < ae
 have bD:=bp;rw [if_pos ab] at bD;replace ab:=zO ab
 refine zL Z Z Z (wT Z ab) Z aY (zL Z Z Z (wT Z ab) Z am (zL Z Z Z (wT Z ab) Z aq (bnK bD fun _ ak cp=>?_)))
 obtain ⟨cH,aj⟩:=az.rowSome (j:=0) rfl (by rw [wAE (f:=KL.encI) (sz:=1) (fun _=>rfl) aa];have hz:=wAT ak;omega)
 refine rU Z (wT Z ab) (zl Z Z aj Z zD zC (wAu ak) (wAv ak)) ?_
 have cb:=wAx (xs:=aa) (wAT ak)
 refine ZD rfl rfl rfl (zR rfl rfl (ZY ab.out)) (az.ldR (j:=0) rfl aj rfl rfl zE (wAS (sz:=1) (fun _=>rfl) _ _ 0 _ cb (by first | omega | rfl | simp) rfl)) rfl (zL rfl rfl rfl (zR rfl rfl (ZY ab.out)) rfl am (zL rfl rfl rfl (zR rfl rfl (ZY ab.out)) rfl aq (zV rfl rfl rfl (zR rfl rfl (ZY ab.out)) (fun _=>ZV rfl rfl rfl) (bnK cp fun _ av cq=>zV rfl rfl rfl (zR rfl rfl (ZY ab.out)) (fun _=>zl rfl rfl aj rfl zD zC (wAu av) (wAv av)) ?_))))
 have cd:=wAx (xs:=aa) (wAT av)
 refine ZD rfl rfl rfl (zR rfl rfl (ZY ab.out)) (az.ldR (j:=0) rfl aj rfl rfl zE (wAS (sz:=1) (fun _=>rfl) _ _ 0 _ cd (by first | omega | rfl | simp) rfl)) rfl (bnK cq fun cJ bP cr=>?_)
 have bQ:=bY.le bq
 have bR:=bQ.le bb
 refine yZ (a:=((gd aa ae.toNat),(gd aa (w64 (ae - 1)).toNat))) Z Z Z (wT Z ab) Z Z (zB Z (zB Z zM)) az bR Z bP ?_
 rintro aT cB cI bh bE bT ⟨rfl,rfl⟩
 have bw:SW w [B0] U aT [.row ah ai 3 1 (nA KL.encI aa)] bh:=bT
 refine rU Z (wT Z ab) (zP Z Z Z) (oR Z (zY Z (ZY ab.out) Z) (eN (ifc cr ?_ ?_)))
 intro bi ct
 refine cT Z bi (kN (zN (zf (zt zq [3,3,3,3,3,3,3,3,3,1,3,3,3,1,3,0,3,0] (wJw gDt) (by kernel_rfl) ?_))))
 have aZ:=bw.drew
 generalize hw_W80:({ bh with drawn:=bh.drawn + 1 }:World)=cG at aZ ⊢
 refine oM Z am (oM Z aq (oM Z am (oM Z aq (oR Z (ZV Z Z Z) (oM Z am (oM Z aq (oR Z (ZV Z Z Z) (oR Z (zl Z Z aj Z zD zC (wAu av) (wAv av)) ?_))))))))
 have cf:=wAx (xs:=aa) (wAT av)
 refine ZD rfl rfl rfl rfl (aZ.ldR (j:=0) rfl aj rfl rfl zE (wAS (sz:=1) (fun _=>rfl) _ _ 0 _ cf (by first | omega | rfl | simp) rfl)) rfl (zL rfl rfl rfl rfl rfl am (zL rfl rfl rfl rfl rfl aq (zV rfl rfl rfl rfl (fun _=>zl rfl rfl aj rfl zD zC (wAu ak) (wAv ak)) ?_)))
 have cg:=wAx (xs:=aa) (wAT ak)
 refine ZD rfl rfl rfl rfl (aZ.ldR (j:=0) rfl aj rfl rfl zE (wAS (sz:=1) (fun _=>rfl) _ _ 0 _ cg (by first | omega | rfl | simp) rfl)) rfl (zV rfl rfl rfl rfl (fun _=>zl rfl rfl aj rfl zD zC (wAu ak) (wAv ak)) ?_)
 have ci:=wAx (xs:=aa) (wAT ak)
 refine yJ (j:=0) (vs:=[jV (gd aa (w64 (ae - 1)).toNat)]) (cs':=nA KL.encI (nK aa ae.toNat (gd aa (w64 (ae - 1)).toNat))) rfl rfl rfl rfl aZ rfl aj rfl rfl rfl zC (by rw [wAE (f:=KL.encI) (sz:=1) (fun _=>rfl)];have hz:=wAT ak;show _ + 1 <= _;first | omega | (simp only [nL];omega) | (simp only [nJ,nG,nH];omega)) rfl (wBn (sz:=1) (fo:=0) (fun _=>rfl) _ _ _ _ ci (by first | omega | (simp only [nL];omega) | (simp only [nJ,nG,nH];omega)) (zA rfl) rfl) rfl ?_
 intro bH bU
 have bV:SW w [B0] U aT [.row ah ai 3 1 (nA KL.encI (nK aa ae.toNat (gd aa (w64 (ae - 1)).toNat)))] bH:=bU
 refine bnK ct fun _ aU cu=>zV rfl rfl rfl rfl (fun _=>zl rfl (nM (b:=(.slice ah aa.length ai:Value)) (c:=(.slice ah ((nK aa ae.toNat (gd aa (w64 (ae - 1)).toNat)).length) ai:Value)) rfl (by simp only [nE])) aj rfl zD zC (wAu aU) (wAv aU)) ?_
 have cj:=wAx (xs:=(nK aa ae.toNat (gd aa (w64 (ae - 1)).toNat))) (by first | exact wAT aU | (have hz:=wAT aU;simpa only [nE] using hz))
 refine yJ (j:=0) (vs:=[jV (gd aa ae.toNat)]) (cs':=nA KL.encI (nK (nK aa ae.toNat (gd aa (w64 (ae - 1)).toNat)) (w64 (ae - 1)).toNat (gd aa ae.toNat))) rfl rfl rfl rfl bV rfl aj rfl rfl rfl zC (by rw [wAE (f:=KL.encI) (sz:=1) (fun _=>rfl)];have hz:=wAT aU;show _ + 1 <= _;first | omega | (simp only [nE];omega) | (simp only [nJ,nG,nH,nE];omega) | (simp only [nL];omega) | (simp only [nJ,nG,nH];omega)) rfl (wBn (sz:=1) (fo:=0) (fun _=>rfl) _ _ _ _ cj (by first | omega | (simp only [nL];omega) | (simp only [nJ,nG,nH];omega)) (zA rfl) rfl) rfl ?_
 intro bI bW
 have bX:SW w [B0] U aT [.row ah ai 3 1 (nA KL.encI (nK (nK aa ae.toNat (gd aa (w64 (ae - 1)).toNat)) (w64 (ae - 1)).toNat (gd aa ae.toNat)))] bI:=bW
 refine zd (zm (zI (rR fL3 Z (oM Z aq (oR Z (ZV Z Z Z) (oA Z Z (zd ?_)))))))
 have q:=nB cu
 obtain rfl:=q
 exact zI ⟨rfl,_,rfl,⟨aT,(nM (b:=(.slice ah ((nK aa ae.toNat (gd aa (w64 (ae - 1)).toNat)).length) ai:Value)) (c:=(.slice ah ((nK (nK aa ae.toNat (gd aa (w64 (ae - 1)).toNat)) (w64 (ae - 1)).toNat (gd aa ae.toNat)).length) ai:Value)) (nM (b:=(.slice ah aa.length ai:Value)) (c:=(.slice ah ((nK aa ae.toNat (gd aa (w64 (ae - 1)).toNat)).length) ai:Value)) am (by simp only [nE])) (by simp only [nE])),aX,bk,aY,bm,rfl,(bb.trans bE),bX,((nE.trans nE).trans bn)⟩⟩
 intro bi cw
 refine cF Z bi (ZX (zj ?_))
 have q:=wAe cw
 obtain ⟨cA,cx,bL⟩:=q
 have q:=bz cA bL
 obtain rfl:=q
 refine zj (ZN (zm (zI (rR fL3 Z (oM Z bm (oR Z (zU Z Z Z) (oA Z Z (zd ?_))))))))
 have q:=nB cx
 obtain rfl:=q
 exact zI ⟨Z,_,Z,⟨aT,am,aX,bk,aY,Z,((bq.trans bb).trans bE),bw,bn⟩⟩
 have bA:=bp;rw [if_neg ab] at bA;replace ab:=zO ab
 refine oF Z ab (oF Z ab (oF Z ab (oF Z ab (oF Z ab (oF Z ab (oF Z ab (oF Z ab (oF Z ab (oF Z ab (OKS.px Z Z Z (ZA Z Z (ZL ab.out) Z) (oF Z ab (oR Z (zZ Z (ZL ab.out) Z) (eN (zn Z (ZX (zj ?_))))))))))))))))
 have q:=wAe bA
 obtain ⟨cy,cm,bJ⟩:=q
 have q:=bz cy bJ
 obtain rfl:=q
 refine zj (ZN (zm (zI (rR fL3 Z (oM Z bm (oR Z (zU Z Z Z) (oA Z Z (zd ?_))))))))
 have q:=nB cm
 obtain rfl:=q
 exact zI ⟨Z,_,Z,⟨bG,am,aX,bk,aY,Z,(bq.trans bb),az,bn⟩⟩
 have bB:=bo;rw [if_neg ap] at bB;replace ap:=zO ap
 refine cF Z ap (ZX (zj ?_))
 have q:=wAe bB
 obtain ⟨cz,cn,bK⟩:=q
 have q:=bZ cz bK
 obtain rfl:=q
 refine zj (ZN ?_)
 have hE:=nB cn;first | subst r | cases hE
 exact ⟨Z,_,(wDk),bg,_,bv,Z,Z,bu⟩
theorem wBX (p0:List Int) (ai:Option Addr) (aj:Nat) (p1:Int) (p2:Int) (p3:Int) (p4:((Int × Int)->Option Int)) (bh:Value) (w:World) (U:PHeap) (hS:St0 w U [.row ai aj 3 1 (nA KL.encI p0)]) (bT:FnOK Tryz.prog U bh wRa wRb p4) {r:(List Int)} (hm:wAN p0 p1 p2 p3 p4=some r):Gv Tryz.prog 117 [.slice ai p0.length aj,jV p1,jV p2,jV p3,bh] w (wCQ w [.row ai aj 3 1 (nA KL.encI p0)] U (fun U_ L_ v=>v=.tuple #[]/\L_=[.row ai aj 3 1 (nA KL.encI r)]/\r.length=p0.length)):=by
 unfold wAN at hm
 refine Gv.of Tryz.func117 Z Tryz.ntmps117 Tryz.results117 Z (sR fL1 Z (oA Z Z (eN (zf (bnK hm fun bW bA bK=>?_)))))
 have q:=wCe bA
 obtain ⟨aZ,bB⟩:=q
 replace aZ:=zO aZ
 let B0:Res:=.row ai aj 3 1 (nA KL.encI p0)
 refine CK.forN' (fun k8 l7 σ_ w_=>∃ (U_:PHeap),σ_ 10=jV (↑k8:Int)/\σ_ 0=.slice ai l7.length aj/\σ_ 1=jV p1/\σ_ 2=jV p2/\σ_ 3=jV p3/\PHeap.Le U U_/\SW w [B0] U U_ [.row ai aj 3 1 (nA KL.encI l7)] w_/\l7.length=p0.length) bB ?_ ?_ ?_
 exact ⟨U,Z,Z,Z,Z,Z,(zK _),hS,Z⟩
 rintro k8 l7 bV bX ba aY ⟨aV,aq,av,aW,aX,bf,bM,br,bp⟩ bL
 have bb:Hid ((↑k8:Int) < p3):=zO (wBs aY)
 replace aY:=zO aY
 have bG:Hid (w64 ((↑k8:Int) + 1)=(↑(k8 + 1):Int)):=zO (by have h1:=aZ.out;have h2:=bb.out;rw [wAb] <;> omega)
 refine zN (sR fL3 rfl (zL rfl rfl rfl rfl rfl aq (zL rfl rfl rfl rfl rfl bf (zV rfl rfl rfl rfl (fun _=>zP rfl rfl rfl) (eN (cT Z bb (kN (zN (zf (zt zq [3,3,3,3,3,3,3,3,3,3,3,3,3,1,3,3,3,3,3,1,3,0,3,0] (wTb (.fx 21 (.fl 22 (.fx 23 .nil .stop)) .stop)) (by kernel_rfl) ?_))))))))))
 have aS:=br.drew
 generalize hw_W32:({ ba with drawn:=ba.drawn + 1 }:World)=bN at aS ⊢
 refine oM Z av (oM Z aW (oM Z aq (oR Z (zU Z Z Z) (oM Z av (oM Z aX (oM Z aq (oR Z (zU Z Z Z) (oM Z av (oM Z aX (oM Z aq (oR Z (zU Z Z Z) (bnK bL fun _ aT bH=>?_))))))))))))
 obtain ⟨bP,ak⟩:=aS.rowSome (j:=0) rfl (by rw [wAE (f:=KL.encI) (sz:=1) (fun _=>rfl) l7];have hz:=wAT aT;omega)
 refine oR Z (zl Z Z ak Z zD zC (wAu aT) (wAv aT)) ?_
 have bC:=wAx (xs:=l7) (wAT aT)
 refine ZD rfl rfl rfl rfl (aS.ldR (j:=0) rfl ak rfl rfl zE (wAS (sz:=1) (fun _=>rfl) _ _ 0 _ bC (by first | omega | rfl | simp) rfl)) rfl (zL rfl rfl rfl rfl rfl av (zL rfl rfl rfl rfl rfl aW (zL rfl rfl rfl rfl rfl aq (zV rfl rfl rfl rfl (fun _=>zU rfl rfl rfl) (bnK bH fun _ am bI=>zV rfl rfl rfl rfl (fun _=>zl rfl rfl ak rfl zD zC (wAu am) (wAv am)) ?_)))))
 have bD:=wAx (xs:=l7) (wAT am)
 refine ZD rfl rfl rfl rfl (aS.ldR (j:=0) rfl ak rfl rfl zE (wAS (sz:=1) (fun _=>rfl) _ _ 0 _ bD (by first | omega | rfl | simp) rfl)) rfl (zV rfl rfl rfl rfl (fun _=>zl rfl rfl ak rfl zD zC (wAu am) (wAv am)) ?_)
 have bE:=wAx (xs:=l7) (wAT am)
 refine yJ (j:=0) (vs:=[jV (gd l7 (w64 (p2 + (↑k8:Int))).toNat)]) (cs':=nA KL.encI (nK l7 (w64 (p1 + (↑k8:Int))).toNat (gd l7 (w64 (p2 + (↑k8:Int))).toNat))) rfl rfl rfl rfl aS rfl ak rfl rfl rfl zC (by rw [wAE (f:=KL.encI) (sz:=1) (fun _=>rfl)];have hz:=wAT am;show _ + 1 <= _;first | omega | (simp only [nL];omega) | (simp only [nJ,nG,nH];omega)) rfl (wBn (sz:=1) (fo:=0) (fun _=>rfl) _ _ _ _ bE (by first | omega | (simp only [nL];omega) | (simp only [nJ,nG,nH];omega)) (zA rfl) rfl) rfl ?_
 intro bj bt
 have bu:SW w [B0] U aV [.row ai aj 3 1 (nA KL.encI (nK l7 (w64 (p1 + (↑k8:Int))).toNat (gd l7 (w64 (p2 + (↑k8:Int))).toNat)))] bj:=bt
 refine bnK bI fun _ az bJ=>zV rfl rfl rfl rfl (fun _=>zl rfl (nM (b:=(.slice ai l7.length aj:Value)) (c:=(.slice ai ((nK l7 (w64 (p1 + (↑k8:Int))).toNat (gd l7 (w64 (p2 + (↑k8:Int))).toNat)).length) aj:Value)) rfl (by simp only [nE])) ak rfl zD zC (wAu az) (wAv az)) ?_
 have bF:=wAx (xs:=(nK l7 (w64 (p1 + (↑k8:Int))).toNat (gd l7 (w64 (p2 + (↑k8:Int))).toNat))) (by first | exact wAT az | (have hz:=wAT az;simpa only [nE] using hz))
 refine yJ (j:=0) (vs:=[jV (gd l7 (w64 (p1 + (↑k8:Int))).toNat)]) (cs':=nA KL.encI (nK (nK l7 (w64 (p1 + (↑k8:Int))).toNat (gd l7 (w64 (p2 + (↑k8:Int))).toNat)) (w64 (p2 + (↑k8:Int))).toNat (gd l7 (w64 (p1 + (↑k8:Int))).toNat))) rfl rfl rfl rfl bu rfl ak rfl rfl rfl zC (by rw [wAE (f:=KL.encI) (sz:=1) (fun _=>rfl)];have hz:=wAT az;show _ + 1 <= _;first | omega | (simp only [nE];omega) | (simp only [nJ,nG,nH,nE];omega) | (simp only [nL];omega) | (simp only [nJ,nG,nH];omega)) rfl (wBn (sz:=1) (fo:=0) (fun _=>rfl) _ _ _ _ bF (by first | omega | (simp only [nL];omega) | (simp only [nJ,nG,nH];omega)) (zA rfl) rfl) rfl ?_
 intro bk bv
 have bw:SW w [B0] U aV [.row ai aj 3 1 (nA KL.encI (nK (nK l7 (w64 (p1 + (↑k8:Int))).toNat (gd l7 (w64 (p2 + (↑k8:Int))).toNat)) (w64 (p2 + (↑k8:Int))).toNat (gd l7 (w64 (p1 + (↑k8:Int))).toNat)))] bk:=bv
 refine zd (zm (zI (rR fL3 Z (oM Z aq (oR Z (Zc (zU Z Z Z) (congrArg (jV) bG.out)) (oA Z Z (zd ?_)))))))
 cases bJ
 exact zI ⟨rfl,⟨aV,rfl,(nM (b:=(.slice ai ((nK l7 (w64 (p1 + (↑k8:Int))).toNat (gd l7 (w64 (p2 + (↑k8:Int))).toNat)).length) aj:Value)) (c:=(.slice ai ((nK (nK l7 (w64 (p1 + (↑k8:Int))).toNat (gd l7 (w64 (p2 + (↑k8:Int))).toNat)) (w64 (p2 + (↑k8:Int))).toNat (gd l7 (w64 (p1 + (↑k8:Int))).toNat)).length) aj:Value)) (nM (b:=(.slice ai l7.length aj:Value)) (c:=(.slice ai ((nK l7 (w64 (p1 + (↑k8:Int))).toNat (gd l7 (w64 (p2 + (↑k8:Int))).toNat)).length) aj:Value)) av (by simp only [nE])) (by simp only [nE])),aW,aX,bf,bM,bw,((nE.trans nE).trans bp)⟩⟩
 rintro bY bO ⟨bi,bo,bQ,bR,bS,bn,bU,bz,bq⟩
 have bm:Hid (¬ ((↑((p3:Int) - 0).toNat:Int) < p3)):=zO (wBM)
 refine zN (sR fL3 Z (oM Z bo (oM Z bn (oR Z (zP Z Z Z) (eN (cF Z bm (ZX (zj (zj (ZN ?_))))))))))
 have hE:=nB bK;first | subst r | cases hE
 exact ⟨Z,_,(wDk),bi,_,bz,Z,Z,bq⟩
theorem wCX (p0:List Int) (aa:Option Addr) (ab:Nat) (p1:Int) (p2:Int) (p3:Int) (p4:((Int × Int)->Option Int)) (aq:Value) (w:World) (U:PHeap) (hS:St0 w U [.row aa ab 3 1 (nA KL.encI p0)]) (bb:FnOK Tryz.prog U aq wRa wRb p4) {r:(List Int)} (hm:wAi p0 p1 p2 p3 p4=some r):Gv Tryz.prog 99 [.slice aa p0.length ab,jV p1,jV p2,jV p3,aq] w (wCQ w [.row aa ab 3 1 (nA KL.encI p0)] U (fun U_ L_ v=>v=.tuple #[]/\L_=[.row aa ab 3 1 (nA KL.encI r)]/\r.length=p0.length)):=by
 unfold wAi at hm
 refine Gv.of Tryz.func99 Z Tryz.ntmps99 Tryz.results99 Z (sR fL4 Z (oM Z Z (oM Z Z (oR Z (ZV Z Z Z) (oA Z Z (eN (sR fL4 Z (oM Z Z (oM Z Z (oR Z (ZV Z Z Z) (oA Z Z (eN ?_))))))))))))
 have q:=bnd hm
 obtain ⟨⟨l2,x3⟩,cg,bt⟩:=q
 try dsimp only at bt
 let B0:Res:=.row aa ab 3 1 (nA KL.encI p0)
 refine Zp (fun σ_ w_=>∃ (U_:PHeap),σ_ 0=.slice aa l2.length ab/\σ_ 2=jV p2/\σ_ 4=aq/\σ_ 10=jV x3/\PHeap.Le U U_/\SW w [B0] U U_ [.row aa ab 3 1 (nA KL.encI l2)] w_/\l2.length=p0.length) ?_ ?_
 refine zf (yf (fun (aj,au,aV) σ_ w_=>∃ (U_:PHeap),σ_ 0=.slice aa aj.length ab/\σ_ 2=jV p2/\σ_ 4=aq/\σ_ 10=jV au/\σ_ 11=jV aV/\PHeap.Le U U_/\SW w [B0] U U_ [.row aa ab 3 1 (nA KL.encI aj)] w_/\aj.length=p0.length) cg ?_ ?_)
 exact ⟨U,Z,Z,Z,Z,Z,(zK _),hS,Z⟩
 rintro ⟨aj,au,aV⟩ cy cz bk ⟨aX,az,am,aS,ae,ap,aT,ba,aZ⟩ bf bW
 try dsimp only at bf
 refine zN (sR fL3 Z (oM Z ae (oM Z ap (oR Z (yU Z Z Z) (eN ?_)))))
 by_cases ai:au=aV
 have bq:=bf;rw [if_pos ai] at bq;replace ai:=zO ai
 refine zn (ZL (fun h=>h ai.out)) (ZX (zj ?_))
 have q:=wAe bq
 obtain ⟨cn,bX,bE⟩:=q
 have q:=bW cn bE
 obtain rfl:=q
 refine zj (ZN ?_)
 cases bX
 exact zI ⟨Z,⟨aX,az,am,aS,ae,aT,ba,aZ⟩⟩
 have br:=bf;rw [if_neg ai] at br;replace ai:=zO ai
 refine cT Z ai (kN (zf (sR fL3 Z (oM Z ae (oM Z ap (oR Z (yN Z Z Z) (eN (ifc br ?_ ?_))))))))
 intro aY bY
 refine cT Z aY (sR (wJv (.fx 7 .nil .stop)) Z (oM Z az (oM Z am (oM Z ae (oR Z (ZV Z Z Z) (oM Z am (oM Z ap (oM Z aS ?_))))))))
 have bH:=bb.le aT
 refine bnK bY fun bw bI bZ=>zH 1 Z Z Z Z (zG Z Z Tryz.call117 (zB Z (zB Z (zB Z (zB Z (zB Z zM))))) Z) ba (fun hs=>wBX aj aa ab (w64 (p2 - au)) p2 aV p4 aq bk aX hs bH bI) (.inl Z) ?_
 rintro bh cp cu bA ci bP ⟨rfl,rfl,bo⟩
 have bQ:SW w [B0] U bh [.row aa ab 3 1 (nA KL.encI bw)] bA:=bP
 refine eN (rR fL4 Z (oM Z ae (oM Z ap (oR Z (ZV Z Z Z) (oA Z Z (zd (zm ?_)))))))
 have q:=nB bZ
 obtain rfl:=q
 exact zI ⟨rfl,_,rfl,⟨bh,(nM (b:=(.slice aa aj.length ab:Value)) (c:=(.slice aa bw.length ab:Value)) az (by rw [bo])),am,aS,rfl,ap,(aT.trans ci),bQ,(bo.trans aZ)⟩⟩
 intro aY cb
 refine cF Z aY (sR (wOu (.fx 11 .nil .stop)) Z (oM Z az (oM Z am (oM Z ae (oR Z (ZV Z Z Z) (oM Z am (oM Z ap (oR Z (zU Z Z Z) (oM Z ae (oR Z (ZV Z Z Z) (oM Z ae (oM Z aS ?_))))))))))))
 have bJ:=bb.le aT
 refine bnK cb fun x62 bK cd=>zH 1 Z Z Z Z (zG Z Z Tryz.call117 (zB Z (zB Z (zB Z (zB Z (zB Z zM))))) Z) ba (fun hs=>wBX aj aa ab (w64 (p2 - au)) (w64 ((w64 (p2 + aV)) - au)) au p4 aq bk aX hs bJ bK) (.inl Z) ?_
 rintro bi cq cw bB cj bR ⟨rfl,rfl,bp⟩
 have bS:SW w [B0] U bi [.row aa ab 3 1 (nA KL.encI x62)] bB:=bR
 refine eN (rR fL4 Z (oM Z ap (oM Z ae (oR Z (ZV Z Z Z) (oA Z Z (zd (zm ?_)))))))
 have q:=nB cd
 obtain rfl:=q
 exact zI ⟨rfl,_,rfl,⟨bi,(nM (b:=(.slice aa aj.length ab:Value)) (c:=(.slice aa x62.length ab:Value)) az (by rw [bp])),am,aS,ae,rfl,(aT.trans cj),bS,(bp.trans aZ)⟩⟩
 rintro cA bC ⟨bz,bF,bm,bG,bn,cm,bT,bL⟩
 refine rR (wJv (.fx 7 .nil .stop)) Z (oM Z bF (oM Z bm (oM Z bn (oR Z (ZV Z Z Z) (oM Z bm (oM Z bn (oM Z bG ?_)))))))
 have bM:=bb.le cm
 refine bnK bt fun x87 bN cf=>zH 1 Z Z Z Z (zG Z Z Tryz.call117 (zB Z (zB Z (zB Z (zB Z (zB Z zM))))) Z) bT (fun hs=>wBX l2 aa ab (w64 (p2 - x3)) p2 x3 p4 aq bC bz hs bM bN) (.inl Z) ?_
 rintro bj cr cx bD ct bU ⟨rfl,rfl,bO⟩
 have bV:SW w [B0] U bj [.row aa ab 3 1 (nA KL.encI x87)] bD:=bU
 refine zd ?_
 have hE:=nB cf;first | subst r | cases hE
 exact ⟨Z,_,(wDk),bj,_,bV,Z,Z,(bO.trans bL)⟩
end Go.Proofs.YtkeeechdijfkhaaGreat
namespace Go.Proofs.YtkeeechdijfkhaaGreat
open Go.KL
set_option maxHeartbeats 4000000
theorem wCP (n_:Nat):∀ (p0:List Int) (aa:Option Addr) (ab:Nat) (p1:Int) (p2:Int) (p3:Int) (p4:((Int × Int)->Option Int)) (ap:Value) (w:World) (U:PHeap) (hS:St0 w U [.row aa ab 3 1 (nA KL.encI p0)]) (bg:FnOK Tryz.prog U ap wRa wRb p4) {r:(List Int)} (hm:wAQ n_ p0 p1 p2 p3 p4=some r),Gv Tryz.prog 84 [.slice aa p0.length ab,jV p1,jV p2,jV p3,ap] w (wCQ w [.row aa ab 3 1 (nA KL.encI p0)] U (fun U_ L_ v=>v=.tuple #[]/\L_=[.row aa ab 3 1 (nA KL.encI r)]/\r.length=p0.length)):=by
 induction n_ with
 | zero =>
  intros
  rename_i hm
  have oj:(none:Option ((List Int)))=some _:=hm
  cases oj
 | succ n_ ih =>
  intro p0 aa ab p1 p2 p3 p4 ap w U hS bg r hm
  have hm:wAn (wAQ n_) p0 p1 p2 p3 p4=some r:=hm
  unfold wAn at hm
  refine Gv.of Tryz.func84 Z Tryz.ntmps84 Tryz.results84 Z (zN (sR fL4 Z (oM Z Z (oM Z Z (oR Z (ZV Z Z Z) (oR Z (yC Z Z Z) (eN ?_)))))))
  by_cases c2:(w64 (p2 - p1))=1
  ·have iH:=hm;rw [if_pos c2] at iH;replace c2:=zO c2
   refine cT Z c2 (sR fL2 Z (oM Z Z (oA Z Z (eN (sR fL2 Z (oM Z Z (oA Z Z (eN (bnK iH fun x4 rD qN=>?_)))))))))
   let B0:Res:=.row aa ab 3 1 (nA KL.encI p0)
   refine Zp (fun σ_ w_=>∃ (U_:PHeap),σ_ 0=.slice aa p0.length ab/\σ_ 1=jV p1/\σ_ 10=jV x4/\PHeap.Le U U_/\SW w [B0] U U_ [B0] w_) ?_ ?_
   ·refine zf (yf (fun (dR,dS) σ_ w_=>∃ (U_:PHeap),σ_ 0=.slice aa p0.length ab/\σ_ 1=jV p1/\σ_ 4=ap/\σ_ 10=jV dR/\σ_ 11=jV dS/\PHeap.Le U U_/\SW w [B0] U U_ [B0] w_) rD ?_ ?_)
    ·exact ⟨U,Z,Z,Z,Z,Z,(zK _),hS⟩
    ·rintro ⟨dR,dS⟩ tT tZ gF ⟨i7,cr,cY,fm,db,fu,dI,io⟩ fP mX
     try dsimp only at fP
     refine zN (sR fL3 Z (oM Z db (oM Z fu (oR Z (zP Z Z Z) (eN ?_)))))
     by_cases bT:dR < dS
     ·have iJ:=fP;rw [if_pos bT] at iJ;replace bT:=zO bT
      refine cT Z bT (kN (zf (sR fL7 rfl (zL rfl rfl rfl rfl rfl db (zL rfl rfl rfl rfl rfl fu (zV rfl rfl rfl rfl (fun _=>zU rfl rfl rfl) (zV rfl rfl rfl rfl (fun _=>Runs.cv64 rfl rfl ZM Zd rfl rfl) (zV rfl rfl rfl rfl (fun _=>Runs.shr1 rfl rfl rfl) (zV rfl rfl rfl rfl (fun _=>Runs.cvw rfl rfl Zd ZM rfl rfl) (Zx rfl rfl rfl rfl rfl rfl (eN (zN (zt zq [3,3,3,3,1,3,3,3,1,2,3] (wTX (.fx 9 (.fl 10 .nil) .stop)) (by kernel_rfl) ?_)))))))))))))
      have cC:=io.drew
      generalize hw_W34:({ gF with drawn:=gF.drawn + 1 }:World)=sM at cC ⊢
      refine oM Z fm (oM Z cr (oM Z Z (bnK iJ fun _ dv ph=>?_)))
      obtain ⟨sX,dF⟩:=cC.rowSome (j:=0) rfl (by rw [wAE (f:=KL.encI) (sz:=1) (fun _=>rfl) p0];have hz:=wAT dv;omega)
      refine oR Z (zl Z Z dF Z zD zC (wAu dv) (wAv dv)) ?_
      have oe:=wAx (xs:=p0) (wAT dv)
      refine ZD rfl rfl rfl rfl (cC.ldR (j:=0) rfl dF rfl rfl zE (wAS (sz:=1) (fun _=>rfl) _ _ 0 _ oe (by first | omega | rfl | simp) rfl)) rfl (zL rfl rfl rfl rfl rfl cr (zL rfl rfl rfl rfl rfl cY (bnK ph fun _ fH pC=>zV rfl rfl rfl rfl (fun _=>zl rfl rfl dF rfl zD zC (wAu fH) (wAv fH)) ?_)))
      have og:=wAx (xs:=p0) (wAT fH)
      refine ZD rfl rfl rfl rfl (cC.ldR (j:=0) rfl dF rfl rfl zE (wAS (sz:=1) (fun _=>rfl) _ _ 0 _ og (by first | omega | rfl | simp) rfl)) rfl (bnK pC fun tQ k9 pQ=>?_)
      have lx:=bg.le dI
      refine yZ (a:=((gd p0 (w64 ((wAg (w64 (dR + dS))) / 2)).toNat),(gd p0 p1.toNat))) Z Z Z Z Z Z (zB Z (zB Z zM)) cC lx Z k9 ?_
      rintro dW so tA jl iX mC ⟨rfl,rfl⟩
      have it:SW w [B0] U dW [B0] jl:=mC
      refine oR Z (zP Z Z Z) (eN (ifc pQ ?_ ?_))
      ·intro eJ qh
       refine cT Z eJ (rR fL3 Z (oM Z Z (oR Z (zU Z Z Z) (oA Z Z (zd (zm ?_))))))
       have q:=nB qh
       obtain rfl:=q
       exact zI ⟨Z,_,Z,⟨dW,cr,cY,fm,Z,fu,(dI.trans iX),it⟩⟩
      ·intro eJ qo
       refine cF Z eJ (rR fL2 Z (oM Z Z (oA Z Z (zd (zm ?_)))))
       have q:=nB qo
       obtain rfl:=q
       exact zI ⟨Z,_,Z,⟨dW,cr,cY,fm,db,Z,(dI.trans iX),it⟩⟩
     ·have iQ:=fP;rw [if_neg bT] at iQ;replace bT:=zO bT
      refine cF Z bT (ZX (zj ?_))
      have q:=wAe iQ
      obtain ⟨rP,qu,jD⟩:=q
      have q:=mX rP jD
      obtain rfl:=q
      refine zj (ZN ?_)
      cases qu
      exact zI ⟨Z,⟨i7,cr,cY,db,dI,io⟩⟩
   ·rintro ug sP ⟨gz,jN,jO,jP,tf,mM⟩
    refine zN (sR fL2 Z (oM Z jO (oA Z Z (eN (zf (yf (fun (am,au) σ_ w_=>∃ (U_:PHeap),σ_ 0=.slice aa am.length ab/\σ_ 10=jV x4/\σ_ 13=jV au/\PHeap.Le gz U_/\SW w [B0] U U_ [.row aa ab 3 1 (nA KL.encI am)] w_/\am.length=p0.length) qN ?_ ?_))))))
    ·exact ⟨gz,jN,jP,Z,(zK _),mM,Z⟩
    ·rintro ⟨am,au⟩ tX uh gN ⟨cQ,cw,g9,cn,rJ,iz,ij⟩ fT m5
     try dsimp only at fT
     refine zN (sR fL4 Z (oM Z cn (oM Z g9 (oR Z (ZV Z Z Z) (oR Z (zP Z Z Z) (eN ?_))))))
     by_cases bV:au < (w64 (x4 - 1))
     ·have iR:=fT;rw [if_pos bV] at iR;replace bV:=zO bV
      refine cT Z bV (kN (zN (zf (zt zq [3,3,3,3,3,3,3,3,3,1,3,3,3,1,3,0,3,0] (wJw gDt) (by kernel_rfl) ?_))))
      have cG:=iz.drew
      generalize hw_W99:({ gN with drawn:=gN.drawn + 1 }:World)=sQ at cG ⊢
      refine oM Z cw (oM Z cn (oM Z cw (oM Z cn (oR Z (zU Z Z Z) (oM Z cw (oM Z cn (oR Z (zU Z Z Z) (bnK iR fun _ dq ol=>?_))))))))
      obtain ⟨sS,bW⟩:=cG.rowSome (j:=0) rfl (by rw [wAE (f:=KL.encI) (sz:=1) (fun _=>rfl) am];have hz:=wAT dq;omega)
      refine oR Z (zl Z Z bW Z zD zC (wAu dq) (wAv dq)) ?_
      have m6:=wAx (xs:=am) (wAT dq)
      refine ZD rfl rfl rfl rfl (cG.ldR (j:=0) rfl bW rfl rfl zE (wAS (sz:=1) (fun _=>rfl) _ _ 0 _ m6 (by first | omega | rfl | simp) rfl)) rfl (zL rfl rfl rfl rfl rfl cw (zL rfl rfl rfl rfl rfl cn (bnK ol fun _ cf om=>zV rfl rfl rfl rfl (fun _=>zl rfl rfl bW rfl zD zC (wAu cf) (wAv cf)) ?_)))
      have m7:=wAx (xs:=am) (wAT cf)
      refine ZD rfl rfl rfl rfl (cG.ldR (j:=0) rfl bW rfl rfl zE (wAS (sz:=1) (fun _=>rfl) _ _ 0 _ m7 (by first | omega | rfl | simp) rfl)) rfl (zV rfl rfl rfl rfl (fun _=>zl rfl rfl bW rfl zD zC (wAu cf) (wAv cf)) ?_)
      have m8:=wAx (xs:=am) (wAT cf)
      refine yJ (j:=0) (vs:=[jV (gd am (w64 (au + 1)).toNat)]) (cs':=nA KL.encI (nK am au.toNat (gd am (w64 (au + 1)).toNat))) rfl rfl rfl rfl cG rfl bW rfl rfl rfl zC (by rw [wAE (f:=KL.encI) (sz:=1) (fun _=>rfl)];have hz:=wAT cf;show _ + 1 <= _;first | omega | (simp only [nL];omega) | (simp only [nJ,nG,nH];omega)) rfl (wBn (sz:=1) (fo:=0) (fun _=>rfl) _ _ _ _ m8 (by first | omega | (simp only [nL];omega) | (simp only [nJ,nG,nH];omega)) (zA rfl) rfl) rfl ?_
      intro ja l4
      have l5:SW w [B0] U cQ [.row aa ab 3 1 (nA KL.encI (nK am au.toNat (gd am (w64 (au + 1)).toNat)))] ja:=l4
      refine bnK om fun _ cx oq=>zV rfl rfl rfl rfl (fun _=>zl rfl (nM (b:=(.slice aa am.length ab:Value)) (c:=(.slice aa ((nK am au.toNat (gd am (w64 (au + 1)).toNat)).length) ab:Value)) rfl (by simp only [nE])) bW rfl zD zC (wAu cx) (wAv cx)) ?_
      have m9:=wAx (xs:=(nK am au.toNat (gd am (w64 (au + 1)).toNat))) (by first | exact wAT cx | (have hz:=wAT cx;simpa only [nE] using hz))
      refine yJ (j:=0) (vs:=[jV (gd am au.toNat)]) (cs':=nA KL.encI (nK (nK am au.toNat (gd am (w64 (au + 1)).toNat)) (w64 (au + 1)).toNat (gd am au.toNat))) rfl rfl rfl rfl l5 rfl bW rfl rfl rfl zC (by rw [wAE (f:=KL.encI) (sz:=1) (fun _=>rfl)];have hz:=wAT cx;show _ + 1 <= _;first | omega | (simp only [nE];omega) | (simp only [nJ,nG,nH,nE];omega) | (simp only [nL];omega) | (simp only [nJ,nG,nH];omega)) rfl (wBn (sz:=1) (fo:=0) (fun _=>rfl) _ _ _ _ m9 (by first | omega | (simp only [nL];omega) | (simp only [nJ,nG,nH];omega)) (zA rfl) rfl) rfl ?_
      intro jb l6
      have ma:SW w [B0] U cQ [.row aa ab 3 1 (nA KL.encI (nK (nK am au.toNat (gd am (w64 (au + 1)).toNat)) (w64 (au + 1)).toNat (gd am au.toNat)))] jb:=l6
      refine zd (zm (zI (rR fL3 Z (oM Z cn (oR Z (zU Z Z Z) (oA Z Z (zd ?_)))))))
      have q:=nB oq
      obtain rfl:=q
      exact zI ⟨rfl,_,rfl,⟨cQ,(nM (b:=(.slice aa ((nK am au.toNat (gd am (w64 (au + 1)).toNat)).length) ab:Value)) (c:=(.slice aa ((nK (nK am au.toNat (gd am (w64 (au + 1)).toNat)) (w64 (au + 1)).toNat (gd am au.toNat)).length) ab:Value)) (nM (b:=(.slice aa am.length ab:Value)) (c:=(.slice aa ((nK am au.toNat (gd am (w64 (au + 1)).toNat)).length) ab:Value)) cw (by simp only [nE])) (by simp only [nE])),g9,rfl,rJ,ma,((nE.trans nE).trans ij)⟩⟩
     ·have iA:=fT;rw [if_neg bV] at iA;replace bV:=zO bV
      refine cF Z bV (ZX (zj ?_))
      have q:=wAe iA
      obtain ⟨rK,ot,jy⟩:=q
      have q:=m5 rK jy
      obtain rfl:=q
      refine zj (ZN (zI (zS (zW ?_))))
      have hE:=nB ot;first | subst r | cases hE
      exact ⟨Z,_,(wDk),cQ,_,iz,Z,Z,ij⟩
  ·have iB:=hm;rw [if_neg c2] at iB;replace c2:=zO c2
   refine cF Z c2 (kN (zN (sR fL4 Z (oM Z Z (oM Z Z (oR Z (ZV Z Z Z) (oR Z (yC Z Z Z) (eN (ifc iB ?_ ?_)))))))))
   ·intro dZ ou
    refine cT Z dZ (sR fL2 Z (oM Z Z (oA Z Z (eN (sR fL2 Z (oM Z Z (oA Z Z (eN (bnK ou fun fW rA ow=>?_)))))))))
    let B1:Res:=.row aa ab 3 1 (nA KL.encI p0)
    refine Zp (fun σ_ w_=>∃ (U_:PHeap),σ_ 0=.slice aa p0.length ab/\σ_ 2=jV p2/\σ_ 14=jV fW/\PHeap.Le U U_/\SW w [B1] U U_ [B1] w_) ?_ ?_
    ·refine zf (yf (fun (dP,dQ) σ_ w_=>∃ (U_:PHeap),σ_ 0=.slice aa p0.length ab/\σ_ 2=jV p2/\σ_ 4=ap/\σ_ 14=jV dP/\σ_ 15=jV dQ/\PHeap.Le U U_/\SW w [B1] U U_ [B1] w_) rA ?_ ?_)
     ·exact ⟨U,Z,Z,Z,Z,Z,(zK _),hS⟩
     ·rintro ⟨dP,dQ⟩ tS tY gE ⟨iZ,cp,cW,eZ,cX,fb,dH,ik⟩ fO mW
      try dsimp only at fO
      refine zN (sR fL3 Z (oM Z cX (oM Z fb (oR Z (zP Z Z Z) (eN ?_)))))
      by_cases bP:dP < dQ
      ·have iC:=fO;rw [if_pos bP] at iC;replace bP:=zO bP
       refine cT Z bP (kN (zf (sR fL7 rfl (zL rfl rfl rfl rfl rfl cX (zL rfl rfl rfl rfl rfl fb (zV rfl rfl rfl rfl (fun _=>zU rfl rfl rfl) (zV rfl rfl rfl rfl (fun _=>Runs.cv64 rfl rfl ZM Zd rfl rfl) (zV rfl rfl rfl rfl (fun _=>Runs.shr1 rfl rfl rfl) (zV rfl rfl rfl rfl (fun _=>Runs.cvw rfl rfl Zd ZM rfl rfl) (Zx rfl rfl rfl rfl rfl rfl (eN (zN (zt zq [3,3,3,3,1,3,3,3,1,2,3,3] (wTX (.fx 9 (.fl 10 (.fl 11 .nil)) .stop)) (by kernel_rfl) ?_)))))))))))))
       have cz:=ik.drew
       generalize hw_W157:({ gE with drawn:=gE.drawn + 1 }:World)=sH at cz ⊢
       refine oM Z eZ (oM Z cp (oM Z cW (bnK iC fun _ dr ox=>?_)))
       obtain ⟨sT,dD⟩:=cz.rowSome (j:=0) rfl (by rw [wAE (f:=KL.encI) (sz:=1) (fun _=>rfl) p0];have hz:=wAT dr;omega)
       refine oR Z (zl Z Z dD Z zD zC (wAu dr) (wAv dr)) ?_
       have n5:=wAx (xs:=p0) (wAT dr)
       refine ZD rfl rfl rfl rfl (cz.ldR (j:=0) rfl dD rfl rfl zE (wAS (sz:=1) (fun _=>rfl) _ _ 0 _ n5 (by first | omega | rfl | simp) rfl)) rfl (zL rfl rfl rfl rfl rfl cp (zL rfl rfl rfl rfl rfl rfl (bnK ox fun _ fE oy=>zV rfl rfl rfl rfl (fun _=>zl rfl rfl dD rfl zD zC (wAu fE) (wAv fE)) ?_)))
       have n6:=wAx (xs:=p0) (wAT fE)
       refine ZD rfl rfl rfl rfl (cz.ldR (j:=0) rfl dD rfl rfl zE (wAS (sz:=1) (fun _=>rfl) _ _ 0 _ n6 (by first | omega | rfl | simp) rfl)) rfl (bnK oy fun tO jQ oz=>?_)
       have jR:=bg.le dH
       refine yZ (a:=((gd p0 p2.toNat),(gd p0 (w64 ((wAg (w64 (dP + dQ))) / 2)).toNat))) Z Z Z Z Z Z (zB Z (zB Z zM)) cz jR Z jQ ?_
       rintro dT sc tm jc iV mb ⟨rfl,rfl⟩
       have il:SW w [B1] U dT [B1] jc:=mb
       refine oR Z (zP Z Z Z) (oR Z (Runs.notP Z Z) (eN (ifc oz ?_ ?_)))
       ·intro d5 oB
        refine zn (ZL (fun h=>h d5.out)) (rR fL2 Z (oM Z Z (oA Z Z (zd (zm ?_)))))
        have q:=nB oB
        obtain rfl:=q
        exact zI ⟨Z,_,Z,⟨dT,cp,cW,eZ,cX,Z,(dH.trans iV),il⟩⟩
       ·intro d5 oG
        refine cT Z d5 (rR fL3 Z (oM Z Z (oR Z (zU Z Z Z) (oA Z Z (zd (zm ?_))))))
        have q:=nB oG
        obtain rfl:=q
        exact zI ⟨Z,_,Z,⟨dT,cp,cW,eZ,Z,fb,(dH.trans iV),il⟩⟩
      ·have iD:=fO;rw [if_neg bP] at iD;replace bP:=zO bP
       refine cF Z bP (ZX (zj ?_))
       have q:=wAe iD
       obtain ⟨rL,oH,jz⟩:=q
       have q:=mW rL jz
       obtain rfl:=q
       refine zj (ZN ?_)
       cases oH
       exact zI ⟨Z,⟨iZ,cp,cW,cX,dH,ik⟩⟩
    ·rintro t7 sI ⟨gf,jE,jG,jH,sZ,mc⟩
     refine zN (sR fL2 Z (oM Z jG (oA Z Z (eN (zf (yf (fun (ak,aq) σ_ w_=>∃ (U_:PHeap),σ_ 0=.slice aa ak.length ab/\σ_ 14=jV fW/\σ_ 17=jV aq/\PHeap.Le gf U_/\SW w [B1] U U_ [.row aa ab 3 1 (nA KL.encI ak)] w_/\ak.length=p0.length) ow ?_ ?_))))))
     ·exact ⟨gf,jE,jH,Z,(zK _),mc,Z⟩
     ·rintro ⟨ak,aq⟩ tU t8 gG ⟨cL,cq,gO,cm,rE,im,ib⟩ fQ mY
      try dsimp only at fQ
      refine zN (sR fL3 Z (oM Z cm (oM Z gO (oR Z (yN Z Z Z) (eN ?_)))))
      by_cases bR:fW < aq
      ·have iE:=fQ;rw [if_pos bR] at iE;replace bR:=zO bR
       refine cT Z bR (kN (zN (zf (zt zq [3,3,3,3,3,3,3,3,3,1,3,3,3,1,3,0,3,0] (wJw gDt) (by kernel_rfl) ?_))))
       have cA:=im.drew
       generalize hw_W222:({ gG with drawn:=gG.drawn + 1 }:World)=sJ at cA ⊢
       refine oM Z cq (oM Z cm (oM Z cq (oM Z cm (oR Z (ZV Z Z Z) (oM Z cq (oM Z cm (oR Z (ZV Z Z Z) (bnK iE fun _ dt oI=>?_))))))))
       obtain ⟨sU,bX⟩:=cA.rowSome (j:=0) rfl (by rw [wAE (f:=KL.encI) (sz:=1) (fun _=>rfl) ak];have hz:=wAT dt;omega)
       refine oR Z (zl Z Z bX Z zD zC (wAu dt) (wAv dt)) ?_
       have n7:=wAx (xs:=ak) (wAT dt)
       refine ZD rfl rfl rfl rfl (cA.ldR (j:=0) rfl bX rfl rfl zE (wAS (sz:=1) (fun _=>rfl) _ _ 0 _ n7 (by first | omega | rfl | simp) rfl)) rfl (zL rfl rfl rfl rfl rfl cq (zL rfl rfl rfl rfl rfl cm (bnK oI fun _ cg oK=>zV rfl rfl rfl rfl (fun _=>zl rfl rfl bX rfl zD zC (wAu cg) (wAv cg)) ?_)))
       have n8:=wAx (xs:=ak) (wAT cg)
       refine ZD rfl rfl rfl rfl (cA.ldR (j:=0) rfl bX rfl rfl zE (wAS (sz:=1) (fun _=>rfl) _ _ 0 _ n8 (by first | omega | rfl | simp) rfl)) rfl (zV rfl rfl rfl rfl (fun _=>zl rfl rfl bX rfl zD zC (wAu cg) (wAv cg)) ?_)
       have n9:=wAx (xs:=ak) (wAT cg)
       refine yJ (j:=0) (vs:=[jV (gd ak (w64 (aq - 1)).toNat)]) (cs':=nA KL.encI (nK ak aq.toNat (gd ak (w64 (aq - 1)).toNat))) rfl rfl rfl rfl cA rfl bX rfl rfl rfl zC (by rw [wAE (f:=KL.encI) (sz:=1) (fun _=>rfl)];have hz:=wAT cg;show _ + 1 <= _;first | omega | (simp only [nL];omega) | (simp only [nJ,nG,nH];omega)) rfl (wBn (sz:=1) (fo:=0) (fun _=>rfl) _ _ _ _ n9 (by first | omega | (simp only [nL];omega) | (simp only [nJ,nG,nH];omega)) (zA rfl) rfl) rfl ?_
       intro jd md
       have me:SW w [B1] U cL [.row aa ab 3 1 (nA KL.encI (nK ak aq.toNat (gd ak (w64 (aq - 1)).toNat)))] jd:=md
       refine bnK oK fun _ cy oO=>zV rfl rfl rfl rfl (fun _=>zl rfl (nM (b:=(.slice aa ak.length ab:Value)) (c:=(.slice aa ((nK ak aq.toNat (gd ak (w64 (aq - 1)).toNat)).length) ab:Value)) rfl (by simp only [nE])) bX rfl zD zC (wAu cy) (wAv cy)) ?_
       have oa:=wAx (xs:=(nK ak aq.toNat (gd ak (w64 (aq - 1)).toNat))) (by first | exact wAT cy | (have hz:=wAT cy;simpa only [nE] using hz))
       refine yJ (j:=0) (vs:=[jV (gd ak aq.toNat)]) (cs':=nA KL.encI (nK (nK ak aq.toNat (gd ak (w64 (aq - 1)).toNat)) (w64 (aq - 1)).toNat (gd ak aq.toNat))) rfl rfl rfl rfl me rfl bX rfl rfl rfl zC (by rw [wAE (f:=KL.encI) (sz:=1) (fun _=>rfl)];have hz:=wAT cy;show _ + 1 <= _;first | omega | (simp only [nE];omega) | (simp only [nJ,nG,nH,nE];omega) | (simp only [nL];omega) | (simp only [nJ,nG,nH];omega)) rfl (wBn (sz:=1) (fo:=0) (fun _=>rfl) _ _ _ _ oa (by first | omega | (simp only [nL];omega) | (simp only [nJ,nG,nH];omega)) (zA rfl) rfl) rfl ?_
       intro je mf
       have mg:SW w [B1] U cL [.row aa ab 3 1 (nA KL.encI (nK (nK ak aq.toNat (gd ak (w64 (aq - 1)).toNat)) (w64 (aq - 1)).toNat (gd ak aq.toNat)))] je:=mf
       refine zd (zm (zI (rR fL3 Z (oM Z cm (oR Z (ZV Z Z Z) (oA Z Z (zd ?_)))))))
       have q:=nB oO
       obtain rfl:=q
       exact zI ⟨rfl,_,rfl,⟨cL,(nM (b:=(.slice aa ((nK ak aq.toNat (gd ak (w64 (aq - 1)).toNat)).length) ab:Value)) (c:=(.slice aa ((nK (nK ak aq.toNat (gd ak (w64 (aq - 1)).toNat)) (w64 (aq - 1)).toNat (gd ak aq.toNat)).length) ab:Value)) (nM (b:=(.slice aa ak.length ab:Value)) (c:=(.slice aa ((nK ak aq.toNat (gd ak (w64 (aq - 1)).toNat)).length) ab:Value)) cq (by simp only [nE])) (by simp only [nE])),gO,rfl,rE,mg,((nE.trans nE).trans ib)⟩⟩
      ·have iF:=fQ;rw [if_neg bR] at iF;replace bR:=zO bR
       refine cF Z bR (ZX (zj ?_))
       have q:=wAe iF
       obtain ⟨rM,oP,jA⟩:=q
       have q:=mY rM jA
       obtain rfl:=q
       refine zj (ZN (zI (zS (zW ?_))))
       have hE:=nB oP;first | subst r | cases hE
       exact ⟨Z,_,(wDk),cL,_,im,Z,Z,ib⟩
   ·intro dZ oU
    refine cF Z dZ (kN (sR fL7 Z (oM Z Z (oM Z Z (oR Z (zU Z Z Z) (oR Z (Runs.cv64 Z Z ZM Zd Z Z) (oR Z (Runs.shr1 Z Z Z) (oR Z (Runs.cvw Z Z Zd ZM Z Z) (oA Z Z (eN (sR fL4 Z (oM Z Z (oM Z Z (oR Z (zU Z Z Z) (oA Z Z (eN (sR fL2 Z (oA Z Z (oA Z Z (eN (zN (sR fL3 Z (oM Z Z (oM Z Z (oR Z (yN Z Z Z) (eN (ifc oU ?_ ?_)))))))))))))))))))))))))))
    ·intro d7 oW
     refine cT Z d7 (sR fL4 Z (oM Z Z (oM Z Z (oR Z (ZV Z Z Z) (oA Z Z (eN (rR fL2 Z (oM Z Z (oA Z Z (eN (sR fL3 Z (oM Z Z (oR Z (ZV Z Z Z) (oA Z Z (eN (bnK oW fun aZ rB o0=>?_))))))))))))))))
     let B2:Res:=.row aa ab 3 1 (nA KL.encI p0)
     refine Zp (fun σ_ w_=>∃ (U_:PHeap),σ_ 0=.slice aa p0.length ab/\σ_ 1=jV p1/\σ_ 2=jV p2/\σ_ 3=jV p3/\σ_ 4=ap/\σ_ 18=jV (w64 ((wAg (w64 (p1 + p3))) / 2))/\σ_ 19=jV (w64 ((w64 ((wAg (w64 (p1 + p3))) / 2)) + p2))/\σ_ 20=jV aZ/\PHeap.Le U U_/\SW w [B2] U U_ [B2] w_) ?_ ?_
     ·refine zf (yf (fun (cH,cI) σ_ w_=>∃ (U_:PHeap),σ_ 0=.slice aa p0.length ab/\σ_ 1=jV p1/\σ_ 2=jV p2/\σ_ 3=jV p3/\σ_ 4=ap/\σ_ 18=jV (w64 ((wAg (w64 (p1 + p3))) / 2))/\σ_ 19=jV (w64 ((w64 ((wAg (w64 (p1 + p3))) / 2)) + p2))/\σ_ 20=jV cH/\σ_ 21=jV cI/\σ_ 22=jV (w64 ((w64 ((w64 ((wAg (w64 (p1 + p3))) / 2)) + p2)) - 1))/\PHeap.Le U U_/\SW w [B2] U U_ [B2] w_) rB ?_ ?_)
      ·exact ⟨U,Z,Z,Z,Z,Z,Z,Z,Z,Z,Z,(zK _),hS⟩
      ·rintro ⟨cH,cI⟩ tV ua gH ⟨i8,ct,fc,fd,ff,cZ,fh,fj,da,fq,ft,dJ,ip⟩ fR mZ
       try dsimp only at fR
       refine zN (sR fL3 Z (oM Z da (oM Z fq (oR Z (zP Z Z Z) (eN ?_)))))
       by_cases bS:cH < cI
       ·have iG:=fR;rw [if_pos bS] at iG;replace bS:=zO bS
        refine cT Z bS (kN (zf (sR fL7 rfl (zL rfl rfl rfl rfl rfl da (zL rfl rfl rfl rfl rfl fq (zV rfl rfl rfl rfl (fun _=>zU rfl rfl rfl) (zV rfl rfl rfl rfl (fun _=>Runs.cv64 rfl rfl ZM Zd rfl rfl) (zV rfl rfl rfl rfl (fun _=>Runs.shr1 rfl rfl rfl) (zV rfl rfl rfl rfl (fun _=>Runs.cvw rfl rfl Zd ZM rfl rfl) (Zx rfl rfl rfl rfl rfl rfl (eN (zN (zt zq [3,3,3,3,3,3,1,3,3,3,1,2,3,3] (wOu gDu) (by kernel_rfl) ?_)))))))))))))
        have cB:=ip.drew
        generalize hw_W285:({ gH with drawn:=gH.drawn + 1 }:World)=sK at cB ⊢
        refine oM Z cZ (oM Z ct (oM Z ft (oM Z Z (oR Z (ZV Z Z Z) (bnK iG fun _ du o3=>?_)))))
        obtain ⟨sV,dE⟩:=cB.rowSome (j:=0) rfl (by rw [wAE (f:=KL.encI) (sz:=1) (fun _=>rfl) p0];have hz:=wAT du;omega)
        refine oR Z (zl Z Z dE Z zD zC (wAu du) (wAv du)) ?_
        have oc:=wAx (xs:=p0) (wAT du)
        refine ZD rfl rfl rfl rfl (cB.ldR (j:=0) rfl dE rfl rfl zE (wAS (sz:=1) (fun _=>rfl) _ _ 0 _ oc (by first | omega | rfl | simp) rfl)) rfl (zL rfl rfl rfl rfl rfl ct (zL rfl rfl rfl rfl rfl rfl (bnK o3 fun _ fG o5=>zV rfl rfl rfl rfl (fun _=>zl rfl rfl dE rfl zD zC (wAu fG) (wAv fG)) ?_)))
        have od:=wAx (xs:=p0) (wAT fG)
        refine ZD rfl rfl rfl rfl (cB.ldR (j:=0) rfl dE rfl rfl zE (wAS (sz:=1) (fun _=>rfl) _ _ 0 _ od (by first | omega | rfl | simp) rfl)) rfl (bnK o5 fun tP jS o6=>?_)
        have jU:=bg.le dJ
        refine yZ (a:=((gd p0 (w64 ((w64 ((w64 ((w64 ((wAg (w64 (p1 + p3))) / 2)) + p2)) - 1)) - (w64 ((wAg (w64 (cH + cI))) / 2)))).toNat),(gd p0 (w64 ((wAg (w64 (cH + cI))) / 2)).toNat))) Z Z Z Z Z Z (zB Z (zB Z zM)) cB jU Z jS ?_
        rintro dU sd tn jf iW mh ⟨rfl,rfl⟩
        have iq:SW w [B2] U dU [B2] jf:=mh
        refine oR Z (zP Z Z Z) (oR Z (Runs.notP Z Z) (eN (ifc o6 ?_ ?_)))
        ·intro d9 o7
         refine zn (ZL (fun h=>h d9.out)) (rR fL2 Z (oM Z Z (oA Z Z (zd (zm ?_)))))
         have q:=nB o7
         obtain rfl:=q
         exact zI ⟨Z,_,Z,⟨dU,ct,fc,fd,ff,cZ,fh,fj,da,Z,ft,(dJ.trans iW),iq⟩⟩
        ·intro d9 o8
         refine cT Z d9 (rR fL3 Z (oM Z Z (oR Z (zU Z Z Z) (oA Z Z (zd (zm ?_))))))
         have q:=nB o8
         obtain rfl:=q
         exact zI ⟨Z,_,Z,⟨dU,ct,fc,fd,ff,cZ,fh,fj,Z,fq,ft,(dJ.trans iW),iq⟩⟩
       ·have iI:=fR;rw [if_neg bS] at iI;replace bS:=zO bS
        refine cF Z bS (ZX (zj ?_))
        have q:=wAe iI
        obtain ⟨rN,o9,jB⟩:=q
        have q:=mZ rN jB
        obtain rfl:=q
        refine zj (ZN ?_)
        cases o9
        exact zI ⟨Z,⟨i8,ct,fc,fd,ff,cZ,fh,fj,da,dJ,ip⟩⟩
     ·rintro ub sL ⟨dV,gP,gQ,de,gR,gS,gT,jJ,df,dK,ir⟩
      refine sR fL4 Z (oM Z jJ (oM Z df (oR Z (ZV Z Z Z) (oA Z Z (eN (zN (bnK o0 fun jw iT pe=>Zp (fun σ_ w_=>∃ (U_:PHeap),σ_ 0=.slice aa p0.length ab/\σ_ 1=jV p1/\σ_ 2=jV p2/\σ_ 3=jV p3/\σ_ 4=ap/\σ_ 18=jV (w64 ((wAg (w64 (p1 + p3))) / 2))/\σ_ 20=jV aZ/\σ_ 24=jV (w64 ((w64 ((w64 ((wAg (w64 (p1 + p3))) / 2)) + p2)) - aZ))/\σ_ 185=.bool jw/\PHeap.Le dV U_/\SW w [B2] U U_ [B2] w_) ?_ ?_)))))))
      ·refine rR fL8 Z (oM Z df (oM Z de (oR Z (zP Z Z Z) (oM Z Z ?_))))
       by_cases aX:aZ < p2
       ·have iK:=iT;rw [if_pos aX] at iK;replace aX:=zO aX
        refine zL Z Z Z (wT Z aX) Z de (zL Z Z Z (wT Z aX) Z Z (rU Z (wT Z aX) (zP Z Z Z) (oR Z (zY Z (ZY aX.out) Z) (zd ?_))))
        have q:=nB iK
        obtain rfl:=q
        exact zI ⟨Z,⟨dV,gP,gQ,de,gR,gS,gT,df,Z,Z,(zK _),ir⟩⟩
       ·have iL:=iT;rw [if_neg aX] at iL;replace aX:=zO aX
        refine oF Z aX (oF Z aX (oF Z aX (oR Z (zZ Z (ZL aX.out) Z) (zd ?_))))
        cases iL
        exact zI ⟨Z,⟨dV,gP,gQ,de,gR,gS,gT,df,Z,Z,(zK _),ir⟩⟩
      ·rintro uc cR ⟨bL,bF,dg,jK,bh,bG,aV,cb,az,gU,dL,bY⟩
       refine ifc pe ?_ ?_
       ·intro eg pf
        refine ZH (gU.trans (congrArg nD eg.out)) (rR (wDC (.fx 5 .nil .stop)) Z (oM Z bF (oM Z cb (oM Z jK (oM Z az (oM Z bG ?_))))))
        have jW:=bg.le dK
        have dw:=jW.le dL
        refine bnK pf fun bJ jX pg=>zH 1 Z Z Z Z (zG Z Z Tryz.call99 (zB Z (zB Z (zB Z (zB Z (zB Z zM))))) Z) bY (fun hs=>wCX p0 aa ab aZ p2 (w64 ((w64 ((w64 ((wAg (w64 (p1 + p3))) / 2)) + p2)) - aZ)) p4 ap cR bL hs dw jX) (.inl Z) ?_
        rintro bM sf tp cS fU mi ⟨rfl,rfl,bb⟩
        have ci:SW w [B2] U bM [.row aa ab 3 1 (nA KL.encI bJ)] cS:=mi
        refine eN (zN (sR fL8 Z (oM Z dg (oM Z cb (oR Z (zP Z Z Z) (oM Z Z (ifc pg ?_ ?_)))))))
        ·intro bm pj
         refine zL Z Z Z (wT Z bm) Z cb (zL Z Z Z (wT Z bm) Z aV (rU Z (wT Z bm) (zP Z Z Z) (oR Z (zY Z (ZY bm.out) Z) (eN (ifc pj ?_ ?_)))))
         ·intro eh pk
          refine cT Z eh (rR (wDC (.fx 5 .nil .stop)) rfl (zL rfl rfl rfl rfl rfl (nM (b:=(.slice aa p0.length ab:Value)) (c:=(.slice aa bJ.length ab:Value)) bF (by rw [bb])) (zL rfl rfl rfl rfl rfl dg (zL rfl rfl rfl rfl rfl cb (zL rfl rfl rfl rfl rfl aV (zL rfl rfl rfl rfl rfl bG ?_))))))
          have ic:=dw.le fU
          refine bnK pk fun fY jY pm=>zH 1 Z Z Z Z (zG Z Z Zn (zB Z (zB Z (zB Z (zB Z (zB Z zM))))) Z) ci (fun hs=>ih bJ aa ab p1 aZ (w64 ((wAg (w64 (p1 + p3))) / 2)) p4 ap cS bM hs ic jY) (.inl Z) ?_
          rintro cM sg tq gI rF mj ⟨rfl,rfl,dx⟩
          have fK:SW w [B2] U cM [.row aa ab 3 1 (nA KL.encI fY)] gI:=mj
          refine eN (sR fL8 Z (oM Z aV (oM Z az (oR Z (zP Z Z Z) (oM Z Z (ifc pm ?_ ?_))))))
          ·intro bn pn
           refine zL Z Z Z (wT Z bn) Z az (zL Z Z Z (wT Z bn) Z bh (rU Z (wT Z bn) (zP Z Z Z) (oR Z (zY Z (ZY bn.out) Z) (eN (ifc pn ?_ ?_)))))
           ·intro eu po
            refine cT Z eu (rR (wDC (.fx 5 .nil .stop)) rfl (zL rfl rfl rfl rfl rfl (nM (b:=(.slice aa bJ.length ab:Value)) (c:=(.slice aa fY.length ab:Value)) (nM (b:=(.slice aa p0.length ab:Value)) (c:=(.slice aa bJ.length ab:Value)) bF (by rw [bb])) (by rw [dx])) (zL rfl rfl rfl rfl rfl aV (zL rfl rfl rfl rfl rfl az (zL rfl rfl rfl rfl rfl bh (zL rfl rfl rfl rfl rfl bG ?_))))))
            have jZ:=ic.le rF
            refine bnK po fun rQ j0 pp=>zH 1 Z Z Z Z (zG Z Z Zn (zB Z (zB Z (zB Z (zB Z (zB Z zM))))) Z) fK (fun hs=>ih fY aa ab (w64 ((wAg (w64 (p1 + p3))) / 2)) (w64 ((w64 ((w64 ((wAg (w64 (p1 + p3))) / 2)) + p2)) - aZ)) p3 p4 ap gI cM hs jZ j0) (.inl Z) ?_
            rintro gg sh tr jg s5 mn ⟨rfl,rfl,j3⟩
            have mo:SW w [B2] U gg [.row aa ab 3 1 (nA KL.encI rQ)] jg:=mn
            refine zd ?_
            have hE:=nB pp;first | subst r | cases hE
            exact ⟨Z,_,(wDk),gg,_,mo,Z,Z,((j3.trans dx).trans bb)⟩
           ·intro eu pq
            refine cF Z eu (ZS ?_)
            have hE:=nB pq;first | subst r | cases hE
            exact ⟨Z,_,(wDk),cM,_,fK,Z,Z,(dx.trans bb)⟩
          ·intro bn pu
           refine oF Z bn (oF Z bn (oF Z bn (oR Z (zZ Z (ZL bn.out) Z) (eN (zn Z (ZS ?_))))))
           have hE:=nB pu;first | subst r | cases hE
           exact ⟨Z,_,(wDk),cM,_,fK,Z,Z,(dx.trans bb)⟩
         ·intro eh py
          refine cF Z eh (kN (sR fL8 Z (oM Z aV (oM Z az (oR Z (zP Z Z Z) (oM Z Z (ifc py ?_ ?_)))))))
          ·intro bo pz
           refine zL Z Z Z (wT Z bo) Z az (zL Z Z Z (wT Z bo) Z bh (rU Z (wT Z bo) (zP Z Z Z) (oR Z (zY Z (ZY bo.out) Z) (eN (ifc pz ?_ ?_)))))
           ·intro eA pB
            refine cT Z eA (rR (wDC (.fx 5 .nil .stop)) rfl (zL rfl rfl rfl rfl rfl (nM (b:=(.slice aa p0.length ab:Value)) (c:=(.slice aa bJ.length ab:Value)) bF (by rw [bb])) (zL rfl rfl rfl rfl rfl aV (zL rfl rfl rfl rfl rfl az (zL rfl rfl rfl rfl rfl bh (zL rfl rfl rfl rfl rfl bG ?_))))))
            have j4:=dw.le fU
            refine bnK pB fun rS j5 pD=>zH 1 Z Z Z Z (zG Z Z Zn (zB Z (zB Z (zB Z (zB Z (zB Z zM))))) Z) ci (fun hs=>ih bJ aa ab (w64 ((wAg (w64 (p1 + p3))) / 2)) (w64 ((w64 ((w64 ((wAg (w64 (p1 + p3))) / 2)) + p2)) - aZ)) p3 p4 ap cS bM hs j4 j5) (.inl Z) ?_
            rintro gh sj tu jh s6 mp ⟨rfl,rfl,j6⟩
            have mq:SW w [B2] U gh [.row aa ab 3 1 (nA KL.encI rS)] jh:=mp
            refine zd ?_
            have hE:=nB pD;first | subst r | cases hE
            exact ⟨Z,_,(wDk),gh,_,mq,Z,Z,(j6.trans bb)⟩
           ·intro eA pE
            refine cF Z eA (ZS ?_)
            have hE:=nB pE;first | subst r | cases hE
            exact ⟨Z,_,(wDk),bM,_,ci,Z,Z,bb⟩
          ·intro bo pF
           refine oF Z bo (oF Z bo (oF Z bo (oR Z (zZ Z (ZL bo.out) Z) (eN (zn Z (ZS ?_))))))
           have hE:=nB pF;first | subst r | cases hE
           exact ⟨Z,_,(wDk),bM,_,ci,Z,Z,bb⟩
        ·intro bm pG
         refine oF Z bm (oF Z bm (oF Z bm (oR Z (zZ Z (ZL bm.out) Z) (eN (zn Z (kN (sR fL8 Z (oM Z aV (oM Z az (oR Z (zP Z Z Z) (oM Z Z (ifc pG ?_ ?_))))))))))))
         ·intro bp pH
          refine zL Z Z Z (wT Z bp) Z az (zL Z Z Z (wT Z bp) Z bh (rU Z (wT Z bp) (zP Z Z Z) (oR Z (zY Z (ZY bp.out) Z) (eN (ifc pH ?_ ?_)))))
          ·intro eD pI
           refine cT Z eD (rR (wDC (.fx 5 .nil .stop)) rfl (zL rfl rfl rfl rfl rfl (nM (b:=(.slice aa p0.length ab:Value)) (c:=(.slice aa bJ.length ab:Value)) bF (by rw [bb])) (zL rfl rfl rfl rfl rfl aV (zL rfl rfl rfl rfl rfl az (zL rfl rfl rfl rfl rfl bh (zL rfl rfl rfl rfl rfl bG ?_))))))
           have j7:=dw.le fU
           refine bnK pI fun rV j8 pJ=>zH 1 Z Z Z Z (zG Z Z Zn (zB Z (zB Z (zB Z (zB Z (zB Z zM))))) Z) ci (fun hs=>ih bJ aa ab (w64 ((wAg (w64 (p1 + p3))) / 2)) (w64 ((w64 ((w64 ((wAg (w64 (p1 + p3))) / 2)) + p2)) - aZ)) p3 p4 ap cS bM hs j7 j8) (.inl Z) ?_
           rintro gi sk tv ji s7 mr ⟨rfl,rfl,j9⟩
           have mu:SW w [B2] U gi [.row aa ab 3 1 (nA KL.encI rV)] ji:=mr
           refine zd ?_
           have hE:=nB pJ;first | subst r | cases hE
           exact ⟨Z,_,(wDk),gi,_,mu,Z,Z,(j9.trans bb)⟩
          ·intro eD pK
           refine cF Z eD (ZS ?_)
           have hE:=nB pK;first | subst r | cases hE
           exact ⟨Z,_,(wDk),bM,_,ci,Z,Z,bb⟩
         ·intro bp pL
          refine oF Z bp (oF Z bp (oF Z bp (oR Z (zZ Z (ZL bp.out) Z) (eN (zn Z (ZS ?_))))))
          have hE:=nB pL;first | subst r | cases hE
          exact ⟨Z,_,(wDk),bM,_,ci,Z,Z,bb⟩
       ·intro eg pM
        refine zn (gU.trans (congrArg nD (nI.2 eg.out))) (kN (zN (sR fL8 Z (oM Z dg (oM Z cb (oR Z (zP Z Z Z) (oM Z Z (ifc pM ?_ ?_))))))))
        ·intro bq pN
         refine zL Z Z Z (wT Z bq) Z cb (zL Z Z Z (wT Z bq) Z aV (rU Z (wT Z bq) (zP Z Z Z) (oR Z (zY Z (ZY bq.out) Z) (eN (ifc pN ?_ ?_)))))
         ·intro eE pO
          refine cT Z eE (rR (wDC (.fx 5 .nil .stop)) Z (oM Z bF (oM Z dg (oM Z cb (oM Z aV (oM Z bG ?_))))))
          have lc:=bg.le dK
          have ie:=lc.le dL
          refine bnK pO fun ga lf pP=>zH 1 Z Z Z Z (zG Z Z Zn (zB Z (zB Z (zB Z (zB Z (zB Z zM))))) Z) bY (fun hs=>ih p0 aa ab p1 aZ (w64 ((wAg (w64 (p1 + p3))) / 2)) p4 ap cR bL hs ie lf) (.inl Z) ?_
          rintro cN sm tw gJ rG mw ⟨rfl,rfl,dy⟩
          have fL:SW w [B2] U cN [.row aa ab 3 1 (nA KL.encI ga)] gJ:=mw
          refine eN (sR fL8 Z (oM Z aV (oM Z az (oR Z (zP Z Z Z) (oM Z Z (ifc pP ?_ ?_))))))
          ·intro br pR
           refine zL Z Z Z (wT Z br) Z az (zL Z Z Z (wT Z br) Z bh (rU Z (wT Z br) (zP Z Z Z) (oR Z (zY Z (ZY br.out) Z) (eN (ifc pR ?_ ?_)))))
           ·intro eF pS
            refine cT Z eF (rR (wDC (.fx 5 .nil .stop)) rfl (zL rfl rfl rfl rfl rfl (nM (b:=(.slice aa p0.length ab:Value)) (c:=(.slice aa ga.length ab:Value)) bF (by rw [dy])) (zL rfl rfl rfl rfl rfl aV (zL rfl rfl rfl rfl rfl az (zL rfl rfl rfl rfl rfl bh (zL rfl rfl rfl rfl rfl bG ?_))))))
            have lg:=ie.le rG
            refine bnK pS fun rW lh pT=>zH 1 Z Z Z Z (zG Z Z Zn (zB Z (zB Z (zB Z (zB Z (zB Z zM))))) Z) fL (fun hs=>ih ga aa ab (w64 ((wAg (w64 (p1 + p3))) / 2)) (w64 ((w64 ((w64 ((wAg (w64 (p1 + p3))) / 2)) + p2)) - aZ)) p3 p4 ap gJ cN hs lg lh) (.inl Z) ?_
            rintro gm sn tz jj s8 my ⟨rfl,rfl,li⟩
            have mz:SW w [B2] U gm [.row aa ab 3 1 (nA KL.encI rW)] jj:=my
            refine zd ?_
            have hE:=nB pT;first | subst r | cases hE
            exact ⟨Z,_,(wDk),gm,_,mz,Z,Z,(li.trans dy)⟩
           ·intro eF pU
            refine cF Z eF (ZS ?_)
            have hE:=nB pU;first | subst r | cases hE
            exact ⟨Z,_,(wDk),cN,_,fL,Z,Z,dy⟩
          ·intro br pV
           refine oF Z br (oF Z br (oF Z br (oR Z (zZ Z (ZL br.out) Z) (eN (zn Z (ZS ?_))))))
           have hE:=nB pV;first | subst r | cases hE
           exact ⟨Z,_,(wDk),cN,_,fL,Z,Z,dy⟩
         ·intro eE pW
          refine cF Z eE (kN (sR fL8 Z (oM Z aV (oM Z az (oR Z (zP Z Z Z) (oM Z Z (ifc pW ?_ ?_)))))))
          ·intro bt pX
           refine zL Z Z Z (wT Z bt) Z az (zL Z Z Z (wT Z bt) Z bh (rU Z (wT Z bt) (zP Z Z Z) (oR Z (zY Z (ZY bt.out) Z) (eN (ifc pX ?_ ?_)))))
           ·intro eH pY
            refine cT Z eH (rR (wDC (.fx 5 .nil .stop)) Z (oM Z bF (oM Z aV (oM Z az (oM Z bh (oM Z bG ?_))))))
            have lj:=bg.le dK
            have lm:=lj.le dL
            refine bnK pY fun rX ln pZ=>zH 1 Z Z Z Z (zG Z Z Zn (zB Z (zB Z (zB Z (zB Z (zB Z zM))))) Z) bY (fun hs=>ih p0 aa ab (w64 ((wAg (w64 (p1 + p3))) / 2)) (w64 ((w64 ((w64 ((wAg (w64 (p1 + p3))) / 2)) + p2)) - aZ)) p3 p4 ap cR bL hs lm ln) (.inl Z) ?_
            rintro gp sq tB jk s9 mA ⟨rfl,rfl,lp⟩
            have mB:SW w [B2] U gp [.row aa ab 3 1 (nA KL.encI rX)] jk:=mA
            refine zd ?_
            have hE:=nB pZ;first | subst r | cases hE
            exact ⟨Z,_,(wDk),gp,_,mB,Z,Z,lp⟩
           ·intro eH p6
            refine cF Z eH (ZS ?_)
            have hE:=nB p6;first | subst r | cases hE
            exact ⟨Z,_,(wDk),bL,_,bY,Z,Z,Z⟩
          ·intro bt p7
           refine oF Z bt (oF Z bt (oF Z bt (oR Z (zZ Z (ZL bt.out) Z) (eN (zn Z (ZS ?_))))))
           have hE:=nB p7;first | subst r | cases hE
           exact ⟨Z,_,(wDk),bL,_,bY,Z,Z,Z⟩
        ·intro bq p8
         refine oF Z bq (oF Z bq (oF Z bq (oR Z (zZ Z (ZL bq.out) Z) (eN (zn Z (kN (sR fL8 Z (oM Z aV (oM Z az (oR Z (zP Z Z Z) (oM Z Z (ifc p8 ?_ ?_))))))))))))
         ·intro bu p9
          refine zL Z Z Z (wT Z bu) Z az (zL Z Z Z (wT Z bu) Z bh (rU Z (wT Z bu) (zP Z Z Z) (oR Z (zY Z (ZY bu.out) Z) (eN (ifc p9 ?_ ?_)))))
          ·intro eI qa
           refine cT Z eI (rR (wDC (.fx 5 .nil .stop)) Z (oM Z bF (oM Z aV (oM Z az (oM Z bh (oM Z bG ?_))))))
           have lq:=bg.le dK
           have lu:=lq.le dL
           refine bnK qa fun rY lv qb=>zH 1 Z Z Z Z (zG Z Z Zn (zB Z (zB Z (zB Z (zB Z (zB Z zM))))) Z) bY (fun hs=>ih p0 aa ab (w64 ((wAg (w64 (p1 + p3))) / 2)) (w64 ((w64 ((w64 ((wAg (w64 (p1 + p3))) / 2)) + p2)) - aZ)) p3 p4 ap cR bL hs lu lv) (.inl Z) ?_
           rintro gu ss tC jm tc mD ⟨rfl,rfl,lw⟩
           have mE:SW w [B2] U gu [.row aa ab 3 1 (nA KL.encI rY)] jm:=mD
           refine zd ?_
           have hE:=nB qb;first | subst r | cases hE
           exact ⟨Z,_,(wDk),gu,_,mE,Z,Z,lw⟩
          ·intro eI qc
           refine cF Z eI (ZS ?_)
           have hE:=nB qc;first | subst r | cases hE
           exact ⟨Z,_,(wDk),bL,_,bY,Z,Z,Z⟩
         ·intro bu qd
          refine oF Z bu (oF Z bu (oF Z bu (oR Z (zZ Z (ZL bu.out) Z) (eN (zn Z (ZS ?_))))))
          have hE:=nB qd;first | subst r | cases hE
          exact ⟨Z,_,(wDk),bL,_,bY,Z,Z,Z⟩
    ·intro d7 qe
     refine cF Z d7 (sR fL2 Z (oM Z Z (oA Z Z (eN (rR fL2 Z (oM Z Z (oA Z Z (eN (sR fL3 Z (oM Z Z (oR Z (ZV Z Z Z) (oA Z Z (eN (bnK qe fun ba rC qf=>?_))))))))))))))
     let B3:Res:=.row aa ab 3 1 (nA KL.encI p0)
     refine Zp (fun σ_ w_=>∃ (U_:PHeap),σ_ 0=.slice aa p0.length ab/\σ_ 1=jV p1/\σ_ 2=jV p2/\σ_ 3=jV p3/\σ_ 4=ap/\σ_ 18=jV (w64 ((wAg (w64 (p1 + p3))) / 2))/\σ_ 19=jV (w64 ((w64 ((wAg (w64 (p1 + p3))) / 2)) + p2))/\σ_ 20=jV ba/\PHeap.Le U U_/\SW w [B3] U U_ [B3] w_) ?_ ?_
     ·refine zf (yf (fun (cJ,cK) σ_ w_=>∃ (U_:PHeap),σ_ 0=.slice aa p0.length ab/\σ_ 1=jV p1/\σ_ 2=jV p2/\σ_ 3=jV p3/\σ_ 4=ap/\σ_ 18=jV (w64 ((wAg (w64 (p1 + p3))) / 2))/\σ_ 19=jV (w64 ((w64 ((wAg (w64 (p1 + p3))) / 2)) + p2))/\σ_ 20=jV cJ/\σ_ 21=jV cK/\σ_ 22=jV (w64 ((w64 ((w64 ((wAg (w64 (p1 + p3))) / 2)) + p2)) - 1))/\PHeap.Le U U_/\SW w [B3] U U_ [B3] w_) rC ?_ ?_)
      ·exact ⟨U,Z,Z,Z,Z,Z,Z,Z,Z,Z,Z,(zK _),hS⟩
      ·rintro ⟨cJ,cK⟩ tW ud gK ⟨i9,cu,fw,fy,fz,dh,fA,fB,dk,fC,fD,dM,iu⟩ fS m4
       try dsimp only at fS
       refine zN (sR fL3 Z (oM Z dk (oM Z fC (oR Z (zP Z Z Z) (eN ?_)))))
       by_cases bU:cJ < cK
       ·have iM:=fS;rw [if_pos bU] at iM;replace bU:=zO bU
        refine cT Z bU (kN (zf (sR fL7 rfl (zL rfl rfl rfl rfl rfl dk (zL rfl rfl rfl rfl rfl fC (zV rfl rfl rfl rfl (fun _=>zU rfl rfl rfl) (zV rfl rfl rfl rfl (fun _=>Runs.cv64 rfl rfl ZM Zd rfl rfl) (zV rfl rfl rfl rfl (fun _=>Runs.shr1 rfl rfl rfl) (zV rfl rfl rfl rfl (fun _=>Runs.cvw rfl rfl Zd ZM rfl rfl) (Zx rfl rfl rfl rfl rfl rfl (eN (zN (zt zq [3,3,3,3,3,3,1,3,3,3,1,2,3,3] (wOu gDu) (by kernel_rfl) ?_)))))))))))))
        have cD:=iu.drew
        generalize hw_W552:({ gK with drawn:=gK.drawn + 1 }:World)=sN at cD ⊢
        refine oM Z dh (oM Z cu (oM Z fD (oM Z Z (oR Z (ZV Z Z Z) (bnK iM fun _ dz qi=>?_)))))
        obtain ⟨sY,dG⟩:=cD.rowSome (j:=0) rfl (by rw [wAE (f:=KL.encI) (sz:=1) (fun _=>rfl) p0];have hz:=wAT dz;omega)
        refine oR Z (zl Z Z dG Z zD zC (wAu dz) (wAv dz)) ?_
        have oh:=wAx (xs:=p0) (wAT dz)
        refine ZD rfl rfl rfl rfl (cD.ldR (j:=0) rfl dG rfl rfl zE (wAS (sz:=1) (fun _=>rfl) _ _ 0 _ oh (by first | omega | rfl | simp) rfl)) rfl (zL rfl rfl rfl rfl rfl cu (zL rfl rfl rfl rfl rfl rfl (bnK qi fun _ fJ qj=>zV rfl rfl rfl rfl (fun _=>zl rfl rfl dG rfl zD zC (wAu fJ) (wAv fJ)) ?_)))
        have oi:=wAx (xs:=p0) (wAT fJ)
        refine ZD rfl rfl rfl rfl (cD.ldR (j:=0) rfl dG rfl rfl zE (wAS (sz:=1) (fun _=>rfl) _ _ 0 _ oi (by first | omega | rfl | simp) rfl)) rfl (bnK qj fun tR ly qk=>?_)
        have lA:=bg.le dM
        refine yZ (a:=((gd p0 (w64 ((w64 ((w64 ((w64 ((wAg (w64 (p1 + p3))) / 2)) + p2)) - 1)) - (w64 ((wAg (w64 (cJ + cK))) / 2)))).toNat),(gd p0 (w64 ((wAg (w64 (cJ + cK))) / 2)).toNat))) Z Z Z Z Z Z (zB Z (zB Z zM)) cD lA Z ly ?_
        rintro dX su tD jo iY mF ⟨rfl,rfl⟩
        have iv:SW w [B3] U dX [B3] jo:=mF
        refine oR Z (zP Z Z Z) (oR Z (Runs.notP Z Z) (eN (ifc qk ?_ ?_)))
        ·intro eK qm
         refine zn (ZL (fun h=>h eK.out)) (rR fL2 Z (oM Z Z (oA Z Z (zd (zm ?_)))))
         have q:=nB qm
         obtain rfl:=q
         exact zI ⟨Z,_,Z,⟨dX,cu,fw,fy,fz,dh,fA,fB,dk,Z,fD,(dM.trans iY),iv⟩⟩
        ·intro eK qn
         refine cT Z eK (rR fL3 Z (oM Z Z (oR Z (zU Z Z Z) (oA Z Z (zd (zm ?_))))))
         have q:=nB qn
         obtain rfl:=q
         exact zI ⟨Z,_,Z,⟨dX,cu,fw,fy,fz,dh,fA,fB,Z,fC,fD,(dM.trans iY),iv⟩⟩
       ·have iN:=fS;rw [if_neg bU] at iN;replace bU:=zO bU
        refine cF Z bU (ZX (zj ?_))
        have q:=wAe iN
        obtain ⟨rO,qp,jC⟩:=q
        have q:=m4 rO jC
        obtain rfl:=q
        refine zj (ZN ?_)
        cases qp
        exact zI ⟨Z,⟨i9,cu,fw,fy,fz,dh,fA,fB,dk,dM,iu⟩⟩
     ·rintro ue sO ⟨dY,gW,gX,dl,gZ,g6,g7,jL,dm,dN,iw⟩
      refine sR fL4 Z (oM Z jL (oM Z dm (oR Z (ZV Z Z Z) (oA Z Z (eN (zN (bnK qf fun jx iU qq=>Zp (fun σ_ w_=>∃ (U_:PHeap),σ_ 0=.slice aa p0.length ab/\σ_ 1=jV p1/\σ_ 2=jV p2/\σ_ 3=jV p3/\σ_ 4=ap/\σ_ 18=jV (w64 ((wAg (w64 (p1 + p3))) / 2))/\σ_ 20=jV ba/\σ_ 24=jV (w64 ((w64 ((w64 ((wAg (w64 (p1 + p3))) / 2)) + p2)) - ba))/\σ_ 185=.bool jx/\PHeap.Le dY U_/\SW w [B3] U U_ [B3] w_) ?_ ?_)))))))
      ·refine rR fL8 Z (oM Z dm (oM Z dl (oR Z (zP Z Z Z) (oM Z Z ?_))))
       by_cases aY:ba < p2
       ·have iO:=iU;rw [if_pos aY] at iO;replace aY:=zO aY
        refine zL Z Z Z (wT Z aY) Z dl (zL Z Z Z (wT Z aY) Z Z (rU Z (wT Z aY) (zP Z Z Z) (oR Z (zY Z (ZY aY.out) Z) (zd ?_))))
        have q:=nB iO
        obtain rfl:=q
        exact zI ⟨Z,⟨dY,gW,gX,dl,gZ,g6,g7,dm,Z,Z,(zK _),iw⟩⟩
       ·have iP:=iU;rw [if_neg aY] at iP;replace aY:=zO aY
        refine oF Z aY (oF Z aY (oF Z aY (oR Z (zZ Z (ZL aY.out) Z) (zd ?_))))
        cases iP
        exact zI ⟨Z,⟨dY,gW,gX,dl,gZ,g6,g7,dm,Z,Z,(zK _),iw⟩⟩
      ·rintro uf cU ⟨bN,bH,dp,jM,bi,bI,aW,cd,aS,g8,dO,bZ⟩
       refine ifc qq ?_ ?_
       ·intro eL qr
        refine ZH (g8.trans (congrArg nD eL.out)) (rR (wDC (.fx 5 .nil .stop)) Z (oM Z bH (oM Z cd (oM Z jM (oM Z aS (oM Z bI ?_))))))
        have lB:=bg.le dN
        have dA:=lB.le dO
        refine bnK qr fun bK lC qt=>zH 1 Z Z Z Z (zG Z Z Tryz.call99 (zB Z (zB Z (zB Z (zB Z (zB Z zM))))) Z) bZ (fun hs=>wCX p0 aa ab ba p2 (w64 ((w64 ((w64 ((wAg (w64 (p1 + p3))) / 2)) + p2)) - ba)) p4 ap cU bN hs dA lC) (.inl Z) ?_
        rintro bO sv tE cV fV mG ⟨rfl,rfl,bf⟩
        have cj:SW w [B3] U bO [.row aa ab 3 1 (nA KL.encI bK)] cV:=mG
        refine eN (zN (sR fL8 Z (oM Z dp (oM Z cd (oR Z (zP Z Z Z) (oM Z Z (ifc qt ?_ ?_)))))))
        ·intro bv qv
         refine zL Z Z Z (wT Z bv) Z cd (zL Z Z Z (wT Z bv) Z aW (rU Z (wT Z bv) (zP Z Z Z) (oR Z (zY Z (ZY bv.out) Z) (eN (ifc qv ?_ ?_)))))
         ·intro eM qw
          refine cT Z eM (rR (wDC (.fx 5 .nil .stop)) rfl (zL rfl rfl rfl rfl rfl (nM (b:=(.slice aa p0.length ab:Value)) (c:=(.slice aa bK.length ab:Value)) bH (by rw [bf])) (zL rfl rfl rfl rfl rfl dp (zL rfl rfl rfl rfl rfl cd (zL rfl rfl rfl rfl rfl aW (zL rfl rfl rfl rfl rfl bI ?_))))))
          have ig:=dA.le fV
          refine bnK qw fun gb lD qx=>zH 1 Z Z Z Z (zG Z Z Zn (zB Z (zB Z (zB Z (zB Z (zB Z zM))))) Z) cj (fun hs=>ih bK aa ab p1 ba (w64 ((wAg (w64 (p1 + p3))) / 2)) p4 ap cV bO hs ig lD) (.inl Z) ?_
          rintro cO sw tF gL rH mH ⟨rfl,rfl,dB⟩
          have fM:SW w [B3] U cO [.row aa ab 3 1 (nA KL.encI gb)] gL:=mH
          refine eN (sR fL8 Z (oM Z aW (oM Z aS (oR Z (zP Z Z Z) (oM Z Z (ifc qx ?_ ?_))))))
          ·intro bw qy
           refine zL Z Z Z (wT Z bw) Z aS (zL Z Z Z (wT Z bw) Z bi (rU Z (wT Z bw) (zP Z Z Z) (oR Z (zY Z (ZY bw.out) Z) (eN (ifc qy ?_ ?_)))))
           ·intro eO qz
            refine cT Z eO (rR (wDC (.fx 5 .nil .stop)) rfl (zL rfl rfl rfl rfl rfl (nM (b:=(.slice aa bK.length ab:Value)) (c:=(.slice aa gb.length ab:Value)) (nM (b:=(.slice aa p0.length ab:Value)) (c:=(.slice aa bK.length ab:Value)) bH (by rw [bf])) (by rw [dB])) (zL rfl rfl rfl rfl rfl aW (zL rfl rfl rfl rfl rfl aS (zL rfl rfl rfl rfl rfl bi (zL rfl rfl rfl rfl rfl bI ?_))))))
            have lE:=ig.le rH
            refine bnK qz fun rZ lF qA=>zH 1 Z Z Z Z (zG Z Z Zn (zB Z (zB Z (zB Z (zB Z (zB Z zM))))) Z) fM (fun hs=>ih gb aa ab (w64 ((wAg (w64 (p1 + p3))) / 2)) (w64 ((w64 ((w64 ((wAg (w64 (p1 + p3))) / 2)) + p2)) - ba)) p3 p4 ap gL cO hs lE lF) (.inl Z) ?_
            rintro gv sA tG jp td mI ⟨rfl,rfl,lG⟩
            have mJ:SW w [B3] U gv [.row aa ab 3 1 (nA KL.encI rZ)] jp:=mI
            refine zd ?_
            have hE:=nB qA;first | subst r | cases hE
            exact ⟨Z,_,(wDk),gv,_,mJ,Z,Z,((lG.trans dB).trans bf)⟩
           ·intro eO qB
            refine cF Z eO (ZS ?_)
            have hE:=nB qB;first | subst r | cases hE
            exact ⟨Z,_,(wDk),cO,_,fM,Z,Z,(dB.trans bf)⟩
          ·intro bw qC
           refine oF Z bw (oF Z bw (oF Z bw (oR Z (zZ Z (ZL bw.out) Z) (eN (zn Z (ZS ?_))))))
           have hE:=nB qC;first | subst r | cases hE
           exact ⟨Z,_,(wDk),cO,_,fM,Z,Z,(dB.trans bf)⟩
         ·intro eM qD
          refine cF Z eM (kN (sR fL8 Z (oM Z aW (oM Z aS (oR Z (zP Z Z Z) (oM Z Z (ifc qD ?_ ?_)))))))
          ·intro bz qE
           refine zL Z Z Z (wT Z bz) Z aS (zL Z Z Z (wT Z bz) Z bi (rU Z (wT Z bz) (zP Z Z Z) (oR Z (zY Z (ZY bz.out) Z) (eN (ifc qE ?_ ?_)))))
           ·intro eQ qF
            refine cT Z eQ (rR (wDC (.fx 5 .nil .stop)) rfl (zL rfl rfl rfl rfl rfl (nM (b:=(.slice aa p0.length ab:Value)) (c:=(.slice aa bK.length ab:Value)) bH (by rw [bf])) (zL rfl rfl rfl rfl rfl aW (zL rfl rfl rfl rfl rfl aS (zL rfl rfl rfl rfl rfl bi (zL rfl rfl rfl rfl rfl bI ?_))))))
            have lH:=dA.le fV
            refine bnK qF fun r6 lI qG=>zH 1 Z Z Z Z (zG Z Z Zn (zB Z (zB Z (zB Z (zB Z (zB Z zM))))) Z) cj (fun hs=>ih bK aa ab (w64 ((wAg (w64 (p1 + p3))) / 2)) (w64 ((w64 ((w64 ((wAg (w64 (p1 + p3))) / 2)) + p2)) - ba)) p3 p4 ap cV bO hs lH lI) (.inl Z) ?_
            rintro gw sB tH jq te mK ⟨rfl,rfl,lJ⟩
            have mL:SW w [B3] U gw [.row aa ab 3 1 (nA KL.encI r6)] jq:=mK
            refine zd ?_
            have hE:=nB qG;first | subst r | cases hE
            exact ⟨Z,_,(wDk),gw,_,mL,Z,Z,(lJ.trans bf)⟩
           ·intro eQ qH
            refine cF Z eQ (ZS ?_)
            have hE:=nB qH;first | subst r | cases hE
            exact ⟨Z,_,(wDk),bO,_,cj,Z,Z,bf⟩
          ·intro bz qI
           refine oF Z bz (oF Z bz (oF Z bz (oR Z (zZ Z (ZL bz.out) Z) (eN (zn Z (ZS ?_))))))
           have hE:=nB qI;first | subst r | cases hE
           exact ⟨Z,_,(wDk),bO,_,cj,Z,Z,bf⟩
        ·intro bv qJ
         refine oF Z bv (oF Z bv (oF Z bv (oR Z (zZ Z (ZL bv.out) Z) (eN (zn Z (kN (sR fL8 Z (oM Z aW (oM Z aS (oR Z (zP Z Z Z) (oM Z Z (ifc qJ ?_ ?_))))))))))))
         ·intro bA qK
          refine zL Z Z Z (wT Z bA) Z aS (zL Z Z Z (wT Z bA) Z bi (rU Z (wT Z bA) (zP Z Z Z) (oR Z (zY Z (ZY bA.out) Z) (eN (ifc qK ?_ ?_)))))
          ·intro eU qL
           refine cT Z eU (rR (wDC (.fx 5 .nil .stop)) rfl (zL rfl rfl rfl rfl rfl (nM (b:=(.slice aa p0.length ab:Value)) (c:=(.slice aa bK.length ab:Value)) bH (by rw [bf])) (zL rfl rfl rfl rfl rfl aW (zL rfl rfl rfl rfl rfl aS (zL rfl rfl rfl rfl rfl bi (zL rfl rfl rfl rfl rfl bI ?_))))))
           have lK:=dA.le fV
           refine bnK qL fun r7 lL qM=>zH 1 Z Z Z Z (zG Z Z Zn (zB Z (zB Z (zB Z (zB Z (zB Z zM))))) Z) cj (fun hs=>ih bK aa ab (w64 ((wAg (w64 (p1 + p3))) / 2)) (w64 ((w64 ((w64 ((wAg (w64 (p1 + p3))) / 2)) + p2)) - ba)) p3 p4 ap cV bO hs lK lL) (.inl Z) ?_
           rintro gA sC tI jr tg mN ⟨rfl,rfl,lM⟩
           have mO:SW w [B3] U gA [.row aa ab 3 1 (nA KL.encI r7)] jr:=mN
           refine zd ?_
           have hE:=nB qM;first | subst r | cases hE
           exact ⟨Z,_,(wDk),gA,_,mO,Z,Z,(lM.trans bf)⟩
          ·intro eU qO
           refine cF Z eU (ZS ?_)
           have hE:=nB qO;first | subst r | cases hE
           exact ⟨Z,_,(wDk),bO,_,cj,Z,Z,bf⟩
         ·intro bA qP
          refine oF Z bA (oF Z bA (oF Z bA (oR Z (zZ Z (ZL bA.out) Z) (eN (zn Z (ZS ?_))))))
          have hE:=nB qP;first | subst r | cases hE
          exact ⟨Z,_,(wDk),bO,_,cj,Z,Z,bf⟩
       ·intro eL qQ
        refine zn (g8.trans (congrArg nD (nI.2 eL.out))) (kN (zN (sR fL8 Z (oM Z dp (oM Z cd (oR Z (zP Z Z Z) (oM Z Z (ifc qQ ?_ ?_))))))))
        ·intro bB qR
         refine zL Z Z Z (wT Z bB) Z cd (zL Z Z Z (wT Z bB) Z aW (rU Z (wT Z bB) (zP Z Z Z) (oR Z (zY Z (ZY bB.out) Z) (eN (ifc qR ?_ ?_)))))
         ·intro eV qS
          refine cT Z eV (rR (wDC (.fx 5 .nil .stop)) Z (oM Z bH (oM Z dp (oM Z cd (oM Z aW (oM Z bI ?_))))))
          have lN:=bg.le dN
          have ii:=lN.le dO
          refine bnK qS fun ge lO qT=>zH 1 Z Z Z Z (zG Z Z Zn (zB Z (zB Z (zB Z (zB Z (zB Z zM))))) Z) bZ (fun hs=>ih p0 aa ab p1 ba (w64 ((wAg (w64 (p1 + p3))) / 2)) p4 ap cU bN hs ii lO) (.inl Z) ?_
          rintro cP sD tJ gM rI mP ⟨rfl,rfl,dC⟩
          have fN:SW w [B3] U cP [.row aa ab 3 1 (nA KL.encI ge)] gM:=mP
          refine eN (sR fL8 Z (oM Z aW (oM Z aS (oR Z (zP Z Z Z) (oM Z Z (ifc qT ?_ ?_))))))
          ·intro bC qU
           refine zL Z Z Z (wT Z bC) Z aS (zL Z Z Z (wT Z bC) Z bi (rU Z (wT Z bC) (zP Z Z Z) (oR Z (zY Z (ZY bC.out) Z) (eN (ifc qU ?_ ?_)))))
           ·intro eW qV
            refine cT Z eW (rR (wDC (.fx 5 .nil .stop)) rfl (zL rfl rfl rfl rfl rfl (nM (b:=(.slice aa p0.length ab:Value)) (c:=(.slice aa ge.length ab:Value)) bH (by rw [dC])) (zL rfl rfl rfl rfl rfl aW (zL rfl rfl rfl rfl rfl aS (zL rfl rfl rfl rfl rfl bi (zL rfl rfl rfl rfl rfl bI ?_))))))
            have lP:=ii.le rI
            refine bnK qV fun r8 lQ qW=>zH 1 Z Z Z Z (zG Z Z Zn (zB Z (zB Z (zB Z (zB Z (zB Z zM))))) Z) fN (fun hs=>ih ge aa ab (w64 ((wAg (w64 (p1 + p3))) / 2)) (w64 ((w64 ((w64 ((wAg (w64 (p1 + p3))) / 2)) + p2)) - ba)) p3 p4 ap gM cP hs lP lQ) (.inl Z) ?_
            rintro gB sE tK jt th mQ ⟨rfl,rfl,lR⟩
            have mR:SW w [B3] U gB [.row aa ab 3 1 (nA KL.encI r8)] jt:=mQ
            refine zd ?_
            have hE:=nB qW;first | subst r | cases hE
            exact ⟨Z,_,(wDk),gB,_,mR,Z,Z,(lR.trans dC)⟩
           ·intro eW qX
            refine cF Z eW (ZS ?_)
            have hE:=nB qX;first | subst r | cases hE
            exact ⟨Z,_,(wDk),cP,_,fN,Z,Z,dC⟩
          ·intro bC qY
           refine oF Z bC (oF Z bC (oF Z bC (oR Z (zZ Z (ZL bC.out) Z) (eN (zn Z (ZS ?_))))))
           have hE:=nB qY;first | subst r | cases hE
           exact ⟨Z,_,(wDk),cP,_,fN,Z,Z,dC⟩
         ·intro eV qZ
          refine cF Z eV (kN (sR fL8 Z (oM Z aW (oM Z aS (oR Z (zP Z Z Z) (oM Z Z (ifc qZ ?_ ?_)))))))
          ·intro bD rc
           refine zL Z Z Z (wT Z bD) Z aS (zL Z Z Z (wT Z bD) Z bi (rU Z (wT Z bD) (zP Z Z Z) (oR Z (zY Z (ZY bD.out) Z) (eN (ifc rc ?_ ?_)))))
           ·intro eX re
            refine cT Z eX (rR (wDC (.fx 5 .nil .stop)) Z (oM Z bH (oM Z aW (oM Z aS (oM Z bi (oM Z bI ?_))))))
            have lS:=bg.le dN
            have lT:=lS.le dO
            refine bnK re fun r9 lU ri=>zH 1 Z Z Z Z (zG Z Z Zn (zB Z (zB Z (zB Z (zB Z (zB Z zM))))) Z) bZ (fun hs=>ih p0 aa ab (w64 ((wAg (w64 (p1 + p3))) / 2)) (w64 ((w64 ((w64 ((wAg (w64 (p1 + p3))) / 2)) + p2)) - ba)) p3 p4 ap cU bN hs lT lU) (.inl Z) ?_
            rintro gC sF tL ju tj mS ⟨rfl,rfl,lV⟩
            have mT:SW w [B3] U gC [.row aa ab 3 1 (nA KL.encI r9)] ju:=mS
            refine zd ?_
            have hE:=nB ri;first | subst r | cases hE
            exact ⟨Z,_,(wDk),gC,_,mT,Z,Z,lV⟩
           ·intro eX rj
            refine cF Z eX (ZS ?_)
            have hE:=nB rj;first | subst r | cases hE
            exact ⟨Z,_,(wDk),bN,_,bZ,Z,Z,Z⟩
          ·intro bD rk
           refine oF Z bD (oF Z bD (oF Z bD (oR Z (zZ Z (ZL bD.out) Z) (eN (zn Z (ZS ?_))))))
           have hE:=nB rk;first | subst r | cases hE
           exact ⟨Z,_,(wDk),bN,_,bZ,Z,Z,Z⟩
        ·intro bB rn
         refine oF Z bB (oF Z bB (oF Z bB (oR Z (zZ Z (ZL bB.out) Z) (eN (zn Z (kN (sR fL8 Z (oM Z aW (oM Z aS (oR Z (zP Z Z Z) (oM Z Z (ifc rn ?_ ?_))))))))))))
         ·intro bE ro
          refine zL Z Z Z (wT Z bE) Z aS (zL Z Z Z (wT Z bE) Z bi (rU Z (wT Z bE) (zP Z Z Z) (oR Z (zY Z (ZY bE.out) Z) (eN (ifc ro ?_ ?_)))))
          ·intro eY rp
           refine cT Z eY (rR (wDC (.fx 5 .nil .stop)) Z (oM Z bH (oM Z aW (oM Z aS (oM Z bi (oM Z bI ?_))))))
           have lW:=bg.le dN
           have lX:=lW.le dO
           refine bnK rp fun sb lY rq=>zH 1 Z Z Z Z (zG Z Z Zn (zB Z (zB Z (zB Z (zB Z (zB Z zM))))) Z) bZ (fun hs=>ih p0 aa ab (w64 ((wAg (w64 (p1 + p3))) / 2)) (w64 ((w64 ((w64 ((wAg (w64 (p1 + p3))) / 2)) + p2)) - ba)) p3 p4 ap cU bN hs lX lY) (.inl Z) ?_
           rintro gD sG tM jv tl mU ⟨rfl,rfl,lZ⟩
           have mV:SW w [B3] U gD [.row aa ab 3 1 (nA KL.encI sb)] jv:=mU
           refine zd ?_
           have hE:=nB rq;first | subst r | cases hE
           exact ⟨Z,_,(wDk),gD,_,mV,Z,Z,lZ⟩
          ·intro eY rx
           refine cF Z eY (ZS ?_)
           have hE:=nB rx;first | subst r | cases hE
           exact ⟨Z,_,(wDk),bN,_,bZ,Z,Z,Z⟩
         ·intro bE ry
          refine oF Z bE (oF Z bE (oF Z bE (oR Z (zZ Z (ZL bE.out) Z) (eN (zn Z (ZS ?_))))))
          have hE:=nB ry;first | subst r | cases hE
          exact ⟨Z,_,(wDk),bN,_,bZ,Z,Z,Z⟩
end Go.Proofs.YtkeeechdijfkhaaGreat
namespace Go.Proofs.YtkeeechdijfkhaaGreat
open Go.KL
set_option maxHeartbeats 4000000
theorem wDv (p0:List Int) (aa:Option Addr) (ab:Nat) (p1:Int) (p2:((Int × Int)->Option Int)) (ai:Value) (w:World) (U:PHeap) (hS:St0 w U [.row aa ab 3 1 (nA KL.encI p0)]) (cj:FnOK Tryz.prog U ai wRa wRb p2) {r:(List Int)} (hm:wBJ p0 p1 p2=some r):Gv Tryz.prog 59 [.slice aa p0.length ab,jV p1,ai] w (wCQ w [.row aa ab 3 1 (nA KL.encI p0)] U (fun U_ L_ v=>v=.tuple #[]/\L_=[.row aa ab 3 1 (nA KL.encI r)]/\r.length=p0.length)):=by
 unfold wBJ at hm
 refine Gv.of Tryz.func59 Z Tryz.ntmps59 Tryz.results59 Z (sR fL1 Z (oA Z Z (eN (sR fL3 Z (oM Z Z (oA Z Z (oA Z Z (eN ?_))))))))
 have q:=bnd hm
 obtain ⟨⟨l2,x3⟩,dK,cw⟩:=q
 try dsimp only at cw
 let B0:Res:=.row aa ab 3 1 (nA KL.encI p0)
 refine Zp (fun σ_ w_=>∃ (U_:PHeap),σ_ 0=.slice aa l2.length ab/\σ_ 1=jV p1/\σ_ 2=ai/\σ_ 6=jV 20/\σ_ 7=jV x3/\PHeap.Le U U_/\SW w [B0] U U_ [.row aa ab 3 1 (nA KL.encI l2)] w_/\l2.length=p0.length) ?_ ?_
 refine zf (yf (fun (au,bG,bf) σ_ w_=>∃ (U_:PHeap),σ_ 0=.slice aa au.length ab/\σ_ 1=jV p1/\σ_ 2=ai/\σ_ 6=jV 20/\σ_ 7=jV bG/\σ_ 8=jV bf/\PHeap.Le U U_/\SW w [B0] U U_ [.row aa ab 3 1 (nA KL.encI au)] w_/\au.length=p0.length) dK ?_ ?_)
 exact ⟨U,Z,Z,Z,Z,Z,Z,(zK _),hS,Z⟩
 rintro ⟨au,bG,bf⟩ d9 eA cJ ⟨bL,br,bt,bu,bv,bP,aX,bE,cg,bY⟩ bA dy
 try dsimp only at bA
 refine zN (sR fL3 Z (oM Z aX (oM Z bt (oR Z (yb Z Z Z) (eN ?_)))))
 by_cases ap:bf <= p1
 have ct:=bA;rw [if_pos ap] at ct;replace ap:=zO ap
 refine cT Z ap (kN (zf (sR (wEU (.fx 4 .nil .stop)) Z (oM Z br (oM Z bP (oM Z aX (oM Z bu ?_)))))))
 have df:=cj.le bE
 refine bnK ct fun x39 dg dG=>zH 1 Z Z Z Z (zG Z Z Tryz.call83 (zB Z (zB Z (zB Z (zB Z zM)))) Z) cg (fun hs=>wBl au aa ab bG bf p2 ai cJ bL hs df dg) (.inl Z) ?_
 rintro bM dU dZ cK dN dr ⟨rfl,rfl,bZ⟩
 have dt:SW w [B0] U bM [.row aa ab 3 1 (nA KL.encI x39)] cK:=dr
 refine eN (sR fL2 Z (oM Z aX (oA Z Z (eN (rR fL4 Z (oM Z aX (oM Z bv (oR Z (zU Z Z Z) (oA Z Z (zd (zm ?_)))))))))))
 have q:=nB dG
 obtain rfl:=q
 exact zI ⟨rfl,_,rfl,⟨bM,(nM (b:=(.slice aa au.length ab:Value)) (c:=(.slice aa x39.length ab:Value)) br (by rw [bZ])),bt,bu,bv,rfl,rfl,(bE.trans dN),dt,(bZ.trans bY)⟩⟩
 have cu:=bA;rw [if_neg ap] at cu;replace ap:=zO ap
 refine cF Z ap (ZX (zj ?_))
 have q:=wAe cu
 obtain ⟨dR,dH,cP⟩:=q
 have q:=dy dR cP
 obtain rfl:=q
 refine zj (ZN ?_)
 cases dH
 exact zI ⟨Z,⟨bL,br,bt,bu,bv,bP,bE,cg,bY⟩⟩
 rintro eD cL ⟨cC,bQ,bR,bS,cS,cU,dO,du,dh⟩
 refine sR (wEU (.fx 4 .nil .stop)) Z (oM Z bQ (oM Z cU (oM Z bR (oM Z bS ?_))))
 have bw:=cj.le dO
 refine bnK cw fun cB dk dI=>zH 1 Z Z Z Z (zG Z Z Tryz.call83 (zB Z (zB Z (zB Z (zB Z zM)))) Z) du (fun hs=>wBl l2 aa ab x3 p1 p2 ai cL cC hs bw dk) (.inl Z) ?_
 rintro bg dV d5 cM cx dv ⟨rfl,rfl,cb⟩
 have dw:SW w [B0] U bg [.row aa ab 3 1 (nA KL.encI cB)] cM:=dv
 refine eN (zf (yf (fun (aY,x89) σ_ w_=>∃ (U_:PHeap),σ_ 0=.slice aa aY.length ab/\σ_ 1=jV p1/\σ_ 2=ai/\σ_ 6=jV x89/\PHeap.Le bg U_/\SW w [B0] U U_ [.row aa ab 3 1 (nA KL.encI aY)] w_/\aY.length=p0.length) dI ?_ ?_))
 exact ⟨bg,(nM (b:=(.slice aa l2.length ab:Value)) (c:=(.slice aa cB.length ab:Value)) bQ (by rw [cb])),bR,bS,cS,(zK _),dw,(cb.trans dh)⟩
 rintro ⟨aY,x89⟩ eg eE dW ⟨aT,cQ,bN,cR,bi,aZ,ci,bT⟩ bB dz
 try dsimp only at bB
 refine zN (sR fL3 Z (oM Z bi (oM Z bN (oR Z (zP Z Z Z) (eN ?_)))))
 by_cases ak:x89 < p1
 have cm:=bB;rw [if_pos ak] at cm;replace ak:=zO ak
 refine cT Z ak (kN (zf (sR fL4 Z (oM Z bi (oR Z (Runs.mulw Z Z Z) (oA Z Z (oA Z Z (eN ?_))))))))
 have q:=bnd cm
 obtain ⟨⟨az,bF⟩,dJ,cn⟩:=q
 try dsimp only at cn
 refine Zp (fun σ_ w_=>∃ (U_:PHeap),σ_ 0=.slice aa az.length ab/\σ_ 1=jV p1/\σ_ 2=ai/\σ_ 6=jV x89/\σ_ 7=jV bF/\PHeap.Le aT U_/\SW w [B0] U U_ [.row aa ab 3 1 (nA KL.encI az)] w_/\az.length=p0.length) ?_ ?_
 refine zf (yf (fun (aq,ba,bb) σ_ w_=>∃ (U_:PHeap),σ_ 0=.slice aa aq.length ab/\σ_ 1=jV p1/\σ_ 2=ai/\σ_ 6=jV x89/\σ_ 7=jV ba/\σ_ 8=jV bb/\PHeap.Le aT U_/\SW w [B0] U U_ [.row aa ab 3 1 (nA KL.encI aq)] w_/\aq.length=p0.length) dJ ?_ ?_)
 exact ⟨aT,cQ,bN,cR,bi,Z,Z,(zK _),ci,bT⟩
 rintro ⟨aq,ba,bb⟩ d7 eh cD ⟨bH,bj,bk,bm,aU,bn,aV,bC,cd,bU⟩ bz dx
 try dsimp only at bz
 refine zN (sR fL3 Z (oM Z aV (oM Z bk (oR Z (yb Z Z Z) (eN ?_)))))
 by_cases am:bb <= p1
 have cp:=bz;rw [if_pos am] at cp;replace am:=zO am
 refine cT Z am (kN (zf (sR (wJv (.fx 7 .nil .stop)) Z (oM Z bj (oM Z bn (oM Z bn (oM Z aU (oR Z (zU Z Z Z) (oM Z aV (oM Z bm ?_))))))))))
 have cV:=bw.le cx
 have cW:=cV.le aZ
 have cX:=cW.le bC
 refine bnK cp fun cy cY dA=>zH 1 Z Z Z Z (zG Z Z Zn (zB Z (zB Z (zB Z (zB Z (zB Z zM))))) Z) cd (fun hs=>wCP 1000 aq aa ab ba (w64 (ba + x89)) bb p2 ai cD bH hs cX cY) (.inl Z) ?_
 rintro bI dS dX cG dL dl ⟨rfl,rfl,bV⟩
 have dm:SW w [B0] U bI [.row aa ab 3 1 (nA KL.encI cy)] cG:=dl
 refine eN (sR fL2 Z (oM Z aV (oA Z Z (eN (rR fL5 Z (oM Z aV (oM Z aU (oR Z (Runs.mulw Z Z Z) (oR Z (zU Z Z Z) (oA Z Z (zd (zm ?_))))))))))))
 have q:=nB dA
 obtain rfl:=q
 exact zI ⟨rfl,_,rfl,⟨bI,(nM (b:=(.slice aa aq.length ab:Value)) (c:=(.slice aa cy.length ab:Value)) bj (by rw [bV])),bk,bm,aU,rfl,rfl,(bC.trans dL),dm,(bV.trans bU)⟩⟩
 have cq:=bz;rw [if_neg am] at cq;replace am:=zO am
 refine cF Z am (ZX (zj ?_))
 have q:=wAe cq
 obtain ⟨dP,dB,cN⟩:=q
 have q:=dx dP cN
 obtain rfl:=q
 refine zj (ZN ?_)
 cases dB
 exact zI ⟨Z,⟨bH,bj,bk,bm,aU,bn,bC,cd,bU⟩⟩
 rintro eu cH ⟨bJ,bo,aW,bp,bq,bO,bD,cf,bW⟩
 refine zN (sR fL4 Z (oM Z bO (oM Z bq (oR Z (zU Z Z Z) (oA Z Z (eN (sR fL3 Z (oM Z Z (oM Z aW (oR Z (zP Z Z Z) (eN (ifc cn ?_ ?_))))))))))))
 intro bh dC
 refine cT Z bh (rR (wDC (.fx 5 .nil .stop)) Z (oM Z bo (oM Z bO (oM Z Z (oM Z aW (oM Z bp ?_))))))
 have cZ:=bw.le cx
 have da:=cZ.le aZ
 have db:=da.le bD
 refine bnK dC fun cz de dD=>zH 1 Z Z Z Z (zG Z Z Zn (zB Z (zB Z (zB Z (zB Z (zB Z zM))))) Z) cf (fun hs=>wCP 1000 az aa ab bF (w64 (bF + x89)) p1 p2 ai cH bJ hs db de) (.inl Z) ?_
 rintro bK dT dY cI dM dp ⟨rfl,rfl,bX⟩
 have dq:SW w [B0] U bK [.row aa ab 3 1 (nA KL.encI cz)] cI:=dp
 refine eN (rR fL3 Z (oM Z bq (oR Z (Runs.mulw Z Z Z) (oA Z Z (zd (zm ?_))))))
 have q:=nB dD
 obtain rfl:=q
 exact zI ⟨rfl,_,rfl,⟨bK,(nM (b:=(.slice aa az.length ab:Value)) (c:=(.slice aa cz.length ab:Value)) bo (by rw [bX])),aW,bp,rfl,((aZ.trans bD).trans dM),dq,(bX.trans bW)⟩⟩
 intro bh dE
 refine cF Z bh (kN (rR fL3 Z (oM Z bq (oR Z (Runs.mulw Z Z Z) (oA Z Z (zd (zm ?_)))))))
 have q:=nB dE
 obtain rfl:=q
 exact zI ⟨Z,_,Z,⟨bJ,bo,aW,bp,Z,(aZ.trans bD),cf,bW⟩⟩
 have cr:=bB;rw [if_neg ak] at cr;replace ak:=zO ak
 refine cF Z ak (ZX (zj ?_))
 have q:=wAe cr
 obtain ⟨dQ,dF,cO⟩:=q
 have q:=dz dQ cO
 obtain rfl:=q
 refine zj (ZN ?_)
 have hE:=nB dF;first | subst r | cases hE
 exact ⟨Z,_,(wDk),aT,_,ci,Z,Z,bT⟩
theorem wDJ (p0:List Int) (ab:Option Addr) (ae:Nat) (p1:((Int × Int)->Option Int)) (ai:Value) (w:World) (U:PHeap) (hS:St0 w U [.row ab ae 3 1 (nA KL.encI p0)]) (av:FnOK Tryz.prog U ai wRa wRb p1) {r:(List Int)} (hm:wAm p0 p1=some r):Gv Tryz.prog 37 [.slice ab p0.length ae,ai] w (wCQ w [.row ab ae 3 1 (nA KL.encI p0)] U (fun U_ L_ v=>v=.tuple #[]/\L_=[.row ab ae 3 1 (nA KL.encI r)]/\r.length=p0.length)):=by
 unfold wAm at hm
 refine Gv.of Tryz.func37 Z Tryz.ntmps37 Tryz.results37 Z (rR (wEU (.fx 4 .nil .stop)) Z (oM Z Z (oM Z Z (oR Z (ZU Z Z zD) (oM Z Z (bnK hm fun x2 h3 az=>zH 1 Z Z Z Z (zG Z Z Tryz.call59 (zB Z (zB Z (zB Z zM))) Z) hS (fun hs=>wDv p0 ab ae (↑p0.length:Int) p1 ai w U hs av h3) (.inl Z) ?_))))))
 rintro U5 L6 v7 W8 aU aq ⟨rfl,rfl,am⟩
 have au:SW w [.row ab ae 3 1 (nA KL.encI p0)] U U5 [.row ab ae 3 1 (nA KL.encI x2)] W8:=aq
 refine zd ?_
 have hE:=nB az;first | subst r | cases hE
 exact ⟨Z,_,(wDk),U5,_,au,Z,Z,am⟩
theorem wCk (p0:wAG) (p1:Int) (w:World) (U:PHeap) (hS:St0 w U [])  {r:Bool} (hm:wAl p0 p1=some r):Gv Tryz.prog 26 [.agg #[jV p0.Who,jV p0.From,jV p0.To],jV p1] w (wCQ w [] U (fun U_ L_ v=>v=.bool r/\L_=[])):=by
 unfold wAl at hm
 refine Gv.of Tryz.func26 rfl Tryz.ntmps26 Tryz.results26 rfl (sR gDq rfl (ZG (cs:=[jV p0.Who,jV p0.From,jV p0.To]) rfl rfl rfl rfl rfl rfl (by rfl) hS ?_))
 intro W1 b2 ae
 refine oA Z Z (eN (sR wTW Z (oR Z (zJ Z Z Zu Z zC) (oL Z (ae.ldB (j:=0) Z Z Z zE (v:=jV p0.From) Z) (oM Z Z (oR Z (yb Z Z Z) (oM Z Z ?_)))))))
 by_cases c5:p0.From <= p1
 have ah:=hm;rw [if_pos c5] at ah;replace c5:=zO c5
 refine rU Z (wT Z c5) (zJ Z Z Zu Z zC) (ZD Z Z Z (wT Z c5) (ae.ldB (j:=0) Z Z Z zE (v:=jV p0.To) Z) Z (zL Z Z Z (wT Z c5) Z Z (rU Z (wT Z c5) (yN Z Z Z) (oR Z (zY Z (ZY c5.out) Z) (oA Z Z (eN (zS ?_)))))))
 first | (obtain rfl:=nB ah) | cases ah
 exact ⟨rfl,_,(ZT rfl),U,_,(ae.pick [] _ (by decide) rfl),rfl,rfl⟩
 have aj:=hm;rw [if_neg c5] at aj;replace c5:=zO c5
 refine oF Z c5 (oF Z c5 (oF Z c5 (oF Z c5 (oR Z (zZ Z (ZL c5.out) Z) (oA Z Z (eN (zS ?_)))))))
 have hE:=nB aj;first | subst r | cases hE
 exact ⟨rfl,_,(ZT rfl),U,_,(ae.pick [] _ (by decide) rfl),rfl,rfl⟩
theorem wFx (p0:List wAG) (aj:Option Addr) (ak:Nat) (p1:Int) (p2:Int) (w:World) (U:PHeap) (hS:St0 w U []) (fS:Sl U 3 aj ak p0.length (nA wAY p0)) {r:(List Int) × (List Int) × Int} (hm:wBZ p0 p1 p2=some r):Gv Tryz.prog 22 [.slice aj p0.length ak,jV p1,jV p2] w (wCQ w [] U (fun U_ L_ v=>∃ (A0:Option Addr) (c0:Nat) (A1:Option Addr) (c1:Nat),v=.tuple #[.slice A0 r.1.length c0,.slice A1 r.2.1.length c1,jV r.2.2]/\L_=[.row A0 c0 3 1 (nA KL.encI r.1),.row A1 c1 3 1 (nA KL.encI r.2.1)])):=by
 unfold wBZ at hm
 refine Gv.of Tryz.func22 rfl Tryz.ntmps22 Tryz.results22 rfl (sR (.fx 0 (fC1_3 (.nil)) .stop) rfl (ZG (cs:=[.slice aj p0.length ak]) rfl rfl rfl rfl rfl rfl (by rfl) hS ?_))
 intro W1 b2 fJ
 have q:=fJ.freeze (k:=0) rfl
 obtain ⟨U5,gM,aY,fO⟩:=q
 replace aY:=Cl.of aY
 have cX:sW w U U5 [] W1:=fO
 replace aY:Cl U5 b2 0 [.slice aj p0.length ak]:=aY
 refine oA Z Z (oA Z Z (oA Z Z (eN (sR gDw Z (oL Z (cX.ldC (f:=0) aY (v:=.slice aj p0.length ak) Z Z Tryz.isAgg34 Z) (oR Z (ZU Z Z Zk) (bnK hm fun aq eJ gf=>OKS.makeSlice (enc:=KL.encI) (z:=(0:Int)) (v:=jV 0) Z Z Z Z Z (wCM zD) wJX Z Z Z Z Z Z eJ cX ?_)))))))
 intro dt aX fz
 have cR:sW w U U5 [.row (some ⟨aX,0,none⟩) aq.length 3 1 (nA KL.encI aq)] dt:=fz
 refine oA Z Z (eN (zN (sR fL3 Z (oL Z (cR.ldC (f:=0) aY (v:=.slice aj p0.length ak) Z Z Tryz.isAgg34 Z) (oR Z (ZU Z Z Zk) (oM Z Z (eN (zf (bnK gf fun cg fW gB=>?_)))))))))
 have q:=wCe fW
 obtain ⟨cb,fY⟩:=q
 replace cb:=zO cb
 refine CK.forN' (fun ah ap σ_ w_=>∃ (U_:PHeap),σ_ 21=jV (↑ah:Int)/\σ_ 1=jV p1/\σ_ 2=jV p2/\σ_ 3=.pointer (some ⟨b2,0,none⟩)/\σ_ 6=.slice none 0 0/\σ_ 7=.slice none 0 0/\σ_ 9=.slice (some ⟨aX,0,none⟩) ap.length aq.length/\σ_ 20=jV (↑p0.length:Int)/\PHeap.Le U5 U_/\sW w U U_ [.row (some ⟨aX,0,none⟩) aq.length 3 1 (nA KL.encI ap)] w_/\ap.length=aq.length) fY ?_ ?_ ?_
 exact ⟨U5,Z,Z,Z,Z,Z,Z,Z,Z,(zK _),cR,Z⟩
 rintro ah ap iz iD gZ bY ⟨cq,bQ,dY,dZ,d5,d7,d9,cK,cL,gL,fL,eY⟩ gK
 have cz:Hid ((↑ah:Int) < (↑p0.length:Int)):=zO (wBs bY)
 replace bY:=zO bY
 have ge:Hid (w64 ((↑ah:Int) + 1)=(↑(ah + 1):Int)):=zO (by have h1:=cb.out;have h2:=cz.out;rw [wAb] <;> omega)
 refine sR fL1 Z (oR Z (zP Z bQ cL) (eN (zN (cT Z cz (kN (zN (zf (sR fL2 Z (oM Z bQ (oA Z Z (eN (rR (wEU (.fx 4 .nil .stop)) Z (oM Z cK (oM Z Z (oM Z Z (bnK gK fun _ bR gH=>oR Z (yQ Z Z Z Z zD zC (wAT bR)) ?_))))))))))))))))
 have ga:=wAx (xs:=ap) (wAT bR)
 refine yJ (j:=0) (vs:=[jV (↑ah:Int)]) (cs':=nA KL.encI (nK ap ah (↑ah:Int))) rfl rfl rfl rfl fL rfl rfl rfl rfl rfl zC (by rw [wAE (f:=KL.encI) (sz:=1) (fun _=>rfl)];have hz:=wAT bR;show _ + 1 <= _;first | omega | (simp only [nL];omega) | (simp only [nJ,nG,nH];omega)) rfl (wBn (sz:=1) (fo:=0) (fun _=>rfl) _ _ _ _ ga (by first | omega | (simp only [nL];omega) | (simp only [nJ,nG,nH];omega)) (zA rfl) rfl) rfl ?_
 intro dA fM
 have fN:sW w U cq [.row (some ⟨aX,0,none⟩) aq.length 3 1 (nA KL.encI (nK ap ah (↑ah:Int)))] dA:=fM
 refine zd (zm (zI (rR fL2 Z (oR Z (Zc (zU Z bQ Z) (congrArg (jV) ge.out)) (oM Z Z (zd ?_))))))
 cases gH
 exact zI ⟨rfl,⟨cq,rfl,dY,dZ,d5,d7,d9,(nM (b:=(.slice (some ⟨aX,0,none⟩) ap.length aq.length:Value)) (c:=(.slice (some ⟨aX,0,none⟩) ((nK ap ah (↑ah:Int)).length) aq.length:Value)) cK (by simp only [nE])),cL,gL,fN,(nE.trans eY)⟩⟩
 rintro iF g7 ⟨bn,eH,eg,eh,bO,eu,eA,eD,eE,dg,cV,ii⟩
 have dG:Hid (¬ ((↑(((↑p0.length:Int):Int) - 0).toNat:Int) < (↑p0.length:Int))):=zO (wBM)
 refine sR fL1 Z (oR Z (zP Z eH eE) (eN (zN (cF Z dG (ZX (zj (zj (ZN (zI (sR gDw Z ?_))))))))))
 have bS:=aY.le dg
 refine oL Z (cV.ldC (f:=0) bS (v:=.slice aj p0.length ak) Z bO Tryz.isAgg34 Z) (oR Z (ZU Z Z Zk) (bnK gB fun ab eZ gI=>OKS.makeSlice (enc:=KL.encI) (z:=(0:Int)) (v:=jV 0) Z Z Z Z Z (wCM zD) wJX Z Z Z Z Z Z eZ cV ?_))
 intro dB ae fP
 let B0:Res:=.row (some ⟨aX,0,none⟩) aq.length 3 1 (nA KL.encI cg)
 have cW:sW w U bn [.row (some ⟨ae,0,none⟩) ab.length 3 1 (nA KL.encI ab),B0] dB:=fP
 refine Zx rfl rfl rfl rfl rfl rfl (eN (sR gDv rfl (zL rfl rfl rfl rfl rfl rfl (zL rfl rfl rfl rfl rfl eD (bnK gI fun x83 fb gJ=>OKS.copyM (j:=0) (f:=KL.encI) (m:=ab) (ys:=cg) (z:=x83) (a:=0) (n:=ab.length) rfl rfl rfl rfl rfl rfl zD zC cW rfl (fun _=>rfl) (fun _=>rfl) rfl fb rfl (by simp) (.inr (by simp)) rfl (cW.srcR (j:=1) rfl (by decide) (wAE (f:=KL.encI) (sz:=1) (fun _=>rfl) cg)) rfl ?_)))))
 intro cr fQ cY
 have fR:sW w U bn [.row (some ⟨ae,0,none⟩) ab.length 3 1 (nA KL.encI x83),B0] cr:=fQ
 refine eN (sR gDv rfl (zL rfl rfl rfl rfl rfl (nM (b:=(.slice (some ⟨ae,0,none⟩) ab.length ab.length:Value)) (c:=(.slice (some ⟨ae,0,none⟩) x83.length ab.length:Value)) rfl (by rw [cY])) (zV rfl rfl rfl rfl (fun _=>Runs.mkf rfl zM (zB bO zM)) ?_)))
 have fc:=fS.le gM
 have cP:=fc.le dg
 have fq:FnOK Tryz.prog bn (.func (.func 38) #[] #[.pointer (some ⟨b2,0,none⟩)]) wRa wRb (fun x=>wBh x.1 x.2 p0):=⟨38,[],[.pointer (some ⟨b2,0,none⟩)],rfl,Tryz.call38,fun U1 w1 x y vs le hs ha hm=>by obtain rfl:=ha;exact wHU x.1 x.2 p0 b2 aj ak w1 U1 hs (bS.le le) (cP.le le) hm⟩
 refine bnK gJ fun x93 fd bw=>zH 1 Z Z Z Z (zG Z Z Tryz.call37 (zB Z (zB Z zM)) Z) fR (fun hs=>wDJ x83 (some ⟨ae,0,none⟩) ab.length (fun x=>wBh x.1 x.2 p0) (.func (.func 38) #[] #[.pointer (some ⟨b2,0,none⟩)]) cr bn hs fq fd) (.inl Z) ?_
 rintro bo gU it dC df ft ⟨rfl,rfl,eI⟩
 let B1:Res:=.row (some ⟨ae,0,none⟩) ab.length 3 1 (nA KL.encI x93)
 have fu:sW w U bo [B1,B0] dC:=ft
 refine eN ?_
 have q:=wCY bw
 obtain ⟨gN,bz⟩:=q
 refine Zp (fun σ_ w_=>∃ (bA:List Int) (bB:List Int),gN=.inl (bA,bB)/\∃ (U_:PHeap) (bj:Option Addr) (bp:Nat) (bk:Option Addr) (bq:Nat),σ_ 2=jV p2/\σ_ 6=.slice bj bA.length bp/\σ_ 7=.slice bk bB.length bq/\PHeap.Le bo U_/\sW w U U_ [.row bj bp 3 1 (nA KL.encI bA),.row bk bq 3 1 (nA KL.encI bB)] w_) ?_ ?_
 refine zf (yf (fun (am,aZ,ba) σ_ w_=>∃ (U_:PHeap) (au:Option Addr) (aU:Nat) (av:Option Addr) (aV:Nat),σ_ 1=jV am/\σ_ 2=jV p2/\σ_ 3=.pointer (some ⟨b2,0,none⟩)/\σ_ 6=.slice au aZ.length aU/\σ_ 7=.slice av ba.length aV/\σ_ 11=.slice (some ⟨ae,0,none⟩) x93.length ab.length/\PHeap.Le bo U_/\sW w U U_ [.row au aU 3 1 (nA KL.encI aZ),.row av aV 3 1 (nA KL.encI ba),B1] w_) bz ?_ ?_)
 have fw:=fu.nilrow 3 1
 have fy:=fw.nilrow 3 1
 exact ⟨bo,none,0,none,0,eg,eh,bO,eu,eA,(nM (b:=(.slice (some ⟨ae,0,none⟩) x83.length ab.length:Value)) (c:=(.slice (some ⟨ae,0,none⟩) x93.length ab.length:Value)) (nM (b:=(.slice (some ⟨ae,0,none⟩) ab.length ab.length:Value)) (c:=(.slice (some ⟨ae,0,none⟩) x83.length ab.length:Value)) rfl (by rw [cY])) (by rw [eI])),(zK _),(fy.pick [1,0,2] _ (by decide) rfl)⟩
 rintro ⟨am,aZ,ba⟩ iv iA gW ⟨bI,au,aU,av,aV,cA,bL,dO,cB,cC,cD,bC,cQ⟩ cd bW
 try dsimp only at cd
 refine zN (sR fL3 Z (oM Z cA (oM Z bL (oR Z (zP Z Z Z) (eN ?_)))))
 by_cases aW:am < p2
 have bv:=cd;rw [if_pos aW] at bv;replace aW:=zO aW
 refine cT Z aW (kN (zf (CK.scope (sR fL1 Z (oA Z Z (eN (zN (CK.label (zI (zN (sR fL3 Z (oM Z cD (oR Z (ZU Z Z zD) (oM Z Z (eN (zf ?_))))))))))))))))
 have q:=wCY bv
 obtain ⟨io,bV⟩:=q
 have q:=wCh bV
 obtain ⟨bZ,fV⟩:=q
 replace bZ:=zO bZ
 let B2:Res:=.row av aV 3 1 (nA KL.encI ba)
 let B3:Res:=.row au aU 3 1 (nA KL.encI aZ)
 refine ya (fun ai _ σ_ w_=>∃ (U_:PHeap),σ_ 43=jV (↑ai:Int)/\σ_ 1=jV am/\σ_ 2=jV p2/\σ_ 3=.pointer (some ⟨b2,0,none⟩)/\σ_ 6=.slice au aZ.length aU/\σ_ 7=.slice av ba.length aV/\σ_ 11=.slice (some ⟨ae,0,none⟩) x93.length ab.length/\σ_ 12=jV (-1)/\σ_ 41=.slice (some ⟨ae,0,none⟩) x93.length ab.length/\σ_ 42=jV (↑x93.length:Int)/\PHeap.Le bI U_/\sW w U U_ [B3,B2,B1] w_) fV ?_ ?_ ?_
 exact ⟨bI,Z,cA,bL,dO,cB,cC,cD,Z,Z,Z,(zK _),cQ⟩
 rintro ai ⟨⟩ iw iB du bX ⟨dm,bP,br,cG,bt,bM,bN,cH,dP,cI,cJ,bD,bu⟩ de fT
 try dsimp only at de
 have cw:Hid ((↑ai:Int) < (↑x93.length:Int)):=zO (wBs bX)
 replace bX:=zO bX
 have gb:Hid (w64 ((↑ai:Int) + 1)=(↑(ai + 1):Int)):=zO (by have h1:=bZ.out;have h2:=cw.out;rw [wAb] <;> omega)
 refine sR fL1 Z (oR Z (zP Z bP cJ) (eN (zN (cT Z cw (kN (zN (zf (sR fL3 Z (bnK de fun _ cM gg=>oR Z (yQ Z cI Z bP zD zC (wAT cM)) ?_)))))))))
 have fZ:=wAx (xs:=x93) (wAT cM)
 refine ZD rfl rfl rfl rfl (bu.ldR (j:=2) rfl rfl rfl rfl zE (wAS (sz:=1) (fun _=>rfl) _ _ 0 _ fZ (by first | omega | rfl | simp) rfl)) rfl (Zx rfl rfl rfl rfl rfl rfl (eN (sR fL6 rfl ?_)))
 have eK:=bS.le df
 have eL:=eK.le bC
 have cN:=eL.le bD
 refine oL Z (bu.ldC (f:=0) cN (v:=.slice aj p0.length ak) Z bt Tryz.isAgg34 Z) (oM Z Z (bnK gg fun bi bf gh=>?_))
 have eM:=cP.le df
 have eO:=eM.le bC
 have cO:=eO.le bD
 have q:=cO.el (fun _=>rfl) (wBB bf)
 obtain ⟨g8,il,ff,fj⟩:=q
 refine oR Z (zl Z Z ff Z Zk yF (wCC bf) (wCL bf)) (oL Z (bu.ldCA (f:=0) fj Z Z Tryz.isAgg62 yF (us:=[jV bi.Who,jV bi.From,jV bi.To]) Z Z) (oR Z (Runs.mkf Z (zB Z zM) zM) (oA Z Z (eN (sR gDv Z (oM Z Z (oM Z br (bnK gh fun iu eQ gi=>zH 0 Z Z Z Z (zG Z Z Tryz.call26 (zB Z zM) Z) bu (fun hs=>wCk bi am du dm hs eQ) (.inr Z) ?_))))))))
 rintro aS gT ip dv bE fA ⟨rfl,rfl⟩
 have bT:sW w U aS [B3,B2,B1] dv:=fA
 refine eN (ifc gi ?_ ?_)
 intro bJ gm
 refine ZH (congrArg nD bJ.out) (sR fL2 Z (oM Z Z (oA Z Z (eN (ZX (wLJ (zj ?_)))))))
 have q:=wAe gm
 obtain ⟨gO,gp,dH⟩:=q
 have q:=wCA bv bV (fT gO dH)
 obtain rfl:=q
 refine zj (ZN (zI (zN (sR fL2 Z (oM Z Z (oR Z (yC Z Z Z) (eN (ifc gp ?_ ?_))))))))
 intro bK gu
 refine cT Z bK (sR fL6 Z (oM Z bM (oM Z bN (oM Z br (oA Z Z (oA Z Z (oA Z Z (eN (zS (zW (wLN (zo ?_))))))))))))
 have q:=wAe gu
 obtain ⟨gP,gv,dI⟩:=q
 have q:=bW gP dI
 obtain rfl:=q
 refine zW (zo ?_)
 have q:=wAe gv
 obtain ⟨iq,gw,dJ⟩:=q
 have q:=wCA bw bz dJ
 obtain rfl:=q
 refine zW ?_
 cases gw
 exact ⟨rfl,_,(wRy rfl rfl rfl),aS,_,(bT.pick [0,1] _ (by decide) rfl),au,aU,av,aV,rfl,rfl⟩
 intro bK gz
 refine cF Z bK (kN (sR (.fl 0 (.fl 1 (.fx 2 (.fx 3 (.fl 4 (.fl 5 (.fx 6 (.fx 7 (.fl 8 (.fl 9 .nil)) .stop) .stop))) .stop) .stop))) Z (oM Z bM (oM Z Z (ZB (pv:=[(0,jV (gd x93 ai))]) (zs:=[jV 0]) (cs:=[jV (gd x93 ai)]) Z Z Z Z Z (wAC Z wAV) zD zC ZC Z Z Z Z Z bT ?_)))))
 intro dw dD fB
 let B4:Res:=.row (some ⟨dD,0,none⟩) 1 3 1 (nA KL.encI [(gd x93 ai)])
 have cS:sW w U aS [B4,B3,B2,B1] dw:=fB
 refine bnK gz fun dh eU gA=>yD (j:=1) (enc:=KL.encI) (xs:=aZ) (ys:=[(gd x93 ai)]) (zs:=dh) rfl rfl rfl rfl rfl Tryz.underlying23 wJX rfl rfl rfl rfl rfl rfl cS rfl rfl rfl (cS.srcR (j:=0) rfl (by decide) (wAE (f:=KL.encI) (sz:=1) (fun _=>rfl) [(gd x93 ai)])) (fun _=>rfl) (fun _=>rfl) eU rfl ?_
 intro cm cx dx fC
 let B5:Res:=.row cm cx 3 1 (nA KL.encI dh)
 have fD:sW w U aS [B4,B5,B2,B1] dx:=fC
 refine oM Z bN (oM Z br (ZB (pv:=[(0,jV am)]) (zs:=[jV 0]) (cs:=[jV am]) Z Z Z Z Z (wAC Z wAV) zD zC ZC Z Z Z Z Z fD ?_))
 intro dy dE fE
 let B6:Res:=.row (some ⟨dE,0,none⟩) 1 3 1 (nA KL.encI [am])
 have cU:sW w U aS [B6,B4,B5,B2,B1] dy:=fE
 refine bnK gA fun dk eV gC=>yD (j:=3) (enc:=KL.encI) (xs:=ba) (ys:=[am]) (zs:=dk) rfl rfl rfl rfl rfl Tryz.underlying23 wJX rfl rfl rfl rfl rfl rfl cU rfl rfl rfl (cU.srcR (j:=0) rfl (by decide) (wAE (f:=KL.encI) (sz:=1) (fun _=>rfl) [am])) (fun _=>rfl) (fun _=>rfl) eV rfl ?_
 intro cn cy dz fG
 have bU:sW w U aS [B6,B4,B5,.row cn cy 3 1 (nA KL.encI dk),B1] dz:=fG
 refine oA Z Z (oA Z Z (eN (rR fL6 Z ?_)))
 have eW:=cN.le bE
 refine oL Z (bU.ldC (f:=0) eW (v:=.slice aj p0.length ak) Z bt Tryz.isAgg34 Z) (oM Z Z ?_)
 have eX:=cO.le bE
 have q:=eX.el (fun _=>rfl) (wBB bf)
 obtain ⟨g9,im,fh,fm⟩:=q
 refine oR Z (zl Z Z fh Z Zk yF (wCC bf) (wCL bf)) (oR Z (zJ Z Z Zu Z zC) (oL Z (bU.ldC (f:=2) fm (v:=jV bi.To) Z Z zE Z) (oA Z Z (zd (wPG (zm ?_))))))
 have q:=nB gC
 obtain rfl:=q
 exact zI ⟨rfl,_,rfl,⟨aS,cm,cx,cn,cy,rfl,cG,bt,rfl,rfl,cH,((bC.trans bD).trans bE),(bU.pick [2,3,4] _ (by decide) rfl)⟩⟩
 intro bJ gD
 refine zn (congrArg nD (nI.2 bJ.out)) (ZS (zm (zI (rR fL2 Z (oR Z (Zc (zU Z bP Z) (congrArg (jV) gb.out)) (oM Z Z (zd ?_)))))))
 have q:=nB gD
 obtain rfl:=q
 exact zI ⟨Z,_,Z,⟨aS,Z,br,cG,bt,bM,bN,cH,dP,cI,cJ,(bD.trans bE),bT⟩⟩
 rintro ⟨⟩ iC gX ⟨dp,eF,dQ,ib,ic,dR,dS,ie,dT,ig,dU,ij,fH⟩ fU
 have cZ:=wDe bv bV fU
 try dsimp only at cZ
 have dF:Hid (¬ ((↑(((↑x93.length:Int):Int) - 0).toNat:Int) < (↑x93.length:Int))):=zO (wBM)
 refine sR fL1 rfl (zV rfl rfl rfl rfl (fun _=>zP rfl eF dU) (eN (zN (cF Z dF (ZX (zj (zj (ZN (zI (zN (sR fL2 rfl (zL rfl rfl rfl rfl rfl dT (zV rfl rfl rfl rfl (fun _=>yC rfl rfl rfl) (eN (ZH (ZY (by decide)) (sR fL6 rfl (zL rfl rfl rfl rfl rfl dR (zL rfl rfl rfl rfl rfl dS (zL rfl rfl rfl rfl rfl dQ (Zx rfl rfl rfl rfl rfl rfl (Zx rfl rfl rfl rfl rfl rfl (Zx rfl rfl rfl rfl rfl rfl (eN (zS (zW (wLN (zo ?_)))))))))))))))))))))))))))
 have q:=wAe cZ
 obtain ⟨gQ,gE,dK⟩:=q
 have q:=bW gQ dK
 obtain rfl:=q
 refine zW (zo ?_)
 have q:=wAe gE
 obtain ⟨ir,gF,dL⟩:=q
 have q:=wCA bw bz dL
 obtain rfl:=q
 refine zW ?_
 cases gF
 exact ⟨rfl,_,(wRy rfl rfl rfl),dp,_,(fH.pick [0,1] _ (by decide) rfl),au,aU,av,aV,rfl,rfl⟩
 have da:=cd;rw [if_neg aW] at da;replace aW:=zO aW
 refine cF Z aW (ZX (zj ?_))
 have q:=wAe da
 obtain ⟨gR,gG,dM⟩:=q
 have q:=bW gR dM
 obtain rfl:=q
 exact zj (ZN (zI ⟨rfl,aZ,ba,(nB gG).symm,⟨bI,au,aU,av,aV,bL,cB,cC,bC,(cQ.pick [0,1] _ (by decide) rfl)⟩⟩))
 rintro iE g6 ⟨bA,bB,dN,⟨dq,bj,bp,bk,bq,dV,dW,dX,ik,fK⟩⟩
 have db:=wDe bw bz dN
 try dsimp only at db
 refine sR fL6 Z (oM Z dW (oM Z dX (oM Z dV (oA Z Z (oA Z Z (oA Z Z (eN (zS ?_))))))))
 cases db
 exact ⟨Z,_,(wRy Z Z Z),dq,_,fK,bj,bp,bk,bq,Z,Z⟩
theorem wEp (p0:List wAG) (ah:Option Addr) (ai:Nat) (p1:Int) (p2:Int) (w:World) (U:PHeap) (hS:St0 w U []) (aZ:Sl U 3 ah ai p0.length (nA wAY p0)) {r:(List Int) × (List Int) × Int} (hm:wBw p0 p1 p2=some r):Gv Tryz.prog 19 [.slice ah p0.length ai,jV p1,jV p2] w (wCQ w [] U (fun U_ L_ v=>∃ (A0:Option Addr) (c0:Nat) (A1:Option Addr) (c1:Nat),v=.tuple #[.slice A0 r.1.length c0,.slice A1 r.2.1.length c1,jV r.2.2]/\L_=[.row A0 c0 3 1 (nA KL.encI r.1),.row A1 c1 3 1 (nA KL.encI r.2.1)])):=by
 unfold wBw at hm
 refine Gv.of Tryz.func19 Z Tryz.ntmps19 Tryz.results19 Z (sR fL3 Z (oA Z Z (oA Z Z (oA Z Z (eN (zN (sR (wDj gDs) Z (oM Z Z (oM Z Z (oM Z Z (bnK hm fun x1 h2 bt=>zH 0 Z Z Z Z (zG Z Z Tryz.call21 (zB Z (zB Z (zB Z zM))) Z) hS (fun hs=>wDt p0 ah ai p1 p2 w U hs aZ h2) (.inr Z) ?_)))))))))))
 rintro U4 L5 v6 W7 bz bq ⟨rfl,rfl⟩
 have aX:sW w U U4 [] W7:=bq
 refine oA Z Z (eN (sR fL2 Z (oM Z Z (oR Z (yU Z Z Z) (eN (ifc bt ?_ ?_))))))
 intro aq br
 refine zn (ZL (fun h=>h aq.out)) (kN (sR (wDj (.fx 3 (wMC (.nil)) .stop)) Z (oM Z Z (oM Z Z (oM Z Z ?_)))))
 have bh:=aZ.le bz
 have q:=bnd br
 obtain ⟨⟨bb,bf,bA⟩,bi,ba⟩:=q
 try dsimp only at ba
 refine zH 0 Z Z Z Z (zG Z Z Tryz.call22 (zB Z (zB Z (zB Z zM))) Z) aX (fun hs=>wFx p0 ah ai p1 p2 W7 U4 hs bh bi) (.inr Z) ?_
 rintro am bB bE bg bD bk ⟨aj,au,ak,av,rfl,rfl⟩
 have aY:sW w U am [.row aj au 3 1 (nA KL.encI bb),.row ak av 3 1 (nA KL.encI bf)] bg:=bk
 refine oM Z Z (oR Z (zk Z Z (v:=.slice aj bb.length au) Z) (oR Z (zk Z Z (v:=.slice ak bf.length av) Z) (oR Z (zk Z Z (v:=jV bA) Z) (oA Z Z (oA Z Z (oA Z Z (eN (zN (sR fL3 Z (oM Z Z (oM Z Z (oR Z (zP Z Z Z) (eN (ifc ba ?_ ?_))))))))))))))
 intro az bu
 refine cT Z az (sR fL3 Z (oA Z Z (oA Z Z (oA Z Z (eN (zS (zW ?_)))))))
 have bm:=aY.nilrow 3 1
 have bn:=bm.nilrow 3 1
 cases bu
 exact ⟨rfl,_,(wRy rfl rfl rfl),am,_,(bn.pick [1,0] _ (by decide) rfl),none,0,none,0,rfl,rfl⟩
 intro az bv
 refine cF Z az (kN (sR fL5 Z (oM Z Z (oM Z Z (oA Z Z (oA Z Z (oA Z Z (eN (zS ?_)))))))))
 cases bv
 exact ⟨Z,_,(wRy Z Z Z),am,_,aY,aj,au,ak,av,Z,Z⟩
 intro aq bw
 refine cT Z aq (sR fL4 Z (oM Z Z (oA Z Z (oA Z Z (oA Z Z (eN (zS (zW ?_))))))))
 have bo:=aX.nilrow 3 1
 have bp:=bo.nilrow 3 1
 cases bw
 exact ⟨rfl,_,(wRy rfl rfl rfl),U4,_,(bp.pick [1,0] _ (by decide) rfl),none,0,none,0,rfl,rfl⟩
theorem wEq (p0:List Int) (ab:Option Addr) (ae:Nat) (w:World) (U:PHeap) (hS:St ⟨w,[.row ab ae 3 1 (nA KL.encI p0)],U⟩ U [.row ab ae 3 1 (nA KL.encI p0)] w) {r:List Int} (hm:wBj p0=some r):Gv Tryz.prog 20 [.slice ab p0.length ae] w (wCQ w [.row ab ae 3 1 (nA KL.encI p0)] U (fun U_ L_ v=>v=.tuple #[]/\L_=[.row ab ae 3 1 (nA KL.encI r)]/\r.length=p0.length)) :=
 wPO (fun b o c zs w h1 h2 h3=>Go.Proofs.Tryz.slices_Sort_int b o c zs w h1 h2 h3) (fun p c w=>Go.Proofs.Tryz.slices_Sort_int_none p c w) hS hm
theorem wIk (p0:List wAG) (ak:Option Addr) (am:Nat) (p1:Int) (p2:Int) (w:World) (U:PHeap) (hS:St0 w U []) (bj:Sl U 3 ak am p0.length (nA wAY p0)) {r:(List Int) × Int} (hm:wCy p0 p1 p2=some r):Gv Tryz.prog 8 [.slice ak p0.length am,jV p1,jV p2] w (wCQ w [] U (fun U_ L_ v=>∃ (A0:Option Addr) (c0:Nat),v=.tuple #[.slice A0 r.1.length c0,jV r.2]/\L_=[.row A0 c0 3 1 (nA KL.encI r.1)])):=by
 unfold wCy at hm
 refine Gv.of Tryz.func8 Z Tryz.ntmps8 Tryz.results8 Z (sR fL2 Z (oA Z Z (oA Z Z (eN (sR (wDj (.fx 3 (wMC (.nil)) .stop)) Z (oM Z Z (oM Z Z (oM Z Z ?_))))))))
 have q:=bnd hm
 obtain ⟨⟨x1,x2,x3⟩,h4,aV⟩:=q
 try dsimp only at aV
 refine zH 0 Z Z Z Z (zG Z Z Tryz.call19 (zB Z (zB Z (zB Z zM))) Z) hS (fun hs=>wEp p0 ak am p1 p2 w U hs bj h4) (.inr Z) ?_
 rintro U6 L7 v8 W9 bp bf ⟨aa,ab,aq,aU,rfl,rfl⟩
 let B0:Res:=.row aq aU 3 1 (nA KL.encI x2)
 have bg:sW w U U6 [.row aa ab 3 1 (nA KL.encI x1),B0] W9:=bf
 refine oM Z Z (oR Z (zk Z Z (v:=.slice aa x1.length ab) Z) (oR Z (zk Z Z (v:=.slice aq x2.length aU) Z) (oR Z (zk Z Z (v:=jV x3) Z) (oA Z Z (oA Z Z (oA Z Z (eN (sR (.fl 0 (.fx 1 .nil .stop)) Z (oM Z Z (bnK aV fun aW aZ bk=>zH 1 Z Z Z Z (zG Z Z Tryz.call20 (zB Z zM) Z) bg (fun hs=>wEq x1 aa ab W9 U6 hs aZ) (.inl Z) ?_))))))))))
 rintro av bn br aY bq bh ⟨rfl,rfl,ba⟩
 have bi:sW w U av [.row aa ab 3 1 (nA KL.encI aW),B0] aY:=bh
 refine eN (sR fL4 rfl (zL rfl rfl rfl rfl rfl (nM (b:=(.slice aa x1.length ab:Value)) (c:=(.slice aa aW.length ab:Value)) rfl (by rw [ba])) (zL rfl rfl rfl rfl rfl rfl (Zx rfl rfl rfl rfl rfl rfl (Zx rfl rfl rfl rfl rfl rfl (eN (zS ?_)))))))
 cases bk
 exact ⟨rfl,_,(wHd rfl rfl),av,_,(bi.pick [0] _ (by decide) rfl),aa,ab,rfl,rfl⟩
theorem wKn (p0:List wAG) (ah:Option Addr) (ai:Nat) (p1:Int) (p2:Int) (w:World) (U:PHeap) (hS:St0 w U []) (aV:Sl U 3 ah ai p0.length (nA wAY p0)) {r:Int × Int} (hm:wDq p0 p1 p2=some r):Gv Tryz.prog 9 [.slice ah p0.length ai,jV p1,jV p2] w (wCQ w [] U (fun U_ L_ v=>v=.tuple #[jV r.1,jV r.2]/\L_=[])):=by
 unfold wDq at hm
 refine Gv.of Tryz.func9 Z Tryz.ntmps9 Tryz.results9 Z (sR fL2 Z (oA Z Z (oA Z Z (eN (zN (sR (wDj gDs) Z (oM Z Z (oM Z Z (oM Z Z (bnK hm fun x1 h2 bj=>zH 0 Z Z Z Z (zG Z Z Tryz.call21 (zB Z (zB Z (zB Z zM))) Z) hS (fun hs=>wDt p0 ah ai p1 p2 w U hs aV h2) (.inr Z) ?_))))))))))
 rintro U4 L5 v6 W7 bo bh ⟨rfl,rfl⟩
 have aT:sW w U U4 [] W7:=bh
 refine oA Z Z (eN (sR fL2 Z (oM Z Z (oR Z (yU Z Z Z) (eN (ifc bj ?_ ?_))))))
 intro am bi
 refine zn (ZL (fun h=>h am.out)) (kN (sR (wDj (.fx 3 (wMC (.nil)) .stop)) Z (oM Z Z (oM Z Z (oM Z Z ?_)))))
 have ba:=aV.le bo
 have q:=bnd bi
 obtain ⟨⟨aX,aY,bp⟩,bb,aW⟩:=q
 try dsimp only at aW
 refine zH 0 Z Z Z Z (zG Z Z Tryz.call22 (zB Z (zB Z (zB Z zM))) Z) aT (fun hs=>wFx p0 ah ai p1 p2 W7 U4 hs ba bb) (.inr Z) ?_
 rintro aj bq bu aZ bt bg ⟨aq,az,au,aS,rfl,rfl⟩
 have aU:sW w U aj [.row aq az 3 1 (nA KL.encI aX),.row au aS 3 1 (nA KL.encI aY)] aZ:=bg
 refine oM Z Z (oR Z (zk Z Z (v:=.slice aq aX.length az) Z) (oR Z (zk Z Z (v:=.slice au aY.length aS) Z) (oR Z (zk Z Z (v:=jV bp) Z) (oA Z Z (oA Z Z (oA Z Z (eN (zN (sR fL3 Z (oM Z Z (oM Z Z (oR Z (yC Z Z Z) (eN (ifc aW ?_ ?_))))))))))))))
 intro ap bk
 refine cT Z ap (sR fL2 Z (oA Z Z (oA Z Z (eN (zS (zW ?_))))))
 cases bk
 exact ⟨rfl,_,(wHd rfl rfl),aj,_,(aU.pick [] _ (by decide) rfl),rfl,rfl⟩
 intro ap bm
 refine cF Z ap (kN (sR fL3 Z (oM Z Z (oA Z Z (oA Z Z (eN (zS ?_)))))))
 cases bm
 exact ⟨rfl,_,(wHd rfl rfl),aj,_,(aU.pick [] _ (by decide) rfl),rfl,rfl⟩
 intro am bn
 refine cT Z am (sR fL3 Z (oM Z Z (oA Z Z (oA Z Z (eN (zS (zW ?_)))))))
 cases bn
 exact ⟨Z,_,(wHd Z Z),U4,_,aT,Z,Z⟩
end Go.Proofs.YtkeeechdijfkhaaGreat
namespace Go.Proofs.YtkeeechdijfkhaaGreat
open Go.KL
set_option maxHeartbeats 4000000
theorem wIl (p0:List wAG) (aj:Option Addr) (ak:Nat) (p1:Int) (p2:Int) (w:World) (U:PHeap) (hS:St0 w U []) (aY:Sl U 3 aj ak p0.length (nA wAY p0)) {r:(List Int) × Int} (hm:wDh p0 p1 p2=some r):Gv Tryz.prog 10 [.slice aj p0.length ak,jV p1,jV p2] w (wCQ w [] U (fun U_ L_ v=>∃ (A0:Option Addr) (c0:Nat),v=.tuple #[.slice A0 r.1.length c0,jV r.2]/\L_=[.row A0 c0 3 1 (nA KL.encI r.1)])):=by
 unfold wDh at hm
 refine Gv.of Tryz.func10 Z Tryz.ntmps10 Tryz.results10 Z (sR fL2 Z (oA Z Z (oA Z Z (eN (sR (wDj (.fx 3 (wMC (.nil)) .stop)) Z (oM Z Z (oM Z Z (oM Z Z ?_))))))))
 have q:=bnd hm
 obtain ⟨⟨x1,x2,x3⟩,h4,az⟩:=q
 try dsimp only at az
 refine zH 0 Z Z Z Z (zG Z Z Tryz.call19 (zB Z (zB Z (zB Z zM))) Z) hS (fun hs=>wEp p0 aj ak p1 p2 w U hs aY h4) (.inr Z) ?_
 rintro U6 L7 v8 W9 bb aW ⟨ap,av,ab,ae,rfl,rfl⟩
 have aX:sW w U U6 [.row ap av 3 1 (nA KL.encI x1),.row ab ae 3 1 (nA KL.encI x2)] W9:=aW
 refine oM Z Z (oR Z (zk Z Z (v:=.slice ap x1.length av) Z) (oR Z (zk Z Z (v:=.slice ab x2.length ae) Z) (oR Z (zk Z Z (v:=jV x3) Z) (oA Z Z (oA Z Z (oA Z Z (eN (sR fL4 Z (oM Z Z (oM Z Z (oA Z Z (oA Z Z (eN (zS ?_))))))))))))))
 cases az
 exact ⟨rfl,_,(wHd rfl rfl),U6,_,(aX.pick [1] _ (by decide) rfl),ab,ae,rfl,rfl⟩
theorem wFZ (p0:wAG) (p1:Int) (av:Nat) (p2:Int) (az:Nat) (w:World) (U:PHeap) (hS:St0 w U []) (ba:Cl U av 0 [jV p1]) (bb:Cl U az 0 [jV p2]) {r:Bool} (hm:wBP p0 p1 p2=some r):Gv Tryz.prog 25 [.agg #[jV p0.Who,jV p0.From,jV p0.To],.pointer (some ⟨av,0,none⟩),.pointer (some ⟨az,0,none⟩)] w (wCQ w [] U (fun U_ L_ v=>v=.bool r/\L_=[])):=by
 unfold wBP at hm
 refine Gv.of Tryz.func25 Z Tryz.ntmps25 Tryz.results25 Z (sR gDq Z ?_)
 let B0:List Value:=[jV p0.Who,jV p0.From,jV p0.To]
 refine ZG (cs:=B0) rfl rfl rfl rfl rfl rfl (by rfl) hS ?_
 intro W1 b2 am
 refine oA Z Z (eN (sR (.fl 0 (.fl 1 (.fx 2 (wOv (.fx 6 (.fl 7 (.fl 8 .nil)) .stop)) .stop))) Z (oL Z (am.ldBA (j:=0) Z Z Z Tryz.isAgg62 yF (vs:=B0) Z Z) (oL Z (am.ldC (f:=0) ba (v:=jV p1) Z Z zE Z) (bnK hm fun x5 h6 bi=>zH 0 Z Z Z Z (zG Z Z Tryz.call26 (zB Z (zB Z zM)) Z) am (fun hs=>wCk p0 p1 W1 U hs h6) (.inr Z) ?_)))))
 rintro U8 L9 bo aq bj aX ⟨rfl,rfl⟩
 have ah:sW w U U8 [.blk b2 62 B0] aq:=aX
 refine oM Z Z (ifc bi ?_ ?_)
 intro aa bf
 refine ZD Z Z Z (zR Z Z (congrArg nD aa.out)) (ah.ldBA (j:=0) Z Z Z Tryz.isAgg62 yF (vs:=B0) Z Z) Z ?_
 have aU:=bb.le bj
 refine ZD Z Z Z (zR Z Z (congrArg nD aa.out)) (ah.ldC (f:=0) aU (v:=jV p2) Z Z zE Z) Z (bnK bf fun bq aV bg=>zH 0 Z Z Z (zR Z Z (congrArg nD aa.out)) (zG Z Z Tryz.call26 (zB Z (zB Z zM)) Z) ah (fun hs=>wCk p0 p2 aq U8 hs aV) (.inr Z) ?_)
 rintro ap bk bp aT bn aY ⟨rfl,rfl⟩
 have aZ:sW w U ap [.blk b2 62 B0] aT:=aY
 refine oR Z (zY Z (congrArg nD aa.out) Z) (oA Z Z (eN (zS ?_)))
 have hE:=nB bg;first | subst r | cases hE
 exact ⟨rfl,_,(ZT rfl),ap,_,(aZ.pick [] _ (by decide) rfl),rfl,rfl⟩
 intro aa bh
 refine ZW Z Z Z (ZA Z Z (congrArg nD (nI.2 aa.out)) Z) (ZW Z Z Z (ZA Z Z (congrArg nD (nI.2 aa.out)) Z) (OKS.px Z Z Z (ZA Z Z (congrArg nD (nI.2 aa.out)) Z) (oR Z (zZ Z (congrArg nD (nI.2 aa.out)) Z) (oA Z Z (eN (zS ?_))))))
 have hE:=nB bh;first | subst r | cases hE
 exact ⟨rfl,_,(ZT rfl),U8,_,(ah.pick [] _ (by decide) rfl),rfl,rfl⟩
theorem wGM (p0:List wAG) (aU:Option Addr) (aV:Nat) (p1:Int) (p2:Int) (p3:List Int) (bh:Option Addr) (bi:Nat) (w:World) (U:PHeap) (hS:St0 w U []) (bO:Sl U 3 aU aV p0.length (nA wAY p0)) (cR:Sl U 1 bh bi p3.length (nA KL.encI p3)) {r:Bool × Int} (hm:wBx p0 p1 p2 p3=some r):Gv Tryz.prog 11 [.slice aU p0.length aV,jV p1,jV p2,.slice bh p3.length bi] w (wCQ w [] U (fun U_ L_ v=>v=.tuple #[.bool r.1,jV r.2]/\L_=[])):=by
 unfold wBx at hm
 refine Gv.of Tryz.func11 Z Tryz.ntmps11 Tryz.results11 Z (sR fL2 Z (oA Z Z (oA Z Z (eN (zN (sR (wDj gDs) Z (oM Z Z (oM Z Z (oM Z Z (bnK hm fun x1 h2 de=>zH 0 Z Z Z Z (zG Z Z Tryz.call21 (zB Z (zB Z (zB Z zM))) Z) hS (fun hs=>wDt p0 aU aV p1 p2 w U hs bO h2) (.inr Z) ?_))))))))))
 rintro U4 L5 v6 W7 bS cM ⟨rfl,rfl⟩
 have bK:sW w U U4 [] W7:=cM
 refine oA Z Z (eN (sR fL2 Z (oM Z Z (oR Z (yU Z Z Z) (eN (ifc de ?_ ?_))))))
 intro bk av
 refine zn (ZL (fun h=>h bk.out)) (kN (zN (sR fL3 Z (oM Z Z (oR Z (ZU Z Z zD) (oM Z Z (eN (zf ?_))))))))
 have q:=wCY av
 obtain ⟨dP,au⟩:=q
 have q:=wCh au
 obtain ⟨bB,cU⟩:=q
 replace bB:=zO bB
 refine ya (fun az _ σ_ w_=>∃ (U_:PHeap),σ_ 23=jV (↑az:Int)/\σ_ 0=.slice aU p0.length aV/\σ_ 1=jV p1/\σ_ 2=jV p2/\σ_ 3=.slice bh p3.length bi/\σ_ 21=.slice bh p3.length bi/\σ_ 22=jV (↑p3.length:Int)/\PHeap.Le U4 U_/\sW w U U_ [] w_) cU ?_ ?_ ?_
 exact ⟨U4,Z,Z,Z,Z,Z,Z,Z,(zK _),bK⟩
 rintro az ⟨⟩ dW dY dC bA ⟨bD,am,bp,bq,br,bt,bu,bv,bf,bM⟩ bR bz
 try dsimp only at bR
 have bG:Hid ((↑az:Int) < (↑p3.length:Int)):=zO (wBs bA)
 replace bA:=zO bA
 have bP:Hid (w64 ((↑az:Int) + 1)=(↑(az + 1):Int)):=zO (by have h1:=bB.out;have h2:=bG.out;rw [wAb] <;> omega)
 refine sR fL1 Z (oR Z (zP Z am bv) (eN (zN (cT Z bG (kN (zN (zf (sR (wDj (.fx 3 (.fl 4 (.fx 5 .nil .stop)) .stop)) Z (oM Z am (bnK bR fun x37 bI df=>?_))))))))))
 have ct:=cR.le bS
 have bJ:=ct.le bf
 have q:=bJ.el (fun _=>rfl) (wBB bI)
 obtain ⟨dF,dN,cy,cA⟩:=q
 refine oR Z (yQ Z bu cy am zD zC (wFk bI)) (oL Z (bM.ldC (f:=0) cA (v:=jV x37) Z Z zE Z) (zX (cs:=[jV 0]) Z Z Z Z Z ZC Z bM ?_))
 intro dD ai cH
 refine oA Z Z (ze (j:=0) (vs:=[jV x37]) Z Z Z Z cH Z Z Z Z zC (zA Z) Z Z Z ?_)
 intro bF cI
 let B0:Res:=.blk ai 3 [jV x37]
 have bN:sW w U bD [B0] bF:=cI
 refine eN (zN (sR (wEU (.fx 4 (.fl 5 .nil) .stop)) Z (oL Z (bN.ldB (j:=0) Z Z Z zE (v:=jV x37) Z) (oM Z bq (oM Z br (oR Z (ZV Z Z Z) (bnK df fun dV cu dg=>zH 0 Z Z Z Z (zG Z Z Tryz.call23 (zB Z (zB Z (zB Z zM))) Z) bN (fun hs=>wCc x37 p1 (w64 (p2 - 1)) bF bD hs cu) (.inr Z) ?_)))))))
 rintro ak dA dR bX bg cJ ⟨rfl,rfl⟩
 have ba:sW w U ak [B0] bX:=cJ
 refine oR Z (Zb Z Z) (eN (ifc dg ?_ ?_))
 intro bn dh
 refine zn (nC bn.out) (kN (zN (sR fL2 Z (oM Z Z (oR Z (yC Z Z Z) (eN (ifc dh ?_ ?_)))))))
 intro bo dk
 refine cT Z bo (ZX (zj (ZN (zI (rR fL2 Z (oR Z (Zc (zU Z am Z) (congrArg (jV) bP.out)) (oM Z Z (zd ?_))))))))
 have q:=nB dk
 obtain rfl:=q
 exact zI ⟨rfl,_,rfl,⟨ak,rfl,bp,bq,br,bt,bu,bv,(bf.trans bg),(ba.pick [] _ (by decide) rfl)⟩⟩
 intro bo dl
 refine cF Z bo (kN (sR (wDC (.fx 5 (.fx 6 .nil .stop) .stop)) Z (oM Z bt (oM Z Z (oR Z (ZV Z Z Z) (bnK dl fun ae bw dm=>?_))))))
 have cw:=bJ.le bg
 have q:=cw.el (fun _=>rfl) (wBB bw)
 obtain ⟨dG,dO,cz,cB⟩:=q
 refine oR Z (zl Z Z cz Z zD zC (wCC bw) (wCL bw)) (oL Z (ba.ldC (f:=0) cB (v:=jV ae) Z Z zE Z) (zX (cs:=[jV 0]) Z Z Z Z Z ZC Z ba ?_))
 intro dE aj cK
 refine ze (j:=0) (vs:=[jV ae]) Z Z Z Z cK Z Z Z Z zC (zA Z) Z Z Z ?_
 intro aZ cL
 have bb:sW w U ak [.blk aj 3 [jV ae],B0] aZ:=cL
 refine eN (sR (wIu (.fx 6 (.fl 7 .nil) .stop)) Z (oL Z (bb.ldB (j:=1) Z Z Z zE (v:=jV x37) Z) (oL Z (bb.ldB (j:=0) Z Z Z zE (v:=jV ae) Z) (oR Z (yb Z Z Z) (oM Z Z (ifc dm ?_ ?_))))))
 intro ab dp
 refine oT Z ab (oT Z ab (OKS.px Z Z Z (ZA Z Z (ZY ab.out) Z) (oR Z (zY Z (ZY ab.out) Z) (eN (ZH Z (sR fL2 Z (oA Z Z (oA Z Z (eN (zS (zo (zW ?_))))))))))))
 have q:=wAe dp
 obtain ⟨dw,dq,cf⟩:=q
 have q:=wCA av au (bz dw cf)
 obtain rfl:=q
 refine zW (zo (zW ?_))
 cases dq
 exact ⟨rfl,_,(wHd rfl rfl),ak,_,(bb.pick [] _ (by decide) rfl),rfl,rfl⟩
 intro ab dr
 refine zL Z Z Z (wF Z ab) Z bp ?_
 have q:=bb.freeze (k:=0) rfl
 obtain ⟨bE,bT,ap,cN⟩:=q
 replace ap:=Cl.of ap
 have cO:sW w U bE [B0] aZ:=cN
 replace ap:Cl bE aj 0 [jV ae]:=ap
 have q:=cO.freeze (k:=0) rfl
 obtain ⟨aY,bC,aq,cP⟩:=q
 replace aq:=Cl.of aq
 have cQ:sW w U aY [] aZ:=cP
 replace aq:Cl aY ai 0 [jV x37]:=aq
 refine rU Z (wF Z ab) (Runs.mkf Z zM (zB Z (zB Z zM))) ?_
 have cx:=bO.le bS
 have cj:=cx.le bf
 have cm:=cj.le bg
 have cn:=cm.le bT
 have cp:=cn.le bC
 have cq:=ap.le bC
 have cC:FnOK Tryz.prog aY (.func (.func 25) #[] #[.pointer (some ⟨aj,0,none⟩),.pointer (some ⟨ai,0,none⟩)]) wRY wRZ (fun x=>wBP x ae x37):=⟨25,[],[.pointer (some ⟨aj,0,none⟩),.pointer (some ⟨ai,0,none⟩)],rfl,Tryz.call25,fun U1 w1 x y vs le hs ha hm=>by obtain rfl:=ha;exact wFZ x ae aj x37 ai w1 U1 hs (cq.le le) (aq.le le) hm⟩
 refine bnK dr fun dU cr cV=>zH 0 Z Z Z (wF Z ab) (zG Z Z Tryz.call24 (zB Z (zB Z zM)) Z) cQ (fun hs=>wBG p0 aU aV (fun x=>wBP x ae x37) (.func (.func 25) #[] #[.pointer (some ⟨aj,0,none⟩),.pointer (some ⟨ai,0,none⟩)]) aZ aY hs cp cC cr) (.inr Z) ?_
 rintro bj dy dQ bW dt cD ⟨rfl,rfl⟩
 have bL:sW w U bj [] bW:=cD
 refine oR Z (zZ Z (ZL ab.out) Z) (eN (ifc cV ?_ ?_))
 intro bm cW
 refine ZH (congrArg nD bm.out) (sR fL2 Z (oA Z Z (oA Z Z (eN (zS (zo (zW ?_)))))))
 have q:=wAe cW
 obtain ⟨du,cX,cb⟩:=q
 have q:=wCA av au (bz du cb)
 obtain rfl:=q
 refine zW (zo (zW ?_))
 cases cX
 exact ⟨Z,_,(wHd Z Z),bj,_,bL,Z,Z⟩
 intro bm cY
 refine zn (congrArg nD (nI.2 bm.out)) (ZS (zm (zI (rR fL2 Z (oR Z (Zc (zU Z am Z) (congrArg (jV) bP.out)) (oM Z Z (zd ?_)))))))
 have q:=nB cY
 obtain rfl:=q
 exact zI ⟨Z,_,Z,⟨bj,Z,bp,bq,br,bt,bu,bv,((((bf.trans bg).trans bT).trans bC).trans dt),bL⟩⟩
 intro bn cZ
 refine ZH (nF (bn.out)) (sR fL2 Z (oA Z Z (oA Z Z (eN (zS (zW (zo (zW ?_))))))))
 have q:=wAe cZ
 obtain ⟨dv,da,cd⟩:=q
 have q:=wCA av au (bz dv cd)
 obtain rfl:=q
 refine zW (zo (zW ?_))
 cases da
 exact ⟨rfl,_,(wHd rfl rfl),ak,_,(ba.pick [] _ (by decide) rfl),rfl,rfl⟩
 rintro ⟨⟩ dX dB ⟨bV,ci,dH,dI,dJ,dK,dL,cg,dM,cG⟩ cS
 have bQ:=wDe av au cS
 try dsimp only at bQ
 have bZ:Hid (¬ ((↑(((↑p3.length:Int):Int) - 0).toNat:Int) < (↑p3.length:Int))):=zO (wBM)
 refine sR fL1 Z (oR Z (zP Z ci cg) (eN (zN (cF Z bZ (ZX (zj (zj (ZN (zI (sR fL2 Z (oA Z Z (oA Z Z (eN (zS ?_))))))))))))))
 cases bQ
 exact ⟨Z,_,(wHd Z Z),bV,_,cG,Z,Z⟩
 intro bk db
 refine cT Z bk (sR fL3 Z (oM Z Z (oA Z Z (oA Z Z (eN (zS (zW ?_)))))))
 cases db
 exact ⟨Z,_,(wHd Z Z),U4,_,bK,Z,Z⟩
theorem wDf (w:World) (U:PHeap) (hS:St0 w U []) {r:Bool} (hm:wBq=some r):Gv Tryz.prog 12 [] w (wCQ w [] U (fun U_ L_ v=>v=.bool r/\L_=[])):=by
 cases hm
 refine (xr12 w).mono ?_
 rintro v w' ⟨rfl,k⟩
 exact ⟨U,[],hS.grow k,Z,Z⟩
theorem wER (p0:List Int) (du:Option Addr) (dw:Nat) (p1:List Int) (dv:Option Addr) (dx:Nat) (p2:Int) (w:World) (U:PHeap) (hS:St0 w U []) (jy:Sl U 1 du dw p0.length (nA KL.encB8 p0)) (jz:Sl U 1 dv dx p1.length (nA KL.encB8 p1)) {r:Bool} (hm:wBa p0 p1 p2=some r):Gv Tryz.prog 3 [.slice du p0.length dw,.slice dv p1.length dx,.int .u8 p2] w (wCQ w [] U (fun U_ L_ v=>v=.bool r/\L_=[])):=by
 unfold wBa at hm
 refine Gv.of Tryz.func3 Z Tryz.ntmps3 Tryz.results3 Z (sR fL1 Z (oA Z Z (eN (sR (.fl 0 (.fx 1 (.fx 2 (wRu (.fx 7 (.fx 8 (.fl 9 (.fl 10 .nil)) .stop) .stop)) .stop) .stop)) Z (oM Z Z (bnK hm fun x1 h2 j5=>zH 0 Z Z Z Z (zG Z Z Tryz.call5 (zB Z zM) Z) hS (fun hs=>wEo p0 du dw w U hs jy h2) (.inr Z) ?_))))))
 rintro U4 L5 v6 W7 mc jw ⟨cU,dB,dS,rfl,rfl,gS⟩
 have iT:sW w U U4 [.blk cU 60 [.slice dB x1.bytes.length dS,jV x1.next,.int .u32 x1.state]] W7:=jw
 have q:=bnd j5
 obtain ⟨⟨aj,fC,fD,dy⟩,g9,eX⟩:=q
 try dsimp only at eX
 refine zH 1 Z Z Z Z (zG Z Z Tryz.call4 (zB Z (zB Z (zB Z (zB Z zM)))) Z) iT (fun hs=>wFW x1 cU dB dS 5 5 12 W7 U4 hs gS g9) (.inl Z) ?_
 rintro cN mj mR fV l4 ja ⟨bW,cd,bX,cf,ct,cz,cu,cA,dC,dU,dD,dV,fL,gi,rfl,rfl,ir,mI⟩
 let B0:Res:=.blk cU 60 [.slice fL dy.bytes.length gi,jV dy.next,.int .u32 dy.state]
 let B1:Res:=.row dD dV 3 1 (nA KL.encI fD)
 let B2:Res:=.row cu cA 57 4 (nA wAL aj.Readings)
 let B3:Res:=.row ct cz 55 3 (nA wAA aj.Clocks)
 let B4:Res:=.row bX cf 39 2 (nA wAP aj.Splits)
 let B5:Res:=.row bW cd 3 1 (nA KL.encI aj.Starts)
 have jo:sW w U cN [B5,B4,B3,B2,B1,B0] fV:=ja
 refine oM Z Z (oR Z (zk Z Z (v:=.agg #[.slice bW aj.Starts.length cd,.slice bX aj.Splits.length cf,.slice ct aj.Clocks.length cz,.slice cu aj.Readings.length cA]) Z) (oR Z (zk Z Z (v:=.slice dC fC.length dU) Z) (oR Z (zk Z Z (v:=.slice dD fD.length dV) Z) (zX (cs:=[.slice none 0 0,.slice none 0 0,.slice none 0 0,.slice none 0 0]) Z Z Z Z Z Tryz.zeroValue28 Z jo ?_))))
 intro mE ai jp
 let B6:List Value:=[.slice bW aj.Starts.length cd,.slice bX aj.Splits.length cf,.slice ct aj.Clocks.length cz,.slice cu aj.Readings.length cA]
 refine ze (j:=0) (vs:=B6) Z Z Z Z jp Z Z Z Z zz (zA Z) Z Z Z ?_
 intro dP jq
 have jr:sW w U cN [.blk ai 28 B6,B5,B4,B3,B2,B1,B0] dP:=jq
 refine oA Z Z (oA Z Z (eN (sR (.fl 0 (.fx 1 gDr .stop)) Z (oM Z Z ?_))))
 have it:=jz.le mc
 have iu:=it.le l4
 refine bnK eX fun x59 iv lO=>zH 0 Z Z Z Z (zG Z Z Tryz.call5 (zB Z zM) Z) jr (fun hs=>wEo p1 dv dx dP cN hs iu iv) (.inr Z) ?_
 rintro dL my mZ dQ mb jt ⟨cV,dE,dW,rfl,rfl,iw⟩
 have ju:sW w U dL [.blk cV 60 [.slice dE x59.bytes.length dW,jV x59.next,.int .u32 x59.state],.blk ai 28 B6,B5,B4,B3,B2,B1,B0] dQ:=jt
 have q:=bnd lO
 obtain ⟨⟨bm,dA⟩,iz,fh⟩:=q
 try dsimp only at fh
 refine zH 1 Z Z Z Z (zG Z Z Tryz.call6 (zB Z (zB Z zM)) Z) ju (fun hs=>wEb x59 cV dE dW 14 dQ dL hs iw iz) (.inl Z) ?_
 rintro dM mz m4 cS md jv ⟨bq,bz,fM,gm,rfl,rfl,mJ⟩
 let B7:Res:=.blk cV 60 [.slice fM dA.bytes.length gm,jV dA.next,.int .u32 dA.state]
 let B8:Res:=.row bq bz 62 3 (nA wAY bm)
 have jx:sW w U dM [B8,B7,.blk ai 28 B6,B5,B4,B3,B2,B1,B0] cS:=jv
 refine Zx rfl rfl rfl rfl rfl rfl (eN (zN (zt zq [3,3,3,1,3,3,3,3,3,3,1,3,3,3,3,2,0] (wJw (.fx 15 (.fx 16 .nil .stop) .stop)) (by kernel_rfl) ?_)))
 have cH:=jx.drew
 generalize hw_W92:({ cS with drawn:=cS.drawn + 1 }:World)=mF at cH ⊢
 refine oM Z Z (oR Z (Runs.cvw Z Z Tryz.runUnderlying5 ZM Z Z) (oR Z (zJ Z Z zQ Z zy) (oL Z (cH.ldB (j:=2) Z Z Z ZI (v:=.slice bW aj.Starts.length cd) Z) (oR Z (ZU Z Z zD) (bnK fh fun x93 iA lP=>oR Z (Runs.rem Z Z Z iA) (oM Z Z (oR Z (Runs.cvw Z Z Tryz.runUnderlying5 ZM Z Z) (bnK lP fun m8 iB lQ=>oR Z (Runs.quo Z Z Z iB) (oR Z (zJ Z Z zQ Z Zz) (oL Z (cH.ldB (j:=2) Z Z Z yP (v:=.slice bX aj.Splits.length cf) Z) (oR Z (ZU Z Z Zh) (oR Z (zU Z Z Z) (bnK lQ fun x99 gK jN=>oR Z (Runs.rem Z Z Z gK) ?_)))))))))))))
 let B9:List Value:=[jV x93,jV x99]
 let cL:List Value:=[jV 0,jV 0]
 refine oR Z (zw (pv:=[(0,jV x93),(1,jV x99)]) (z:=cL) (cs:=B9) Z (wAC Z (wAC Z wAV)) Tryz.zeroValue37 wLg Z Z) (zX (cs:=cL) Z Z Z Z Z Tryz.zeroValue37 Z cH ?_)
 intro mA am iF
 refine ze (j:=0) (vs:=B9) Z Z Z Z iF Z Z Z Z yM (zA Z) Z Z Z ?_
 intro bR iG
 have dg:sW w U dM [.blk am 37 B9,B8,B7,.blk ai 28 B6,B5,B4,B3,B2,B1,B0] bR:=iG
 refine eN (sR (.fl 0 (.fl 1 (.fx 2 (wOv (.fx 6 (.fx 7 (.fl 8 .nil) .stop) .stop)) .stop))) Z (oL Z (dg.ldBA (j:=3) Z Z Z ZK zz (vs:=B6) Z Z) (oL Z (dg.ldBA (j:=0) Z Z Z Tryz.isAgg37 yM (vs:=B9) Z Z) ?_)))
 have q:=dg.freezeR (k:=4) (n:=aj.Starts.length) rfl (wAE (f:=KL.encI) (sz:=1) (fun _=>rfl) aj.Starts) (by decide)
 obtain ⟨fN,lY,lS,iH⟩:=q
 have iI:sW w U fN [.blk am 37 B9,B8,B7,.blk ai 28 B6,B4,B3,B2,B1,B0] bR:=iH
 have q:=iI.freezeR (k:=4) (n:=aj.Splits.length) rfl (wAE (f:=wAP) (sz:=2) (fun _=>rfl) aj.Splits) (by decide)
 obtain ⟨fO,fq,lT,iJ⟩:=q
 have iK:sW w U fO [.blk am 37 B9,B8,B7,.blk ai 28 B6,B3,B2,B1,B0] bR:=iJ
 have q:=iK.freezeR (k:=4) (n:=aj.Clocks.length) rfl (wAE (f:=wAA) (sz:=3) (fun _=>rfl) aj.Clocks) (by decide)
 obtain ⟨fP,dq,lU,iL⟩:=q
 have iM:sW w U fP [.blk am 37 B9,B8,B7,.blk ai 28 B6,B2,B1,B0] bR:=iL
 have q:=iM.freezeR (k:=4) (n:=aj.Readings.length) rfl (wAE (f:=wAL) (sz:=4) (fun _=>rfl) aj.Readings) (by decide)
 obtain ⟨dF,cI,lV,iN⟩:=q
 have iO:sW w U dF [.blk am 37 B9,B8,B7,.blk ai 28 B6,B1,B0] bR:=iN
 have gL:=lS.le fq
 have gM:=gL.le dq
 have gN:=gM.le cI
 have gO:=lT.le dq
 have gP:=gO.le cI
 have gQ:=lU.le cI
 have q:=bnd jN
 obtain ⟨⟨ab,fA⟩,gR,eW⟩:=q
 try dsimp only at eW
 refine zH 0 Z Z Z Z (zG Z Z Tryz.call7 (zB Z (zB Z zM)) Z) iO (fun hs=>wJc aj bW cd bX cf ct cz cu cA (⟨x93,x99⟩:wAa) bR dF hs gN gP gQ lV gR) (.inr Z) ?_
 rintro bo mi mQ fS lZ iP ⟨rfl,rfl⟩
 have iQ:sW w U bo [.blk am 37 B9,B8,B7,.blk ai 28 B6,B1,B0] fS:=iP
 refine oM Z Z (oR Z (zk Z Z (v:=.agg #[jV ab.Lo,jV ab.Hi]) Z) (oR Z (zk Z Z (v:=jV fA) Z) (zX (cs:=cL) Z Z Z Z Z Zv Z iQ ?_)))
 intro mB aq iR
 let az:List Value:=[jV ab.Lo,jV ab.Hi]
 refine ze (j:=0) (vs:=az) Z Z Z Z iR Z Z Z Z ZR (zA Z) Z Z Z ?_
 intro cP iU
 have iV:sW w U bo [.blk aq 39 az,.blk am 37 B9,B8,B7,.blk ai 28 B6,B1,B0] cP:=iU
 refine oA Z Z (eN (zN (CK.fresh fun cp bT=>?_)))
 have gu:cp 8=.slice dC fC.length dU:=(bT 8).trans rfl
 have gv:cp 10=.slice bq bm.length bz:=(bT 10).trans rfl
 have dX:cp 11=.pointer (some ⟨am,0,none⟩):=(bT 11).trans rfl
 have bF:cp 12=.pointer (some ⟨aq,0,none⟩):=(bT 12).trans rfl
 have gw:cp 13=jV fA:=(bT 13).trans rfl
 clear bT
 refine zt zq [3,3,1,3,1,3,1,3,1,3] fL10 (by kernel_rfl) ?_
 have aS:=iV.drew
 generalize hw_W161:({ cP with drawn:=cP.drawn + 1 }:World)=mC at aS ⊢
 refine oM Z gu (oR Z (zJ Z dX yR Z zC) (oL Z (aS.ldB (j:=1) Z Z Z zE (v:=jV x93) Z) (bnK eW fun fB db jO=>?_)))
 have gT:=ir.le mb
 have gU:=gT.le md
 have gW:=gU.le lY
 have gX:=gW.le fq
 have gZ:=gX.le dq
 have g6:=gZ.le cI
 have g7:=g6.le lZ
 have q:=g7.el (wBB db)
 obtain ⟨gf,me,m5,iC,df,lR⟩:=q
 obtain ⟨fy,fz,rfl,g8⟩:=lR
 replace df:Cl bo gf (me + x93.toNat * 1) [.slice fy fB.length fz]:=df
 refine oR Z (zl Z Z iC Z Tryz.runUnderlying29 zy (wCC db) (wCL db)) (oL Z (aS.ldC (f:=0) df (v:=.slice fy fB.length fz) Z Z ZI Z) (oR Z (zJ Z dX yR Z zC) (oL Z (aS.ldB (j:=1) Z Z Z zE (v:=jV x99) Z) (bnK jO fun bD de jP=>?_))))
 have q:=g8.el (fun _=>rfl) (wBB de)
 obtain ⟨mG,mO,iD,iE⟩:=q
 refine oR Z (zl Z Z iD Z zD zC (wCC de) (wCL de)) (oL Z (aS.ldC (f:=0) iE (v:=jV bD) Z Z zE Z) (oA Z Z (eN (zN (sR fL24 Z (oM Z gw (oR Z (yU Z Z Z) (oM Z Z (ifc jP ?_ ?_)))))))))
 intro bh jQ
 refine zV Z Z Z (zR Z Z (ZL (fun h=>h bh.out))) (fun _=>zJ Z bF ZE Z zC) (ZD Z Z Z (zR Z Z (ZL (fun h=>h bh.out))) (aS.ldB (j:=0) Z Z Z zE (v:=jV ab.Lo) Z) Z (zL Z Z Z (zR Z Z (ZL (fun h=>h bh.out))) Z Z (zV Z Z Z (zR Z Z (ZL (fun h=>h bh.out))) (fun _=>yN Z Z Z) (oR Z (zZ Z (ZL (fun h=>h bh.out)) Z) (oM Z Z (ifc jQ ?_ ?_))))))
 intro bi jR
 refine oT Z bi (oT Z bi (oT Z bi (oT Z bi (oR Z (zY Z (ZY bi.out) Z) (oM Z Z (oN Z (oN Z (oN Z (oR Z (zY Z Z Z) (oM Z Z (oN Z (oN Z (oN Z (oR Z (zY Z Z Z) (eN (ZH Z (sR fL1 Z (oA Z Z (eN (zS (zW ?_)))))))))))))))))))))
 have hE:=nB jR;first | subst r | cases hE
 exact ⟨rfl,_,(ZT rfl),bo,_,(aS.pick [] _ (by decide) rfl),rfl,rfl⟩
 intro bi jS
 refine zL Z Z Z (wF Z bi) Z Z (rU Z (wF Z bi) (zJ Z bF ZE Z zC) (ZD Z Z Z (wF Z bi) (aS.ldB (j:=0) Z Z Z zE (v:=jV ab.Hi) Z) Z (rU Z (wF Z bi) (yN Z Z Z) (oR Z (zZ Z (ZL bi.out) Z) (oM Z Z (ifc jS ?_ ?_))))))
 intro bt jU
 refine oT Z bt (oT Z bt (oT Z bt (oR Z (zY Z (ZY bt.out) Z) (oM Z Z (oN Z (oN Z (oN Z (oR Z (zY Z Z Z) (eN (ZH Z (sR fL1 Z (oA Z Z (eN (zS (zW ?_)))))))))))))))
 have hE:=nB jU;first | subst r | cases hE
 exact ⟨rfl,_,(ZT rfl),bo,_,(aS.pick [] _ (by decide) rfl),rfl,rfl⟩
 intro bt jW
 refine rU Z (wF Z bt) (zJ Z bF ZE Z zC) (ZD Z Z Z (wF Z bt) (aS.ldB (j:=0) Z Z Z zE (v:=jV ab.Lo) Z) Z (rU Z (wF Z bt) (zP Z Z Z) (oR Z (zZ Z (ZL bt.out) Z) (oM Z Z (ifc jW ?_ ?_)))))
 intro bu jX
 refine oT Z bu (oT Z bu (oT Z bu (oR Z (zY Z (ZY bu.out) Z) (eN (ZH Z (sR fL1 Z (oA Z Z (eN (zS (zW ?_))))))))))
 have hE:=nB jX;first | subst r | cases hE
 exact ⟨rfl,_,(ZT rfl),bo,_,(aS.pick [] _ (by decide) rfl),rfl,rfl⟩
 intro bu jY
 refine rU Z (wF Z bu) (zJ Z bF ZE Z zC) (ZD Z Z Z (wF Z bu) (aS.ldB (j:=0) Z Z Z zE (v:=jV ab.Hi) Z) Z (rU Z (wF Z bu) (yN Z Z Z) (oR Z (zZ Z (ZL bu.out) Z) (eN (ifc jY ?_ ?_)))))
 intro cW jZ
 refine cT Z cW (sR fL1 Z (oA Z Z (eN (zS (zW ?_)))))
 have hE:=nB jZ;first | subst r | cases hE
 exact ⟨rfl,_,(ZT rfl),bo,_,(aS.pick [] _ (by decide) rfl),rfl,rfl⟩
 intro cW dp
 refine cF Z cW (kN (sR (.fx 0 .nil .stop) Z (zX (cs:=nA KL.encI (Arr.fill 3 0).l) Z Z Z Z Z Tryz.zeroValue43 Z aS ?_)))
 intro fT av iW
 have dh:sW w U bo [.blk av 43 (nA KL.encI (Arr.fill 3 0).l),.blk aq 39 az,.blk am 37 B9,B8,B7,.blk ai 28 B6,B1,B0] fT:=iW
 refine eN (zN (sR (wDC (.fx 5 (.fl 6 (.fl 7 .nil)) .stop)) Z (oR Z (zJ Z bF ZE Z zC) (oL Z (dh.ldB (j:=1) Z Z Z zE (v:=jV ab.Lo) Z) (oM Z Z (oR Z (zJ Z bF ZE Z zC) (oL Z (dh.ldB (j:=1) Z Z Z zE (v:=jV ab.Hi) Z) (ZB (pv:=[(0,jV ab.Lo),(1,jV bD),(2,jV ab.Hi)]) (zs:=[jV 0,jV 0,jV 0]) (cs:=[jV ab.Lo,jV bD,jV ab.Hi]) Z Z Z Z Z (wAC Z (wAC Z (wAC Z wAV))) zD zC ZC Z Z Z Z Z dh ?_))))))))
 intro dN cx iX
 let aU:Res:=.row (some ⟨cx,0,none⟩) 3 3 1 (nA KL.encI [ab.Lo,bD,ab.Hi])
 have iY:sW w U bo [aU,.blk av 43 (nA KL.encI (Arr.fill 3 0).l),.blk aq 39 az,.blk am 37 B9,B8,B7,.blk ai 28 B6,B1,B0] dN:=iX
 refine oR Z (ZU Z Z zD) (oM Z Z (eN (zf ?_)))
 have q:=iY.freezeR (k:=4) (n:=bm.length) rfl (wAE (f:=wAY) (sz:=3) (fun _=>rfl) bm) (by decide)
 obtain ⟨cM,mK,fj,iZ⟩:=q
 have i7:sW w U cM [aU,.blk av 43 (nA KL.encI (Arr.fill 3 0).l),.blk aq 39 az,.blk am 37 B9,B7,.blk ai 28 B6,B1,B0] dN:=iZ
 have q:=wCY dp
 obtain ⟨mP,dk⟩:=q
 have q:=wCh dk
 obtain ⟨dm,jC⟩:=q
 replace dm:=zO dm
 refine ya (fun au aV σ_ w_=>∃ (U_:PHeap),σ_ 97=jV (↑au:Int)/\σ_ 10=.slice bq bm.length bz/\σ_ 12=.pointer (some ⟨aq,0,none⟩)/\σ_ 15=.pointer (some ⟨av,0,none⟩)/\σ_ 95=.slice (some ⟨cx,0,none⟩) ([ab.Lo,bD,ab.Hi].length) 3/\σ_ 96=jV 3/\PHeap.Le cM U_/\sW w U U_ [.blk av 43 (nA KL.encI aV.l),.blk aq 39 az,.blk am 37 B9,B7,.blk ai 28 B6,B0,aU] w_) jC ?_ ?_ ?_
 exact ⟨cM,rfl,gv,bF,rfl,rfl,rfl,(zK _),(i7.pick [1,2,3,4,5,7,0] _ (by decide) rfl)⟩
 rintro au aV m9 n5 fU dl ⟨fQ,cG,da,gz,gA,dY,dZ,dr,eM⟩ lX jA
 have dT:Hid ((↑au:Int) < 3):=zO (wBs dl)
 replace dl:=zO dl
 have eV:Hid (w64 ((↑au:Int) + 1)=(↑(au + 1):Int)):=zO (by have h1:=dm.out;have h2:=dT.out;rw [wAb] <;> omega)
 refine sR fL1 Z (oR Z (zP Z cG dZ) (eN (zN (cT Z dT (kN (zN (zf (sR fL5 Z (oM Z cG (bnK lX fun _ eJ j0=>oR Z (yQ Z dY Z cG zD zC (wAT eJ)) ?_))))))))))
 have jD:=wAx (xs:=[ab.Lo,bD,ab.Hi]) (wAT eJ)
 refine ZD rfl rfl rfl rfl (eM.ldR (j:=6) rfl rfl rfl rfl zE (wAS (sz:=1) (fun _=>rfl) _ _ 0 _ jD (by first | omega | rfl | simp) rfl)) rfl (Zx rfl rfl rfl rfl rfl rfl (Zx rfl rfl rfl rfl rfl rfl (eN (sR fL5 rfl (zL rfl rfl rfl rfl rfl rfl (bnK j0 fun dz ib j3=>zV rfl rfl rfl rfl (fun _=>Runs.quo rfl rfl rfl ib) (zV rfl rfl rfl rfl (fun _=>zU rfl rfl rfl) (zV rfl rfl rfl rfl (fun _=>Runs.min rfl rfl rfl) (Zx rfl rfl rfl rfl rfl rfl (eN (sR (.fl 0 (.fl 1 (.fx 2 (wRv (.nil)) .stop))) rfl (zL rfl rfl rfl rfl rfl da (zL rfl rfl rfl rfl rfl rfl ?_)))))))))))))
 have eK:=fj.le dr
 have q:=bnd j3
 obtain ⟨⟨bk,cK⟩,ic,eY⟩:=q
 try dsimp only at eY
 refine zH 0 Z Z Z Z (zG Z Z Tryz.call8 (zB Z (zB Z (zB Z zM))) Z) eM (fun hs=>wIk bm bq bz 0 (min (w64 (dz + 1)) 10000) fU fQ hs eK ic) (.inr Z) ?_
 rintro dG mn mS dO dt i8 ⟨cr,cy,rfl,rfl⟩
 let bY:Res:=.row cr cy 3 1 (nA KL.encI bk)
 have i9:sW w U dG [bY,.blk av 43 (nA KL.encI aV.l),.blk aq 39 az,.blk am 37 B9,B7,.blk ai 28 B6,B0,aU] dO:=i8
 refine oM Z Z (oR Z (zk Z Z (v:=.slice cr bk.length cy) Z) (oR Z (zk Z Z (v:=jV cK) Z) (oA Z Z (oA Z Z (eN (sR (.fl 0 (.fl 1 (.fx 2 (wRv (.nil)) .stop))) Z (oM Z da (oM Z Z ?_))))))))
 have ie:=eK.le dt
 have q:=bnd eY
 obtain ⟨⟨fE,fG⟩,ig,eZ⟩:=q
 try dsimp only at eZ
 refine zH 0 Z Z Z Z (zG Z Z Tryz.call9 (zB Z (zB Z (zB Z zM))) Z) i9 (fun hs=>wKn bm bq bz 0 (min (w64 (dz + 1)) 10000) dO dG hs ie ig) (.inr Z) ?_
 rintro br mo mT fW ft jb ⟨rfl,rfl⟩
 have bO:sW w U br [bY,.blk av 43 (nA KL.encI aV.l),.blk aq 39 az,.blk am 37 B9,B7,.blk ai 28 B6,B0,aU] fW:=jb
 refine oM Z Z (oR Z (zk Z Z (v:=jV fE) Z) (oR Z (zk Z Z (v:=jV fG) Z) (oA Z Z (oA Z Z (eN (zN (bnK eZ fun gg fm j4=>Zp (fun σ_ w_=>∃ (U_:PHeap),σ_ 10=.slice bq bm.length bz/\σ_ 12=.pointer (some ⟨aq,0,none⟩)/\σ_ 15=.pointer (some ⟨av,0,none⟩)/\σ_ 16=jV (↑au:Int)/\σ_ 19=.slice cr bk.length cy/\σ_ 20=jV cK/\σ_ 95=.slice (some ⟨cx,0,none⟩) ([ab.Lo,bD,ab.Hi].length) 3/\σ_ 96=jV 3/\σ_ 97=jV (↑au:Int)/\σ_ 139=.bool gg/\PHeap.Le br U_/\sW w U U_ [.blk av 43 (nA KL.encI aV.l),.blk aq 39 az,.blk am 37 B9,B7,.blk ai 28 B6,B0,bY,aU] w_) ?_ ?_)))))))
 refine CK.fresh fun bg bb=>?_
 have bG:bg 10=.slice bq bm.length bz:=(bb 10).trans da
 have bH:bg 12=.pointer (some ⟨aq,0,none⟩):=(bb 12).trans gz
 have bI:bg 15=.pointer (some ⟨av,0,none⟩):=(bb 15).trans gA
 have bJ:bg 16=jV (↑au:Int):=(bb 16).trans rfl
 have d5:bg 18=jV (min (w64 (dz + 1)) 10000):=(bb 18).trans rfl
 have bK:bg 19=.slice cr bk.length cy:=(bb 19).trans rfl
 have bj:bg 20=jV cK:=(bb 20).trans rfl
 have d7:bg 21=jV fE:=(bb 21).trans rfl
 have cC:bg 22=jV fG:=(bb 22).trans rfl
 have bL:bg 95=.slice (some ⟨cx,0,none⟩) ([ab.Lo,bD,ab.Hi].length) 3:=(bb 95).trans dY
 have bM:bg 96=jV 3:=(bb 96).trans dZ
 have bN:bg 97=jV (↑au:Int):=(bb 97).trans cG
 clear bb
 refine rR fL22 Z (oM Z bj (oR Z (yU Z Z Z) (oM Z Z ?_)))
 by_cases bf:cK=0
 have fb:=fm;rw [if_pos bf] at fb;replace bf:=zO bf
 refine ZW Z Z Z (ZA Z Z (ZL (fun h=>h bf.out)) Z) (ZW Z Z Z (ZA Z Z (ZL (fun h=>h bf.out)) Z) (oR Z (zZ Z (ZL (fun h=>h bf.out)) Z) (oM Z Z (zL Z Z Z (zR Z Z Z) Z bj (zV Z Z Z (zR Z Z Z) (fun _=>yC Z Z Z) (zL Z Z Z (zR Z Z Z) Z cC (zV Z Z Z (zR Z Z Z) (fun _=>yC Z Z Z) (zV Z Z Z (zR Z Z Z) (fun _=>Runs.neB Z Z Z Tryz.runUnderlying4) (oR Z (zZ Z Z Z) (oM Z Z (ifc fb ?_ ?_)))))))))))
 intro aW j6
 refine zL Z Z Z (zR Z Z (nC aW.out)) Z cC (zV Z Z Z (zR Z Z (nC aW.out)) (fun _=>yC Z Z Z) (zL Z Z Z (zR Z Z (nC aW.out)) Z Z (ifc j6 ?_ ?_)))
 intro bv j7
 refine zL Z Z Z (wT Z bv) Z d7 (zL Z Z Z (wT Z bv) Z d5 (rU Z (wT Z bv) (Runs.geq Z Z Z) (zV Z Z Z (zR Z Z (nC aW.out)) (fun _=>zY Z (ZY bv.out) Z) (oR Z (zZ Z (nC aW.out) Z) (zd ?_)))))
 have q:=nB j7
 obtain rfl:=q
 exact zI ⟨rfl,⟨br,bG,bH,bI,bJ,bK,bj,bL,bM,bN,rfl,(zK _),(bO.pick [1,2,3,4,5,6,0,7] _ (by decide) rfl)⟩⟩
 intro bv j8
 refine oF Z bv (oF Z bv (oF Z bv (zV Z Z Z (zR Z Z (nC aW.out)) (fun _=>zZ Z (ZL bv.out) Z) (oR Z (zZ Z (nC aW.out) Z) (zd ?_)))))
 cases j8
 exact zI ⟨rfl,⟨br,bG,bH,bI,bJ,bK,bj,bL,bM,bN,rfl,(zK _),(bO.pick [1,2,3,4,5,6,0,7] _ (by decide) rfl)⟩⟩
 intro aW j9
 refine ZW Z Z Z (ZA Z Z (nF (aW.out)) Z) (ZW Z Z Z (ZA Z Z (nF (aW.out)) Z) (ZW Z Z Z (ZA Z Z (nF (aW.out)) Z) (ZW Z Z Z (wCi Z Z Z) (ZW Z Z Z (wCi Z Z Z) (ZW Z Z Z (wCi Z Z Z) (ZW Z Z Z (ZA Z Z (nF (aW.out)) Z) (oR Z (zY Z (nF (aW.out)) Z) (zd ?_))))))))
 cases j9
 exact zI ⟨rfl,⟨br,bG,bH,bI,bJ,bK,bj,bL,bM,bN,rfl,(zK _),(bO.pick [1,2,3,4,5,6,0,7] _ (by decide) rfl)⟩⟩
 have fc:=fm;rw [if_neg bf] at fc;replace bf:=zO bf
 refine zL Z Z Z (wT Z bf) Z bj (rU Z (wT Z bf) (yU Z Z Z) (oR Z (zY Z (ZY bf.out) Z) (oM Z Z (ifc fc ?_ ?_))))
 intro aX k9
 refine zL Z Z Z (zR Z Z (ZL (fun h=>h aX.out))) Z bj (zV Z Z Z (zR Z Z (ZL (fun h=>h aX.out))) (fun _=>yC Z Z Z) (zL Z Z Z (zR Z Z (ZL (fun h=>h aX.out))) Z cC (zV Z Z Z (zR Z Z (ZL (fun h=>h aX.out))) (fun _=>yC Z Z Z) (zV Z Z Z (zR Z Z (ZL (fun h=>h aX.out))) (fun _=>Runs.neB Z Z Z Tryz.runUnderlying4) (oR Z (zZ Z (ZL (fun h=>h aX.out)) Z) (oM Z Z (ifc k9 ?_ ?_)))))))
 intro aY lc
 refine zL Z Z Z (zR Z Z (nC aY.out)) Z cC (zV Z Z Z (zR Z Z (nC aY.out)) (fun _=>yC Z Z Z) (zL Z Z Z (zR Z Z (nC aY.out)) Z Z (ifc lc ?_ ?_)))
 intro bw lf
 refine zL Z Z Z (wT Z bw) Z d7 (zL Z Z Z (wT Z bw) Z d5 (rU Z (wT Z bw) (Runs.geq Z Z Z) (zV Z Z Z (zR Z Z (nC aY.out)) (fun _=>zY Z (ZY bw.out) Z) (oR Z (zZ Z (nC aY.out) Z) (zd ?_)))))
 have q:=nB lf
 obtain rfl:=q
 exact zI ⟨rfl,⟨br,bG,bH,bI,bJ,bK,bj,bL,bM,bN,rfl,(zK _),(bO.pick [1,2,3,4,5,6,0,7] _ (by decide) rfl)⟩⟩
 intro bw lg
 refine oF Z bw (oF Z bw (oF Z bw (zV Z Z Z (zR Z Z (nC aY.out)) (fun _=>zZ Z (ZL bw.out) Z) (oR Z (zZ Z (nC aY.out) Z) (zd ?_)))))
 cases lg
 exact zI ⟨rfl,⟨br,bG,bH,bI,bJ,bK,bj,bL,bM,bN,rfl,(zK _),(bO.pick [1,2,3,4,5,6,0,7] _ (by decide) rfl)⟩⟩
 intro aY lh
 refine ZW Z Z Z (ZA Z Z (nF (aY.out)) Z) (ZW Z Z Z (ZA Z Z (nF (aY.out)) Z) (ZW Z Z Z (ZA Z Z (nF (aY.out)) Z) (ZW Z Z Z (wCi Z Z Z) (ZW Z Z Z (wCi Z Z Z) (ZW Z Z Z (wCi Z Z Z) (ZW Z Z Z (ZA Z Z (nF (aY.out)) Z) (oR Z (zY Z (nF (aY.out)) Z) (zd ?_))))))))
 cases lh
 exact zI ⟨rfl,⟨br,bG,bH,bI,bJ,bK,bj,bL,bM,bN,rfl,(zK _),(bO.pick [1,2,3,4,5,6,0,7] _ (by decide) rfl)⟩⟩
 intro aX li
 refine oT Z aX (oT Z aX (oT Z aX (oT Z aX (oT Z aX (oR Z (zY Z (ZY aX.out) Z) (oM Z Z (oN Z (oN Z (oN Z (ZW Z Z Z (wCi Z Z Z) (ZW Z Z Z (wCi Z Z Z) (ZW Z Z Z (wCi Z Z Z) (oN Z (oR Z (zY Z Z Z) (zd ?_)))))))))))))))
 cases li
 exact zI ⟨rfl,⟨br,bG,bH,bI,bJ,bK,bj,bL,bM,bN,rfl,(zK _),(bO.pick [1,2,3,4,5,6,0,7] _ (by decide) rfl)⟩⟩
 rintro n6 mD ⟨cb,d9,eg,cD,eh,gB,gC,eu,eA,eD,eE,fu,eO⟩
 refine ifc j4 ?_ ?_
 intro cX lj
 refine ZH (eE.trans (congrArg nD cX.out)) (sR fL1 Z (oA Z Z (eN (zS (zW (zo (zW ?_)))))))
 have q:=wAe lj
 obtain ⟨mf,lm,gp⟩:=q
 have q:=wCA dp dk (jA mf gp)
 obtain rfl:=q
 refine zW (zo (zW ?_))
 have hE:=nB lm;first | subst r | cases hE
 exact ⟨rfl,_,(ZT rfl),cb,_,(eO.pick [] _ (by decide) rfl),rfl,rfl⟩
 intro cX ln
 refine zn (eE.trans (congrArg nD (nI.2 cX.out))) (kN (sR (wEU (.fx 4 .nil .stop)) Z (oM Z eh (oM Z gB (oR Z (ZU Z Z zD) (bnK ln fun _ bB lp=>oR Z (Runs.iaA Z cD Z yI zC (wAu bB) (wAv bB)) ?_))))))
 have jE:=Arr.at_ aV (k:=au) (by have hz0:=wAT bB;omega)
 refine ze (j:=0) (vs:=[jV (↑bk.length:Int)]) (cs':=nA KL.encI (aV.set au (↑bk.length:Int)).l) rfl rfl rfl rfl eO rfl rfl rfl rfl zC (by have hz0:=wAT bB;simp only [nN,List.length_cons,List.length_nil,wJE (f:=KL.encI) (sz:=1) (N:=3) aV (fun _=>rfl) rfl];omega) rfl (wBn (sz:=1) (fo:=0) (fun _=>rfl) _ _ _ _ jE (by first | omega | rfl | simp) (zA rfl) rfl) rfl ?_
 intro fY jc
 have eQ:sW w U cb [.blk av 43 (nA KL.encI (aV.set au (↑bk.length:Int)).l),.blk aq 39 az,.blk am 37 B9,B7,.blk ai 28 B6,B0,bY,aU] fY:=jc
 refine eN (sR fL2 Z (oM Z gC (oR Z (yU Z Z Z) (eN (ifc lp ?_ ?_)))))
 intro cY lq
 refine zn (ZL (fun h=>h cY.out)) (ZS (zm (zI (rR fL2 Z (oR Z (Zc (zU Z eD Z) (congrArg (jV) eV.out)) (oM Z Z (zd ?_)))))))
 have q:=nB lq
 obtain rfl:=q
 exact zI ⟨rfl,_,rfl,⟨cb,rfl,d9,eg,cD,eu,eA,(((dr.trans dt).trans ft).trans fu),(eQ.pick [0,1,2,3,4,5,7] _ (by decide) rfl)⟩⟩
 intro cY lu
 refine cT Z cY (rR gDv Z (oM Z eh (oR Z (Runs.iaA Z cD Z yI zC (wAu bB) (wAv bB)) ?_)))
 have jG:=Arr.at_ (aV.set au (↑bk.length:Int)) (k:=au) (by have hz0:=wAT bB;omega)
 refine ze (j:=0) (vs:=[jV 31]) (cs':=nA KL.encI ((aV.set au (↑bk.length:Int)).set au 31).l) rfl rfl rfl rfl eQ rfl rfl rfl rfl zC (by have hz0:=wAT bB;simp only [nN,List.length_cons,List.length_nil,wJE (f:=KL.encI) (sz:=1) (N:=3) (aV.set au (↑bk.length:Int)) (fun _=>rfl) rfl];omega) rfl (wBn (sz:=1) (fo:=0) (fun _=>rfl) _ _ _ _ jG (by first | omega | rfl | simp) (zA rfl) rfl) rfl ?_
 intro fZ jd
 have je:sW w U cb [.blk av 43 (nA KL.encI ((aV.set au (↑bk.length:Int)).set au 31).l),.blk aq 39 az,.blk am 37 B9,B7,.blk ai 28 B6,B0,bY,aU] fZ:=jd
 refine zd (zm (zI (rR fL2 Z (oR Z (Zc (zU Z eD Z) (congrArg (jV) eV.out)) (oM Z Z (zd ?_))))))
 have q:=nB lu
 obtain rfl:=q
 exact zI ⟨rfl,_,rfl,⟨cb,rfl,d9,eg,cD,eu,eA,(((dr.trans dt).trans ft).trans fu),(je.pick [0,1,2,3,4,5,7] _ (by decide) rfl)⟩⟩
 rintro bp n7 ga ⟨cO,gJ,eF,eH,cj,mH,gD,l5,bC⟩ jB
 have lv:=wDe dp dk jB
 have gh:Hid (¬ ((↑((3:Int) - 0).toNat:Int) < 3)):=zO (wBM)
 refine sR fL1 rfl (zV rfl rfl rfl rfl (fun _=>zP rfl gJ gD) (eN (zN (cF Z gh (ZX (zj (zj (ZN (zI (zN (sR fL12 rfl (zV rfl rfl rfl rfl (fun _=>Zc (Runs.iaA rfl cj rfl yI zC (by decide) (by decide)) rfl) ?_))))))))))))
 have jH:=Arr.at_ bp (k:=(0)) (by omega)
 refine ZD rfl rfl rfl rfl (bC.ldB (j:=0) rfl rfl rfl zE (wAS (sz:=1) (fun _=>rfl) _ _ 0 _ jH (by first | omega | rfl | simp) rfl)) rfl (zV rfl rfl rfl rfl (fun _=>Zc (Runs.iaA rfl cj rfl yI zC (by decide) (by decide)) rfl) ?_)
 have jJ:=Arr.at_ bp (k:=1) (by omega)
 refine ZD rfl rfl rfl rfl (bC.ldB (j:=0) rfl rfl rfl zE (wAS (sz:=1) (fun _=>rfl) _ _ 0 _ jJ (by first | omega | rfl | simp) rfl)) rfl (zV rfl rfl rfl rfl (fun _=>yN rfl rfl rfl) (zL rfl rfl rfl rfl rfl rfl (ifc lv ?_ ?_)))
 intro aZ lw
 refine oT Z aZ (oT Z aZ (oT Z aZ (oT Z aZ (oT Z aZ (oR Z (zY Z (ZY aZ.out) Z) (eN (ZH Z (sR fL1 Z (oA Z Z (eN (zS (zW ?_))))))))))))
 have hE:=nB lw;first | subst r | cases hE
 exact ⟨rfl,_,(ZT rfl),cO,_,(bC.pick [] _ (by decide) rfl),rfl,rfl⟩
 intro aZ lx
 refine zV rfl rfl rfl (zR rfl rfl (ZL aZ.out)) (fun _=>Zc (Runs.iaA rfl cj rfl yI zC (by decide) (by decide)) rfl) ?_
 have jK:=Arr.at_ bp (k:=1) (by omega)
 refine ZD rfl rfl rfl (zR rfl rfl (ZL aZ.out)) (bC.ldB (j:=0) rfl rfl rfl zE (wAS (sz:=1) (fun _=>rfl) _ _ 0 _ jK (by first | omega | rfl | simp) rfl)) rfl (zV rfl rfl rfl (zR rfl rfl (ZL aZ.out)) (fun _=>Zc (Runs.iaA rfl cj rfl yI zC (by decide) (by decide)) rfl) ?_)
 have jL:=Arr.at_ bp (k:=2) (by omega)
 refine ZD rfl rfl rfl (zR rfl rfl (ZL aZ.out)) (bC.ldB (j:=0) rfl rfl rfl zE (wAS (sz:=1) (fun _=>rfl) _ _ 0 _ jL (by first | omega | rfl | simp) rfl)) rfl (zV rfl rfl rfl (zR rfl rfl (ZL aZ.out)) (fun _=>yN rfl rfl rfl) (zV rfl rfl rfl rfl (fun _=>zZ rfl (ZL aZ.out) rfl) (eN (ifc lx ?_ ?_))))
 intro cZ ly
 refine cT Z cZ (sR fL1 Z (oA Z Z (eN (zS (zW ?_)))))
 have hE:=nB ly;first | subst r | cases hE
 exact ⟨rfl,_,(ZT rfl),cO,_,(bC.pick [] _ (by decide) rfl),rfl,rfl⟩
 intro cZ lA
 refine cF Z cZ (kN (sR (wIu (.fx 6 (wTh (.nil)) .stop)) Z (oM Z eF (oR Z (zJ Z eH ZE Z zC) (oL Z (bC.ldB (j:=1) Z Z Z zE (v:=jV ab.Lo) Z) (bnK lA fun mg ii lB=>oR Z (Runs.quo Z Z Z ii) (oR Z (zU Z Z Z) (oR Z (Runs.min Z Z Z) ?_))))))))
 have eL:=fj.le l5
 have q:=bnd lB
 obtain ⟨⟨bV,fH⟩,ij,fd⟩:=q
 try dsimp only at fd
 refine zH 0 Z Z Z Z (zG Z Z Tryz.call10 (zB Z (zB Z (zB Z zM))) Z) bC (fun hs=>wIl bm bq bz 0 (min (w64 (mg + 1)) 10000) ga cO hs eL ij) (.inr Z) ?_
 rintro fR mp mU cQ l6 jf ⟨cw,cB,rfl,rfl⟩
 have eU:sW w U fR [.row cw cB 3 1 (nA KL.encI bV),.blk av 43 (nA KL.encI bp.l),.blk aq 39 az,.blk am 37 B9,B7,.blk ai 28 B6,B0,aU] cQ:=jf
 refine oM Z Z (oR Z (zk Z Z (v:=.slice cw bV.length cB) Z) (oR Z (zk Z Z (v:=jV fH) Z) (oA Z Z (oA Z Z (eN (sR (wJv (.fx 7 (wTl (.nil)) .stop)) Z (oM Z eF (oR Z (zJ Z eH ZE Z zC) (oL Z (eU.ldB (j:=2) Z Z Z zE (v:=jV ab.Hi) Z) (bnK fd fun mh ik lC=>oR Z (Runs.quo Z Z Z ik) (oR Z (zU Z Z Z) (oR Z (Runs.min Z Z Z) (oM Z Z ?_)))))))))))))
 have q:=eU.freezeR (k:=0) (n:=bV.length) rfl (wAE (f:=KL.encI) (sz:=1) (fun _=>rfl) bV) (by decide)
 obtain ⟨dI,ma,lW,jg⟩:=q
 have jh:sW w U dI [.blk av 43 (nA KL.encI bp.l),.blk aq 39 az,.blk am 37 B9,B7,.blk ai 28 B6,B0,aU] cQ:=jg
 have il:=eL.le l6
 have im:=il.le ma
 have q:=bnd lC
 obtain ⟨⟨fJ,fK⟩,io,ff⟩:=q
 try dsimp only at ff
 refine zH 0 Z Z Z Z (zG Z Z Tryz.call11 (zB Z (zB Z (zB Z (zB Z zM)))) Z) jh (fun hs=>wGM bm bq bz 0 (min (w64 (mh + 1)) 10000) bV cw cB cQ dI hs im lW io) (.inr Z) ?_
 rintro bQ mq mV cR mL ji ⟨rfl,rfl⟩
 have bS:sW w U bQ [.blk av 43 (nA KL.encI bp.l),.blk aq 39 az,.blk am 37 B9,B7,.blk ai 28 B6,B0,aU] cR:=ji
 refine oM Z Z (oR Z (zk Z Z (v:=.bool fJ) Z) (oR Z (zk Z Z (v:=jV fK) Z) (oA Z Z (oA Z Z (eN (zN (CK.fresh fun cq bU=>?_)))))))
 have gE:cq 13=jV fH:=(bU 13).trans rfl
 have gF:cq 15=.pointer (some ⟨av,0,none⟩):=(bU 15).trans cj
 have gG:cq 23=.slice cw bV.length cB:=(bU 23).trans rfl
 have gH:cq 24=.bool fJ:=(bU 24).trans rfl
 have gI:cq 25=jV fK:=(bU 25).trans rfl
 clear bU
 refine rR (wTZ (.fx 17 (.fl 18 (.fl 19 .nil)) .stop)) Z (oM Z gE (oR Z (yU Z Z Z) (oM Z Z (ifc ff ?_ ?_))))
 intro ap lD
 refine zL Z Z Z (zR Z Z (ZL (fun h=>h ap.out))) Z gI (zV Z Z Z (zR Z Z (ZL (fun h=>h ap.out))) (fun _=>yC Z Z Z) (zL Z Z Z (zR Z Z (ZL (fun h=>h ap.out))) Z Z (ifc lD ?_ ?_)))
 intro cg lE
 refine zL Z Z Z (wT Z cg) Z gH (zV Z Z Z (zR Z Z (ZL (fun h=>h ap.out))) (fun _=>zY Z (ZY cg.out) Z) (zL Z Z Z (zR Z Z (ZL (fun h=>h ap.out))) Z Z (ifc lE ?_ ?_)))
 intro ba lF
 refine zL rfl rfl rfl (zR rfl rfl (congrArg nD ba.out)) rfl gG (zV rfl rfl rfl (zR rfl rfl (congrArg nD ba.out)) (fun _=>ZU rfl rfl zD) (zV rfl rfl rfl (zR rfl rfl (congrArg nD ba.out)) (fun _=>Zc (Runs.iaA rfl gF rfl yI zC (by decide) (by decide)) rfl) ?_))
 have jM:=Arr.at_ bp (k:=(0)) (by omega)
 refine ZD rfl rfl rfl (zR rfl rfl (congrArg nD ba.out)) (bS.ldB (j:=0) rfl rfl rfl zE (wAS (sz:=1) (fun _=>rfl) _ _ 0 _ jM (by first | omega | rfl | simp) rfl)) rfl (zV rfl rfl rfl (zR rfl rfl (congrArg nD ba.out)) (fun _=>yC rfl rfl rfl) (zV rfl rfl rfl (zR rfl rfl (ZL (fun h=>h ap.out))) (fun _=>zY rfl (congrArg nD ba.out) rfl) (zV rfl rfl rfl rfl (fun _=>zZ rfl (ZL (fun h=>h ap.out)) rfl) (zL rfl rfl rfl rfl rfl rfl (ifc lF ?_ ?_)))))
 intro ci lG
 refine bnK lG fun m6 ip lH=>zH 0 Z Z Z (wT Z ci) (zG Z Z Tryz.call12 zM Z) bS (fun hs=>wDf cR bQ hs ip) (.inr Z) ?_
 rintro dJ mr mW gb mM jj ⟨rfl,rfl⟩
 have jk:sW w U dJ [.blk av 43 (nA KL.encI bp.l),.blk aq 39 az,.blk am 37 B9,B7,.blk ai 28 B6,B0,aU] gb:=jj
 refine oR Z (zY Z (ZY ci.out) Z) (oA Z Z (eN (zS ?_)))
 have hE:=nB lH;first | subst r | cases hE
 exact ⟨rfl,_,(ZT rfl),dJ,_,(jk.pick [] _ (by decide) rfl),rfl,rfl⟩
 intro ci lI
 refine OKS.px Z Z Z (ZA Z Z (ZL ci.out) Z) (oR Z (zZ Z (ZL ci.out) Z) (oA Z Z (eN (zS ?_))))
 have hE:=nB lI;first | subst r | cases hE
 exact ⟨rfl,_,(ZT rfl),bQ,_,(bS.pick [] _ (by decide) rfl),rfl,rfl⟩
 intro ba lJ
 refine ZW Z Z Z (ZA Z Z (congrArg nD (nI.2 ba.out)) Z) (ZW Z Z Z (ZA Z Z (congrArg nD (nI.2 ba.out)) Z) (ZW Z Z Z (ZA Z Z (congrArg nD (nI.2 ba.out)) Z) (ZW Z Z Z (ZA Z Z (congrArg nD (nI.2 ba.out)) Z) (ZW Z Z Z (ZA Z Z (congrArg nD (nI.2 ba.out)) Z) (zV Z Z Z (zR Z Z (ZL (fun h=>h ap.out))) (fun _=>zZ Z (congrArg nD (nI.2 ba.out)) Z) (oR Z (zZ Z (ZL (fun h=>h ap.out)) Z) (oM Z Z (OKS.px Z Z Z (ZA Z Z Z Z) (oR Z (zZ Z Z Z) (oA Z Z (eN (zS ?_))))))))))))
 have hE:=nB lJ;first | subst r | cases hE
 exact ⟨rfl,_,(ZT rfl),bQ,_,(bS.pick [] _ (by decide) rfl),rfl,rfl⟩
 intro cg lK
 refine oF Z cg (zV Z Z Z (zR Z Z (ZL (fun h=>h ap.out))) (fun _=>zZ Z (ZL cg.out) Z) (zL Z Z Z (zR Z Z (ZL (fun h=>h ap.out))) Z Z (oN Z (oN Z (oN Z (oN Z (oN Z (zV Z Z Z (zR Z Z (ZL (fun h=>h ap.out))) (fun _=>zZ Z Z Z) (oR Z (zZ Z (ZL (fun h=>h ap.out)) Z) (oM Z Z (OKS.px Z Z Z (ZA Z Z Z Z) (oR Z (zZ Z Z Z) (oA Z Z (eN (zS ?_)))))))))))))))
 have hE:=nB lK;first | subst r | cases hE
 exact ⟨rfl,_,(ZT rfl),bQ,_,(bS.pick [] _ (by decide) rfl),rfl,rfl⟩
 intro ap lL
 refine oT Z ap (oT Z ap (oT Z ap (ZW Z Z Z (wCi Z Z Z) (oT Z ap (oT Z ap (ZW Z Z Z (wCi Z Z Z) (ZW Z Z Z (wCi Z Z Z) (ZW Z Z Z (wCi Z Z Z) (ZW Z Z Z (wCi Z Z Z) (ZW Z Z Z (wCi Z Z Z) (oT Z ap (oR Z (zY Z (ZY ap.out) Z) (oM Z Z (bnK lL fun m7 iq lM=>zH 0 Z Z Z (zR Z Z Z) (zG Z Z Tryz.call12 zM Z) bS (fun hs=>wDf cR bQ hs iq) (.inr Z) ?_))))))))))))))
 rintro dK mu mX ge mN jl ⟨rfl,rfl⟩
 have jm:sW w U dK [.blk av 43 (nA KL.encI bp.l),.blk aq 39 az,.blk am 37 B9,B7,.blk ai 28 B6,B0,aU] ge:=jl
 refine oR Z (zY Z Z Z) (oA Z Z (eN (zS ?_)))
 have hE:=nB lM;first | subst r | cases hE
 exact ⟨rfl,_,(ZT rfl),dK,_,(jm.pick [] _ (by decide) rfl),rfl,rfl⟩
 intro bh lN
 refine oT Z bh (oT Z bh (oT Z bh (oT Z bh (oR Z (zY Z (ZY bh.out) Z) (oM Z Z (oN Z (oN Z (oN Z (oN Z (oR Z (zY Z Z Z) (oM Z Z (oN Z (oN Z (oN Z (oR Z (zY Z Z Z) (oM Z Z (oN Z (oN Z (oN Z (oR Z (zY Z Z Z) (eN (ZH Z (sR fL1 Z (oA Z Z (eN (zS (zW ?_)))))))))))))))))))))))))))
 have hE:=nB lN;first | subst r | cases hE
 exact ⟨rfl,_,(ZT rfl),bo,_,(aS.pick [] _ (by decide) rfl),rfl,rfl⟩
end Go.Proofs.YtkeeechdijfkhaaGreat
