import Derived.Test.YtnbcoenjobdplaaGreatB6
import Derived.Test.YtnbcoenjobdplaaGreatB5
import Derived.Test.YtnbcoenjobdplaaGreatB7
import Derived.Test.YtnbcoenjobdplaaGreatB8
set_option linter.all false
open List renaming flatMap->hM,zipWith->nA,set->nD,getElem?_eq_some_iff->nI,length_set->nJ,getElem_cons_succ->nK,getElem_cons_zero->nL,getElem_toArray->nM
open Option.some renaming inj->nB
open Go.Value renaming bool->nE,slice->nN
open Bool renaming eq_false_iff->nG
open Nat renaming lt_of_lt_of_eq->nH
open Eq renaming trans->nO
namespace Go.Proofs.YtnbcoenjobdplaaGreat
open Go.KL
def gCs:Sch:=.fx 0 (.fl 1 .nil) .stop
def gCt:Sch:=.fx 2 (.fx 3 .nil .stop) .stop
def gCu:Sch:=.fx 3 (.fl 4 (.fx 5 .nil .stop)) .stop
def gCv:Sch:=.fx 7 (.fx 8 (.fl 9 .nil) .stop) .stop
def gCw:Sch:=.fl 0 (.fl 1 gCt)
def gCx:Sch:=.fl 0 (.fl 1 (.fx 2 (.fl 3 .nil) .stop))
def gCy:Sch:=.fl 0 (.fl 1 (.fx 2 (.fl 3 (.fl 4 .nil)) .stop))
set_option maxHeartbeats 4000000
theorem wFX (p0:wAO) (p1:(wAO->Option Bool)) (ai:Nat) (af:Value) (w:World) (U:PHeap) (hS:St0 w U []) (ap:Cl U ai 0 [af]) (aq:FnOK Tryz.prog U af wLD wLE p1) {r:Bool} (hm:wBj p0 p1=some r):Gv Tryz.prog 115 [.agg #[jV p0.Lo,jV p0.Hi],.pointer (some ⟨ai,0,none⟩)] w (wBU w [] U (fun U_ L_ v=>v=.bool r/\L_=[])):=by
 unfold wBj at hm
 refine Gv.of Tryz.func115 Z Tryz.ntmps115 Tryz.results115 Z (sR gCs Z ?_)
 let B0:List Value:=[jV p0.Lo,jV p0.Hi]
 refine ZS (cs:=B0) rfl rfl rfl rfl rfl rfl (by rfl) hS ?_
 intro W1 b2 ae
 refine oA Z Z (eN (sR gCy Z (oL Z (ae.ldC (f:=0) ap (v:=af) Z Z Tryz.isAgg163 Z) (oL Z (ae.ldBA (j:=0) Z Z Z Tryz.isAgg76 Zu (vs:=B0) Z Z) (bnK hm fun x5 h6 au=>yT (a:=p0) Z Z Z Z Z Z (zB Z zM) ae aq Z h6 ?_)))))
 rintro U8 L9 ay aj ax an ⟨rfl,rfl⟩
 have ao:sW w U U8 [.blk b2 76 B0] aj:=an
 refine oR Z (ZN Z Z) (oA Z Z (eN (zO ?_)))
 cases au
 exact ⟨rfl,_,(zr rfl),U8,_,(ao.pick [] _ (by decide) rfl),rfl,rfl⟩
theorem wDl (p0:List wAO) (am:Option Addr) (an:Nat) (p1:(wAO->Option Bool)) (ao:Value) (w:World) (U:PHeap) (hS:St0 w U []) (bn:Sl U 2 am an p0.length (hM wAb p0)) (bp:FnOK Tryz.prog U ao wLD wLE p1) {r:Int} (hm:wBT p0 p1=some r):Gv Tryz.prog 145 [.slice am p0.length an,ao] w (wBU w [] U (fun U_ L_ v=>v=jV r/\L_=[])):=by
 unfold wBT at hm
 refine Gv.of Tryz.func145 Z Tryz.ntmps145 Tryz.results145 Z (sR fL1 Z (oA Z Z (eN (zG (sR fL3 Z (oM Z Z (oR Z (za Z Z Zf) (oM Z Z (eN (zT ?_))))))))))
 have q:=wBe hm
 obtain ⟨r3,ah⟩:=q
 have q:=wBd ah
 obtain ⟨aj,bs⟩:=q
 replace aj:=zF aj
 refine yA (fun k2 _ σ_ w_=>∃ (U_:PHeap),σ_ 8=jV (↑k2:Int)/\σ_ 0=.slice am p0.length an/\σ_ 1=ao/\σ_ 7=jV (↑p0.length:Int)/\PHeap.Le U U_/\sW w U U_ [] w_) bs ?_ ?_ ?_
 exact ⟨U,Z,Z,Z,Z,(zH _),hS⟩
 rintro k2 ⟨⟩ bO bQ W8 ai ⟨bD,ag,au,av,aw,ak,ay⟩ aX bq
 try dsimp only at aX
 have aq:Hid ((↑k2:Int) < (↑p0.length:Int)):=zF (wAo ai)
 replace ai:=zF ai
 have bt:Hid (w64 ((↑k2:Int) + 1)=(↑(k2 + 1):Int)):=zF (by have h1:=aj.out;have h2:=aq.out;rw [wAT] <;> omega)
 refine sR fL1 Z (oR Z (zU Z ag aw) (eN (zG (cT Z aq (kN (zG (zT (sR fL2 Z (oM Z ag (oA Z Z (eN (sR (wHS (.fx 5 .nil .stop)) Z (oM Z av (oM Z au (oM Z Z (bnK aX fun ap ax bu=>?_))))))))))))))))
 have bf:=bn.le ak
 have q:=bf.el (fun _=>rfl) (wAR ax)
 obtain ⟨bG,bK,bi,bj⟩:=q
 refine oR Z (zo Z Z bi Z Zf Zu (wAj ax)) (oL Z (ay.ldCA (f:=0) bj Z Z Tryz.isAgg76 Zu (us:=[jV ap.Lo,jV ap.Hi]) Z Z) (bnK bu fun bN bg bv=>?_))
 have bh:=bp.le ak
 refine yT (a:=ap) Z Z Z Z Z Z (zB Z zM) ay bh Z bg ?_
 rintro ae bC bM a7 bA bl ⟨rfl,rfl⟩
 have az:sW w U ae [] a7:=bl
 refine eN (ifc bv ?_ ?_)
 intro af bw
 refine ZF (congrArg nE af.out) (sR fL2 Z (oM Z Z (oA Z Z (eN (zO (zf (zR ?_)))))))
 have q:=wAf bw
 obtain ⟨bB,bx,ba⟩:=q
 have q:=wCI hm ah (bq bB ba)
 obtain rfl:=q
 refine zR (zf (zR ?_))
 cases bx
 exact ⟨Z,_,(zr Z),ae,_,az,Z,Z⟩
 intro af bz
 refine zm (congrArg nE (nG.2 af.out)) (ZV (zb (zI (rR fL2 Z (oR Z (zn (zX Z ag Z) (congrArg (jV) bt.out)) (oM Z Z (zg ?_)))))))
 have q:=nB bz
 obtain rfl:=q
 exact zI ⟨Z,_,Z,⟨ae,Z,au,av,aw,(ak.trans bA),az⟩⟩
 rintro ⟨⟩ bP bE ⟨aZ,be,bH,bI,bb,bJ,bm⟩ br
 have aW:=wCm hm ah br
 try dsimp only at aW
 have a8:Hid (¬ ((↑(((↑p0.length:Int):Int) - 0).toNat:Int) < (↑p0.length:Int))):=zF (wAa)
 refine sR fL1 Z (oR Z (zU Z be bb) (eN (zG (cF Z a8 (ZI (zY (zY (ZD (zI (sR fL1 Z (oA Z Z (eN (zO ?_)))))))))))))
 cases aW
 exact ⟨Z,_,(zr Z),aZ,_,bm,Z,Z⟩
theorem wDb (p0:List wAO) (ae:Option Addr) (af:Nat) (p1:(wAO->Option Bool)) (ag:Value) (w:World) (U:PHeap) (hS:St0 w U []) (ao:Sl U 2 ae af p0.length (hM wAb p0)) (ap:FnOK Tryz.prog U ag wLD wLE p1) {r:Bool} (hm:wBI p0 p1=some r):Gv Tryz.prog 114 [.slice ae p0.length af,ag] w (wBU w [] U (fun U_ L_ v=>v=.bool r/\L_=[])):=by
 unfold wBI at hm
 refine Gv.of Tryz.func114 Z Tryz.ntmps114 Tryz.results114 Z (sR fL1 Z (oA Z Z (eN (sR gCy Z (oM Z Z (oM Z Z (bnK hm fun x1 h2 ai=>zL 0 Z Z Z Z (zK Z Z Tryz.call145 (zB Z (zB Z zM)) Z) hS (fun hs=>wDl p0 ae af p1 ag w U hs ao ap h2) (.inr Z) ?_)))))))
 rintro U4 L5 v6 W7 au an ⟨rfl,rfl⟩
 have am:sW w U U4 [] W7:=an
 refine oR Z (yo Z Z Z) (oA Z Z (eN (zO ?_)))
 first | (obtain rfl:=nB ai) | cases ai
 exact ⟨Z,_,(zr Z),U4,_,am,Z,Z⟩
theorem wFw (p0:List wAO) (ai:Option Addr) (aj:Nat) (p1:(wAO->Option Bool)) (ag:Value) (w:World) (U:PHeap) (hS:St0 w U []) (aZ:Sl U 2 ai aj p0.length (hM wAb p0)) (an:FnOK Tryz.prog U ag wLD wLE p1) {r:Bool} (hm:wDa p0 p1=some r):Gv Tryz.prog 76 [.slice ai p0.length aj,ag] w (wBU w [] U (fun U_ L_ v=>v=.bool r/\L_=[])):=by
 unfold wDa at hm
 refine Gv.of Tryz.func76 Z Tryz.ntmps76 Tryz.results76 Z (sR gCs Z (ZS (cs:=[ag]) Z Z Z Z Z Z (FnOK.cells an) hS ?_))
 intro W1 b2 aW
 have q:=aW.freeze (k:=0) rfl
 obtain ⟨U5,ao,ac,aX⟩:=q
 replace ac:=Cl.of ac
 have aY:sW w U U5 [] W1:=aX
 replace ac:Cl U5 b2 0 [ag]:=ac
 refine oA Z Z (eN (sR gCy Z (oM Z Z (oR Z (yW Z zM (zB Z zM)) ?_))))
 have au:=aZ.le ao
 have av:=an.le ao
 have ax:FnOK Tryz.prog U5 (.func (.func 115) #[] #[.pointer (some ⟨b2,0,none⟩)]) wLD wLE (fun x=>wBj x p1):=⟨115,[],[.pointer (some ⟨b2,0,none⟩)],rfl,Tryz.call115,fun U1 w1 x y vs le hs ha hm=>by obtain rfl:=ha;exact wFX x p1 b2 ag w1 U1 hs (ac.le le) (av.le le) hm⟩
 refine bnK hm fun bf aw a7=>zL 0 Z Z Z Z (zK Z Z Tryz.call114 (zB Z (zB Z zM)) Z) aY (fun hs=>wDb p0 ai aj (fun x=>wBj x p1) (.func (.func 115) #[] #[.pointer (some ⟨b2,0,none⟩)]) W1 U5 hs au ax aw) (.inr Z) ?_
 rintro ak ba be aq bb ay ⟨rfl,rfl⟩
 have az:sW w U ak [] aq:=ay
 refine oR Z (ZN Z Z) (oA Z Z (eN (zO ?_)))
 cases a7
 exact ⟨Z,_,(zr Z),ak,_,az,Z,Z⟩
theorem wHM (p0:wAO) (w:World) (U:PHeap) (hS:St0 w U [])  {r:Bool} (hm:wDB p0=some r):Gv Tryz.prog 77 [.agg #[jV p0.Lo,jV p0.Hi]] w (wBU w [] U (fun U_ L_ v=>v=.bool r/\L_=[])):=by
 unfold wDB at hm
 refine Gv.of Tryz.func77 rfl Tryz.ntmps77 Tryz.results77 rfl (sR gCs rfl (ZS (cs:=[jV p0.Lo,jV p0.Hi]) rfl rfl rfl rfl rfl rfl (by rfl) hS ?_))
 intro W1 b2 ac
 refine oA Z Z (eN (sR fL6 Z (oR Z (zJ Z Z Zl Z zD) (oL Z (ac.ldB (j:=0) Z Z Z zP (v:=jV p0.Lo) Z) (oR Z (zJ Z Z Zl Z zD) (oL Z (ac.ldB (j:=0) Z Z Z zP (v:=jV p0.Hi) Z) (oR Z (Runs.leq Z Z Z) (oA Z Z (eN (zO ?_))))))))))
 first | (obtain rfl:=nB hm) | cases hm
 exact ⟨rfl,_,(zr rfl),U,_,(ac.pick [] _ (by decide) rfl),rfl,rfl⟩
theorem wIC (p0:List wAO) (au:Option Addr) (av:Nat) (w:World) (U:PHeap) (hS:St0 w U []) (bY:Sl U 2 au av p0.length (hM wAb p0)) {r:(List wAO) × Int} (hm:wEi p0=some r):Gv Tryz.prog 46 [.slice au p0.length av] w (wBU w [] U (fun U_ L_ v=>∃ (A0:Option Addr) (c0:Nat),v=.tuple #[.slice A0 r.1.length c0,jV r.2]/\L_=[.row A0 c0 76 2 (hM wAb r.1)])):=by
 unfold wEi at hm
 refine Gv.of Tryz.func46 Z Tryz.ntmps46 Tryz.results46 Z (sR fL2 Z (oA Z Z (oA Z Z (eN (zG (zT (sR fL4 Z (oM Z Z (oR Z (za Z Z Zf) (oR Z (yN Z Z Z) (oA Z Z (eN ?_))))))))))))
 by_cases c1:40 < (↑p0.length:Int)
 have bZ:=hm;rw [if_pos c1] at bZ;replace c1:=zF c1
 refine cT Z c1 (sR fL2 Z (oA Z Z (oA Z Z (eN (zO (zf (zR ?_)))))))
 have dq:=hS.nilrow 76 2
 cases bZ
 exact ⟨Z,_,(wFc Z Z),U,_,dq,none,0,Z,Z⟩
 have b4:=hm;rw [if_neg c1] at b4;replace c1:=zF c1
 refine cF Z c1 (sR (.fl 0 (.fx 1 (.fl 2 (.fl 3 .nil)) .stop)) Z (oM Z Z ?_))
 have c6:FnOK Tryz.prog U (.func (.func 77) #[] #[]) wLD wLE wDB:=⟨77,[],[],rfl,Tryz.call77,fun U1 w1 x y vs le hs ha hm=>by obtain rfl:=ha;exact wHM x w1 U1 hs  hm⟩
 refine bnK b4 fun x7 h8 dS=>zL 0 Z Z Z Z (zK Z Z Tryz.call76 (zB Z (zB Z zM)) Z) hS (fun hs=>wFw p0 au av wDB (.func (.func 77) #[] #[]) w U hs bY c6 h8) (.inr Z) ?_
 rintro bp dX eI cm dU db ⟨rfl,rfl⟩
 have bU:sW w U bp [] cm:=db
 refine oR Z (ZN Z Z) (oA Z Z (eN (ifc dS ?_ ?_)))
 intro bB dN
 refine zm (nC bB.out) (ZV (zb (zI (sR fL1 Z (oA Z Z (eN (zG (sR fL3 Z (oM Z Z (oR Z (za Z Z Zf) (oM Z Z (eN (zT (bnK dN fun eP dz dQ=>?_))))))))))))))
 have q:=wAs dz
 obtain ⟨bE,dA⟩:=q
 replace bE:=zF bE
 refine CK.forN' (fun ax aY σ_ w_=>∃ (U_:PHeap) (a7:Option Addr) (be:Nat),σ_ 20=jV (↑ax:Int)/\σ_ 0=.slice au p0.length av/\σ_ 4=.slice a7 aY.length be/\σ_ 18=.slice au p0.length av/\σ_ 19=jV (↑p0.length:Int)/\PHeap.Le bp U_/\sW w U U_ [.row a7 be 76 2 (hM wAb aY)] w_) dA ?_ ?_ ?_
 have dr:=bU.nilrow 76 2
 exact ⟨bp,none,0,Z,Z,Z,Z,Z,(zH _),dr⟩
 rintro ax aY eM eT d9 bD ⟨bq,a7,be,bs,bN,cO,bO,bP,cd,bX⟩ dT
 have bM:Hid ((↑ax:Int) < (↑p0.length:Int)):=zF (wAo bD)
 replace bD:=zF bD
 have dD:Hid (w64 ((↑ax:Int) + 1)=(↑(ax + 1):Int)):=zF (by have h1:=bE.out;have h2:=bM.out;rw [wAT] <;> omega)
 refine sR fL1 Z (oR Z (zU Z bs bP) (eN (zG (cT Z bM (kN (zG (zT (sR (wDE gCu) Z (oM Z bs (bnK dT fun az bR dR=>?_))))))))))
 have cU:=bY.le dU
 have bS:=cU.le cd
 have q:=bS.el (fun _=>rfl) (wAR bR)
 obtain ⟨eh,eH,cX,cZ⟩:=q
 refine oR Z (zo Z bO cX bs Zf Zu (wAj bR)) (oL Z (bX.ldCA (f:=0) cZ Z Z Tryz.isAgg76 Zu (us:=[jV az.Lo,jV az.Hi]) Z Z) ?_)
 let B0:List Value:=[jV 0,jV 0]
 refine zz (cs:=B0) Z Z Z Z Z Zz Z bX ?_
 intro ea ag dt
 refine oA Z Z ?_
 let B1:List Value:=[jV az.Lo,jV az.Hi]
 refine zu (j:=0) (vs:=B1) Z Z Z Z dt Z Z Z Z Zu (zC Z) Z Z Z ?_
 intro cw du
 let B2:Res:=.row a7 be 76 2 (hM wAb aY)
 have dv:sW w U bq [.blk ag 76 B1,B2] cw:=du
 refine eN (sR (.fl 0 (.fx 1 (.fx 2 .nil .stop) .stop)) Z ?_)
 let B3:List Value:=[jV 1,jV 1]
 refine oR Z (ZH (pv:=[(0,jV 1),(1,jV 1)]) (z:=B0) (cs:=B3) Z (wAC Z (wAC Z wAM)) Zz wFT Z Z) (zz (cs:=B0) Z Z Z Z Z Zz Z dv ?_)
 intro eb ak dw
 refine zu (j:=0) (vs:=B3) Z Z Z Z dw Z Z Z Z Zu (zC Z) Z Z Z ?_
 intro cy dx
 have dy:sW w U bq [.blk ak 76 B3,.blk ag 76 B1,B2] cy:=dx
 refine eN (zG (sR fL3 Z (oM Z bN (oR Z (za Z Z Zf) (oM Z Z (eN (zT ?_)))))))
 have q:=bnd dR
 obtain ⟨⟨bt,bu⟩,dB,ca⟩:=q
 try dsimp only at ca
 have q:=wAs dB
 obtain ⟨bF,dC⟩:=q
 replace bF:=zF bF
 refine CK.forN' (fun bn (aw,ai) σ_ w_=>∃ (U_:PHeap),σ_ 28=jV (↑bn:Int)/\σ_ 0=.slice au p0.length av/\σ_ 4=.slice a7 aY.length be/\σ_ 5=jV (↑ax:Int)/\σ_ 6=.pointer (some ⟨ag,0,none⟩)/\σ_ 7=.pointer (some ⟨ak,0,none⟩)/\σ_ 18=.slice au p0.length av/\σ_ 19=jV (↑p0.length:Int)/\σ_ 20=jV (↑ax:Int)/\σ_ 26=.slice au p0.length av/\σ_ 27=jV (↑p0.length:Int)/\PHeap.Le bq U_/\sW w U U_ [.blk ak 76 [jV aw,jV ai],.blk ag 76 B1,B2] w_) dC ?_ ?_ ?_
 exact ⟨bq,Z,bN,cO,Z,Z,Z,bO,bP,bs,Z,Z,(zH _),dy⟩
 rintro bn ⟨aw,ai⟩ eK eQ dY bC ⟨aj,aq,bf,bg,am,ap,ae,bh,bi,bj,aW,aX,aZ,bT⟩ cc
 try dsimp only at cc
 have bK:Hid ((↑bn:Int) < (↑p0.length:Int)):=zF (wAo bC)
 replace bC:=zF bC
 have bm:Hid (w64 ((↑bn:Int) + 1)=(↑(bn + 1):Int)):=zF (by have h1:=bF.out;have h2:=bK.out;rw [wAT] <;> omega)
 refine sR fL1 Z (oR Z (zU Z aq aX) (eN (zG (cT Z bK (kN (zG (zT (sR (wDE gCu) Z (oM Z aq (bnK cc fun ay bQ dE=>?_))))))))))
 have cR:=bS.le aZ
 have q:=cR.el (fun _=>rfl) (wAR bQ)
 obtain ⟨ee,eG,cW,cY⟩:=q
 refine oR Z (zo Z aW cW aq Zf Zu (wAj bQ)) (oL Z (bT.ldCA (f:=0) cY Z Z Tryz.isAgg76 Zu (us:=[jV ay.Lo,jV ay.Hi]) Z Z) (zz (cs:=B0) Z Z Z Z Z Zz Z bT ?_))
 intro dZ br c7
 refine oA Z Z ?_
 let B4:List Value:=[jV ay.Lo,jV ay.Hi]
 refine zu (j:=0) (vs:=B4) Z Z Z Z c7 Z Z Z Z Zu (zC Z) Z Z Z ?_
 intro co c9
 have ah:sW w U aj [.blk br 76 B4,.blk ak 76 [jV aw,jV ai],.blk ag 76 B1,B2] co:=c9
 refine eN (zG (sR wMj Z (oM Z Z (oM Z am (oR Z (ZW Z Z Z) (oM Z Z (ifc dE ?_ ?_)))))))
 intro aa dF
 refine zd Z Z Z (zN Z Z (zw (fun h=>h aa.out)) Z) (zd Z Z Z (zN Z Z (zw (fun h=>h aa.out)) Z) (zd Z Z Z (zN Z Z (zw (fun h=>h aa.out)) Z) (zd Z Z Z (zN Z Z (zw (fun h=>h aa.out)) Z) (zd Z Z Z (zN Z Z (zw (fun h=>h aa.out)) Z) (oR Z (zZ Z (zw (fun h=>h aa.out)) Z) (eN (zm Z (kN (sR wMj Z (oM Z Z (oM Z am (oR Z (ZW Z Z Z) (oM Z Z (zd Z Z Z (zN Z Z (zw (fun h=>h aa.out)) Z) (zd Z Z Z (zN Z Z (zw (fun h=>h aa.out)) Z) (zd Z Z Z (zN Z Z (zw (fun h=>h aa.out)) Z) (zd Z Z Z (zN Z Z (zw (fun h=>h aa.out)) Z) (zd Z Z Z (zN Z Z (zw (fun h=>h aa.out)) Z) (oR Z (zZ Z (zw (fun h=>h aa.out)) Z) (eN (zm Z (ZV (zb (zI (rR fL2 Z (oR Z (zn (zX Z aq Z) (congrArg (jV) bm.out)) (oM Z Z (zg ?_))))))))))))))))))))))))))))
 cases dF
 exact zI ⟨rfl,⟨aj,rfl,bf,bg,am,ap,ae,bh,bi,bj,aW,aX,aZ,(ah.pick [1,2,3] _ (by decide) rfl)⟩⟩
 intro aa dG
 refine rU Z (wT Z aa) (zJ Z Z Zl Z zD) (ZO Z Z Z (wT Z aa) (ah.ldB (j:=0) Z Z Z zP (v:=jV ay.Hi) Z) Z (rU Z (wT Z aa) (zJ Z ap Zl Z zD) (ZO Z Z Z (wT Z aa) (ah.ldB (j:=2) Z Z Z zP (v:=jV az.Lo) Z) Z (rU Z (wT Z aa) (zU Z Z Z) (oR Z (zV Z (Zj aa.out) Z) (eN (ifc dG ?_ ?_)))))))
 intro bx dH
 refine cT Z bx (rR (wGc (.fx 4 .nil .stop)) Z (oR Z (zJ Z ae Zl Z zD) (oL Z (ah.ldB (j:=1) Z Z Z zP (v:=jV aw) Z) (oR Z (zX Z Z Z) (oR Z (zJ Z ae Zl Z zD) (zu (j:=1) (vs:=[jV (w64 (aw + 1))]) Z Z Z Z ah Z Z Z Z zD (zC Z) Z Z Z ?_))))))
 intro cp da
 have bl:sW w U aj [.blk br 76 B4,.blk ak 76 [jV (w64 (aw + 1)),jV ai],.blk ag 76 B1,B2] cp:=da
 refine eN (sR wMj Z (oM Z Z (oM Z am (oR Z (ZW Z Z Z) (oM Z Z (rU Z (wT Z aa) (zJ Z Z Zl Z zD) (ZO Z Z Z (wT Z aa) (bl.ldB (j:=0) Z Z Z zP (v:=jV ay.Lo) Z) Z (rU Z (wT Z aa) (zJ Z ap Zl Z zD) (ZO Z Z Z (wT Z aa) (bl.ldB (j:=2) Z Z Z zP (v:=jV az.Hi) Z) Z (rU Z (wT Z aa) (zU Z Z Z) (oR Z (zV Z (Zj aa.out) Z) (eN (ifc dH ?_ ?_)))))))))))))
 intro bz dI
 refine cT Z bz (rR (wGc (.fx 4 .nil .stop)) Z (oR Z (zJ Z ae Zl Z zD) (oL Z (bl.ldB (j:=1) Z Z Z zP (v:=jV ai) Z) (oR Z (zX Z Z Z) (oR Z (zJ Z ae Zl Z zD) (zu (j:=1) (vs:=[jV (w64 (ai + 1))]) Z Z Z Z bl Z Z Z Z zD (zC Z) Z Z Z ?_))))))
 intro cq dd
 have de:sW w U aj [.blk br 76 B4,.blk ak 76 [jV (w64 (aw + 1)),jV (w64 (ai + 1))],.blk ag 76 B1,B2] cq:=dd
 refine zg (zb (zI (rR fL2 Z (oR Z (zn (zX Z aq Z) (congrArg (jV) bm.out)) (oM Z Z (zg ?_))))))
 cases dI
 exact zI ⟨rfl,⟨aj,rfl,bf,bg,am,ap,ae,bh,bi,bj,aW,aX,aZ,(de.pick [1,2,3] _ (by decide) rfl)⟩⟩
 intro bz dJ
 refine cF Z bz (ZV (zb (zI (rR fL2 Z (oR Z (zn (zX Z aq Z) (congrArg (jV) bm.out)) (oM Z Z (zg ?_)))))))
 cases dJ
 exact zI ⟨rfl,⟨aj,rfl,bf,bg,am,ap,ae,bh,bi,bj,aW,aX,aZ,(bl.pick [1,2,3] _ (by decide) rfl)⟩⟩
 intro bx dK
 refine cF Z bx (kN (sR wMj Z (oM Z Z (oM Z am (oR Z (ZW Z Z Z) (oM Z Z (rU Z (wT Z aa) (zJ Z Z Zl Z zD) (ZO Z Z Z (wT Z aa) (ah.ldB (j:=0) Z Z Z zP (v:=jV ay.Lo) Z) Z (rU Z (wT Z aa) (zJ Z ap Zl Z zD) (ZO Z Z Z (wT Z aa) (ah.ldB (j:=2) Z Z Z zP (v:=jV az.Hi) Z) Z (rU Z (wT Z aa) (zU Z Z Z) (oR Z (zV Z (Zj aa.out) Z) (eN (ifc dK ?_ ?_))))))))))))))
 intro bA dL
 refine cT Z bA (rR (wGc (.fx 4 .nil .stop)) Z (oR Z (zJ Z ae Zl Z zD) (oL Z (ah.ldB (j:=1) Z Z Z zP (v:=jV ai) Z) (oR Z (zX Z Z Z) (oR Z (zJ Z ae Zl Z zD) (zu (j:=1) (vs:=[jV (w64 (ai + 1))]) Z Z Z Z ah Z Z Z Z zD (zC Z) Z Z Z ?_))))))
 intro cr df
 have dg:sW w U aj [.blk br 76 B4,.blk ak 76 [jV aw,jV (w64 (ai + 1))],.blk ag 76 B1,B2] cr:=df
 refine zg (zb (zI (rR fL2 Z (oR Z (zn (zX Z aq Z) (congrArg (jV) bm.out)) (oM Z Z (zg ?_))))))
 cases dL
 exact zI ⟨rfl,⟨aj,rfl,bf,bg,am,ap,ae,bh,bi,bj,aW,aX,aZ,(dg.pick [1,2,3] _ (by decide) rfl)⟩⟩
 intro bA dM
 refine cF Z bA (ZV (zb (zI (rR fL2 Z (oR Z (zn (zX Z aq Z) (congrArg (jV) bm.out)) (oM Z Z (zg ?_)))))))
 cases dM
 exact zI ⟨rfl,⟨aj,rfl,bf,bg,am,ap,ae,bh,bi,bj,aW,aX,aZ,(ah.pick [1,2,3] _ (by decide) rfl)⟩⟩
 rintro eR d7 ⟨bw,cP,cE,cG,ep,ew,cH,cI,cJ,cK,ey,cL,dV,bV⟩
 have cA:Hid (¬ ((↑(((↑p0.length:Int):Int) - 0).toNat:Int) < (↑p0.length:Int))):=zF (wAa)
 refine sR fL1 Z (oR Z (zU Z cP cL) (eN (zG (cF Z cA (ZI (zY (zY (ZD (zI (rR (.fl 0 (.fl 1 (.fx 2 (.fx 3 (.fl 4 .nil) .stop) .stop))) Z (oM Z cG ?_)))))))))))
 let B5:List Value:=[jV bt,jV bu]
 refine oL Z (bV.ldBA (j:=0) Z Z cH Tryz.isAgg76 Zu (vs:=B5) Z Z) (zW (pv:=[(0,.agg B5.toArray)]) (zs:=B0) (cs:=B5) Z Z Z Z Z (wAC Z wAM) Zf Zu Zz Z Z Z Z Z bV ?_)
 intro ct cz dh
 let B6:Res:=.row (some ⟨cz,0,none⟩) 1 76 2 (hM wAb [(⟨bt,bu⟩:wAO)])
 have bW:sW w U bw [B6,.blk ak 76 B5,.blk ag 76 B1,B2] ct:=dh
 refine bnK ca fun cg cS dO=>Zs (j:=3) (enc:=wAb) (xs:=aY) (ys:=[(⟨bt,bu⟩:wAO)]) (zs:=cg) rfl rfl rfl rfl rfl Tryz.underlying80 wOs rfl rfl rfl rfl rfl rfl bW rfl rfl rfl (bW.srcR (j:=0) rfl (by decide) (wAF (f:=wAb) (sz:=2) (fun _=>rfl) [(⟨bt,bu⟩:wAO)])) (fun _=>rfl) (fun _=>rfl) cS rfl ?_
 intro bH bL cu di
 have dm:sW w U bw [B6,.blk ak 76 B5,.blk ag 76 B1,.row bH bL 76 2 (hM wAb cg)] cu:=di
 refine oA Z Z (zg (zb (zI (rR fL2 Z (oR Z (zn (zX Z cK Z) (congrArg (jV) dD.out)) (oM Z Z (zg ?_)))))))
 cases dO
 exact zI ⟨rfl,⟨bw,bH,bL,rfl,cE,rfl,cI,cJ,(cd.trans dV),(dm.pick [3] _ (by decide) rfl)⟩⟩
 rintro eS d8 ⟨cj,ch,cC,cQ,eB,cM,eC,cN,eD,dn⟩
 have cD:Hid (¬ ((↑(((↑p0.length:Int):Int) - 0).toNat:Int) < (↑p0.length:Int))):=zF (wAa)
 refine sR fL1 Z (oR Z (zU Z cQ cN) (eN (zG (cF Z cD (ZI (zY (zY (ZD (zI (sR fL3 Z (oM Z cM (oA Z Z (oA Z Z (eN (zO ?_)))))))))))))))
 cases dQ
 exact ⟨Z,_,(wFc Z Z),cj,_,dn,ch,cC,Z,Z⟩
 intro bB dP
 refine ZF (nF (bB.out)) (sR fL2 Z (oA Z Z (oA Z Z (eN (zO (zf (zR ?_)))))))
 have dp:=bU.nilrow 76 2
 cases dP
 exact ⟨Z,_,(wFc Z Z),bp,_,dp,none,0,Z,Z⟩
theorem wEm (p0:List wAO) (ap:Option Addr) (au:Nat) (p1:List wAO) (aq:Option Addr) (av:Nat) (w:World) (U:PHeap) (hS:St0 w U []) (bu:Sl U 2 ap au p0.length (hM wAb p0)) (bv:Sl U 2 aq av p1.length (hM wAb p1)) {r:Bool} (hm:wCf p0 p1=some r):Gv Tryz.prog 48 [.slice ap p0.length au,.slice aq p1.length av] w (wBU w [] U (fun U_ L_ v=>v=.bool r/\L_=[])):=by
 unfold wCf at hm
 refine Gv.of Tryz.func48 Z Tryz.ntmps48 Tryz.results48 Z (sR fL1 Z (oA Z Z (eN (zG (sR fL5 Z (oM Z Z (oR Z (za Z Z Zf) (oM Z Z (oR Z (za Z Z Zf) (oR Z (ZW Z Z Z) (eN ?_)))))))))))
 by_cases c1:(↑p0.length:Int)=(↑p1.length:Int)
 have ah:=hm;rw [if_pos c1] at ah;replace c1:=zF c1
 refine zm (zw (fun h=>h c1.out)) (kN (zG (sR fL3 Z (oM Z Z (oR Z (za Z Z Zf) (oM Z Z (eN (zT ?_))))))))
 have q:=wBe ah
 obtain ⟨r5,ak⟩:=q
 have q:=wBd ak
 obtain ⟨an,bz⟩:=q
 replace an:=zF an
 refine yA (fun k4 _ σ_ w_=>∃ (U_:PHeap),σ_ 13=jV (↑k4:Int)/\σ_ 0=.slice ap p0.length au/\σ_ 1=.slice aq p1.length av/\σ_ 12=jV (↑p0.length:Int)/\PHeap.Le U U_/\sW w U U_ [] w_) bz ?_ ?_ ?_
 exact ⟨U,Z,Z,Z,Z,(zH _),hS⟩
 rintro k4 ⟨⟩ bR bT az am ⟨ay,aj,aX,aY,aZ,ao,bs⟩ be bw
 try dsimp only at be
 have aW:Hid ((↑k4:Int) < (↑p0.length:Int)):=zF (wAo am)
 replace am:=zF am
 have bA:Hid (w64 ((↑k4:Int) + 1)=(↑(k4 + 1):Int)):=zF (by have h1:=an.out;have h2:=aW.out;rw [wAT] <;> omega)
 refine sR fL1 rfl (zh rfl rfl rfl rfl (fun _=>zU rfl aj aZ) (eN (zG (cT Z aW (kN (zG (zT (sR fL2 rfl (zj rfl rfl rfl rfl rfl aj (yg rfl rfl rfl rfl rfl rfl (eN (zG (ZY ZP [3,3,3,1,3,3,3,1,3] fL9 (by kernel_rfl) ?_)))))))))))))
 have af:=bs.drew
 generalize hw_W25:({ az with drawn:=az.drawn + 1 }:World)=bH at af ⊢
 refine oM Z aX (oM Z Z (bnK be fun aw a7 bB=>?_))
 have bl:=bu.le ao
 have q:=bl.el (fun _=>rfl) (wAR a7)
 obtain ⟨bJ,bO,bn,bq⟩:=q
 refine oR Z (zo Z Z bn Z Zf Zu (wAj a7)) (oL Z (af.ldCA (f:=0) bq Z Z Tryz.isAgg76 Zu (us:=[jV aw.Lo,jV aw.Hi]) Z Z) (oM Z aY (oM Z Z (bnK bB fun ax a8 bC=>?_))))
 have bm:=bv.le ao
 have q:=bm.el (fun _=>rfl) (wAR a8)
 obtain ⟨bK,bP,bp,br⟩:=q
 refine oR Z (zo Z Z bp Z Zf Zu (wAj a8)) (oL Z (af.ldCA (f:=0) br Z Z Tryz.isAgg76 Zu (us:=[jV ax.Lo,jV ax.Hi]) Z Z) (oR Z (zn (Runs.neS (enc:=wAb) (a:=aw) (b:=ax) Z Z Z eqT76 eqG76) (congrArg nE (decide_not).symm)) (eN (ifc bC ?_ ?_))))
 intro ai bD
 refine zm (zw (fun h=>h ai.out)) (ZV (zb (zI (rR fL2 Z (oR Z (zn (zX Z aj Z) (congrArg (jV) bA.out)) (oM Z Z (zg ?_)))))))
 have q:=nB bD
 obtain rfl:=q
 exact zI ⟨Z,_,Z,⟨ay,Z,aX,aY,aZ,ao,af⟩⟩
 intro ai bE
 refine cT Z ai (sR fL1 Z (oA Z Z (eN (zO (zf (zR ?_))))))
 have q:=wAf bE
 obtain ⟨bG,bF,bh⟩:=q
 have q:=wCI ah ak (bw bG bh)
 obtain rfl:=q
 refine zR (zf (zR ?_))
 have hE:=nB bF;first | subst r | cases hE
 exact ⟨Z,_,(zr Z),ay,_,af,Z,Z⟩
 rintro ⟨⟩ bS bI ⟨bf,bj,bL,bM,bi,bN,bt⟩ bx
 have ba:=wCm ah ak bx
 try dsimp only at ba
 have bg:Hid (¬ ((↑(((↑p0.length:Int):Int) - 0).toNat:Int) < (↑p0.length:Int))):=zF (wAa)
 refine sR fL1 Z (oR Z (zU Z bj bi) (eN (zG (cF Z bg (ZI (zY (zY (ZD (zI (sR fL1 Z (oA Z Z (eN (zO ?_)))))))))))))
 have hE:=nB ba;first | subst r | cases hE
 exact ⟨Z,_,(zr Z),bf,_,bt,Z,Z⟩
 have bb:=hm;rw [if_neg c1] at bb;replace c1:=zF c1
 refine cT Z c1 (sR fL1 Z (oA Z Z (eN (zO (zR ?_)))))
 have hE:=nB bb;first | subst r | cases hE
 exact ⟨Z,_,(zr Z),U,_,hS,Z,Z⟩
theorem wGM  (w:World) (U:PHeap) (hS:St0 w U [])  {r:Bool} (hm:wBp =some r):Gv Tryz.prog 12 [] w (wBU w [] U (fun U_ L_ v=>v=.bool r/\L_=[])):=by
 unfold wBp at hm
 refine Gv.of Tryz.func12 Z Tryz.ntmps12 Tryz.results12 Z (sR fL1 Z (oA Z Z (eN (sR (.fx 0 (.fl 1 (.fl 2 (.fx 3 (wPL gCv) .stop))) .stop) Z (bnK hm fun x1 h2 uW=>zL 0 Z Z Z Z (zK Z Z Tryz.call36 zM Z) hS (fun hs=>wDi w U hs h2) (.inr Z) ?_)))))
 rintro U4 L5 v6 W7 xV tW ⟨jc,ly,lz,rfl,rfl,mp⟩
 have qO:sW w U U4 [.row jc ly 47 1 lz] W7:=tW
 have q:=qO.freezeRR (R:=wFi) (k:=0) rfl mp rfl (by decide)
 obtain ⟨dv,xO,vE,qW⟩:=q
 have iq:sW w U dv [] W7:=qW
 refine bnK uW fun eP il uO=>?_
 have q:=vE.el (wAR il)
 obtain ⟨lv,wR,Ay,qf,dX,vq⟩:=q
 obtain ⟨eI,eK,rfl,mT⟩:=vq
 replace dX:Cl dv lv (wR + 0 * 1) [.slice eI eP.length eK]:=dX
 refine oR Z (zo Z Z qf Z ZZ Zt (wAj il)) (oL Z (iq.ldC (f:=0) dX (v:=.slice eI eP.length eK) Z Z yc Z) ?_)
 have q:=bnd uO
 obtain ⟨⟨bw,i9⟩,mW,iG⟩:=q
 try dsimp only at iG
 refine zL 0 Z Z Z Z (zK Z Z Tryz.call11 (zB Z zM) Z) iq (fun hs=>wEL eP eI eK W7 dv hs mT mW) (.inr Z) ?_
 rintro dy xg Ae j8 xQ rQ ⟨rfl,rfl⟩
 have rV:sW w U dy [] j8:=rQ
 refine oM Z Z (oR Z (zx Z Z (v:=.agg #[jV bw.Spares,jV bw.Loops,jV bw.Unused]) Z) (oR Z (zx Z Z (v:=jV i9) Z) ?_))
 let B0:List Value:=[jV 0,jV 0,jV 0]
 refine zz (cs:=B0) Z Z Z Z Z Zw Z rV ?_
 intro xC ac r8
 let B1:List Value:=[jV bw.Spares,jV bw.Loops,jV bw.Unused]
 refine zu (j:=0) (vs:=B1) Z Z Z Z r8 Z Z Z Z Zm (zC Z) Z Z Z ?_
 intro gq sf
 have sg:sW w U dy [.blk ac 49 B1] gq:=sf
 refine oA Z Z (eN (sR (.fx 0 (.fl 1 (.fl 2 (.fx 3 (wPL gCv) .stop))) .stop) Z (bnK iG fun AG od vl=>zL 0 Z Z Z Z (zK Z Z Tryz.call36 zM Z) sg (fun hs=>wDi gq dy hs od) (.inr Z) ?_)))
 rintro jx xl Ai dH xT sn ⟨je,lG,lH,rfl,rfl,oD⟩
 have sM:sW w U jx [.row je lG 47 1 lH,.blk ac 49 B1] dH:=sn
 have q:=sM.freezeRR (R:=wFi) (k:=0) rfl oD rfl (by decide)
 obtain ⟨dA,xU,wa,sY⟩:=q
 have iy:sW w U dA [.blk ac 49 B1] dH:=sY
 refine bnK vl fun eT ip vn=>?_
 have q:=wa.el (wAR ip)
 obtain ⟨lx,wS,Az,qg,dY,vt⟩:=q
 obtain ⟨eJ,eM,rfl,pD⟩:=vt
 replace dY:Cl dA lx (wS + 3 * 1) [.slice eJ eT.length eM]:=dY
 refine oR Z (zo Z Z qg Z ZZ Zt (wAj ip)) (oL Z (iy.ldC (f:=0) dY (v:=.slice eJ eT.length eM) Z Z yc Z) ?_)
 have q:=bnd vn
 obtain ⟨⟨bz,wX⟩,pF,iK⟩:=q
 try dsimp only at iK
 refine zL 0 Z Z Z Z (zK Z Z Tryz.call11 (zB Z zM) Z) iy (fun hs=>wEL eT eJ eM dH dA hs pD pF) (.inr Z) ?_
 rintro dB xv As ln xW t6 ⟨rfl,rfl⟩
 have uc:sW w U dB [.blk ac 49 B1] ln:=t6
 refine oM Z Z (oR Z (zx Z Z (v:=.agg #[jV bz.Spares,jV bz.Loops,jV bz.Unused]) Z) (oR Z (zx Z Z (v:=jV wX) Z) (zz (cs:=B0) Z Z Z Z Z Zw Z uc ?_)))
 intro xD af ui
 let B2:List Value:=[jV bz.Spares,jV bz.Loops,jV bz.Unused]
 refine zu (j:=0) (vs:=B2) Z Z Z Z ui Z Z Z Z Zm (zC Z) Z Z Z ?_
 intro gy um
 have qh:sW w U dB [.blk af 49 B2,.blk ac 49 B1] gy:=um
 refine oA Z Z (eN (sR (.fx 0 (.fx 1 (wFz (.nil)) .stop) .stop) Z (bnK iK fun cV md ut=>zL 0 Z Z Z Z (zK Z Z Tryz.call38 zM Z) qh (fun hs=>wDU gy dB hs md) (.inr Z) ?_)))
 rintro jf w5 xZ cC xJ qy ⟨eU,gP,c6,dL,gQ,rfl,rfl,ml⟩
 have qH:sW w U jf [.row eU gP 3 1 (hM KL.encI cV.Rules.Classes),.row c6 dL 43 3 gQ,.blk af 49 B2,.blk ac 49 B1] cC:=qy
 have q:=qH.freezeR (k:=0) (n:=cV.Rules.Classes.length) rfl (wAF (f:=KL.encI) (sz:=1) (fun _=>rfl) cV.Rules.Classes) (by decide)
 obtain ⟨ji,wy,vA,qI⟩:=q
 have qJ:sW w U ji [.row c6 dL 43 3 gQ,.blk af 49 B2,.blk ac 49 B1] cC:=qI
 have mm:=ml.le wy
 have q:=qJ.freezeRR (R:=wFF) (k:=0) rfl mm rfl (by decide)
 obtain ⟨fE,wz,vB,qK⟩:=q
 have qL:sW w U fE [.blk af 49 B2,.blk ac 49 B1] cC:=qK
 have mn:=vA.le wz
 have q:=bnd ut
 obtain ⟨⟨i8,wU⟩,mo,iC⟩:=q
 try dsimp only at iC
 refine zL 0 Z Z Z Z (zK Z Z Tryz.call37 (zB Z zM) Z) qL (fun hs=>wIo cV eU gP c6 dL cC fE hs mn vB mo) (.inr Z) ?_
 rintro fG w8 yz gi xN qM ⟨c7,dM,lA,rfl,rfl,mq⟩
 let B3:Res:=.row c7 dM 23 1 lA
 have qN:sW w U fG [B3,.blk af 49 B2,.blk ac 49 B1] gi:=qM
 refine oM Z Z (oR Z (zx Z Z (v:=.slice c7 i8.length dM) Z) (oR Z (zx Z Z (v:=jV wU) Z) (oA Z Z (oA Z Z (eN (sR (.fx 0 (.fx 1 (wFz (.nil)) .stop) .stop) Z (bnK iC fun cW mr uM=>zL 0 Z Z Z Z (zK Z Z Tryz.call38 zM Z) qN (fun hs=>wDU gi fG hs mr) (.inr Z) ?_)))))))
 rintro jj w9 z6 cE wA qP ⟨eV,gS,c9,dN,gT,rfl,rfl,ms⟩
 have qQ:sW w U jj [.row eV gS 3 1 (hM KL.encI cW.Rules.Classes),.row c9 dN 43 3 gT,B3,.blk af 49 B2,.blk ac 49 B1] cE:=qP
 have q:=qQ.freezeR (k:=0) (n:=cW.Rules.Classes.length) rfl (wAF (f:=KL.encI) (sz:=1) (fun _=>rfl) cW.Rules.Classes) (by decide)
 obtain ⟨jk,iN,vC,qR⟩:=q
 have qS:sW w U jk [.row c9 dN 43 3 gT,B3,.blk af 49 B2,.blk ac 49 B1] cE:=qR
 have mu:=ms.le iN
 have q:=qS.freezeRR (R:=wFF) (k:=0) rfl mu rfl (by decide)
 obtain ⟨fH,iO,vD,qT⟩:=q
 have qU:sW w U fH [B3,.blk af 49 B2,.blk ac 49 B1] cE:=qT
 have mw:=vC.le iO
 have q:=bnd uM
 obtain ⟨⟨cp,wV⟩,mx,iD⟩:=q
 try dsimp only at iD
 refine zL 0 Z Z Z Z (zK Z Z Tryz.call14 (zB Z zM) Z) qU (fun hs=>wEl cW eV gS c9 dN cE fH hs mw vD mx) (.inr Z) ?_
 rintro fI xa z7 gj wC qV ⟨da,dO,rfl,rfl⟩
 let B4:Res:=.row da dO 70 3 (hM wAG cp)
 have qX:sW w U fI [B4,B3,.blk af 49 B2,.blk ac 49 B1] gj:=qV
 refine oM Z Z (oR Z (zx Z Z (v:=.slice da cp.length dO) Z) (oR Z (zx Z Z (v:=jV wV) Z) (oA Z Z (oA Z Z (eN (sR (.fx 0 (.fx 1 (wFz (.nil)) .stop) .stop) Z (bnK iD fun cX my uN=>zL 0 Z Z Z Z (zK Z Z Tryz.call38 zM Z) qX (fun hs=>wDU gj fI hs my) (.inr Z) ?_)))))))
 rintro jl xb z8 cG wD qY ⟨eW,gU,db,dP,gV,rfl,rfl,mA⟩
 have qZ:sW w U jl [.row eW gU 3 1 (hM KL.encI cX.Rules.Classes),.row db dP 43 3 gV,B4,B3,.blk af 49 B2,.blk ac 49 B1] cG:=qY
 have q:=qZ.freezeR (k:=0) (n:=cX.Rules.Classes.length) rfl (wAF (f:=KL.encI) (sz:=1) (fun _=>rfl) cX.Rules.Classes) (by decide)
 obtain ⟨jm,iP,vF,q0⟩:=q
 have q8:sW w U jm [.row db dP 43 3 gV,B4,B3,.blk af 49 B2,.blk ac 49 B1] cG:=q0
 have mB:=mA.le iP
 have q:=q8.freezeRR (R:=wFF) (k:=0) rfl mB rfl (by decide)
 obtain ⟨fJ,iQ,vG,q9⟩:=q
 have rc:sW w U fJ [B4,B3,.blk af 49 B2,.blk ac 49 B1] cG:=q9
 have mC:=vF.le iQ
 have q:=bnd uN
 obtain ⟨⟨eQ,wW⟩,mD,iE⟩:=q
 try dsimp only at iE
 refine zL 0 Z Z Z Z (zK Z Z Tryz.call39 (zB Z zM) Z) rc (fun hs=>wIR cX eW gU db dP cG fJ hs mC vG mD) (.inr Z) ?_
 rintro jo xc Aa gm wE rd ⟨dd,dQ,im,rfl,rfl⟩
 have re:sW w U jo [.row dd dQ 23 1 (hM wEX im),inn 3 1 KL.encI im eQ,B4,B3,.blk af 49 B2,.blk ac 49 B1] gm:=rd
 have q:=St.freezeN (R:=wDT) re (fun _ _ _ _ h=>⟨_,_,rfl,h⟩) (fun _=>rfl) (by decide) rfl
 obtain ⟨ay,wG,vH,rf⟩:=q
 have aZ:sW w U ay [B4,B3,.blk af 49 B2,.blk ac 49 B1] gm:=rf
 refine oM Z Z (oR Z (zx Z Z (v:=.slice dd eQ.length dQ) Z) (oR Z (zx Z Z (v:=jV wW) Z) (oA Z Z (oA Z Z (eN (zG (bnK iE fun lw iL uP=>CK.cut (fun σ_ w_=>∃ (U_:PHeap),σ_ 95=.bool lw/\PHeap.Le ay U_/\sW w U U_ [.blk af 49 B2,.blk ac 49 B1] w_) ?_ ?_)))))))
 refine rR (wPI (.fx 30 (.fx 31 (.fx 32 (.fx 33 (wOT (.fx 40 (.fx 41 (wOU (.fx 46 (.fx 47 (.fl 48 (.fl 49 .nil)) .stop) .stop)) .stop) .stop)) .stop) .stop) .stop) .stop)) Z (oM Z Z (oR Z (ZW Z Z Z) (oM Z Z ?_)))
 by_cases aw:i9=0
 have iF:=iL;rw [if_pos aw] at iF;replace aw:=zF aw
 refine zj Z Z Z (zQ Z Z (zw (fun h=>h aw.out))) Z Z (zh Z Z Z (zQ Z Z (zw (fun h=>h aw.out))) (fun _=>ZW Z Z Z) (oR Z (zZ Z (zw (fun h=>h aw.out)) Z) (oM Z Z (ifc iF ?_ ?_))))
 intro br uQ
 refine zj Z Z Z (zQ Z Z (zw (fun h=>h br.out))) Z Z (zh Z Z Z (zQ Z Z (zw (fun h=>h br.out))) (fun _=>ZW Z Z Z) (oR Z (zZ Z (zw (fun h=>h br.out)) Z) (oM Z Z (ifc uQ ?_ ?_))))
 intro bs uR
 refine zj Z Z Z (zQ Z Z (zw (fun h=>h bs.out))) Z Z (zh Z Z Z (zQ Z Z (zw (fun h=>h bs.out))) (fun _=>ZW Z Z Z) (oR Z (zZ Z (zw (fun h=>h bs.out)) Z) (oM Z Z (ifc uR ?_ ?_))))
 intro bt uS
 refine zj Z Z Z (zQ Z Z (zw (fun h=>h bt.out))) Z Z (zh Z Z Z (zQ Z Z (zw (fun h=>h bt.out))) (fun _=>ZW Z Z Z) (oR Z (zZ Z (zw (fun h=>h bt.out)) Z) (oM Z Z (ifc uS ?_ ?_))))
 intro bb uT
 refine ZO Z Z Z (zQ Z Z (zw (fun h=>h bb.out))) (aZ.ldBA (j:=3) Z Z Z yb Zm (vs:=B1) Z Z) Z (zh Z Z Z (zQ Z Z (zw (fun h=>h bb.out))) (fun _=>ZH (pv:=[(0,jV 1)]) (z:=B0) (cs:=[jV 1,jV 0,jV 0]) Z (wAC Z wAM) Zw wGC Z Z) (zh Z Z Z (zQ Z Z (zw (fun h=>h bb.out))) (fun _=>zn (Runs.neS (enc:=wBZ) (a:=bw) (b:=(⟨1,0,0⟩:wAW)) Z Z Z wNp wNo) (congrArg nE (decide_not).symm)) (oR Z (zZ Z (zw (fun h=>h bb.out)) Z) (oM Z Z (ifc uT ?_ ?_)))))
 intro be uU
 refine ZO Z Z Z (zQ Z Z (zw (fun h=>h be.out))) (aZ.ldBA (j:=2) Z Z Z yb Zm (vs:=B2) Z Z) Z (zh Z Z Z (zQ Z Z (zw (fun h=>h be.out))) (fun _=>ZH (pv:=[(1,jV 1),(2,jV 3)]) (z:=B0) (cs:=[jV 0,jV 1,jV 3]) Z (wAC Z (wAC Z wAM)) Zw wGC Z Z) (zh Z Z Z (zQ Z Z (zw (fun h=>h be.out))) (fun _=>zn (Runs.neS (enc:=wBZ) (a:=bz) (b:=(⟨0,1,3⟩:wAW)) Z Z Z wNp wNo) (congrArg nE (decide_not).symm)) (oR Z (zZ Z (zw (fun h=>h be.out)) Z) (oM Z Z (ifc uU ?_ ?_)))))
 intro au uV
 refine zj Z Z Z (zQ Z Z (zw (fun h=>h au.out))) Z Z (zW (pv:=[(0,jV 2200),(1,jV 4600)]) (zs:=[jV 0,jV 0]) (cs:=[jV 2200,jV 4600]) Z Z Z (zQ Z Z (zw (fun h=>h au.out))) Z (wAC Z (wAC Z wAM)) zA zD zt Z Z Z Z Z aZ ?_)
 intro j4 bU rg
 let B5:Res:=.row (some ⟨bU,0,none⟩) 2 3 1 (hM KL.encI [2200,4600])
 have rh:sW w U ay [B5,B4,B3,.blk af 49 B2,.blk ac 49 B1] j4:=rg
 refine zW (pv:=[(0,jV 2150),(1,jV 4800)]) (zs:=[jV 0,jV 0]) (cs:=[jV 2150,jV 4800]) Z Z Z (zQ Z Z (zw (fun h=>h au.out))) Z (wAC Z (wAC Z wAM)) zA zD zt Z Z Z Z Z rh ?_
 intro dD bV ri
 let B6:Res:=.row (some ⟨bV,0,none⟩) 2 3 1 (hM KL.encI [2150,4800])
 have rj:sW w U ay [B6,B5,B4,B3,.blk af 49 B2,.blk ac 49 B1] dD:=ri
 have q:=rj.freezeR (k:=1) (n:=[2200,4600].length) rfl (wAF (f:=KL.encI) (sz:=1) (fun _=>rfl) [2200,4600]) (by decide)
 obtain ⟨jp,ca,vI,rl⟩:=q
 have rn:sW w U jp [B6,B4,B3,.blk af 49 B2,.blk ac 49 B1] dD:=rl
 have q:=rn.freezeR (k:=0) (n:=[2150,4800].length) rfl (wAF (f:=KL.encI) (sz:=1) (fun _=>rfl) [2150,4800]) (by decide)
 obtain ⟨dw,bK,vJ,ro⟩:=q
 have rp:sW w U dw [B4,B3,.blk af 49 B2,.blk ac 49 B1] dD:=ro
 let B7:List Value:=[.slice (some ⟨bU,0,none⟩) 2 2,.slice (some ⟨bV,0,none⟩) 2 2]
 refine zW (pv:=[(0,.slice (some ⟨bU,0,none⟩) 2 2),(1,.slice (some ⟨bV,0,none⟩) 2 2)]) (zs:=[.slice none 0 0,.slice none 0 0]) (cs:=B7) Z Z Z (zQ Z Z (zw (fun h=>h au.out))) Z (wAC Z (wAC Z wAM)) zq zS yh Z Z Z Z Z rp ?_
 intro cH gC rk
 have mE:=vI.le bK
 have vp:RlL dw wDT [[2200,4600],[2150,4800]] B7:=(RlL.cons (R:=wDT) (x:=[2200,4600]) (vs:=[.slice (some ⟨bU,0,none⟩) 2 2]) ⟨(some ⟨bU,0,none⟩),2,rfl,mE⟩ (RlL.cons (R:=wDT) (x:=[2150,4800]) (vs:=[.slice (some ⟨bV,0,none⟩) 2 2]) ⟨(some ⟨bV,0,none⟩),2,rfl,vJ⟩ RlL.nil))
 let B8:Res:=.row (some ⟨gC,0,none⟩) 2 23 1 B7
 have rq:sW w U dw [B8,B4,B3,.blk af 49 B2,.blk ac 49 B1] cH:=rk
 have mF:=mq.le wA
 have mG:=mF.le iN
 have mH:=mG.le iO
 have mI:=mH.le wC
 have mJ:=mI.le wD
 have mK:=mJ.le iP
 have mL:=mK.le iQ
 have mM:=mL.le wE
 have mN:=mM.le wG
 have mO:=mN.le ca
 have mP:=mO.le bK
 have q:=rq.freezeRR (R:=wDT) (k:=2) rfl mP rfl (by decide)
 obtain ⟨jq,cc,vK,rt⟩:=q
 have ru:sW w U jq [B8,B4,.blk af 49 B2,.blk ac 49 B1] cH:=rt
 have mQ:=vp.le cc
 have q:=ru.freezeRR (R:=wDT) (k:=0) rfl mQ rfl (by decide)
 obtain ⟨fK,cd,vL,rv⟩:=q
 have rx:sW w U fK [B4,.blk af 49 B2,.blk ac 49 B1] cH:=rv
 have mR:=vK.le cd
 refine bnK uV fun AD mS uX=>zL 0 Z Z Z (zQ Z Z (zw (fun h=>h au.out))) (zK Z Z Tryz.call40 (zB Z (zB Z zM)) Z) rx (fun hs=>wDk i8 c7 dM [[2200,4600],[2150,4800]] (some ⟨gC,0,none⟩) 2 cH fK hs mR vL mS) (.inr Z) ?_
 rintro dx xd Ab j5 cL ry ⟨rfl,rfl⟩
 have ir:sW w U dx [B4,.blk af 49 B2,.blk ac 49 B1] j5:=ry
 refine zh Z Z Z (zQ Z Z (zw (fun h=>h au.out))) (fun _=>ZN Z Z) (oR Z (zZ Z (zw (fun h=>h au.out)) Z) (oM Z Z (ifc uX ?_ ?_)))
 intro av uY
 refine zj Z Z Z (zQ Z Z (nC av.out)) Z Z ?_
 let B9:List Value:=[jV 7,jV 1,jV 4600]
 refine zh Z Z Z (zQ Z Z (nC av.out)) (fun _=>ZH (pv:=[(0,jV 7),(1,jV 1),(2,jV 4600)]) (z:=B0) (cs:=B9) Z (wAC Z (wAC Z (wAC Z wAM))) yI wGo Z Z) ?_
 let ff:List Value:=[jV 3,jV 2,jV 8400]
 refine zh Z Z Z (zQ Z Z (nC av.out)) (fun _=>ZH (pv:=[(0,jV 3),(1,jV 2),(2,jV 8400)]) (z:=B0) (cs:=ff) Z (wAC Z (wAC Z (wAC Z wAM))) yI wGo Z Z) (zW (pv:=[(0,.agg B9.toArray),(1,.agg ff.toArray)]) (zs:=[jV 0,jV 0,jV 0,jV 0,jV 0,jV 0]) (cs:=[jV 7,jV 1,jV 4600,jV 3,jV 2,jV 8400]) Z Z Z (zQ Z Z (nC av.out)) Z (wAC Z (wAC Z wAM)) ZR Zg yI Z Z Z Z Z ir ?_)
 intro cI gD rz
 let fg:Res:=.row (some ⟨gD,0,none⟩) 2 70 3 (hM wAG [(⟨7,1,4600⟩:wAB),(⟨3,2,8400⟩:wAB)])
 have rC:sW w U dx [fg,B4,.blk af 49 B2,.blk ac 49 B1] cI:=rz
 have q:=rC.freezeR (k:=1) (n:=cp.length) rfl (wAF (f:=wAG) (sz:=3) (fun _=>rfl) cp) (by decide)
 obtain ⟨jr,d8,vM,rD⟩:=q
 have rE:sW w U jr [fg,.blk af 49 B2,.blk ac 49 B1] cI:=rD
 have q:=rE.freezeR (k:=0) (n:=[(⟨7,1,4600⟩:wAB),(⟨3,2,8400⟩:wAB)].length) rfl (wAF (f:=wAG) (sz:=3) (fun _=>rfl) [(⟨7,1,4600⟩:wAB),(⟨3,2,8400⟩:wAB)]) (by decide)
 obtain ⟨fL,cM,vN,rF⟩:=q
 have rG:sW w U fL [.blk af 49 B2,.blk ac 49 B1] cI:=rF
 have mU:=vM.le cM
 refine bnK uY fun AE mV uZ=>zL 0 Z Z Z (zQ Z Z (nC av.out)) (zK Z Z Tryz.call41 (zB Z (zB Z zM)) Z) rG (fun hs=>wEH cp da dO [(⟨7,1,4600⟩:wAB),(⟨3,2,8400⟩:wAB)] (some ⟨gD,0,none⟩) 2 cI fL hs mU vN mV) (.inr Z) ?_
 rintro cz xe Ac j6 d9 rH ⟨rfl,rfl⟩
 have it:sW w U cz [.blk af 49 B2,.blk ac 49 B1] j6:=rH
 refine zh Z Z Z (zQ Z Z (nC av.out)) (fun _=>ZN Z Z) (oR Z (zZ Z (nC av.out) Z) (oM Z Z (ifc uZ ?_ ?_)))
 intro aW u0
 refine zj Z Z Z (zQ Z Z (nC aW.out)) Z Z ?_
 let cr:List Value:=[.slice none 0 0,.slice none 0 0]
 refine zW (pv:=[(0,.slice none 0 0),(1,.slice none 0 0)]) (zs:=cr) (cs:=cr) Z Z Z (zQ Z Z (nC aW.out)) Z (wAC Z (wAC Z wAM)) zq zS yh Z Z Z Z Z it ?_
 intro dE gE rI
 have vr:RlL cz wDT [[],[]] cr:=(RlL.cons (R:=wDT) (x:=[]) (vs:=[.slice none 0 0]) ⟨none,0,rfl,(by first | exact Sl.nil _ _ _ _ | exact SlR.nil)⟩ (RlL.cons (R:=wDT) (x:=[]) (vs:=[.slice none 0 0]) ⟨none,0,rfl,(by first | exact Sl.nil _ _ _ _ | exact SlR.nil)⟩ RlL.nil))
 have rJ:sW w U cz [.row (some ⟨gE,0,none⟩) 2 23 1 cr,.blk af 49 B2,.blk ac 49 B1] dE:=rI
 have q:=rJ.freezeRR (R:=wDT) (k:=0) rfl vr rfl (by decide)
 obtain ⟨fM,iR,vO,rK⟩:=q
 have rL:sW w U fM [.blk af 49 B2,.blk ac 49 B1] dE:=rK
 have mX:=vH.le ca
 have mY:=mX.le bK
 have mZ:=mY.le cc
 have m4:=mZ.le cd
 have m5:=m4.le cL
 have m6:=m5.le d8
 have m7:=m6.le cM
 have m8:=m7.le d9
 have m9:=m8.le iR
 refine bnK u0 fun AF n2 u7=>zL 0 Z Z Z (zQ Z Z (nC aW.out)) (zK Z Z Tryz.call40 (zB Z (zB Z zM)) Z) rL (fun hs=>wDk eQ dd dQ [[],[]] (some ⟨gE,0,none⟩) 2 dE fM hs m9 vO n2) (.inr Z) ?_
 rintro fN xf Ad j7 wH rM ⟨rfl,rfl⟩
 have rN:sW w U fN [.blk af 49 B2,.blk ac 49 B1] j7:=rM
 refine zh Z Z Z (zQ Z Z (nC aW.out)) (fun _=>ZN Z Z) (oR Z (zZ Z (nC aW.out) Z) (zg ?_))
 cases u7
 exact zI ⟨Z,⟨fN,Z,(((((((((ca.trans bK).trans cc).trans cd).trans cL).trans d8).trans cM).trans d9).trans iR).trans wH),rN⟩⟩
 intro aW u9
 refine zd Z Z Z (zN Z Z (nF (aW.out)) Z) (ZA Z Z Z (zN Z Z (nF (aW.out)) Z) (ZA Z Z Z (zN Z Z (nF (aW.out)) Z) (zd Z Z Z (zN Z Z (nF (aW.out)) Z) (oR Z (zV Z (nF (aW.out)) Z) (zg ?_)))))
 cases u9
 exact zI ⟨Z,⟨cz,Z,(((((((ca.trans bK).trans cc).trans cd).trans cL).trans d8).trans cM).trans d9),it⟩⟩
 intro av va
 refine zd Z Z Z (zN Z Z (nF (av.out)) Z) (zd Z Z Z (zN Z Z (nF (av.out)) Z) (zd Z Z Z (zN Z Z (nF (av.out)) Z) (ZA Z Z Z (zN Z Z (nF (av.out)) Z) (ZA Z Z Z (zN Z Z (nF (av.out)) Z) (zd Z Z Z (zN Z Z (nF (av.out)) Z) (oR Z (zV Z (nF (av.out)) Z) (oM Z Z (oN Z (ZA Z Z Z (zN Z Z Z Z) (ZA Z Z Z (zN Z Z Z Z) (oN Z (oR Z (zV Z Z Z) (zg ?_)))))))))))))
 cases va
 exact zI ⟨rfl,⟨dx,rfl,((((ca.trans bK).trans cc).trans cd).trans cL),(ir.pick [1,2] _ (by decide) rfl)⟩⟩
 intro au vb
 refine oT Z au (ZA Z Z Z (zN Z Z (Zj au.out) Z) (ZA Z Z Z (zN Z Z (Zj au.out) Z) (ZA Z Z Z (zN Z Z (Zj au.out) Z) (ZA Z Z Z (zN Z Z (Zj au.out) Z) (oT Z au (oR Z (zV Z (Zj au.out) Z) (oM Z Z (oN Z (oN Z (oN Z (ZA Z Z Z (zN Z Z Z Z) (ZA Z Z Z (zN Z Z Z Z) (oN Z (oR Z (zV Z Z Z) (oM Z Z (oN Z (ZA Z Z Z (zN Z Z Z Z) (ZA Z Z Z (zN Z Z Z Z) (oN Z (oR Z (zV Z Z Z) (zg ?_)))))))))))))))))))))
 cases vb
 exact zI ⟨rfl,⟨ay,rfl,(zH _),(aZ.pick [2,3] _ (by decide) rfl)⟩⟩
 intro be vc
 refine oT Z be (oT Z be (oT Z be (oR Z (zV Z (Zj be.out) Z) (oM Z Z (oN Z (ZA Z Z Z (zN Z Z Z Z) (ZA Z Z Z (zN Z Z Z Z) (ZA Z Z Z (zN Z Z Z Z) (ZA Z Z Z (zN Z Z Z Z) (oN Z (oR Z (zV Z Z Z) (oM Z Z (oN Z (oN Z (oN Z (ZA Z Z Z (zN Z Z Z Z) (ZA Z Z Z (zN Z Z Z Z) (oN Z (oR Z (zV Z Z Z) (oM Z Z (oN Z (ZA Z Z Z (zN Z Z Z Z) (ZA Z Z Z (zN Z Z Z Z) (oN Z (oR Z (zV Z Z Z) (zg ?_))))))))))))))))))))))))))
 cases vc
 exact zI ⟨rfl,⟨ay,rfl,(zH _),(aZ.pick [2,3] _ (by decide) rfl)⟩⟩
 intro bb vd
 refine oT Z bb (oT Z bb (oT Z bb (oR Z (zV Z (Zj bb.out) Z) (oM Z Z (oN Z (oN Z (oN Z (oR Z (zV Z Z Z) (oM Z Z (oN Z (ZA Z Z Z (zN Z Z Z Z) (ZA Z Z Z (zN Z Z Z Z) (ZA Z Z Z (zN Z Z Z Z) (ZA Z Z Z (zN Z Z Z Z) (oN Z (oR Z (zV Z Z Z) (oM Z Z (oN Z (oN Z (oN Z (ZA Z Z Z (zN Z Z Z Z) (ZA Z Z Z (zN Z Z Z Z) (oN Z (oR Z (zV Z Z Z) (oM Z Z (oN Z (ZA Z Z Z (zN Z Z Z Z) (ZA Z Z Z (zN Z Z Z Z) (oN Z (oR Z (zV Z Z Z) (zg ?_)))))))))))))))))))))))))))))))
 cases vd
 exact zI ⟨rfl,⟨ay,rfl,(zH _),(aZ.pick [2,3] _ (by decide) rfl)⟩⟩
 intro bt ve
 refine oT Z bt (oT Z bt (oR Z (zV Z (Zj bt.out) Z) (oM Z Z (oN Z (oN Z (oN Z (oR Z (zV Z Z Z) (oM Z Z (oN Z (oN Z (oN Z (oR Z (zV Z Z Z) (oM Z Z (oN Z (ZA Z Z Z (zN Z Z Z Z) (ZA Z Z Z (zN Z Z Z Z) (ZA Z Z Z (zN Z Z Z Z) (ZA Z Z Z (zN Z Z Z Z) (oN Z (oR Z (zV Z Z Z) (oM Z Z (oN Z (oN Z (oN Z (ZA Z Z Z (zN Z Z Z Z) (ZA Z Z Z (zN Z Z Z Z) (oN Z (oR Z (zV Z Z Z) (oM Z Z (oN Z (ZA Z Z Z (zN Z Z Z Z) (ZA Z Z Z (zN Z Z Z Z) (oN Z (oR Z (zV Z Z Z) (zg ?_)))))))))))))))))))))))))))))))))))
 cases ve
 exact zI ⟨rfl,⟨ay,rfl,(zH _),(aZ.pick [2,3] _ (by decide) rfl)⟩⟩
 intro bs vf
 refine oT Z bs (oT Z bs (oR Z (zV Z (Zj bs.out) Z) (oM Z Z (oN Z (oN Z (oR Z (zV Z Z Z) (oM Z Z (oN Z (oN Z (oN Z (oR Z (zV Z Z Z) (oM Z Z (oN Z (oN Z (oN Z (oR Z (zV Z Z Z) (oM Z Z (oN Z (ZA Z Z Z (zN Z Z Z Z) (ZA Z Z Z (zN Z Z Z Z) (ZA Z Z Z (zN Z Z Z Z) (ZA Z Z Z (zN Z Z Z Z) (oN Z (oR Z (zV Z Z Z) (oM Z Z (oN Z (oN Z (oN Z (ZA Z Z Z (zN Z Z Z Z) (ZA Z Z Z (zN Z Z Z Z) (oN Z (oR Z (zV Z Z Z) (oM Z Z (oN Z (ZA Z Z Z (zN Z Z Z Z) (ZA Z Z Z (zN Z Z Z Z) (oN Z (oR Z (zV Z Z Z) (zg ?_)))))))))))))))))))))))))))))))))))))))
 cases vf
 exact zI ⟨rfl,⟨ay,rfl,(zH _),(aZ.pick [2,3] _ (by decide) rfl)⟩⟩
 intro br vg
 refine oT Z br (oT Z br (oR Z (zV Z (Zj br.out) Z) (oM Z Z (oN Z (oN Z (oR Z (zV Z Z Z) (oM Z Z (oN Z (oN Z (oR Z (zV Z Z Z) (oM Z Z (oN Z (oN Z (oN Z (oR Z (zV Z Z Z) (oM Z Z (oN Z (oN Z (oN Z (oR Z (zV Z Z Z) (oM Z Z (oN Z (ZA Z Z Z (zN Z Z Z Z) (ZA Z Z Z (zN Z Z Z Z) (ZA Z Z Z (zN Z Z Z Z) (ZA Z Z Z (zN Z Z Z Z) (oN Z (oR Z (zV Z Z Z) (oM Z Z (oN Z (oN Z (oN Z (ZA Z Z Z (zN Z Z Z Z) (ZA Z Z Z (zN Z Z Z Z) (oN Z (oR Z (zV Z Z Z) (oM Z Z (oN Z (ZA Z Z Z (zN Z Z Z Z) (ZA Z Z Z (zN Z Z Z Z) (oN Z (oR Z (zV Z Z Z) (zg ?_)))))))))))))))))))))))))))))))))))))))))))
 cases vg
 exact zI ⟨rfl,⟨ay,rfl,(zH _),(aZ.pick [2,3] _ (by decide) rfl)⟩⟩
 have iH:=iL;rw [if_neg aw] at iH;replace aw:=zF aw
 refine oT Z aw (oT Z aw (oR Z (zV Z (Zj aw.out) Z) (oM Z Z (oN Z (oN Z (oR Z (zV Z Z Z) (oM Z Z (oN Z (oN Z (oR Z (zV Z Z Z) (oM Z Z (oN Z (oN Z (oR Z (zV Z Z Z) (oM Z Z (oN Z (oN Z (oN Z (oR Z (zV Z Z Z) (oM Z Z (oN Z (oN Z (oN Z (oR Z (zV Z Z Z) (oM Z Z (oN Z (ZA Z Z Z (zN Z Z Z Z) (ZA Z Z Z (zN Z Z Z Z) (ZA Z Z Z (zN Z Z Z Z) (ZA Z Z Z (zN Z Z Z Z) (oN Z (oR Z (zV Z Z Z) (oM Z Z (oN Z (oN Z (oN Z (ZA Z Z Z (zN Z Z Z Z) (ZA Z Z Z (zN Z Z Z Z) (oN Z (oR Z (zV Z Z Z) (oM Z Z (oN Z (ZA Z Z Z (zN Z Z Z Z) (ZA Z Z Z (zN Z Z Z Z) (oN Z (oR Z (zV Z Z Z) (zg ?_)))))))))))))))))))))))))))))))))))))))))))))))
 cases iH
 exact zI ⟨rfl,⟨ay,rfl,(zH _),(aZ.pick [2,3] _ (by decide) rfl)⟩⟩
 rintro AH j9 ⟨fO,ik,xP,iu⟩
 refine ifc uP ?_ ?_
 intro dR vh
 refine ZF (ik.trans (congrArg nE dR.out)) (sR fL1 Z (oA Z Z (eN (zO (zR ?_)))))
 have hE:=nB vh;first | subst r | cases hE
 exact ⟨rfl,_,(zr rfl),fO,_,(iu.pick [] _ (by decide) rfl),rfl,rfl⟩
 intro dR vi
 refine zm (ik.trans (congrArg nE (nG.2 dR.out))) (kN (sR (.fx 0 (.fl 1 gCt) .stop) Z (bnK vi fun am n3 vj=>zL 0 Z Z Z Z (zK Z Z Tryz.call38 zM Z) iu (fun hs=>wDU j9 fO hs n3) (.inr Z) ?_)))
 rintro dz xh Af k5 xR rP ⟨aX,aY,jd,lB,lC,rfl,rfl,xE⟩
 let aj:Res:=.row jd lB 43 3 lC
 let dm:Res:=.row aX aY 3 1 (hM KL.encI am.Rules.Classes)
 have rS:sW w U dz [dm,aj,.blk af 49 B2,.blk ac 49 B1] k5:=rP
 let ag:List Value:=[.slice aX am.Rules.Classes.length aY,jV am.Rules.Each,jV am.Rules.Laps,jV am.Rules.Spare,jV am.Rules.Loop,jV am.Rules.Unused]
 refine oR Z (Runs.fld Z Z ze Z (wMl Zv ZG (vs:=ag) Z)) (zz (cs:=[.slice none 0 0,jV 0,jV 0,jV 0,jV 0,jV 0]) Z Z Z Z Z yt Z rS ?_)
 intro xB ah rT
 refine zu (j:=0) (vs:=ag) Z Z Z Z rT Z Z Z Z ZG (zC Z) Z Z Z ?_
 intro dF rW
 have rX:sW w U dz [.blk ah 25 ag,dm,aj,.blk af 49 B2,.blk ac 49 B1] dF:=rW
 refine eN (zG (ZY ZP [1,2,2,3,3,3,3,3,3,3] (.fl 0 (.fx 1 (.fx 2 (fC3_9 (.nil)) .stop) .stop)) (by kernel_rfl) ?_))
 have dZ:=rX.drew
 generalize hw_W434:({ dF with drawn:=dF.drawn + 1 }:World)=k6 at dZ ⊢
 refine oL Z (dZ.ldBA (j:=0) Z Z Z Zv ZG (vs:=ag) Z Z) (bnK vj fun cY n4 vk=>zL 0 Z Z Z Z (zK Z Z Tryz.call43 zM Z) dZ (fun hs=>wBQ k6 dz hs n4) (.inr Z) ?_)
 rintro ju xi Ag bT xS rY ⟨eX,gW,eY,gX,lD,rfl,rfl,n5⟩
 let fh:Res:=.row eX gW 3 1 (hM KL.encI cY.Classes)
 let dn:Res:=.row eY gX 23 1 lD
 have rZ:sW w U ju [fh,dn,.blk ah 25 ag,dm,aj,.blk af 49 B2,.blk ac 49 B1] bT:=rY
 have q:=rZ.freezeR (k:=3) (n:=am.Rules.Classes.length) rfl (wAF (f:=KL.encI) (sz:=1) (fun _=>rfl) am.Rules.Classes) (by decide)
 obtain ⟨jv,wI,vP,r6⟩:=q
 have r7:sW w U jv [fh,dn,.blk ah 25 ag,aj,.blk af 49 B2,.blk ac 49 B1] bT:=r6
 have q:=r7.freezeR (k:=0) (n:=cY.Classes.length) rfl (wAF (f:=KL.encI) (sz:=1) (fun _=>rfl) cY.Classes) (by decide)
 obtain ⟨jw,iS,vQ,r9⟩:=q
 have sa:sW w U jw [dn,.blk ah 25 ag,aj,.blk af 49 B2,.blk ac 49 B1] bT:=r9
 have n7:=n5.le wI
 have n8:=n7.le iS
 have q:=sa.freezeRR (R:=wDT) (k:=0) rfl n8 rfl (by decide)
 obtain ⟨fP,iT,vR,sb⟩:=q
 have sc:sW w U fP [.blk ah 25 ag,aj,.blk af 49 B2,.blk ac 49 B1] bT:=sb
 have n9:=vP.le iS
 have bg:=n9.le iT
 have oa:=vQ.le iT
 have q:=bnd vk
 obtain ⟨⟨bx,eR,eS⟩,oc,iI⟩:=q
 try dsimp only at iI
 refine zL 0 Z Z Z Z (zK Z Z Tryz.call42 (zB Z (zB Z zM)) Z) sc (fun hs=>wJN am.Rules aX aY cY eX gW eY gX bT fP hs bg oa vR oc) (.inr Z) ?_
 rintro az xj Ah dG bv sd ⟨bO,bW,rfl,rfl⟩
 let ai:Res:=.row bO bW 3 1 (hM KL.encI bx)
 have se:sW w U az [ai,.blk ah 25 ag,aj,.blk af 49 B2,.blk ac 49 B1] dG:=sd
 refine oM Z Z (oR Z (zx Z Z (v:=.slice bO bx.length bW) Z) (oR Z (zx Z Z (v:=jV eR) Z) (oR Z (zx Z Z (v:=jV eS) Z) (oA Z Z (oA Z Z (oA Z Z (eN ?_)))))))
 have q:=bnd iI
 obtain ⟨⟨ja,jb⟩,wu,iJ⟩:=q
 try dsimp only at iJ
 refine CK.cut (fun σ_ w_=>∃ (U_:PHeap),σ_ 2=jV eS/\σ_ 4=jV ja/\σ_ 11=.pointer (some ⟨ah,0,none⟩)/\σ_ 12=.slice bO bx.length bW/\σ_ 13=jV eR/\σ_ 14=jV jb/\PHeap.Le az U_/\sW w U U_ [.blk ah 25 ag,.blk af 49 B2,.blk ac 49 B1,ai] w_) ?_ ?_
 refine bnK wu fun ak bX vm=>?_
 have q:=bnd vm
 obtain ⟨⟨bM,bN⟩,bJ,bu⟩:=q
 try dsimp only at bu
 refine ZY ZP [1,2,2,2,2,3,3,3,3,3] (.fl 0 (.fx 1 (.fx 2 (.fx 3 (.fx 4 (wKO (.nil)) (.stop)) (.stop)) (.fx 3 (.fx 2 (.fx 4 (wKO (.nil)) (.stop)) (.stop)) (.stop))) (.fx 2 (.fx 1 (.fx 3 (.fx 4 (wKO (.nil)) (.stop)) (.stop)) (.fx 3 (.fx 1 (.fx 4 (wKO (.nil)) (.stop)) (.stop)) (.stop))) (.fx 3 (.fx 1 (.fx 2 (.fx 4 (wKO (.nil)) (.stop)) (.stop)) (.fx 2 (.fx 1 (.fx 4 (wKO (.nil)) (.stop)) (.stop)) (.stop))) (.stop))))) (by kernel_rfl) ?_
 have b4:=se.drew
 generalize hw_W568:({ dG with drawn:=dG.drawn + 1 }:World)=k8 at b4 ⊢
 refine oL Z (b4.ldBA (j:=1) Z Z Z Zv ZG (vs:=ag) Z Z) (yO ?_ ?_)
 refine zL 0 Z Z Z Z (zK Z Z Tryz.call43 zM Z) b4 (fun hs=>wBQ k8 az hs bX) (.inr Z) ?_
 rintro bS xm Aj k9 cN sh ⟨de,dS,df,dT,lE,rfl,rfl,io⟩
 let bP:Res:=.row de dS 3 1 (hM KL.encI ak.Classes)
 let bh:Res:=.row df dT 23 1 lE
 have iv:sW w U bS [bP,bh,ai,.blk ah 25 ag,aj,.blk af 49 B2,.blk ac 49 B1] k9:=sh
 refine yO ?_ ?_
 refine zW (pv:=[(0,jV 2250),(1,jV 2400)]) (zs:=[jV 0,jV 0]) (cs:=[jV 2250,jV 2400]) Z Z Z Z Z (wAC Z (wAC Z wAM)) zA zD zt Z Z Z Z Z iv ?_
 intro la gF sj
 let ct:Res:=.row (some ⟨gF,0,none⟩) 2 3 1 (hM KL.encI [2250,2400])
 have sm:sW w U bS [ct,bP,bh,ai,.blk ah 25 ag,aj,.blk af 49 B2,.blk ac 49 B1] la:=sj
 refine zW (pv:=[(0,jV 0),(1,jV 0),(2,jV 0)]) (zs:=B0) (cs:=B0) Z Z Z Z Z (wAC Z (wAC Z (wAC Z wAM))) zA zD zt Z Z Z Z Z sm ?_
 intro bD gG sq
 let cu:Res:=.row (some ⟨gG,0,none⟩) 3 3 1 (hM KL.encI [0,0,0])
 have sr:sW w U bS [cu,ct,bP,bh,ai,.blk ah 25 ag,aj,.blk af 49 B2,.blk ac 49 B1] bD:=sq
 have q:=sr.freezeR (k:=2) (n:=ak.Classes.length) rfl (wAF (f:=KL.encI) (sz:=1) (fun _=>rfl) ak.Classes) (by decide)
 obtain ⟨jy,ea,vS,su⟩:=q
 have sv:sW w U jy [cu,ct,bh,ai,.blk ah 25 ag,aj,.blk af 49 B2,.blk ac 49 B1] bD:=su
 have oe:=io.le ea
 have q:=sv.freezeRR (R:=wDT) (k:=2) rfl oe rfl (by decide)
 obtain ⟨jz,eb,vT,sw⟩:=q
 have sA:sW w U jz [cu,ct,ai,.blk ah 25 ag,aj,.blk af 49 B2,.blk ac 49 B1] bD:=sw
 have q:=sA.freezeR (k:=1) (n:=[2250,2400].length) rfl (wAF (f:=KL.encI) (sz:=1) (fun _=>rfl) [2250,2400]) (by decide)
 obtain ⟨jA,cO,vU,sC⟩:=q
 have sD:sW w U jA [cu,ai,.blk ah 25 ag,aj,.blk af 49 B2,.blk ac 49 B1] bD:=sC
 have q:=sD.freezeR (k:=0) (n:=[0,0,0].length) rfl (wAF (f:=KL.encI) (sz:=1) (fun _=>rfl) [0,0,0]) (by decide)
 obtain ⟨fQ,cg,vV,sE⟩:=q
 have sF:sW w U fQ [ai,.blk ah 25 ag,aj,.blk af 49 B2,.blk ac 49 B1] bD:=sE
 have og:=bg.le bv
 have oh:=og.le cN
 have oq:=oh.le ea
 have ot:=oq.le eb
 have ou:=ot.le cO
 have ov:=ou.le cg
 have ow:=vS.le eb
 have ox:=ow.le cO
 have oy:=ox.le cg
 have oz:=vT.le cO
 have oB:=oz.le cg
 have oC:=vU.le cg
 refine zL 0 Z Z Z Z (zK Z Z Tryz.call44 (zB Z (zB Z (zB Z (zB Z zM)))) Z) sF (fun hs=>wDO am.Rules aX aY ak de dS df dT [2250,2400] (some ⟨gF,0,none⟩) 2 [0,0,0] (some ⟨gG,0,none⟩) 3 bD fQ hs ov oy oB oC vV bJ) (.inr Z) ?_
 rintro fR xn Al lb wJ sG ⟨rfl,rfl⟩
 have sH:sW w U fR [ai,.blk ah 25 ag,aj,.blk af 49 B2,.blk ac 49 B1] lb:=sG
 refine oM Z Z (oR Z (zx Z Z (v:=jV bM) Z) (oR Z (zx Z Z (v:=jV bN) Z) (oA Z Z (oA Z Z (zg ?_)))))
 cases bu
 exact zI ⟨rfl,⟨fR,rfl,rfl,rfl,rfl,rfl,rfl,(((((cN.trans ea).trans eb).trans cO).trans cg).trans wJ),(sH.pick [1,3,4,0] _ (by decide) rfl)⟩⟩
 refine zW (pv:=[(0,jV 0),(1,jV 0),(2,jV 0)]) (zs:=B0) (cs:=B0) Z Z Z Z Z (wAC Z (wAC Z (wAC Z wAM))) zA zD zt Z Z Z Z Z iv ?_
 intro lc gH sI
 let bQ:Res:=.row (some ⟨gH,0,none⟩) 3 3 1 (hM KL.encI [0,0,0])
 have sJ:sW w U bS [bQ,bP,bh,ai,.blk ah 25 ag,aj,.blk af 49 B2,.blk ac 49 B1] lc:=sI
 refine zW (pv:=[(0,jV 2250),(1,jV 2400)]) (zs:=[jV 0,jV 0]) (cs:=[jV 2250,jV 2400]) Z Z Z Z Z (wAC Z (wAC Z wAM)) zA zD zt Z Z Z Z Z sJ ?_
 intro bE gI sK
 let dp:Res:=.row (some ⟨gI,0,none⟩) 2 3 1 (hM KL.encI [2250,2400])
 have sL:sW w U bS [dp,bQ,bP,bh,ai,.blk ah 25 ag,aj,.blk af 49 B2,.blk ac 49 B1] bE:=sK
 have q:=sL.freezeR (k:=2) (n:=ak.Classes.length) rfl (wAF (f:=KL.encI) (sz:=1) (fun _=>rfl) ak.Classes) (by decide)
 obtain ⟨jB,ee,vW,sN⟩:=q
 have sO:sW w U jB [dp,bQ,bh,ai,.blk ah 25 ag,aj,.blk af 49 B2,.blk ac 49 B1] bE:=sN
 have oE:=io.le ee
 have q:=sO.freezeRR (R:=wDT) (k:=2) rfl oE rfl (by decide)
 obtain ⟨jC,eh,vX,sP⟩:=q
 have sQ:sW w U jC [dp,bQ,ai,.blk ah 25 ag,aj,.blk af 49 B2,.blk ac 49 B1] bE:=sP
 have q:=sQ.freezeR (k:=0) (n:=[2250,2400].length) rfl (wAF (f:=KL.encI) (sz:=1) (fun _=>rfl) [2250,2400]) (by decide)
 obtain ⟨jD,cP,vY,sS⟩:=q
 have sT:sW w U jD [bQ,ai,.blk ah 25 ag,aj,.blk af 49 B2,.blk ac 49 B1] bE:=sS
 have q:=sT.freezeR (k:=0) (n:=[0,0,0].length) rfl (wAF (f:=KL.encI) (sz:=1) (fun _=>rfl) [0,0,0]) (by decide)
 obtain ⟨fS,ch,vZ,sU⟩:=q
 have sV:sW w U fS [ai,.blk ah 25 ag,aj,.blk af 49 B2,.blk ac 49 B1] bE:=sU
 have oG:=bg.le bv
 have oH:=oG.le cN
 have oI:=oH.le ee
 have oJ:=oI.le eh
 have oK:=oJ.le cP
 have oO:=oK.le ch
 have oP:=vW.le eh
 have oQ:=oP.le cP
 have oS:=oQ.le ch
 have oU:=vX.le cP
 have oV:=oU.le ch
 have oW:=vY.le ch
 refine zL 0 Z Z Z Z (zK Z Z Tryz.call44 (zB Z (zB Z (zB Z (zB Z zM)))) Z) sV (fun hs=>wDO am.Rules aX aY ak de dS df dT [2250,2400] (some ⟨gI,0,none⟩) 2 [0,0,0] (some ⟨gH,0,none⟩) 3 bE fS hs oO oS oV oW vZ bJ) (.inr Z) ?_
 rintro fT xo Am lh wK sX ⟨rfl,rfl⟩
 have sZ:sW w U fT [ai,.blk ah 25 ag,aj,.blk af 49 B2,.blk ac 49 B1] lh:=sX
 refine oM Z Z (oR Z (zx Z Z (v:=jV bM) Z) (oR Z (zx Z Z (v:=jV bN) Z) (oA Z Z (oA Z Z (zg ?_)))))
 cases bu
 exact zI ⟨rfl,⟨fT,rfl,rfl,rfl,rfl,rfl,rfl,(((((cN.trans ee).trans eh).trans cP).trans ch).trans wK),(sZ.pick [1,3,4,0] _ (by decide) rfl)⟩⟩
 refine yO ?_ ?_
 refine zW (pv:=[(0,jV 2250),(1,jV 2400)]) (zs:=[jV 0,jV 0]) (cs:=[jV 2250,jV 2400]) Z Z Z Z Z (wAC Z (wAC Z wAM)) zA zD zt Z Z Z Z Z b4 ?_
 intro gr dJ s3
 let a8:Res:=.row (some ⟨dJ,0,none⟩) 2 3 1 (hM KL.encI [2250,2400])
 have iw:sW w U az [a8,ai,.blk ah 25 ag,aj,.blk af 49 B2,.blk ac 49 B1] gr:=s3
 refine yO ?_ ?_
 refine zL 0 Z Z Z Z (zK Z Z Tryz.call43 zM Z) iw (fun hs=>wBQ gr az hs bX) (.inr Z) ?_
 rintro fU xp An li iU s4 ⟨eZ,gY,e8,gZ,lI,rfl,rfl,oX⟩
 let fj:Res:=.row eZ gY 3 1 (hM KL.encI ak.Classes)
 let dq:Res:=.row e8 gZ 23 1 lI
 have s5:sW w U fU [fj,dq,a8,ai,.blk ah 25 ag,aj,.blk af 49 B2,.blk ac 49 B1] li:=s4
 refine zW (pv:=[(0,jV 0),(1,jV 0),(2,jV 0)]) (zs:=B0) (cs:=B0) Z Z Z Z Z (wAC Z (wAC Z (wAC Z wAM))) zA zD zt Z Z Z Z Z s5 ?_
 intro bF gJ s6
 let cw:Res:=.row (some ⟨gJ,0,none⟩) 3 3 1 (hM KL.encI [0,0,0])
 have s7:sW w U fU [cw,fj,dq,a8,ai,.blk ah 25 ag,aj,.blk af 49 B2,.blk ac 49 B1] bF:=s6
 have q:=s7.freezeR (k:=1) (n:=ak.Classes.length) rfl (wAF (f:=KL.encI) (sz:=1) (fun _=>rfl) ak.Classes) (by decide)
 obtain ⟨jE,ep,wb,s8⟩:=q
 have s9:sW w U jE [cw,dq,a8,ai,.blk ah 25 ag,aj,.blk af 49 B2,.blk ac 49 B1] bF:=s8
 have oY:=oX.le ep
 have q:=s9.freezeRR (R:=wDT) (k:=1) rfl oY rfl (by decide)
 obtain ⟨jF,ew,wc,ta⟩:=q
 have tb:sW w U jF [cw,a8,ai,.blk ah 25 ag,aj,.blk af 49 B2,.blk ac 49 B1] bF:=ta
 have q:=tb.freezeR (k:=1) (n:=[2250,2400].length) rfl (wAF (f:=KL.encI) (sz:=1) (fun _=>rfl) [2250,2400]) (by decide)
 obtain ⟨jG,cQ,wd,tc⟩:=q
 have tf:sW w U jG [cw,ai,.blk ah 25 ag,aj,.blk af 49 B2,.blk ac 49 B1] bF:=tc
 have q:=tf.freezeR (k:=0) (n:=[0,0,0].length) rfl (wAF (f:=KL.encI) (sz:=1) (fun _=>rfl) [0,0,0]) (by decide)
 obtain ⟨fV,ci,we,tg⟩:=q
 have th:sW w U fV [ai,.blk ah 25 ag,aj,.blk af 49 B2,.blk ac 49 B1] bF:=tg
 have oZ:=bg.le bv
 have o0:=oZ.le iU
 have o3:=o0.le ep
 have o5:=o3.le ew
 have o6:=o5.le cQ
 have o7:=o6.le ci
 have o8:=wb.le ew
 have o9:=o8.le cQ
 have pa:=o9.le ci
 have pb:=wc.le cQ
 have pd:=pb.le ci
 have pe:=wd.le ci
 refine zL 0 Z Z Z Z (zK Z Z Tryz.call44 (zB Z (zB Z (zB Z (zB Z zM)))) Z) th (fun hs=>wDO am.Rules aX aY ak eZ gY e8 gZ [2250,2400] (some ⟨dJ,0,none⟩) 2 [0,0,0] (some ⟨gJ,0,none⟩) 3 bF fV hs o7 pa pd pe we bJ) (.inr Z) ?_
 rintro fW xq Ao lj wL tl ⟨rfl,rfl⟩
 have tp:sW w U fW [ai,.blk ah 25 ag,aj,.blk af 49 B2,.blk ac 49 B1] lj:=tl
 refine oM Z Z (oR Z (zx Z Z (v:=jV bM) Z) (oR Z (zx Z Z (v:=jV bN) Z) (oA Z Z (oA Z Z (zg ?_)))))
 cases bu
 exact zI ⟨rfl,⟨fW,rfl,rfl,rfl,rfl,rfl,rfl,(((((iU.trans ep).trans ew).trans cQ).trans ci).trans wL),(tp.pick [1,3,4,0] _ (by decide) rfl)⟩⟩
 refine zW (pv:=[(0,jV 0),(1,jV 0),(2,jV 0)]) (zs:=B0) (cs:=B0) Z Z Z Z Z (wAC Z (wAC Z (wAC Z wAM))) zA zD zt Z Z Z Z Z iw ?_
 intro gu gK tq
 let bR:Res:=.row (some ⟨gK,0,none⟩) 3 3 1 (hM KL.encI [0,0,0])
 have tr:sW w U az [bR,a8,ai,.blk ah 25 ag,aj,.blk af 49 B2,.blk ac 49 B1] gu:=tq
 refine zL 0 Z Z Z Z (zK Z Z Tryz.call43 zM Z) tr (fun hs=>wBQ gu az hs bX) (.inr Z) ?_
 rintro jH xr Ap bG iV tt ⟨e9,g8,dg,dU,g9,rfl,rfl,pf⟩
 have tu:sW w U jH [.row e9 g8 3 1 (hM KL.encI ak.Classes),.row dg dU 23 1 g9,bR,a8,ai,.blk ah 25 ag,aj,.blk af 49 B2,.blk ac 49 B1] bG:=tt
 have q:=tu.freezeR (k:=0) (n:=ak.Classes.length) rfl (wAF (f:=KL.encI) (sz:=1) (fun _=>rfl) ak.Classes) (by decide)
 obtain ⟨jI,ey,wg,tv⟩:=q
 have tw:sW w U jI [.row dg dU 23 1 g9,bR,a8,ai,.blk ah 25 ag,aj,.blk af 49 B2,.blk ac 49 B1] bG:=tv
 have pg:=pf.le ey
 have q:=tw.freezeRR (R:=wDT) (k:=0) rfl pg rfl (by decide)
 obtain ⟨jJ,eB,wh,tz⟩:=q
 have tA:sW w U jJ [bR,a8,ai,.blk ah 25 ag,aj,.blk af 49 B2,.blk ac 49 B1] bG:=tz
 have q:=tA.freezeR (k:=1) (n:=[2250,2400].length) rfl (wAF (f:=KL.encI) (sz:=1) (fun _=>rfl) [2250,2400]) (by decide)
 obtain ⟨jK,cR,wi,tB⟩:=q
 have tC:sW w U jK [bR,ai,.blk ah 25 ag,aj,.blk af 49 B2,.blk ac 49 B1] bG:=tB
 have q:=tC.freezeR (k:=0) (n:=[0,0,0].length) rfl (wAF (f:=KL.encI) (sz:=1) (fun _=>rfl) [0,0,0]) (by decide)
 obtain ⟨fY,cj,wj,tD⟩:=q
 have tE:sW w U fY [ai,.blk ah 25 ag,aj,.blk af 49 B2,.blk ac 49 B1] bG:=tD
 have ph:=bg.le bv
 have pi:=ph.le iV
 have pm:=pi.le ey
 have pn:=pm.le eB
 have po:=pn.le cR
 have pp:=po.le cj
 have pq:=wg.le eB
 have pt:=pq.le cR
 have pu:=pt.le cj
 have py:=wh.le cR
 have pz:=py.le cj
 have pC:=wi.le cj
 refine zL 0 Z Z Z Z (zK Z Z Tryz.call44 (zB Z (zB Z (zB Z (zB Z zM)))) Z) tE (fun hs=>wDO am.Rules aX aY ak e9 g8 dg dU [2250,2400] (some ⟨dJ,0,none⟩) 2 [0,0,0] (some ⟨gK,0,none⟩) 3 bG fY hs pp pu pz pC wj bJ) (.inr Z) ?_
 rintro fZ xt Aq lk wM tF ⟨rfl,rfl⟩
 have tG:sW w U fZ [ai,.blk ah 25 ag,aj,.blk af 49 B2,.blk ac 49 B1] lk:=tF
 refine oM Z Z (oR Z (zx Z Z (v:=jV bM) Z) (oR Z (zx Z Z (v:=jV bN) Z) (oA Z Z (oA Z Z (zg ?_)))))
 cases bu
 exact zI ⟨rfl,⟨fZ,rfl,rfl,rfl,rfl,rfl,rfl,(((((iV.trans ey).trans eB).trans cR).trans cj).trans wM),(tG.pick [1,3,4,0] _ (by decide) rfl)⟩⟩
 refine zW (pv:=[(0,jV 0),(1,jV 0),(2,jV 0)]) (zs:=B0) (cs:=B0) Z Z Z Z Z (wAC Z (wAC Z (wAC Z wAM))) zA zD zt Z Z Z Z Z b4 ?_
 intro gv dK tH
 let ax:Res:=.row (some ⟨dK,0,none⟩) 3 3 1 (hM KL.encI [0,0,0])
 have iz:sW w U az [ax,ai,.blk ah 25 ag,aj,.blk af 49 B2,.blk ac 49 B1] gv:=tH
 refine yO ?_ ?_
 refine zL 0 Z Z Z Z (zK Z Z Tryz.call43 zM Z) iz (fun hs=>wBQ gv az hs bX) (.inr Z) ?_
 rintro gb xu Ar ll iW tI ⟨fb,ib,fc,ic,lJ,rfl,rfl,pE⟩
 let fk:Res:=.row fb ib 3 1 (hM KL.encI ak.Classes)
 let dr:Res:=.row fc ic 23 1 lJ
 have tJ:sW w U gb [fk,dr,ax,ai,.blk ah 25 ag,aj,.blk af 49 B2,.blk ac 49 B1] ll:=tI
 refine zW (pv:=[(0,jV 2250),(1,jV 2400)]) (zs:=[jV 0,jV 0]) (cs:=[jV 2250,jV 2400]) Z Z Z Z Z (wAC Z (wAC Z wAM)) zA zD zt Z Z Z Z Z tJ ?_
 intro bH gM tK
 let dt:Res:=.row (some ⟨gM,0,none⟩) 2 3 1 (hM KL.encI [2250,2400])
 have tL:sW w U gb [dt,fk,dr,ax,ai,.blk ah 25 ag,aj,.blk af 49 B2,.blk ac 49 B1] bH:=tK
 have q:=tL.freezeR (k:=1) (n:=ak.Classes.length) rfl (wAF (f:=KL.encI) (sz:=1) (fun _=>rfl) ak.Classes) (by decide)
 obtain ⟨jL,eC,wk,tM⟩:=q
 have tN:sW w U jL [dt,dr,ax,ai,.blk ah 25 ag,aj,.blk af 49 B2,.blk ac 49 B1] bH:=tM
 have pG:=pE.le eC
 have q:=tN.freezeRR (R:=wDT) (k:=1) rfl pG rfl (by decide)
 obtain ⟨jM,eD,wl,tO⟩:=q
 have tP:sW w U jM [dt,ax,ai,.blk ah 25 ag,aj,.blk af 49 B2,.blk ac 49 B1] bH:=tO
 have q:=tP.freezeR (k:=0) (n:=[2250,2400].length) rfl (wAF (f:=KL.encI) (sz:=1) (fun _=>rfl) [2250,2400]) (by decide)
 obtain ⟨jN,cS,wm,tQ⟩:=q
 have tR:sW w U jN [ax,ai,.blk ah 25 ag,aj,.blk af 49 B2,.blk ac 49 B1] bH:=tQ
 have q:=tR.freezeR (k:=0) (n:=[0,0,0].length) rfl (wAF (f:=KL.encI) (sz:=1) (fun _=>rfl) [0,0,0]) (by decide)
 obtain ⟨gc,cm,wn,tS⟩:=q
 have tT:sW w U gc [ai,.blk ah 25 ag,aj,.blk af 49 B2,.blk ac 49 B1] bH:=tS
 have pH:=bg.le bv
 have pI:=pH.le iW
 have pJ:=pI.le eC
 have pK:=pJ.le eD
 have pL:=pK.le cS
 have pM:=pL.le cm
 have pN:=wk.le eD
 have pO:=pN.le cS
 have pP:=pO.le cm
 have pQ:=wl.le cS
 have pR:=pQ.le cm
 have pS:=wm.le cm
 refine zL 0 Z Z Z Z (zK Z Z Tryz.call44 (zB Z (zB Z (zB Z (zB Z zM)))) Z) tT (fun hs=>wDO am.Rules aX aY ak fb ib fc ic [2250,2400] (some ⟨gM,0,none⟩) 2 [0,0,0] (some ⟨dK,0,none⟩) 3 bH gc hs pM pP pR pS wn bJ) (.inr Z) ?_
 rintro ge xw Au lm wN tU ⟨rfl,rfl⟩
 have tV:sW w U ge [ai,.blk ah 25 ag,aj,.blk af 49 B2,.blk ac 49 B1] lm:=tU
 refine oM Z Z (oR Z (zx Z Z (v:=jV bM) Z) (oR Z (zx Z Z (v:=jV bN) Z) (oA Z Z (oA Z Z (zg ?_)))))
 cases bu
 exact zI ⟨rfl,⟨ge,rfl,rfl,rfl,rfl,rfl,rfl,(((((iW.trans eC).trans eD).trans cS).trans cm).trans wN),(tV.pick [1,3,4,0] _ (by decide) rfl)⟩⟩
 refine zW (pv:=[(0,jV 2250),(1,jV 2400)]) (zs:=[jV 0,jV 0]) (cs:=[jV 2250,jV 2400]) Z Z Z Z Z (wAC Z (wAC Z wAM)) zA zD zt Z Z Z Z Z iz ?_
 intro gw gO tX
 let cy:Res:=.row (some ⟨gO,0,none⟩) 2 3 1 (hM KL.encI [2250,2400])
 have tY:sW w U az [cy,ax,ai,.blk ah 25 ag,aj,.blk af 49 B2,.blk ac 49 B1] gw:=tX
 refine zL 0 Z Z Z Z (zK Z Z Tryz.call43 zM Z) tY (fun hs=>wBQ gw az hs bX) (.inr Z) ?_
 rintro jO xx Av bI iX tZ ⟨fd,ie,dh,dV,ig,rfl,rfl,pT⟩
 have t2:sW w U jO [.row fd ie 3 1 (hM KL.encI ak.Classes),.row dh dV 23 1 ig,cy,ax,ai,.blk ah 25 ag,aj,.blk af 49 B2,.blk ac 49 B1] bI:=tZ
 have q:=t2.freezeR (k:=0) (n:=ak.Classes.length) rfl (wAF (f:=KL.encI) (sz:=1) (fun _=>rfl) ak.Classes) (by decide)
 obtain ⟨jP,eG,wo,t7⟩:=q
 have t8:sW w U jP [.row dh dV 23 1 ig,cy,ax,ai,.blk ah 25 ag,aj,.blk af 49 B2,.blk ac 49 B1] bI:=t7
 have pU:=pT.le eG
 have q:=t8.freezeRR (R:=wDT) (k:=0) rfl pU rfl (by decide)
 obtain ⟨jQ,eH,wp,ua⟩:=q
 have ub:sW w U jQ [cy,ax,ai,.blk ah 25 ag,aj,.blk af 49 B2,.blk ac 49 B1] bI:=ua
 have q:=ub.freezeR (k:=0) (n:=[2250,2400].length) rfl (wAF (f:=KL.encI) (sz:=1) (fun _=>rfl) [2250,2400]) (by decide)
 obtain ⟨jR,cU,wq,ud⟩:=q
 have ue:sW w U jR [ax,ai,.blk ah 25 ag,aj,.blk af 49 B2,.blk ac 49 B1] bI:=ud
 have q:=ue.freezeR (k:=0) (n:=[0,0,0].length) rfl (wAF (f:=KL.encI) (sz:=1) (fun _=>rfl) [0,0,0]) (by decide)
 obtain ⟨gf,co,wr,uf⟩:=q
 have ug:sW w U gf [ai,.blk ah 25 ag,aj,.blk af 49 B2,.blk ac 49 B1] bI:=uf
 have pV:=bg.le bv
 have pW:=pV.le iX
 have pX:=pW.le eG
 have pY:=pX.le eH
 have pZ:=pY.le cU
 have p6:=pZ.le co
 have p7:=wo.le eH
 have p8:=p7.le cU
 have p9:=p8.le co
 have qa:=wp.le cU
 have qb:=qa.le co
 have qc:=wq.le co
 refine zL 0 Z Z Z Z (zK Z Z Tryz.call44 (zB Z (zB Z (zB Z (zB Z zM)))) Z) ug (fun hs=>wDO am.Rules aX aY ak fd ie dh dV [2250,2400] (some ⟨gO,0,none⟩) 2 [0,0,0] (some ⟨dK,0,none⟩) 3 bI gf hs p6 p9 qb qc wr bJ) (.inr Z) ?_
 rintro gg xz Aw lq wO uh ⟨rfl,rfl⟩
 have uj:sW w U gg [ai,.blk ah 25 ag,aj,.blk af 49 B2,.blk ac 49 B1] lq:=uh
 refine oM Z Z (oR Z (zx Z Z (v:=jV bM) Z) (oR Z (zx Z Z (v:=jV bN) Z) (oA Z Z (oA Z Z (zg ?_)))))
 cases bu
 exact zI ⟨rfl,⟨gg,rfl,rfl,rfl,rfl,rfl,rfl,(((((iX.trans eG).trans eH).trans cU).trans co).trans wO),(uj.pick [1,3,4,0] _ (by decide) rfl)⟩⟩
 rintro AI gx ⟨jS,lU,lV,lW,lX,lY,lZ,wP,uk⟩
 refine zG (ZY ZP [1,2,2,3,3,3,3,3] (.fl 0 (.fx 1 (.fx 2 (wOL (.nil)) .stop) .stop)) (by kernel_rfl) ?_)
 have d7:=uk.drew
 generalize hw_W975:({ gx with drawn:=gx.drawn + 1 }:World)=lu at d7 ⊢
 refine oL Z (d7.ldBA (j:=0) Z Z lW Zv ZG (vs:=ag) Z Z) (bnK iJ fun cZ qd vo=>zL 0 Z Z Z Z (zK Z Z Tryz.call43 zM Z) d7 (fun hs=>wBQ lu jS hs qd) (.inr Z) ?_)
 rintro jT xA Ax cJ wQ ul ⟨fe,ii,di,dW,ij,rfl,rfl,qe⟩
 have uo:sW w U jT [.row fe ii 3 1 (hM KL.encI cZ.Classes),.row di dW 23 1 ij,.blk ah 25 ag,.blk af 49 B2,.blk ac 49 B1,ai] cJ:=ul
 have q:=uo.freezeR (k:=0) (n:=cZ.Classes.length) rfl (wAF (f:=KL.encI) (sz:=1) (fun _=>rfl) cZ.Classes) (by decide)
 obtain ⟨jU,iY,wt,uq⟩:=q
 have ur:sW w U jU [.row di dW 23 1 ij,.blk ah 25 ag,.blk af 49 B2,.blk ac 49 B1,ai] cJ:=uq
 have l4:=qe.le iY
 have q:=ur.freezeRR (R:=wDT) (k:=0) rfl l4 rfl (by decide)
 obtain ⟨gh,iM,vu,qi⟩:=q
 have qj:sW w U gh [.blk ah 25 ag,.blk af 49 B2,.blk ac 49 B1,ai] cJ:=qi
 have l5:=bg.le bv
 have l6:=l5.le wP
 have l7:=l6.le wQ
 have l8:=l7.le iY
 have ma:=l8.le iM
 have mb:=wt.le iM
 have q:=bnd vo
 obtain ⟨⟨iZ,i6⟩,mc,iA⟩:=q
 try dsimp only at iA
 refine zL 0 Z Z Z Z (zK Z Z Tryz.call45 (zB Z (zB Z (zB Z zM))) Z) qj (fun hs=>wJO am.Rules aX aY cZ fe ii di dW 2 cJ gh hs ma mb vu mc) (.inr Z) ?_
 rintro fz wY xX jW xF qk ⟨rfl,rfl⟩
 have ql:sW w U fz [.blk ah 25 ag,.blk af 49 B2,.blk ac 49 B1,ai] jW:=qk
 refine oM Z Z (oR Z (zx Z Z (v:=jV iZ) Z) (oR Z (zx Z Z (v:=jV i6) Z) (oA Z Z (oA Z Z (eN (sR (wDE (.fx 3 (.fx 4 (wKO (.nil)) .stop) .stop)) Z ?_))))))
 let bi:List Value:=[jV 0,jV 0]
 refine oR Z (ZH (pv:=[(0,jV 100),(1,jV 200)]) (z:=bi) (cs:=[jV 100,jV 200]) Z (wAC Z (wAC Z wAM)) Zz wFT Z Z) (oR Z (ZH (pv:=[(0,jV 150),(1,jV 300)]) (z:=bi) (cs:=[jV 150,jV 300]) Z (wAC Z (wAC Z wAM)) Zz wFT Z Z) (oR Z (ZH (pv:=[(0,jV 250),(1,jV 260)]) (z:=bi) (cs:=[jV 250,jV 260]) Z (wAC Z (wAC Z wAM)) Zz wFT Z Z) (zW (pv:=[(0,.agg #[jV 100,jV 200]),(1,.agg #[jV 150,jV 300]),(2,.agg #[jV 250,jV 260])]) (zs:=[jV 0,jV 0,jV 0,jV 0,jV 0,jV 0]) (cs:=[jV 100,jV 200,jV 150,jV 300,jV 250,jV 260]) Z Z Z Z Z (wAC Z (wAC Z (wAC Z wAM))) Zf Zu Zz Z Z Z Z Z ql ?_)))
 intro dC gz qm
 have qn:sW w U fz [.row (some ⟨gz,0,none⟩) 3 76 2 (hM wAb [(⟨100,200⟩:wAO),(⟨150,300⟩:wAO),(⟨250,260⟩:wAO)]),.blk ah 25 ag,.blk af 49 B2,.blk ac 49 B1,ai] dC:=qm
 have q:=qn.freezeR (k:=0) (n:=[(⟨100,200⟩:wAO),(⟨150,300⟩:wAO),(⟨250,260⟩:wAO)].length) rfl (wAF (f:=wAb) (sz:=2) (fun _=>rfl) [(⟨100,200⟩:wAO),(⟨150,300⟩:wAO),(⟨250,260⟩:wAO)]) (by decide)
 obtain ⟨fA,xG,vv,qo⟩:=q
 have qp:sW w U fA [.blk ah 25 ag,.blk af 49 B2,.blk ac 49 B1,ai] dC:=qo
 have q:=bnd iA
 obtain ⟨⟨bL,i7⟩,me,iB⟩:=q
 try dsimp only at iB
 refine zL 0 Z Z Z Z (zK Z Z Tryz.call46 (zB Z zM) Z) qp (fun hs=>wIC [(⟨100,200⟩:wAO),(⟨150,300⟩:wAO),(⟨250,260⟩:wAO)] (some ⟨gz,0,none⟩) 3 dC fA hs vv me) (.inr Z) ?_
 rintro bB wZ xY jX xH qq ⟨cq,cK,rfl,rfl⟩
 let bA:Res:=.row cq cK 76 2 (hM wAb bL)
 have bY:sW w U bB [bA,.blk ah 25 ag,.blk af 49 B2,.blk ac 49 B1,ai] jX:=qq
 refine oM Z Z (oR Z (zx Z Z (v:=.slice cq bL.length cK) Z) (oR Z (zx Z Z (v:=jV i7) Z) (oA Z Z (oA Z Z (eN (zG (ya fun bf a7=>?_)))))))
 have lK:bf 2=jV eS:=(a7 2).trans lU
 have lL:bf 4=jV ja:=(a7 4).trans lV
 have lM:bf 6=jV i6:=(a7 6).trans rfl
 have lN:bf 8=jV i7:=(a7 8).trans rfl
 have lP:bf 12=.slice bO bx.length bW:=(a7 12).trans lX
 have lQ:bf 13=jV eR:=(a7 13).trans lY
 have lR:bf 14=jV jb:=(a7 14).trans lZ
 have lS:bf 15=jV iZ:=(a7 15).trans rfl
 have lT:bf 16=.slice cq bL.length cK:=(a7 16).trans rfl
 clear a7
 refine rR (wMe (.fx 16 (.fx 17 (wOO (.fx 36 (.fx 37 (.fl 38 (.fl 39 .nil)) .stop) .stop)) .stop) .stop)) Z (oM Z lK (oR Z (yF Z Z Z) (oM Z Z (ifc iB ?_ ?_))))
 intro bj uu
 refine zj Z Z Z (wT Z bj) Z lL (rU Z (wT Z bj) (yF Z Z Z) (oR Z (zV Z (Zj bj.out) Z) (oM Z Z (ifc uu ?_ ?_))))
 intro bl uv
 refine zj Z Z Z (wT Z bl) Z lM (rU Z (wT Z bl) (yF Z Z Z) (oR Z (zV Z (Zj bl.out) Z) (oM Z Z (ifc uv ?_ ?_))))
 intro bm uw
 refine zj Z Z Z (wT Z bm) Z lN (rU Z (wT Z bm) (yF Z Z Z) (oR Z (zV Z (Zj bm.out) Z) (oM Z Z (ifc uw ?_ ?_))))
 intro ba ux
 refine zj Z Z Z (wT Z ba) Z lP (zW (pv:=[(0,jV 2),(1,jV 1)]) (zs:=bi) (cs:=[jV 2,jV 1]) Z Z Z (wT Z ba) Z (wAC Z (wAC Z wAM)) zA zD zt Z Z Z Z Z bY ?_)
 intro cA gA qr
 let fm:Res:=.row (some ⟨gA,0,none⟩) 2 3 1 (hM KL.encI [2,1])
 have qs:sW w U bB [fm,bA,.blk ah 25 ag,.blk af 49 B2,.blk ac 49 B1,ai] cA:=qr
 have q:=qs.freezeR (k:=5) (n:=bx.length) rfl (wAF (f:=KL.encI) (sz:=1) (fun _=>rfl) bx) (by decide)
 obtain ⟨jg,xI,vw,qt⟩:=q
 have qu:sW w U jg [fm,bA,.blk ah 25 ag,.blk af 49 B2,.blk ac 49 B1] cA:=qt
 have q:=qu.freezeR (k:=0) (n:=[2,1].length) rfl (wAF (f:=KL.encI) (sz:=1) (fun _=>rfl) [2,1]) (by decide)
 obtain ⟨fB,wv,vx,qv⟩:=q
 have qw:sW w U fB [bA,.blk ah 25 ag,.blk af 49 B2,.blk ac 49 B1] cA:=qv
 have mf:=vw.le wv
 refine bnK ux fun AB mg uy=>zL 0 Z Z Z (wT Z ba) (zK Z Z Tryz.call47 (zB Z (zB Z zM)) Z) qw (fun hs=>wEC bx bO bW [2,1] (some ⟨gA,0,none⟩) 2 cA fB hs mf vx mg) (.inr Z) ?_
 rintro bC w6 x8 jY xK qx ⟨rfl,rfl⟩
 have bZ:sW w U bC [bA,.blk ah 25 ag,.blk af 49 B2,.blk ac 49 B1] jY:=qx
 refine oR Z (zV Z (Zj ba.out) Z) (oM Z Z (ifc uy ?_ ?_))
 intro bn uz
 refine zj Z Z Z (zQ Z Z (congrArg nE bn.out)) Z lQ (zh Z Z Z (zQ Z Z (congrArg nE bn.out)) (fun _=>yF Z Z Z) (oR Z (zV Z (congrArg nE bn.out) Z) (oM Z Z (ifc uz ?_ ?_))))
 intro bp uA
 refine zj Z Z Z (wT Z bp) Z lR (rU Z (wT Z bp) (yF Z Z Z) (oR Z (zV Z (Zj bp.out) Z) (oM Z Z (ifc uA ?_ ?_))))
 intro bq uB
 refine zj Z Z Z (wT Z bq) Z lS (rU Z (wT Z bq) (yF Z Z Z) (oR Z (zV Z (Zj bq.out) Z) (oM Z Z (ifc uB ?_ ?_))))
 intro aq uC
 refine zj Z Z Z (wT Z aq) Z lT (rU Z (wT Z aq) (ZH (pv:=[(0,jV 1),(1,jV 2)]) (z:=bi) (cs:=[jV 1,jV 2]) Z (wAC Z (wAC Z wAM)) Zz wFT Z Z) (rU Z (wT Z aq) (ZH (pv:=[(0,jV 1),(1,jV 3)]) (z:=bi) (cs:=[jV 1,jV 3]) Z (wAC Z (wAC Z wAM)) Zz wFT Z Z) (rU Z (wT Z aq) (ZH (pv:=[(0,jV 2),(1,jV 3)]) (z:=bi) (cs:=[jV 2,jV 3]) Z (wAC Z (wAC Z wAM)) Zz wFT Z Z) (zW (pv:=[(0,.agg #[jV 1,jV 2]),(1,.agg #[jV 1,jV 3]),(2,.agg #[jV 2,jV 3])]) (zs:=[jV 0,jV 0,jV 0,jV 0,jV 0,jV 0]) (cs:=[jV 1,jV 2,jV 1,jV 3,jV 2,jV 3]) Z Z Z (wT Z aq) Z (wAC Z (wAC Z (wAC Z wAM))) Zf Zu Zz Z Z Z Z Z bZ ?_))))
 intro cD gB qz
 let fq:Res:=.row (some ⟨gB,0,none⟩) 3 76 2 (hM wAb [(⟨1,2⟩:wAO),(⟨1,3⟩:wAO),(⟨2,3⟩:wAO)])
 have qA:sW w U bC [fq,bA,.blk ah 25 ag,.blk af 49 B2,.blk ac 49 B1] cD:=qz
 have q:=qA.freezeR (k:=1) (n:=bL.length) rfl (wAF (f:=wAb) (sz:=2) (fun _=>rfl) bL) (by decide)
 obtain ⟨jh,xL,vy,qB⟩:=q
 have qC:sW w U jh [fq,.blk ah 25 ag,.blk af 49 B2,.blk ac 49 B1] cD:=qB
 have q:=qC.freezeR (k:=0) (n:=[(⟨1,2⟩:wAO),(⟨1,3⟩:wAO),(⟨2,3⟩:wAO)].length) rfl (wAF (f:=wAb) (sz:=2) (fun _=>rfl) [(⟨1,2⟩:wAO),(⟨1,3⟩:wAO),(⟨2,3⟩:wAO)]) (by decide)
 obtain ⟨fC,ww,vz,qD⟩:=q
 have qE:sW w U fC [.blk ah 25 ag,.blk af 49 B2,.blk ac 49 B1] cD:=qD
 have mh:=vy.le ww
 refine bnK uC fun AC mj uD=>zL 0 Z Z Z (wT Z aq) (zK Z Z Tryz.call48 (zB Z (zB Z zM)) Z) qE (fun hs=>wEm bL cq cK [(⟨1,2⟩:wAO),(⟨1,3⟩:wAO),(⟨2,3⟩:wAO)] (some ⟨gB,0,none⟩) 3 cD fC hs mh vz mj) (.inr Z) ?_
 rintro fD w7 yy jZ xM qF ⟨rfl,rfl⟩
 have qG:sW w U fD [.blk ah 25 ag,.blk af 49 B2,.blk ac 49 B1] jZ:=qF
 refine oR Z (zV Z (Zj aq.out) Z) (oA Z Z (eN (zO ?_)))
 have hE:=nB uD;first | subst r | cases hE
 exact ⟨rfl,_,(zr rfl),fD,_,(qG.pick [] _ (by decide) rfl),rfl,rfl⟩
 intro aq uE
 refine oF Z aq (oF Z aq (oF Z aq (oF Z aq (ZA Z Z Z (zN Z Z (zw aq.out) Z) (ZA Z Z Z (zN Z Z (zw aq.out) Z) (oR Z (zZ Z (zw aq.out) Z) (oA Z Z (eN (zO ?_)))))))))
 have hE:=nB uE;first | subst r | cases hE
 exact ⟨rfl,_,(zr rfl),bC,_,(bZ.pick [] _ (by decide) rfl),rfl,rfl⟩
 intro bq uF
 refine oF Z bq (oF Z bq (oR Z (zZ Z (zw bq.out) Z) (oM Z Z (oN Z (oN Z (oN Z (oN Z (ZA Z Z Z (zN Z Z Z Z) (ZA Z Z Z (zN Z Z Z Z) (oR Z (zZ Z Z Z) (oA Z Z (eN (zO ?_)))))))))))))
 have hE:=nB uF;first | subst r | cases hE
 exact ⟨rfl,_,(zr rfl),bC,_,(bZ.pick [] _ (by decide) rfl),rfl,rfl⟩
 intro bp uG
 refine oF Z bp (oF Z bp (oR Z (zZ Z (zw bp.out) Z) (oM Z Z (oN Z (oN Z (oR Z (zZ Z Z Z) (oM Z Z (oN Z (oN Z (oN Z (oN Z (ZA Z Z Z (zN Z Z Z Z) (ZA Z Z Z (zN Z Z Z Z) (oR Z (zZ Z Z Z) (oA Z Z (eN (zO ?_)))))))))))))))))
 have hE:=nB uG;first | subst r | cases hE
 exact ⟨rfl,_,(zr rfl),bC,_,(bZ.pick [] _ (by decide) rfl),rfl,rfl⟩
 intro bn uH
 refine zd Z Z Z (zN Z Z (congrArg nE (nG.2 bn.out)) Z) (zd Z Z Z (zN Z Z (congrArg nE (nG.2 bn.out)) Z) (oR Z (zZ Z (congrArg nE (nG.2 bn.out)) Z) (oM Z Z (oN Z (oN Z (oR Z (zZ Z Z Z) (oM Z Z (oN Z (oN Z (oR Z (zZ Z Z Z) (oM Z Z (oN Z (oN Z (oN Z (oN Z (ZA Z Z Z (zN Z Z Z Z) (ZA Z Z Z (zN Z Z Z Z) (oR Z (zZ Z Z Z) (oA Z Z (eN (zO ?_)))))))))))))))))))))
 have hE:=nB uH;first | subst r | cases hE
 exact ⟨rfl,_,(zr rfl),bC,_,(bZ.pick [] _ (by decide) rfl),rfl,rfl⟩
 intro ba uI
 refine oF Z ba (ZA Z Z Z (zN Z Z (zw ba.out) Z) (ZA Z Z Z (zN Z Z (zw ba.out) Z) (oR Z (zZ Z (zw ba.out) Z) (oM Z Z (oN Z (oN Z (oR Z (zZ Z Z Z) (oM Z Z (oN Z (oN Z (oR Z (zZ Z Z Z) (oM Z Z (oN Z (oN Z (oR Z (zZ Z Z Z) (oM Z Z (oN Z (oN Z (oN Z (oN Z (ZA Z Z Z (zN Z Z Z Z) (ZA Z Z Z (zN Z Z Z Z) (oR Z (zZ Z Z Z) (oA Z Z (eN (zO ?_))))))))))))))))))))))))))
 have hE:=nB uI;first | subst r | cases hE
 exact ⟨rfl,_,(zr rfl),bB,_,(bY.pick [] _ (by decide) rfl),rfl,rfl⟩
 intro bm uJ
 refine oF Z bm (oF Z bm (oR Z (zZ Z (zw bm.out) Z) (oM Z Z (oN Z (ZA Z Z Z (zN Z Z Z Z) (ZA Z Z Z (zN Z Z Z Z) (oR Z (zZ Z Z Z) (oM Z Z (oN Z (oN Z (oR Z (zZ Z Z Z) (oM Z Z (oN Z (oN Z (oR Z (zZ Z Z Z) (oM Z Z (oN Z (oN Z (oR Z (zZ Z Z Z) (oM Z Z (oN Z (oN Z (oN Z (oN Z (ZA Z Z Z (zN Z Z Z Z) (ZA Z Z Z (zN Z Z Z Z) (oR Z (zZ Z Z Z) (oA Z Z (eN (zO ?_))))))))))))))))))))))))))))))
 have hE:=nB uJ;first | subst r | cases hE
 exact ⟨rfl,_,(zr rfl),bB,_,(bY.pick [] _ (by decide) rfl),rfl,rfl⟩
 intro bl uK
 refine oF Z bl (oF Z bl (oR Z (zZ Z (zw bl.out) Z) (oM Z Z (oN Z (oN Z (oR Z (zZ Z Z Z) (oM Z Z (oN Z (ZA Z Z Z (zN Z Z Z Z) (ZA Z Z Z (zN Z Z Z Z) (oR Z (zZ Z Z Z) (oM Z Z (oN Z (oN Z (oR Z (zZ Z Z Z) (oM Z Z (oN Z (oN Z (oR Z (zZ Z Z Z) (oM Z Z (oN Z (oN Z (oR Z (zZ Z Z Z) (oM Z Z (oN Z (oN Z (oN Z (oN Z (ZA Z Z Z (zN Z Z Z Z) (ZA Z Z Z (zN Z Z Z Z) (oR Z (zZ Z Z Z) (oA Z Z (eN (zO ?_))))))))))))))))))))))))))))))))))
 have hE:=nB uK;first | subst r | cases hE
 exact ⟨rfl,_,(zr rfl),bB,_,(bY.pick [] _ (by decide) rfl),rfl,rfl⟩
 intro bj uL
 refine oF Z bj (oF Z bj (oR Z (zZ Z (zw bj.out) Z) (oM Z Z (oN Z (oN Z (oR Z (zZ Z Z Z) (oM Z Z (oN Z (oN Z (oR Z (zZ Z Z Z) (oM Z Z (oN Z (ZA Z Z Z (zN Z Z Z Z) (ZA Z Z Z (zN Z Z Z Z) (oR Z (zZ Z Z Z) (oM Z Z (oN Z (oN Z (oR Z (zZ Z Z Z) (oM Z Z (oN Z (oN Z (oR Z (zZ Z Z Z) (oM Z Z (oN Z (oN Z (oR Z (zZ Z Z Z) (oM Z Z (oN Z (oN Z (oN Z (oN Z (ZA Z Z Z (zN Z Z Z Z) (ZA Z Z Z (zN Z Z Z Z) (oR Z (zZ Z Z Z) (oA Z Z (eN (zO ?_))))))))))))))))))))))))))))))))))))))
 have hE:=nB uL;first | subst r | cases hE
 exact ⟨rfl,_,(zr rfl),bB,_,(bY.pick [] _ (by decide) rfl),rfl,rfl⟩
end Go.Proofs.YtnbcoenjobdplaaGreat
namespace Go.Proofs.YtnbcoenjobdplaaGreat
open Go.KL
set_option maxHeartbeats 4000000
theorem wEq (p0:List Int) (fA:Option Addr) (fB:Nat) (p1:Int) (w:World) (U:PHeap) (hS:St0 w U []) (qm:Sl U 1 fA fB p0.length (hM KL.encB8 p0)) {r:Bool} (hm:wBx p0 p1=some r):Gv Tryz.prog 4 [.slice fA p0.length fB,jV p1] w (wBU w [] U (fun U_ L_ v=>v=.bool r/\L_=[])):=by
 unfold wBx at hm
 refine Gv.of Tryz.func4 Z Tryz.ntmps4 Tryz.results4 Z (sR fL1 Z (oA Z Z (eN (sR (.fl 0 (.fx 1 (.fx 2 (.fx 3 (.fx 4 .nil .stop) .stop) .stop) .stop)) Z (oM Z Z (bnK hm fun x1 h2 qM=>zL 0 Z Z Z Z (zK Z Z Tryz.call7 (zB Z zM) Z) hS (fun hs=>wHw p0 fA fB w U hs qm h2) (.inr Z) ?_))))))
 rintro U4 L5 v6 W7 sg qk ⟨dP,fH,gi,rfl,rfl,lK⟩
 have oE:sW w U U4 [.blk dP 100 [.slice fH x1.bytes.length gi,jV x1.next,.int .u32 x1.state]] W7:=qk
 have q:=bnd qM
 obtain ⟨⟨aa,fD⟩,lL,iL⟩:=q
 try dsimp only at iL
 refine zL 1 Z Z Z Z (zK Z Z Tryz.call6 (zB Z (zB Z (zB Z zM))) Z) oE (fun hs=>wGT x1 dP fH gi 8 4 W7 U4 hs lK lL) (.inl Z) ?_
 rintro fL sF tT jz ja oW ⟨an,ao,ai,am,gm,jp,jX,rfl,rfl,ey,tD⟩
 let B0:Res:=.blk dP 100 [.slice jp fD.bytes.length jX,jV fD.next,.int .u32 fD.state]
 let B1:Res:=.row an ao 3 1 (hM KL.encI aa.Rules.Classes)
 have pg:sW w U fL [B1,.row ai am 43 3 gm,B0] jz:=oW
 let B2:List Value:=[.slice none 0 0,jV 0,jV 0,jV 0,jV 0,jV 0,jV 0,.slice none 0 0]
 refine zz (cs:=B2) Z Z Z Z Z yB Z pg ?_
 intro s4 ah po
 let B3:List Value:=[.slice an aa.Rules.Classes.length ao,jV aa.Rules.Each,jV aa.Rules.Laps,jV aa.Rules.Spare,jV aa.Rules.Loop,jV aa.Rules.Unused,jV aa.Start,.slice ai aa.Teams.length am]
 refine zu (j:=0) (vs:=B3) Z Z Z Z po Z Z Z Z ZL (zC Z) Z Z Z ?_
 intro dK pt
 have io:sW w U fL [.blk ah 28 B3,B1,.row ai am 43 3 gm,B0] dK:=pt
 refine eN (zG (sR fL7 Z (oR Z (zJ Z Z ze Z ZU) (oL Z (io.ldB (j:=0) Z Z Z Zn (v:=.slice ai aa.Teams.length am) Z) ?_))))
 have q:=io.freezeRP (k:=2) rfl
 obtain ⟨br,dn,ie,ou,pF⟩:=q
 have tH:SlR br wFF ai am aa.Teams:=⟨_,ie.sl (RlL.len (ey).toL) (by decide),RlL.le (ey).toL dn⟩
 have ir:sW w U br [.blk ah 28 B3,B1,B0] dK:=pF
 obtain ⟨i9,lJ,jk⟩:=ey
 have oq:SlF br wME ai am aa.Teams (i9 ++ bks ai):=by have g:=(lJ.up (jk.stay dn));exact ⟨_,_,(ie.le (zH _)).sl (RlL.len g.toL) (by decide),g,rfl⟩
 have ov:Ows _ br ((i9 ++ bks ai)):=((jk.cat ou ja (zH _) dn).le (zH _)).perm (by intro b;first | rfl | (simp only [List.count_append,List.count_nil];omega))
 refine bnK iL fun ac eC qZ=>?_
 have q:=SlF.elC oq ov (wAR eC)
 obtain ⟨gg,jl,uf,tI,ib,eK,qx,iV,rM⟩:=q
 obtain ⟨dq,dr,bv,bw,tJ,rfl,gZ,g8,rfl⟩:=qx
 have tF:=gZ.sl (n:=ac.Classes.length) (wAF (f:=KL.encI) (sz:=1) (fun _=>rfl) _) (by decide)
 have tG:=g8.toR
 replace eK:Cl br gg (jl + 0 * 3) [jV ac.Bib,.slice dq ac.Classes.length dr,.slice bv ac.Legs.length bw]:=eK
 refine oR Z (zo Z Z ib Z ZC ZE (wAj eC)) (oR Z (zJ Z Z zk Z Zd) (oL Z (ir.ldC (f:=2) eK (v:=.slice bv ac.Legs.length bw) Z Z yE Z) (oR Z (za Z Z ZM) (oM Z Z (eN (zT ?_))))))
 have q:=St.openSl tk46 sg ir g8 iV.right
 obtain ⟨af,bZ,qg,iz,qp,i6⟩:=q
 have q:=rM (hbs af) (fun b hb=>List.mem_append_right _ (iz b hb))
 obtain ⟨eM,rN⟩:=q
 have n4:=(gZ.at (U':=br.dels (hbs af)) fun b hb=>PHeap.dels_at fun hm=>iV.apart ⟨hb,iz b hm⟩).sl (n:=ac.Classes.length) (wAF (f:=KL.encI) (sz:=1) (fun _=>rfl) _) (by decide)
 have tM:=PHeap.dels_le (ja.trans dn) qp
 have ql:sW w U (br.dels (hbs af)) [inn 3 1 KL.encI af (List.map (fun (x:wAA)=>x.Loops) ac.Legs),.blk ah 28 B3,B1,B0] dK:=qg
 replace eM:Cl (br.dels (hbs af)) gg (jl + 0 * 3) [jV ac.Bib,.slice dq ac.Classes.length dr,.slice bv ac.Legs.length bw]:=eM
 refine bnK qZ fun ak qz rL=>?_
 have q:=wAs qz
 obtain ⟨e8,qq⟩:=q
 replace e8:=zF e8
 refine CK.forN' (fun ae bg σ_ w_=>∃ (U_:PHeap),σ_ 35=jV (↑ae:Int)/\σ_ 1=jV p1/\σ_ 5=.pointer (some ⟨ah,0,none⟩)/\σ_ 33=.slice bv ac.Legs.length bw/\σ_ 34=jV (↑ac.Legs.length:Int)/\PHeap.Le (br.dels (hbs af)) U_/\sW w U U_ [inn 3 1 KL.encI af bg,B1,.blk ah 28 B3,B0] w_) qq ?_ ?_ ?_
 exact ⟨(br.dels (hbs af)),rfl,rfl,rfl,rfl,rfl,(zH _),(ql.pick [0,2,1,3] _ (by decide) rfl)⟩
 rintro ae bg uk ut sX eV ⟨bD,cZ,k6,k8,gw,gx,fe,eP⟩ r9
 have gh:Hid ((↑ae:Int) < (↑ac.Legs.length:Int)):=zF (wAo eV)
 replace eV:=zF eV
 have qD:Hid (w64 ((↑ae:Int) + 1)=(↑(ae + 1):Int)):=zF (by have h1:=e8.out;have h2:=gh.out;rw [wAT] <;> omega)
 refine sR fL1 Z (oR Z (zU Z cZ gx) (eN (zG (cT Z gh (kN (zG (zT (sR (wDE gCu) Z (oM Z cZ (bnK r9 fun bA bV qH=>?_))))))))))
 have gI:=i6.le fe
 have q:=gI.el (wMD bZ (wAR bV))
 obtain ⟨jN,sh,uc,n5,eH,rP⟩:=q
 obtain ⟨dx,dQ,rfl,tB⟩:=rP
 have eU:=eP.innFit (j:=0) rfl
 have iH:ae < bg.length:=by rw [<- eU.len,bZ];exact (nI.1 (wAR bV)).1
 replace eH:Cl bD jN (sh + ae * 3) [jV bA.Skier,.slice ((gd af ae).A) ((gd af ae).n) ((gd af ae).c),.slice dx bA.Bouts.length dQ]:=eH
 refine oR Z (zo Z gw n5 cZ ZM ZJ (wAj bV)) (oL Z (eP.ldCA (f:=0) eH Z Z yP ZJ (us:=[jV bA.Skier,.slice ((gd af ae).A) ((gd af ae).n) ((gd af ae).c),.slice dx bA.Bouts.length dQ]) Z Z) (zz (cs:=[jV 0,.slice none 0 0,.slice none 0 0]) Z Z Z Z Z ZT Z eP ?_))
 intro sY bj ow
 refine oA Z Z ?_
 let B4:List Value:=[jV bA.Skier,.slice ((gd af ae).A) ((gd af ae).n) ((gd af ae).c),.slice dx bA.Bouts.length dQ]
 refine zu (j:=0) (vs:=B4) Z Z Z Z ow Z Z Z Z ZJ (zC Z) Z Z Z ?_
 intro cQ ox
 have eQ:sW w U bD [.blk bj 46 B4,inn 3 1 KL.encI af bg,B1,.blk ah 28 B3,B0] cQ:=ox
 refine eN (sR fL4 Z (oR Z (zJ Z Z ZB Z zS) (oL Z (eQ.ldB (j:=0) Z Z Z zc (v:=.slice ((gd af ae).A) ((gd af ae).n) ((gd af ae).c)) Z) ?_)))
 have iA:=eQ.innFit (j:=1) rfl
 have iI:ae < bg.length:=nH iH (eU.len.symm.trans iA.len)
 have oy:sW w U bD [inn 3 1 KL.encI af bg,.blk bj 46 B4,B1,.blk ah 28 B3,B0] cQ:=eQ.pick [1,0,2,3,4] _ (by decide) rfl
 have oz:=oy.innTake (k:=ae) iI
 have oB:sW w U bD [.row ((gd af ae).A) ((gd af ae).c) 3 1 (hM KL.encI (gd bg ae)),wJu 3 1 KL.encI af bg ae,.blk bj 46 B4,B1,.blk ah 28 B3,B0] cQ:=oz
 refine oR Z (za Z (nO (b:=(.slice ((gd af ae).A) ((gd af ae).n) ((gd af ae).c):Value)) (c:=(.slice ((gd af ae).A) ((gd bg ae).length) ((gd af ae).c):Value)) Z (congrArg (fun n_=>nN ((gd af ae).A) n_ ((gd af ae).c)) (iA.at_ (k:=ae) iI))) zA) (oM Z Z (eN (zT ?_)))
 have oC:=oB.innBack0
 have oD:sW w U bD [inn 3 1 KL.encI af bg,.blk bj 46 B4,B1,.blk ah 28 B3,B0] cQ:=oC
 refine bnK qH fun ur qr qI=>?_
 have q:=wAs qr
 obtain ⟨e9,qs⟩:=q
 replace e9:=zF e9
 refine CK.forN' (fun bl au σ_ w_=>∃ (U_:PHeap),σ_ 43=jV (↑bl:Int)/\σ_ 1=jV p1/\σ_ 5=.pointer (some ⟨ah,0,none⟩)/\σ_ 6=jV (↑ae:Int)/\σ_ 7=.pointer (some ⟨bj,0,none⟩)/\σ_ 33=.slice bv ac.Legs.length bw/\σ_ 34=jV (↑ac.Legs.length:Int)/\σ_ 35=jV (↑ae:Int)/\σ_ 42=jV (↑((gd bg ae).length):Int)/\PHeap.Le bD U_/\sW w U U_ [inn 3 1 KL.encI af au,.blk bj 46 B4,B1,.blk ah 28 B3,B0] w_) qs ?_ ?_ ?_
 exact ⟨bD,Z,k6,k8,Z,Z,gw,gx,cZ,Z,(zH _),oD⟩
 rintro bl au ul uu fV eW ⟨dF,ep,gy,gz,gA,gB,k9,la,lb,gC,ff,oG⟩ sa
 have gj:Hid ((↑bl:Int) < (↑((gd bg ae).length):Int)):=zF (wAo eW)
 replace eW:=zF eW
 have qE:Hid (w64 ((↑bl:Int) + 1)=(↑(bl + 1):Int)):=zF (by have h1:=e9.out;have h2:=gj.out;rw [wAT] <;> omega)
 refine sR fL1 rfl (zh rfl rfl rfl rfl (fun _=>zU rfl ep gC) (eN (zG (cT Z gj (kN (zG (zT (sR fL2 rfl (zj rfl rfl rfl rfl rfl ep (yg rfl rfl rfl rfl rfl rfl (eN (ZY ZP [3,1,3,3,1,3,3,3,1,3,3,1,3,3,1,3,2,3,3,3,0] (wMe (.fx 16 (wMg (.fx 20 .nil .stop)) .stop)) (by kernel_rfl) ?_))))))))))))
 have bx:=oG.drew
 generalize hw_W186:({ fV with drawn:=fV.drawn + 1 }:World)=fW at bx ⊢
 refine oR Z (zJ Z gz ze Z ZU) (oL Z (bx.ldB (j:=3) Z Z Z Zn (v:=.slice ai aa.Teams.length am) Z) ?_)
 have lM:=eM.le fe
 have lN:=lM.le ff
 refine oR Z (zo Z Z ib Z ZC ZE (wAj eC)) (oR Z (zJ Z Z zk Z Zd) (oL Z (bx.ldC (f:=2) lN (v:=.slice bv ac.Legs.length bw) Z Z yE Z) (oM Z gA ?_)))
 have lP:=gI.le ff
 have q:=lP.el (wMD bZ (wAR bV))
 obtain ⟨jO,sj,ud,n7,eI,rQ⟩:=q
 obtain ⟨jo,jS,rfl,tC⟩:=rQ
 have iB:=bx.innFit (j:=0) rfl
 have qG:ae < au.length:=by rw [<- iB.len,bZ];exact (nI.1 (wAR bV)).1
 replace eI:Cl dF jO (sj + ae * 3) [jV bA.Skier,.slice ((gd af ae).A) ((gd af ae).n) ((gd af ae).c),.slice jo bA.Bouts.length jS]:=eI
 refine oR Z (zo Z Z n7 Z ZM ZJ (wAj bV)) (oR Z (zJ Z Z ZB Z zS) (oL Z (bx.ldC (f:=1) eI (v:=.slice ((gd af ae).A) ((gd af ae).n) ((gd af ae).c)) Z Z zc Z) (oM Z Z (oR Z (zJ Z gB ZB Z zS) (oL Z (bx.ldB (j:=1) Z Z Z zc (v:=.slice ((gd af ae).A) ((gd af ae).n) ((gd af ae).c)) Z) (oM Z Z ?_))))))
 have iC:=bx.innFit (j:=0) rfl
 have iJ:ae < au.length:=nH iH (eU.len.symm.trans iC.len)
 have oH:=bx.innTake (k:=ae) iJ
 let B5:Res:=.row ((gd af ae).A) ((gd af ae).c) 3 1 (hM KL.encI (gd au ae))
 have eR:sW w U dF [B5,wJu 3 1 KL.encI af au ae,.blk bj 46 B4,B1,.blk ah 28 B3,B0] fW:=oH
 refine bnK sa fun _ bX qJ=>?_
 obtain ⟨tf,c7⟩:=eR.rowSome (j:=0) rfl (by rw [wAF (f:=KL.encI) (sz:=1) (fun _=>rfl) (gd au ae)];have hz:=wAd bX;omega)
 refine oR Z (zo Z (nO (b:=(.slice ((gd af ae).A) ((gd af ae).n) ((gd af ae).c):Value)) (c:=(.slice ((gd af ae).A) ((gd au ae).length) ((gd af ae).c):Value)) Z (congrArg (fun n_=>nN ((gd af ae).A) n_ ((gd af ae).c)) (iC.at_ (k:=ae) iJ))) c7 Z zA zD (wAd bX)) ?_
 have qA:=wCX (xs:=(gd au ae)) (wAd bX)
 refine ZO rfl rfl rfl rfl (eR.ldR (j:=0) rfl c7 rfl rfl zP (wAp (sz:=1) (fun _=>rfl) _ _ 0 _ qA (by first | omega | rfl | simp) rfl)) rfl (zj rfl rfl rfl rfl rfl gy (bnK qJ fun du lQ qK=>zL 0 rfl rfl rfl rfl (zK rfl rfl Tryz.call10 (zB rfl (zB rfl zM)) rfl) eR (fun hs=>wHH p1 4000 fW dF hs lQ) (.inr rfl) ?_))
 rintro bQ sG tS dJ sc oI ⟨rfl,rfl⟩
 have ig:sW w U bQ [B5,wJu 3 1 KL.encI af au ae,.blk bj 46 B4,B1,.blk ah 28 B3,B0] dJ:=oI
 refine oR Z (zX Z Z Z) (oR Z (Runs.min Z Z Z) ?_)
 have q:=ig.innHFit (j:=1) rfl
 obtain ⟨qt,iU⟩:=q
 have iU:(gd au ae).length=(gd af ae).n:=nO rfl (qt.at_ (k:=ae) iU).symm
 have oJ:=ig.innBack0
 have ii:sW w U bQ [inn 3 1 KL.encI af au,.blk bj 46 B4,B1,.blk ah 28 B3,B0] dJ:=oJ
 have iD:=ii.innFit (j:=0) rfl
 have iK:ae < au.length:=nH qG (iB.len.symm.trans iD.len)
 have oK:=ii.innTake (k:=ae) iK
 have oO:sW w U bQ [B5,wJu 3 1 KL.encI af au ae,.blk bj 46 B4,B1,.blk ah 28 B3,B0] dJ:=oK
 refine oR Z (zo Z (nO (b:=(.slice ((gd af ae).A) ((gd af ae).n) ((gd af ae).c):Value)) (c:=(.slice ((gd af ae).A) ((gd au ae).length) ((gd af ae).c):Value)) Z (congrArg (fun n_=>nN ((gd af ae).A) n_ ((gd af ae).c)) (iD.at_ (k:=ae) iK))) c7 Z zA zD (wAd bX)) ?_
 have qB:=wCX (xs:=(gd au ae)) (wAd bX)
 refine OKS.stR (j:=0) (vs:=[jV (min 9000 (w64 ((gd (gd au ae) bl) + du)))]) (cs':=hM KL.encI (nD (gd au ae) bl (min 9000 (w64 ((gd (gd au ae) bl) + du))))) rfl rfl rfl rfl oO rfl c7 rfl rfl rfl zD (by rw [wAF (f:=KL.encI) (sz:=1) (fun _=>rfl)];have hz:=wAd bX;show _ + 1 <= _;first | omega | (simp only [Int.toNat_natCast];omega) | (simp only [nM,nK,nL];omega)) rfl (wFP (sz:=1) (fo:=0) (fun _=>rfl) _ _ _ _ qB (by first | omega | (simp only [Int.toNat_natCast];omega) | (simp only [nM,nK,nL];omega)) (zC rfl) rfl) rfl ?_
 intro fY oP
 have oQ:sW w U bQ [.row ((gd af ae).A) ((gd af ae).c) 3 1 (hM KL.encI (nD (gd au ae) bl (min 9000 (w64 ((gd (gd au ae) bl) + du))))),wJu 3 1 KL.encI af au ae,.blk bj 46 B4,B1,.blk ah 28 B3,B0] fY:=oP
 refine zg (zb (zI (rR fL2 Z (oR Z (zn (zX Z ep Z) (congrArg (jV) qE.out)) (oM Z Z (zg ?_))))))
 have oS:=oQ.innBack nJ
 have oU:sW w U bQ [inn 3 1 KL.encI af (nD au ae (nD (gd au ae) bl (min 9000 (w64 ((gd (gd au ae) bl) + du))))),.blk bj 46 B4,B1,.blk ah 28 B3,B0] fY:=oS
 cases qK
 exact zI ⟨Z,⟨bQ,Z,gy,gz,gA,gB,k9,la,lb,gC,(ff.trans sc),oU⟩⟩
 rintro uv sZ ⟨jq,lD,lc,lh,tq,tr,li,lj,lk,ll,sd,oV⟩
 have jT:Hid (¬ ((↑(((↑((gd bg ae).length):Int):Int) - 0).toNat:Int) < (↑((gd bg ae).length):Int))):=zF (wAa)
 refine sR fL1 Z (oR Z (zU Z lD ll) (eN (zG (cF Z jT (ZI (zY (zY (ZD (zb (zI (rR fL2 Z (oR Z (zn (zX Z lk Z) (congrArg (jV) qD.out)) (oM Z Z (zg ?_))))))))))))))
 cases qI
 exact zI ⟨rfl,⟨jq,rfl,lc,lh,li,lj,(fe.trans sd),(oV.pick [0,2,3,4] _ (by decide) rfl)⟩⟩
 rintro uw cR ⟨sU,lE,tt,cW,tu,lm,fg,ij⟩
 have jU:Hid (¬ ((↑(((↑ac.Legs.length:Int):Int) - 0).toNat:Int) < (↑ac.Legs.length:Int))):=zF (wAa)
 refine sR fL1 Z (oR Z (zU Z lE lm) (eN (zG (cF Z jU (ZI (zY (zY (ZD (zI (sR (.fl 0 (.fx 1 (wMf (.fx 5 (.fx 6 (.fl 7 .nil) .stop) .stop)) .stop)) Z (oL Z (ij.ldBA (j:=2) Z Z cW Zq ZL (vs:=B3) Z Z) ?_)))))))))))
 have q:=ij.freezeR (k:=1) (n:=aa.Rules.Classes.length) rfl (wAF (f:=KL.encI) (sz:=1) (fun _=>rfl) aa.Rules.Classes) (by decide)
 obtain ⟨jr,fh,rW,oX⟩:=q
 have oY:sW w U jr [inn 3 1 KL.encI af ak,.blk ah 28 B3,B0] cR:=oX
 have q:=St.freezeI oY (fun _=>rfl) (by decide)
 obtain ⟨bE,di,iE,qL,oZ⟩:=q
 have o0:sW w U bE [.blk ah 28 B3,B0] cR:=oZ
 have lR:=i6.le fg
 have lS:=lR.le fh
 have lT:=lS.le di
 have rX:SlR bE wFe bv bw (nA (fun (x:wAA) (l:List Int)=>(⟨x.Skier,l,x.Bouts⟩:wAA)) ac.Legs ak):=SlR.close (fun (x:wAA) (l:List Int)=>(⟨x.Skier,l,x.Bouts⟩:wAA)) (fun x h l vs=>wOq x h l vs) rfl lT bZ iE qL
 have lU:=n4.le fg
 have lV:=lU.le fh
 have lW:=lV.le di
 have rS:wFF.r bE (⟨ac.Bib,ac.Classes,(nA (fun (x:wAA) (l:List Int)=>(⟨x.Skier,l,x.Bouts⟩:wAA)) ac.Legs ak)⟩:wAD) [jV ac.Bib,.slice dq ac.Classes.length dr,.slice bv ac.Legs.length bw]:=⟨dq,dr,bv,bw,by simp only [List.length_zipWith,<- iE.len,bZ,Nat.min_self],lW,rX⟩
 have iX:SlR bE wFF ai am (nD aa.Teams 0 (⟨ac.Bib,ac.Classes,(nA (fun (x:wAA) (l:List Int)=>(⟨x.Skier,l,x.Bouts⟩:wAA)) ac.Legs ak)⟩:wAD)):=rN bE (⟨ac.Bib,ac.Classes,(nA (fun (x:wAA) (l:List Int)=>(⟨x.Skier,l,x.Bouts⟩:wAA)) ac.Legs ak)⟩:wAD) ((fg.trans fh).trans di) rS
 have o3:sW w U bE [.blk ah 28 [.slice an aa.Rules.Classes.length ao,jV aa.Rules.Each,jV aa.Rules.Laps,jV aa.Rules.Spare,jV aa.Rules.Loop,jV aa.Rules.Unused,jV aa.Start,.slice ai ((nD aa.Teams 0 (⟨ac.Bib,ac.Classes,(nA (fun (x:wAA) (l:List Int)=>(⟨x.Skier,l,x.Bouts⟩:wAA)) ac.Legs ak)⟩:wAD)).length) am],B0] cR:=by simpa only [B0,B3,nJ] using o0
 have gJ:=rW.le di
 have q:=bnd rL
 obtain ⟨⟨bh,sv⟩,lX,iM⟩:=q
 try dsimp only at iM
 refine zL 0 rfl rfl rfl rfl (zK rfl rfl Tryz.call8 (zB ((rfl:ev _ _=(.agg B3.toArray:Value)).trans (by simp only [B3,nJ])) zM) rfl) o3 (fun hs=>wJM (⟨aa.Rules,aa.Start,(nD aa.Teams 0 (⟨ac.Bib,ac.Classes,(nA (fun (x:wAA) (l:List Int)=>(⟨x.Skier,l,x.Bouts⟩:wAA)) ac.Legs ak)⟩:wAD))⟩:wAI) an ao ai am cR bE hs gJ iX lX) (.inr rfl) ?_
 rintro dG sH tU jA jb o5 ⟨bB,bG,cJ,cV,jW,rfl,rfl,lY⟩
 let B6:Res:=.row cJ cV 23 1 jW
 have o6:sW w U dG [.row bB bG 3 1 (hM KL.encI bh.Bibs),B6,.blk ah 28 [.slice an aa.Rules.Classes.length ao,jV aa.Rules.Each,jV aa.Rules.Laps,jV aa.Rules.Spare,jV aa.Rules.Loop,jV aa.Rules.Unused,jV aa.Start,.slice ai ((nD aa.Teams 0 (⟨ac.Bib,ac.Classes,(nA (fun (x:wAA) (l:List Int)=>(⟨x.Skier,l,x.Bouts⟩:wAA)) ac.Legs ak)⟩:wAD)).length) am],B0] jA:=o5
 refine oM Z Z (oR Z (zx Z Z (v:=.agg #[jV bh.Laps,.slice bB bh.Bibs.length bG,.slice cJ bh.Times.length cV]) Z) (oR Z (zx Z Z (v:=jV sv) Z) ?_))
 let B7:List Value:=[jV 0,.slice none 0 0,.slice none 0 0]
 refine zz (cs:=B7) Z Z Z Z Z yX Z o6 ?_
 intro s3 aq o7
 let B8:List Value:=[jV bh.Laps,.slice bB bh.Bibs.length bG,.slice cJ bh.Times.length cV]
 refine zu (j:=0) (vs:=B8) Z Z Z Z o7 Z Z Z Z Zc (zC Z) Z Z Z ?_
 intro fZ o8
 have ik:sW w U dG [.blk aq 34 B8,.row bB bG 3 1 (hM KL.encI bh.Bibs),B6,.blk ah 28 [.slice an aa.Rules.Classes.length ao,jV aa.Rules.Each,jV aa.Rules.Laps,jV aa.Rules.Spare,jV aa.Rules.Loop,jV aa.Rules.Unused,jV aa.Start,.slice ai ((nD aa.Teams 0 (⟨ac.Bib,ac.Classes,(nA (fun (x:wAA) (l:List Int)=>(⟨x.Skier,l,x.Bouts⟩:wAA)) ac.Legs ak)⟩:wAD)).length) am],B0] fZ:=o8
 refine oA Z Z (eN (sR (.fl 0 (.fx 1 (wFz (.nil)) .stop)) Z (oL Z (ik.ldBA (j:=3) Z Z cW Zq ZL (vs:=[.slice an aa.Rules.Classes.length ao,jV aa.Rules.Each,jV aa.Rules.Laps,jV aa.Rules.Spare,jV aa.Rules.Loop,jV aa.Rules.Unused,jV aa.Start,.slice ai ((nD aa.Teams 0 (⟨ac.Bib,ac.Classes,(nA (fun (x:wAA) (l:List Int)=>(⟨x.Skier,l,x.Bouts⟩:wAA)) ac.Legs ak)⟩:wAD)).length) am]) Z Z) ?_)))
 have gK:=gJ.le jb
 have gM:=iX.le jb
 have q:=bnd iM
 obtain ⟨⟨aZ,sw⟩,lZ,iN⟩:=q
 try dsimp only at iN
 refine zL 0 Z Z Z Z (zK Z Z Tryz.call13 (zB Z zM) Z) ik (fun hs=>wIA (⟨aa.Rules,aa.Start,(nD aa.Teams 0 (⟨ac.Bib,ac.Classes,(nA (fun (x:wAA) (l:List Int)=>(⟨x.Skier,l,x.Bouts⟩:wAA)) ac.Legs ak)⟩:wAD))⟩:wAI) an ao ai am fZ dG hs gK gM lZ) (.inr Z) ?_
 rintro fM sI tV gb fj o9 ⟨bm,bn,rfl,rfl⟩
 have il:sW w U fM [.row bm bn 65 4 (hM wAN aZ),.blk aq 34 B8,.row bB bG 3 1 (hM KL.encI bh.Bibs),B6,.blk ah 28 [.slice an aa.Rules.Classes.length ao,jV aa.Rules.Each,jV aa.Rules.Laps,jV aa.Rules.Spare,jV aa.Rules.Loop,jV aa.Rules.Unused,jV aa.Start,.slice ai ((nD aa.Teams 0 (⟨ac.Bib,ac.Classes,(nA (fun (x:wAA) (l:List Int)=>(⟨x.Skier,l,x.Bouts⟩:wAA)) ac.Legs ak)⟩:wAD)).length) am],B0] gb:=o9
 refine oM Z Z (oR Z (zx Z Z (v:=.slice bm aZ.length bn) Z) (oR Z (zx Z Z (v:=jV sw) Z) (oA Z Z (oA Z Z (eN (sR (.fl 0 (.fx 1 (wFz (.nil)) .stop)) Z (oL Z (il.ldBA (j:=4) Z Z cW Zq ZL (vs:=[.slice an aa.Rules.Classes.length ao,jV aa.Rules.Each,jV aa.Rules.Laps,jV aa.Rules.Spare,jV aa.Rules.Loop,jV aa.Rules.Unused,jV aa.Start,.slice ai ((nD aa.Teams 0 (⟨ac.Bib,ac.Classes,(nA (fun (x:wAA) (l:List Int)=>(⟨x.Skier,l,x.Bouts⟩:wAA)) ac.Legs ak)⟩:wAD)).length) am]) Z Z) ?_)))))))
 have gO:=gK.le fj
 have gP:=gM.le fj
 have q:=bnd iN
 obtain ⟨⟨av,sA⟩,l4,iO⟩:=q
 try dsimp only at iO
 refine zL 0 Z Z Z Z (zK Z Z Tryz.call14 (zB Z zM) Z) il (fun hs=>wEl (⟨aa.Rules,aa.Start,(nD aa.Teams 0 (⟨ac.Bib,ac.Classes,(nA (fun (x:wAA) (l:List Int)=>(⟨x.Skier,l,x.Bouts⟩:wAA)) ac.Legs ak)⟩:wAD))⟩:wAI) an ao ai am gb fM hs gO gP l4) (.inr Z) ?_
 rintro cM sJ tW cS fk pa ⟨aw,ay,rfl,rfl⟩
 have cy:sW w U cM [.row aw ay 70 3 (hM wAG av),.row bm bn 65 4 (hM wAN aZ),.blk aq 34 B8,.row bB bG 3 1 (hM KL.encI bh.Bibs),B6,.blk ah 28 [.slice an aa.Rules.Classes.length ao,jV aa.Rules.Each,jV aa.Rules.Laps,jV aa.Rules.Spare,jV aa.Rules.Loop,jV aa.Rules.Unused,jV aa.Start,.slice ai ((nD aa.Teams 0 (⟨ac.Bib,ac.Classes,(nA (fun (x:wAA) (l:List Int)=>(⟨x.Skier,l,x.Bouts⟩:wAA)) ac.Legs ak)⟩:wAD)).length) am],B0] cS:=pa
 refine oM Z Z (oR Z (zx Z Z (v:=.slice aw av.length ay) Z) (oR Z (zx Z Z (v:=jV sA) Z) (oA Z Z (oA Z Z (eN (zG (sR wMj Z (oM Z Z (oR Z (ZW Z Z Z) (oM Z Z (ifc iO ?_ ?_)))))))))))
 intro bH qN
 refine zj Z Z Z (zQ Z Z (zw (fun h=>h bH.out))) Z Z (zh Z Z Z (zQ Z Z (zw (fun h=>h bH.out))) (fun _=>ZW Z Z Z) (oR Z (zZ Z (zw (fun h=>h bH.out)) Z) (oM Z Z (ifc qN ?_ ?_))))
 intro bI qO
 refine zj Z Z Z (zQ Z Z (zw (fun h=>h bI.out))) Z Z (zh Z Z Z (zQ Z Z (zw (fun h=>h bI.out))) (fun _=>ZW Z Z Z) (oR Z (zZ Z (zw (fun h=>h bI.out)) Z) (eN (ifc qO ?_ ?_))))
 intro dR qP
 refine zm (zw (fun h=>h dR.out)) (kN (sR (.fl 0 (.fx 1 (wFz (.nil)) .stop)) Z (oL Z (cy.ldBA (j:=2) Z Z Z yH Zc (vs:=B8) Z Z) ?_)))
 have q:=cy.freezeR (k:=3) (n:=bh.Bibs.length) rfl (wAF (f:=KL.encI) (sz:=1) (fun _=>rfl) bh.Bibs) (by decide)
 obtain ⟨jt,fm,rY,pb⟩:=q
 have pd:sW w U jt [.row aw ay 70 3 (hM wAG av),.row bm bn 65 4 (hM wAN aZ),.blk aq 34 B8,B6,.blk ah 28 [.slice an aa.Rules.Classes.length ao,jV aa.Rules.Each,jV aa.Rules.Laps,jV aa.Rules.Spare,jV aa.Rules.Loop,jV aa.Rules.Unused,jV aa.Start,.slice ai ((nD aa.Teams 0 (⟨ac.Bib,ac.Classes,(nA (fun (x:wAA) (l:List Int)=>(⟨x.Skier,l,x.Bouts⟩:wAA)) ac.Legs ak)⟩:wAD)).length) am],B0] cS:=pb
 have l5:=lY.le fj
 have l6:=l5.le fk
 have l7:=l6.le fm
 have q:=pd.freezeRR (R:=wDT) (k:=3) rfl l7 rfl (by decide)
 obtain ⟨fN,fq,rZ,pe⟩:=q
 have pf:sW w U fN [.row aw ay 70 3 (hM wAG av),.row bm bn 65 4 (hM wAN aZ),.blk aq 34 B8,.blk ah 28 [.slice an aa.Rules.Classes.length ao,jV aa.Rules.Each,jV aa.Rules.Laps,jV aa.Rules.Spare,jV aa.Rules.Loop,jV aa.Rules.Unused,jV aa.Start,.slice ai ((nD aa.Teams 0 (⟨ac.Bib,ac.Classes,(nA (fun (x:wAA) (l:List Int)=>(⟨x.Skier,l,x.Bouts⟩:wAA)) ac.Legs ak)⟩:wAD)).length) am],B0] cS:=pe
 have l8:=rY.le fq
 have q:=bnd qP
 obtain ⟨⟨bN,jm⟩,ma,iP⟩:=q
 try dsimp only at iP
 refine zL 0 Z Z Z Z (zK Z Z Tryz.call15 (zB Z zM) Z) pf (fun hs=>wFD bh bB bG cJ cV cS fN hs l8 rZ ma) (.inr Z) ?_
 rintro fO sK tX cU jc ph ⟨cd,cp,rfl,rfl⟩
 have im:sW w U fO [.row cd cp 65 4 (hM wAN bN),.row aw ay 70 3 (hM wAG av),.row bm bn 65 4 (hM wAN aZ),.blk aq 34 B8,.blk ah 28 [.slice an aa.Rules.Classes.length ao,jV aa.Rules.Each,jV aa.Rules.Laps,jV aa.Rules.Spare,jV aa.Rules.Loop,jV aa.Rules.Unused,jV aa.Start,.slice ai ((nD aa.Teams 0 (⟨ac.Bib,ac.Classes,(nA (fun (x:wAA) (l:List Int)=>(⟨x.Skier,l,x.Bouts⟩:wAA)) ac.Legs ak)⟩:wAD)).length) am],B0] cU:=ph
 refine oM Z Z (oR Z (zx Z Z (v:=.slice cd bN.length cp) Z) (oR Z (zx Z Z (v:=jV jm) Z) (oA Z Z (oA Z Z (eN (zG (zG (ya fun cI b4=>?_))))))))
 have gD:cI 5=.pointer (some ⟨ah,0,none⟩):=(b4 5).trans cW
 have ln:cI 10=jV jm:=(b4 10).trans rfl
 have gE:cI 11=.slice bm aZ.length bn:=(b4 11).trans rfl
 have lq:cI 13=.slice aw av.length ay:=(b4 13).trans rfl
 have lu:cI 15=.slice cd bN.length cp:=(b4 15).trans rfl
 clear b4
 refine rR (wHS (.fx 5 (.fl 6 (.fl 7 .nil)) .stop)) Z (oM Z ln (oR Z (ZW Z Z Z) (oM Z Z (ifc iP ?_ ?_))))
 intro bp qQ
 refine zj Z Z Z (zQ Z Z (zw (fun h=>h bp.out))) Z gE (zj Z Z Z (zQ Z Z (zw (fun h=>h bp.out))) Z lu ?_)
 have q:=im.freezeR (k:=2) (n:=aZ.length) rfl (wAF (f:=wAN) (sz:=4) (fun _=>rfl) aZ) (by decide)
 obtain ⟨ju,jd,r6,pi⟩:=q
 have pm:sW w U ju [.row cd cp 65 4 (hM wAN bN),.row aw ay 70 3 (hM wAG av),.blk aq 34 B8,.blk ah 28 [.slice an aa.Rules.Classes.length ao,jV aa.Rules.Each,jV aa.Rules.Laps,jV aa.Rules.Spare,jV aa.Rules.Loop,jV aa.Rules.Unused,jV aa.Start,.slice ai ((nD aa.Teams 0 (⟨ac.Bib,ac.Classes,(nA (fun (x:wAA) (l:List Int)=>(⟨x.Skier,l,x.Bouts⟩:wAA)) ac.Legs ak)⟩:wAD)).length) am],B0] cU:=pi
 have q:=pm.freezeR (k:=0) (n:=bN.length) rfl (wAF (f:=wAN) (sz:=4) (fun _=>rfl) bN) (by decide)
 obtain ⟨fP,ft,r7,pn⟩:=q
 have pp:sW w U fP [.row aw ay 70 3 (hM wAG av),.blk aq 34 B8,.blk ah 28 [.slice an aa.Rules.Classes.length ao,jV aa.Rules.Each,jV aa.Rules.Laps,jV aa.Rules.Spare,jV aa.Rules.Loop,jV aa.Rules.Unused,jV aa.Start,.slice ai ((nD aa.Teams 0 (⟨ac.Bib,ac.Classes,(nA (fun (x:wAA) (l:List Int)=>(⟨x.Skier,l,x.Bouts⟩:wAA)) ac.Legs ak)⟩:wAD)).length) am],B0] cU:=pn
 have eB:=r6.le ft
 refine bnK qQ fun ug mb qR=>zL 0 Z Z Z (zQ Z Z (zw (fun h=>h bp.out))) (zK Z Z Tryz.call16 (zB Z (zB Z zM)) Z) pp (fun hs=>wEZ aZ bm bn bN cd cp cU fP hs eB r7 mb) (.inr Z) ?_
 rintro dH sL tY gc dm pq ⟨rfl,rfl⟩
 have eS:sW w U dH [.row aw ay 70 3 (hM wAG av),.blk aq 34 B8,.blk ah 28 [.slice an aa.Rules.Classes.length ao,jV aa.Rules.Each,jV aa.Rules.Laps,jV aa.Rules.Spare,jV aa.Rules.Loop,jV aa.Rules.Unused,jV aa.Start,.slice ai ((nD aa.Teams 0 (⟨ac.Bib,ac.Classes,(nA (fun (x:wAA) (l:List Int)=>(⟨x.Skier,l,x.Bouts⟩:wAA)) ac.Legs ak)⟩:wAD)).length) am],B0] gc:=pq
 refine zh Z Z Z (zQ Z Z (zw (fun h=>h bp.out))) (fun _=>ZN Z Z) (oR Z (zZ Z (zw (fun h=>h bp.out)) Z) (eN (ifc qR ?_ ?_)))
 intro dS qS
 refine zm (nC dS.out) (kN (sR (.fl 0 (.fx 1 gCt .stop)) Z (oL Z (eS.ldBA (j:=2) Z Z gD Zq ZL (vs:=[.slice an aa.Rules.Classes.length ao,jV aa.Rules.Each,jV aa.Rules.Laps,jV aa.Rules.Spare,jV aa.Rules.Loop,jV aa.Rules.Unused,jV aa.Start,.slice ai ((nD aa.Teams 0 (⟨ac.Bib,ac.Classes,(nA (fun (x:wAA) (l:List Int)=>(⟨x.Skier,l,x.Bouts⟩:wAA)) ac.Legs ak)⟩:wAD)).length) am]) Z Z) ?_)))
 have mc:=gO.le fk
 have md:=mc.le fm
 have me:=md.le fq
 have mf:=me.le jc
 have mg:=mf.le jd
 have mh:=mg.le ft
 have mj:=mh.le dm
 have ml:=gP.le fk
 have mm:=ml.le fm
 have mn:=mm.le fq
 have mo:=mn.le jc
 have mp:=mo.le jd
 have mq:=mp.le ft
 have gQ:=mq.le dm
 refine bnK qS fun ag mr qT=>zL 0 Z Z Z Z (zK Z Z Tryz.call9 (zB Z zM) Z) eS (fun hs=>wGI (⟨aa.Rules,aa.Start,(nD aa.Teams 0 (⟨ac.Bib,ac.Classes,(nA (fun (x:wAA) (l:List Int)=>(⟨x.Skier,l,x.Bouts⟩:wAA)) ac.Legs ak)⟩:wAD))⟩:wAI) an ao ai am gc dH hs mj gQ mr) (.inr Z) ?_
 rintro cm sM tZ jB fu pu ⟨ax,az,fI,gq,jY,rfl,rfl,tE⟩
 let B9:Res:=.row fI gq 43 3 jY
 have py:sW w U cm [.row ax az 3 1 (hM KL.encI ag.Rules.Classes),B9,.row aw ay 70 3 (hM wAG av),.blk aq 34 B8,.blk ah 28 [.slice an aa.Rules.Classes.length ao,jV aa.Rules.Each,jV aa.Rules.Laps,jV aa.Rules.Spare,jV aa.Rules.Loop,jV aa.Rules.Unused,jV aa.Start,.slice ai ((nD aa.Teams 0 (⟨ac.Bib,ac.Classes,(nA (fun (x:wAA) (l:List Int)=>(⟨x.Skier,l,x.Bouts⟩:wAA)) ac.Legs ak)⟩:wAD)).length) am],B0] jB:=pu
 refine zz (cs:=B2) Z Z Z Z Z yB Z py ?_
 intro s5 aX pz
 let fJ:List Value:=[.slice ax ag.Rules.Classes.length az,jV ag.Rules.Each,jV ag.Rules.Laps,jV ag.Rules.Spare,jV ag.Rules.Loop,jV ag.Rules.Unused,jV ag.Start,.slice fI ag.Teams.length gq]
 refine zu (j:=0) (vs:=fJ) Z Z Z Z pz Z Z Z Z ZL (zC Z) Z Z Z ?_
 intro jC pC
 have pD:sW w U cm [.blk aX 28 fJ,.row ax az 3 1 (hM KL.encI ag.Rules.Classes),B9,.row aw ay 70 3 (hM wAG av),.blk aq 34 B8,.blk ah 28 [.slice an aa.Rules.Classes.length ao,jV aa.Rules.Each,jV aa.Rules.Laps,jV aa.Rules.Spare,jV aa.Rules.Loop,jV aa.Rules.Unused,jV aa.Start,.slice ai ((nD aa.Teams 0 (⟨ac.Bib,ac.Classes,(nA (fun (x:wAA) (l:List Int)=>(⟨x.Skier,l,x.Bouts⟩:wAA)) ac.Legs ak)⟩:wAD)).length) am],B0] jC:=pC
 refine eN (sR (.fl 0 (.fx 1 .nil .stop)) Z (oR Z (zJ Z Z ze Z ZU) (zu (j:=0) (vs:=[.slice none 0 0]) Z Z Z Z pD Z Z Z Z ZU (zC Z) Z Z Z ?_)))
 intro jD pE
 have ip:sW w U cm [.blk aX 28 [.slice ax ag.Rules.Classes.length az,jV ag.Rules.Each,jV ag.Rules.Laps,jV ag.Rules.Spare,jV ag.Rules.Loop,jV ag.Rules.Unused,jV ag.Start,.slice none 0 0],.row ax az 3 1 (hM KL.encI ag.Rules.Classes),B9,.row aw ay 70 3 (hM wAG av),.blk aq 34 B8,.blk ah 28 [.slice an aa.Rules.Classes.length ao,jV aa.Rules.Each,jV aa.Rules.Laps,jV aa.Rules.Spare,jV aa.Rules.Loop,jV aa.Rules.Unused,jV aa.Start,.slice ai ((nD aa.Teams 0 (⟨ac.Bib,ac.Classes,(nA (fun (x:wAA) (l:List Int)=>(⟨x.Skier,l,x.Bouts⟩:wAA)) ac.Legs ak)⟩:wAD)).length) am],B0] jD:=pE
 refine eN (zG (sR fL4 Z (oR Z (zJ Z gD ze Z ZU) (oL Z (ip.ldB (j:=5) Z Z Z Zn (v:=.slice ai ((nD aa.Teams 0 (⟨ac.Bib,ac.Classes,(nA (fun (x:wAA) (l:List Int)=>(⟨x.Skier,l,x.Bouts⟩:wAA)) ac.Legs ak)⟩:wAD)).length) am) Z) (oR Z (za Z Z ZC) (oM Z Z (eN (zT (bnK qT fun dw qu dg=>?_)))))))))
 have q:=wAs qu
 obtain ⟨fb,qv⟩:=q
 replace fb:=zF fb
 refine CK.forN' (fun ca cc σ_ w_=>∃ (U_:PHeap) (bC:Option Addr) (bJ:Nat) (ct:List Value),σ_ 112=jV (↑ca:Int)/\σ_ 11=.slice bm aZ.length bn/\σ_ 13=.slice aw av.length ay/\σ_ 16=.pointer (some ⟨aX,0,none⟩)/\σ_ 110=.slice ai ((nD aa.Teams 0 (⟨ac.Bib,ac.Classes,(nA (fun (x:wAA) (l:List Int)=>(⟨x.Skier,l,x.Bouts⟩:wAA)) ac.Legs ak)⟩:wAD)).length) am/\σ_ 111=jV (↑((nD aa.Teams 0 (⟨ac.Bib,ac.Classes,(nA (fun (x:wAA) (l:List Int)=>(⟨x.Skier,l,x.Bouts⟩:wAA)) ac.Legs ak)⟩:wAD)).length):Int)/\PHeap.Le cm U_/\sW w U U_ [.row ax az 3 1 (hM KL.encI ag.Rules.Classes),.row bC bJ 43 3 ct,.blk aX 28 [.slice ax ag.Rules.Classes.length az,jV ag.Rules.Each,jV ag.Rules.Laps,jV ag.Rules.Spare,jV ag.Rules.Loop,jV ag.Rules.Unused,jV ag.Start,.slice bC cc.length bJ],.blk aq 34 B8,.blk ah 28 [.slice an aa.Rules.Classes.length ao,jV aa.Rules.Each,jV aa.Rules.Laps,jV aa.Rules.Spare,jV aa.Rules.Loop,jV aa.Rules.Unused,jV aa.Start,.slice ai ((nD aa.Teams 0 (⟨ac.Bib,ac.Classes,(nA (fun (x:wAA) (l:List Int)=>(⟨x.Skier,l,x.Bouts⟩:wAA)) ac.Legs ak)⟩:wAD)).length) am],B0,.row aw ay 70 3 (hM wAG av)] w_/\RlL U_ wFF cc ct) qv ?_ ?_ ?_
 have pG:=ip.nilrow 43 3
 exact ⟨cm,none,0,[],rfl,gE,lq,rfl,rfl,rfl,(zH _),(pG.pick [2,0,1,5,6,7,4] _ (by decide) rfl),RlL.nil⟩
 rintro ca cc um ux s6 eX ⟨fR,bC,bJ,ct,c6,d7,gF,cX,d8,d9,dp,iq,gS⟩ sb
 have gr:Hid ((↑ca:Int) < (↑((nD aa.Teams 0 (⟨ac.Bib,ac.Classes,(nA (fun (x:wAA) (l:List Int)=>(⟨x.Skier,l,x.Bouts⟩:wAA)) ac.Legs ak)⟩:wAD)).length):Int)):=zF (wAo eX)
 replace eX:=zF eX
 have iF:Hid (w64 ((↑ca:Int) + 1)=(↑(ca + 1):Int)):=zF (by have h1:=fb.out;have h2:=gr.out;rw [wAT] <;> omega)
 refine sR fL1 Z (oR Z (zU Z c6 d9) (eN (zG (cT Z gr (kN (zG (zT (sR gCw Z (bnK sb fun be gT qU=>?_)))))))))
 have ms:=gQ.le fu
 have mu:=ms.le dp
 have q:=mu.el (wAR gT)
 obtain ⟨jP,sm,ue,n8,eJ,rT⟩:=q
 obtain ⟨cD,cG,cE,cH,rfl,mw,mx⟩:=rT
 replace eJ:Cl fR jP (sm + ca * 3) [jV be.Bib,.slice cD be.Classes.length cG,.slice cE be.Legs.length cH]:=eJ
 refine oR Z (zo Z d8 n8 c6 ZC ZE (wAj gT)) (oL Z (iq.ldCA (f:=0) eJ Z Z yC ZE (us:=[jV be.Bib,.slice cD be.Classes.length cG,.slice cE be.Legs.length cH]) Z Z) (zz (cs:=B7) Z Z Z Z Z Zb Z iq ?_))
 intro s7 bS pH
 let bt:List Value:=[jV be.Bib,.slice cD be.Classes.length cG,.slice cE be.Legs.length cH]
 refine zu (j:=0) (vs:=bt) Z Z Z Z pH Z Z Z Z ZE (zC Z) Z Z Z ?_
 intro dL pI
 let ci:Res:=.blk aX 28 [.slice ax ag.Rules.Classes.length az,jV ag.Rules.Each,jV ag.Rules.Laps,jV ag.Rules.Spare,jV ag.Rules.Loop,jV ag.Rules.Unused,jV ag.Start,.slice bC cc.length bJ]
 let cK:Res:=.row bC bJ 43 3 ct
 have pJ:sW w U fR [.blk bS 43 bt,.row ax az 3 1 (hM KL.encI ag.Rules.Classes),cK,ci,.blk aq 34 B8,.blk ah 28 [.slice an aa.Rules.Classes.length ao,jV aa.Rules.Each,jV aa.Rules.Laps,jV aa.Rules.Spare,jV aa.Rules.Loop,jV aa.Rules.Unused,jV aa.Start,.slice ai ((nD aa.Teams 0 (⟨ac.Bib,ac.Classes,(nA (fun (x:wAA) (l:List Int)=>(⟨x.Skier,l,x.Bouts⟩:wAA)) ac.Legs ak)⟩:wAD)).length) am],B0,.row aw ay 70 3 (hM wAG av)] dL:=pI
 refine eN (sR gCx Z (oM Z d7 ?_))
 have q:=pJ.freeze (k:=0) rfl
 obtain ⟨cN,bL,bY,pK⟩:=q
 replace bY:=Cl.of bY
 have pL:sW w U cN [.row ax az 3 1 (hM KL.encI ag.Rules.Classes),cK,ci,.blk aq 34 B8,.blk ah 28 [.slice an aa.Rules.Classes.length ao,jV aa.Rules.Each,jV aa.Rules.Laps,jV aa.Rules.Spare,jV aa.Rules.Loop,jV aa.Rules.Unused,jV aa.Start,.slice ai ((nD aa.Teams 0 (⟨ac.Bib,ac.Classes,(nA (fun (x:wAA) (l:List Int)=>(⟨x.Skier,l,x.Bouts⟩:wAA)) ac.Legs ak)⟩:wAD)).length) am],B0,.row aw ay 70 3 (hM wAG av)] dL:=pK
 replace bY:Cl cN bS 0 bt:=bY
 refine oR Z (yW Z zM (zB Z zM)) ?_
 have my:=eB.le dm
 have mz:=my.le fu
 have mA:=mz.le dp
 have mB:=mA.le bL
 have gU:=mw.le bL
 have gV:=mx.le bL
 have oh:FnOK Tryz.prog cN (.func (.func 18) #[] #[.pointer (some ⟨bS,0,none⟩)]) ar67 rr67 (fun x=>wAg x be):=⟨18,[],[.pointer (some ⟨bS,0,none⟩)],rfl,Tryz.call18,fun U1 w1 x y vs le hs ha hm=>by obtain rfl:=ha;exact wEa x be bS cD cG cE cH w1 U1 hs (bY.le le) (gU.le le) (gV.le le) hm⟩
 refine bnK qU fun uh mC qV=>zL 0 Z Z Z Z (zK Z Z Tryz.call17 (zB Z (zB Z zM)) Z) pL (fun hs=>wDQ aZ bm bn (fun x=>wAg x be) (.func (.func 18) #[] #[.pointer (some ⟨bS,0,none⟩)]) dL cN hs mB oh mC) (.inr Z) ?_
 rintro bF sO t2 jE bM pM ⟨rfl,rfl⟩
 have c9:sW w U bF [.row ax az 3 1 (hM KL.encI ag.Rules.Classes),cK,ci,.blk aq 34 B8,.blk ah 28 [.slice an aa.Rules.Classes.length ao,jV aa.Rules.Each,jV aa.Rules.Laps,jV aa.Rules.Spare,jV aa.Rules.Loop,jV aa.Rules.Unused,jV aa.Start,.slice ai ((nD aa.Teams 0 (⟨ac.Bib,ac.Classes,(nA (fun (x:wAA) (l:List Int)=>(⟨x.Skier,l,x.Bouts⟩:wAA)) ac.Legs ak)⟩:wAD)).length) am],B0,.row aw ay 70 3 (hM wAG av)] jE:=pM
 refine oR Z (ZN Z Z) (eN (ifc qV ?_ ?_))
 intro dT qW
 refine zm (nC dT.out) (ZV (zb (zI (rR fL2 Z (oR Z (zn (zX Z c6 Z) (congrArg (jV) iF.out)) (oM Z Z (zg ?_)))))))
 cases qW
 have mD:=gS.le bL
 have mE:=mD.le bM
 exact zI ⟨Z,⟨bF,bC,bJ,ct,Z,d7,gF,cX,d8,d9,((dp.trans bL).trans bM),c9,mE⟩⟩
 intro dT qX
 refine ZF (nF (dT.out)) (rR (wDE (.fx 3 (.fx 4 (.fl 5 (.fx 6 .nil .stop)) .stop) .stop)) Z (oR Z (zJ Z cX ze Z ZU) (oL Z (c9.ldB (j:=2) Z Z Z Zn (v:=.slice bC cc.length bJ) Z) ?_)))
 have mF:=bY.le bM
 refine oL Z (c9.ldCA (f:=0) mF Z Z yC ZE (us:=bt) Z Z) (zW (pv:=[(0,.agg bt.toArray)]) (zs:=B7) (cs:=bt) Z Z Z Z Z (wAC Z wAM) ZC ZE Zb Z Z Z Z Z c9 ?_)
 intro jF jQ pN
 have mG:=gU.le bM
 have mH:=gV.le bM
 have iW:RlL bF wFF [be] bt:=(RlL.cons (R:=wFF) (x:=be) (vs:=bt) ⟨cD,cG,cE,cH,rfl,mG,mH⟩ RlL.nil)
 let dz:Res:=.row (some ⟨jQ,0,none⟩) 1 43 3 bt
 have it:sW w U bF [dz,.row ax az 3 1 (hM KL.encI ag.Rules.Classes),cK,ci,.blk aq 34 B8,.blk ah 28 [.slice an aa.Rules.Classes.length ao,jV aa.Rules.Each,jV aa.Rules.Laps,jV aa.Rules.Spare,jV aa.Rules.Loop,jV aa.Rules.Unused,jV aa.Start,.slice ai ((nD aa.Teams 0 (⟨ac.Bib,ac.Classes,(nA (fun (x:wAA) (l:List Int)=>(⟨x.Skier,l,x.Bouts⟩:wAA)) ac.Legs ak)⟩:wAD)).length) am],B0,.row aw ay 70 3 (hM wAG av)] jF:=pN
 refine bnK qX fun fE mI qY=>?_
 have mJ:=gS.le bL
 have mK:=mJ.le bM
 refine OKS.appendR (R:=wFF) (j:=2) (xs:=cc) (ys:=[be]) (zs:=fE) rfl rfl rfl rfl rfl Tryz.underlying26 wKb rfl rfl rfl rfl rfl rfl rfl it rfl rfl rfl mK iW (it.srcR (j:=0) rfl (by decide) (RlL.len iW)) mI rfl ?_
 intro cg cq dZ jG pO rV
 have pP:sW w U bF [dz,.row ax az 3 1 (hM KL.encI ag.Rules.Classes),.row cg cq 43 3 dZ,ci,.blk aq 34 B8,.blk ah 28 [.slice an aa.Rules.Classes.length ao,jV aa.Rules.Each,jV aa.Rules.Laps,jV aa.Rules.Spare,jV aa.Rules.Loop,jV aa.Rules.Unused,jV aa.Start,.slice ai ((nD aa.Teams 0 (⟨ac.Bib,ac.Classes,(nA (fun (x:wAA) (l:List Int)=>(⟨x.Skier,l,x.Bouts⟩:wAA)) ac.Legs ak)⟩:wAD)).length) am],B0,.row aw ay 70 3 (hM wAG av)] jG:=pO
 refine oR Z (zJ Z cX ze Z ZU) (zu (j:=3) (vs:=[.slice cg fE.length cq]) Z Z Z Z pP Z Z Z Z ZU (zC Z) Z Z Z ?_)
 intro jH pQ
 have pR:sW w U bF [dz,.row ax az 3 1 (hM KL.encI ag.Rules.Classes),.row cg cq 43 3 dZ,.blk aX 28 [.slice ax ag.Rules.Classes.length az,jV ag.Rules.Each,jV ag.Rules.Laps,jV ag.Rules.Spare,jV ag.Rules.Loop,jV ag.Rules.Unused,jV ag.Start,.slice cg fE.length cq],.blk aq 34 B8,.blk ah 28 [.slice an aa.Rules.Classes.length ao,jV aa.Rules.Each,jV aa.Rules.Laps,jV aa.Rules.Spare,jV aa.Rules.Loop,jV aa.Rules.Unused,jV aa.Start,.slice ai ((nD aa.Teams 0 (⟨ac.Bib,ac.Classes,(nA (fun (x:wAA) (l:List Int)=>(⟨x.Skier,l,x.Bouts⟩:wAA)) ac.Legs ak)⟩:wAD)).length) am],B0,.row aw ay 70 3 (hM wAG av)] jH:=pQ
 refine zg (zb (zI (rR fL2 Z (oR Z (zn (zX Z c6 Z) (congrArg (jV) iF.out)) (oM Z Z (zg ?_))))))
 cases qY
 exact zI ⟨rfl,⟨bF,cg,cq,dZ,rfl,d7,gF,cX,d8,d9,((dp.trans bL).trans bM),(pR.pick [1,2,3,4,5,6,7] _ (by decide) rfl),rV⟩⟩
 rintro uy jI ⟨sV,ch,cr,jZ,lG,lv,lw,lx,tv,ly,se,pS,mL⟩
 have j4:Hid (¬ ((↑(((↑((nD aa.Teams 0 (⟨ac.Bib,ac.Classes,(nA (fun (x:wAA) (l:List Int)=>(⟨x.Skier,l,x.Bouts⟩:wAA)) ac.Legs ak)⟩:wAD)).length):Int):Int) - 0).toNat:Int) < (↑((nD aa.Teams 0 (⟨ac.Bib,ac.Classes,(nA (fun (x:wAA) (l:List Int)=>(⟨x.Skier,l,x.Bouts⟩:wAA)) ac.Legs ak)⟩:wAD)).length):Int))):=zF (wAa)
 refine sR fL1 Z (oR Z (zU Z lG ly) (eN (zG (cF Z j4 (ZI (zY (zY (ZD (zI (zG (sR fL3 Z (oM Z lv (oR Z (za Z Z Zo) (oM Z Z (eN (zT ?_))))))))))))))))
 have q:=pS.freezeR (k:=6) (n:=av.length) rfl (wAF (f:=wAG) (sz:=3) (fun _=>rfl) av) (by decide)
 obtain ⟨dI,je,iY,pT⟩:=q
 let bf:List Value:=[.slice ax ag.Rules.Classes.length az,jV ag.Rules.Each,jV ag.Rules.Laps,jV ag.Rules.Spare,jV ag.Rules.Loop,jV ag.Rules.Unused,jV ag.Start,.slice ch dw.length cr]
 let bP:Res:=.row ch cr 43 3 jZ
 have pU:sW w U dI [.row ax az 3 1 (hM KL.encI ag.Rules.Classes),bP,.blk aX 28 bf,.blk aq 34 B8,.blk ah 28 [.slice an aa.Rules.Classes.length ao,jV aa.Rules.Each,jV aa.Rules.Laps,jV aa.Rules.Spare,jV aa.Rules.Loop,jV aa.Rules.Unused,jV aa.Start,.slice ai ((nD aa.Teams 0 (⟨ac.Bib,ac.Classes,(nA (fun (x:wAA) (l:List Int)=>(⟨x.Skier,l,x.Bouts⟩:wAA)) ac.Legs ak)⟩:wAD)).length) am],B0] jI:=pT
 have q:=wBe dg
 obtain ⟨tQ,de⟩:=q
 have q:=wBd de
 obtain ⟨fc,qw⟩:=q
 replace fc:=zF fc
 refine yA (fun cz _ σ_ w_=>∃ (U_:PHeap),σ_ 129=jV (↑cz:Int)/\σ_ 13=.slice aw av.length ay/\σ_ 16=.pointer (some ⟨aX,0,none⟩)/\σ_ 127=.slice bm aZ.length bn/\σ_ 128=jV (↑aZ.length:Int)/\PHeap.Le dI U_/\sW w U U_ [.row ax az 3 1 (hM KL.encI ag.Rules.Classes),bP,.blk aX 28 bf,.blk aq 34 B8,.blk ah 28 [.slice an aa.Rules.Classes.length ao,jV aa.Rules.Each,jV aa.Rules.Laps,jV aa.Rules.Spare,jV aa.Rules.Loop,jV aa.Rules.Unused,jV aa.Start,.slice ai ((nD aa.Teams 0 (⟨ac.Bib,ac.Classes,(nA (fun (x:wAA) (l:List Int)=>(⟨x.Skier,l,x.Bouts⟩:wAA)) ac.Legs ak)⟩:wAD)).length) am],B0] w_) qw ?_ ?_ ?_
 exact ⟨dI,Z,lw,lx,Z,Z,(zH _),pU⟩
 rintro cz ⟨⟩ uo uz s8 eY ⟨jv,ew,ea,lz,gG,gH,fw,iu⟩ i7 iw
 try dsimp only at i7
 have gu:Hid ((↑cz:Int) < (↑aZ.length:Int)):=zF (wAo eY)
 replace eY:=zF eY
 have qF:Hid (w64 ((↑cz:Int) + 1)=(↑(cz + 1):Int)):=zF (by have h1:=fc.out;have h2:=gu.out;rw [wAT] <;> omega)
 refine sR fL1 Z (oR Z (zU Z ew gH) (eN (zG (cT Z gu (kN (zG (zT (sR gCw Z (bnK i7 fun bq gW q0=>?_)))))))))
 have mM:=eB.le dm
 have mN:=mM.le fu
 have mO:=mN.le se
 have mP:=mO.le je
 have mQ:=mP.le fw
 have q:=mQ.el (fun _=>rfl) (wAR gW)
 obtain ⟨tg,tN,n9,od⟩:=q
 refine oR Z (zo Z gG n9 ew Zo yD (wAj gW)) (oL Z (iu.ldCA (f:=0) od Z Z Tryz.isAgg65 yD (us:=[jV bq.Bib,jV bq.Done,jV bq.Time,jV bq.By]) Z Z) (zz (cs:=[jV 0,jV 0,jV 0,jV 0]) Z Z Z Z Z Tryz.zeroValue65 Z iu ?_))
 intro s9 bT pV
 let dA:List Value:=[jV bq.Bib,jV bq.Done,jV bq.Time,jV bq.By]
 refine zu (j:=0) (vs:=dA) Z Z Z Z pV Z Z Z Z yD (zC Z) Z Z Z ?_
 intro dM pW
 have pX:sW w U jv [.blk bT 65 dA,.row ax az 3 1 (hM KL.encI ag.Rules.Classes),bP,.blk aX 28 bf,.blk aq 34 B8,.blk ah 28 [.slice an aa.Rules.Classes.length ao,jV aa.Rules.Each,jV aa.Rules.Laps,jV aa.Rules.Spare,jV aa.Rules.Loop,jV aa.Rules.Unused,jV aa.Start,.slice ai ((nD aa.Teams 0 (⟨ac.Bib,ac.Classes,(nA (fun (x:wAA) (l:List Int)=>(⟨x.Skier,l,x.Bouts⟩:wAA)) ac.Legs ak)⟩:wAD)).length) am],B0] dM:=pW
 refine eN (sR gCx Z (oM Z ea ?_))
 have q:=pX.freeze (k:=0) rfl
 obtain ⟨cO,jf,cw,pY⟩:=q
 replace cw:=Cl.of cw
 have pZ:sW w U cO [.row ax az 3 1 (hM KL.encI ag.Rules.Classes),bP,.blk aX 28 bf,.blk aq 34 B8,.blk ah 28 [.slice an aa.Rules.Classes.length ao,jV aa.Rules.Each,jV aa.Rules.Laps,jV aa.Rules.Spare,jV aa.Rules.Loop,jV aa.Rules.Unused,jV aa.Start,.slice ai ((nD aa.Teams 0 (⟨ac.Bib,ac.Classes,(nA (fun (x:wAA) (l:List Int)=>(⟨x.Skier,l,x.Bouts⟩:wAA)) ac.Legs ak)⟩:wAD)).length) am],B0] dM:=pY
 replace cw:Cl cO bT 0 dA:=cw
 refine oR Z (yW Z zM (zB Z zM)) ?_
 have mR:=iY.le fw
 have gX:=mR.le jf
 have ot:FnOK Tryz.prog cO (.func (.func 20) #[] #[.pointer (some ⟨bT,0,none⟩)]) ar71 rr71 (fun x=>wAh x bq):=⟨20,[],[.pointer (some ⟨bT,0,none⟩)],rfl,Tryz.call20,fun U1 w1 x y vs le hs ha hm=>by obtain rfl:=ha;exact wEb x bq bT w1 U1 hs (cw.le le) hm⟩
 refine bnK q0 fun ui mS q8=>zL 0 Z Z Z Z (zK Z Z Tryz.call19 (zB Z (zB Z zM)) Z) pZ (fun hs=>wDD av aw ay (fun x=>wAh x bq) (.func (.func 20) #[] #[.pointer (some ⟨bT,0,none⟩)]) dM cO hs gX ot mS) (.inr Z) ?_
 rintro cP sP t7 jJ jg p6 ⟨rfl,rfl⟩
 have da:sW w U cP [.row ax az 3 1 (hM KL.encI ag.Rules.Classes),bP,.blk aX 28 bf,.blk aq 34 B8,.blk ah 28 [.slice an aa.Rules.Classes.length ao,jV aa.Rules.Each,jV aa.Rules.Laps,jV aa.Rules.Spare,jV aa.Rules.Loop,jV aa.Rules.Unused,jV aa.Start,.slice ai ((nD aa.Teams 0 (⟨ac.Bib,ac.Classes,(nA (fun (x:wAA) (l:List Int)=>(⟨x.Skier,l,x.Bouts⟩:wAA)) ac.Legs ak)⟩:wAD)).length) am],B0] jJ:=p6
 refine oA Z Z (eN (sR wMj Z (oM Z Z (oR Z (zU Z Z Z) (oM Z Z (ifc q8 ?_ ?_))))))
 intro ba q9
 refine oT Z ba (oT Z ba (oT Z ba (oT Z ba (oT Z ba (oT Z ba (oR Z (zV Z (Zj ba.out) Z) (eN (ZF Z (sR fL1 Z (oA Z Z (eN (zO (zf (zR ?_))))))))))))))
 have q:=wAf q9
 obtain ⟨sn,rc,j7⟩:=q
 have q:=wCI dg de (iw sn j7)
 obtain rfl:=q
 refine zR (zf (zR ?_))
 have hE:=nB rc;first | subst r | cases hE
 exact ⟨rfl,_,(zr rfl),cP,_,(da.pick [] _ (by decide) rfl),rfl,rfl⟩
 intro ba rd
 refine zj Z Z Z (wF Z ba) Z ea (zj Z Z Z (wF Z ba) Z Z (bnK rd fun sC eD re=>?_))
 have mT:=gX.le jg
 have q:=mT.el (fun _=>rfl) (wAR eD)
 obtain ⟨th,tO,oa,oe⟩:=q
 refine rU Z (wF Z ba) (yG Z Z oa Z ZR Zg (wEK eD) (wET eD)) (rU Z (wF Z ba) (zJ Z Z Ze Z zD) (ZO Z Z Z (wF Z ba) (da.ldC (f:=1) oe (v:=jV sC.Place) Z Z zP Z) Z (rU Z (wF Z ba) (ZW Z Z Z) (oR Z (zZ Z (zw ba.out) Z) (eN (ifc re ?_ ?_))))))
 intro dU rf
 refine zm (zw (fun h=>h dU.out)) (ZV (zb (zI (rR fL2 Z (oR Z (zn (zX Z ew Z) (congrArg (jV) qF.out)) (oM Z Z (zg ?_)))))))
 have q:=nB rf
 obtain rfl:=q
 exact zI ⟨Z,_,Z,⟨cP,Z,ea,lz,gG,gH,((fw.trans jf).trans jg),da⟩⟩
 intro dU rg
 refine cT Z dU (sR fL1 Z (oA Z Z (eN (zO (zf (zR ?_))))))
 have q:=wAf rg
 obtain ⟨sq,rh,j8⟩:=q
 have q:=wCI dg de (iw sq j8)
 obtain rfl:=q
 refine zR (zf (zR ?_))
 have hE:=nB rh;first | subst r | cases hE
 exact ⟨rfl,_,(zr rfl),cP,_,(da.pick [] _ (by decide) rfl),rfl,rfl⟩
 rintro ⟨⟩ uA dN ⟨jw,lH,lA,eb,tw,lB,jh,db⟩ qn
 have iQ:=wCm dg de qn
 try dsimp only at iQ
 have j5:Hid (¬ ((↑(((↑aZ.length:Int):Int) - 0).toNat:Int) < (↑aZ.length:Int))):=zF (wAa)
 refine sR fL1 Z (oR Z (zU Z lH lB) (eN (zG (cF Z j5 (ZI (zY (zY (ZD (zI (zG (sR fL4 Z (oR Z (zJ Z eb ze Z ZU) (oL Z (db.ldB (j:=2) Z Z Z Zn (v:=.slice ch dw.length cr) Z) (oR Z (za Z Z ZC) (oR Z (yF Z Z Z) (eN (ifc iQ ?_ ?_)))))))))))))))))
 intro dV ri
 refine cT Z dV (sR fL1 Z (oA Z Z (eN (zO (zR ?_)))))
 have hE:=nB ri;first | subst r | cases hE
 exact ⟨rfl,_,(zr rfl),jw,_,(db.pick [] _ (by decide) rfl),rfl,rfl⟩
 intro dV rj
 refine cF Z dV (kN (sR (.fl 0 (.fx 1 (wFz (.nil)) .stop)) Z (oL Z (db.ldBA (j:=2) Z Z eb Zq ZL (vs:=bf) Z Z) ?_)))
 have q:=db.freezeR (k:=0) (n:=ag.Rules.Classes.length) rfl (wAF (f:=KL.encI) (sz:=1) (fun _=>rfl) ag.Rules.Classes) (by decide)
 obtain ⟨jx,ji,r8,p7⟩:=q
 have p8:sW w U jx [bP,.blk aX 28 bf,.blk aq 34 B8,.blk ah 28 [.slice an aa.Rules.Classes.length ao,jV aa.Rules.Each,jV aa.Rules.Laps,jV aa.Rules.Spare,jV aa.Rules.Loop,jV aa.Rules.Unused,jV aa.Start,.slice ai ((nD aa.Teams 0 (⟨ac.Bib,ac.Classes,(nA (fun (x:wAA) (l:List Int)=>(⟨x.Skier,l,x.Bouts⟩:wAA)) ac.Legs ak)⟩:wAD)).length) am],B0] dN:=p7
 have mU:=mL.le je
 have mV:=mU.le jh
 have mW:=mV.le ji
 have q:=p8.freezeRR (R:=wFF) (k:=0) rfl mW rfl (by decide)
 obtain ⟨fS,jj,iZ,p9⟩:=q
 have qa:sW w U fS [.blk aX 28 bf,.blk aq 34 B8,.blk ah 28 [.slice an aa.Rules.Classes.length ao,jV aa.Rules.Each,jV aa.Rules.Laps,jV aa.Rules.Spare,jV aa.Rules.Loop,jV aa.Rules.Unused,jV aa.Start,.slice ai ((nD aa.Teams 0 (⟨ac.Bib,ac.Classes,(nA (fun (x:wAA) (l:List Int)=>(⟨x.Skier,l,x.Bouts⟩:wAA)) ac.Legs ak)⟩:wAD)).length) am],B0] dN:=p9
 have gY:=r8.le jj
 have q:=bnd rj
 obtain ⟨⟨fG,sD⟩,mX,iR⟩:=q
 try dsimp only at iR
 refine zL 0 Z Z Z Z (zK Z Z Tryz.call13 (zB Z zM) Z) qa (fun hs=>wIA (⟨ag.Rules,ag.Start,dw⟩:wAI) ax az ch cr dN fS hs gY iZ mX) (.inr Z) ?_
 rintro fT sQ t8 gf fy qb ⟨dy,dW,rfl,rfl⟩
 have iv:sW w U fT [.row dy dW 65 4 (hM wAN fG),.blk aX 28 bf,.blk aq 34 B8,.blk ah 28 [.slice an aa.Rules.Classes.length ao,jV aa.Rules.Each,jV aa.Rules.Laps,jV aa.Rules.Spare,jV aa.Rules.Loop,jV aa.Rules.Unused,jV aa.Start,.slice ai ((nD aa.Teams 0 (⟨ac.Bib,ac.Classes,(nA (fun (x:wAA) (l:List Int)=>(⟨x.Skier,l,x.Bouts⟩:wAA)) ac.Legs ak)⟩:wAD)).length) am],B0] gf:=qb
 refine oM Z Z (oR Z (zx Z Z (v:=.slice dy fG.length dW) Z) (oR Z (zx Z Z (v:=jV sD) Z) (oA Z Z (oA Z Z (eN (sR (.fl 0 (.fx 1 (wFz (.nil)) .stop)) Z (oL Z (iv.ldBA (j:=1) Z Z eb Zq ZL (vs:=bf) Z Z) ?_)))))))
 have mY:=gY.le fy
 have mZ:=iZ.le fy
 have q:=bnd iR
 obtain ⟨⟨a7,sE⟩,m4,iS⟩:=q
 try dsimp only at iS
 refine zL 0 Z Z Z Z (zK Z Z Tryz.call14 (zB Z zM) Z) iv (fun hs=>wEl (⟨ag.Rules,ag.Start,dw⟩:wAI) ax az ch cr gf fT hs mY mZ m4) (.inr Z) ?_
 rintro bR sS ua jK sf qc ⟨bO,bU,rfl,rfl⟩
 have dd:sW w U bR [.row bO bU 70 3 (hM wAG a7),.row dy dW 65 4 (hM wAN fG),.blk aX 28 bf,.blk aq 34 B8,.blk ah 28 [.slice an aa.Rules.Classes.length ao,jV aa.Rules.Each,jV aa.Rules.Laps,jV aa.Rules.Spare,jV aa.Rules.Loop,jV aa.Rules.Unused,jV aa.Start,.slice ai ((nD aa.Teams 0 (⟨ac.Bib,ac.Classes,(nA (fun (x:wAA) (l:List Int)=>(⟨x.Skier,l,x.Bouts⟩:wAA)) ac.Legs ak)⟩:wAD)).length) am],B0] jK:=qc
 refine oM Z Z (oR Z (zx Z Z (v:=.slice bO a7.length bU) Z) (oR Z (zx Z Z (v:=jV sE) Z) (oA Z Z (oA Z Z (eN (zG (sR fL11 Z (oM Z Z (oR Z (ZW Z Z Z) (oM Z Z (ifc iS ?_ ?_)))))))))))
 intro bK rk
 refine zj Z Z Z (zQ Z Z (zw (fun h=>h bK.out))) Z Z (zh Z Z Z (zQ Z Z (zw (fun h=>h bK.out))) (fun _=>ZW Z Z Z) (oR Z (zZ Z (zw (fun h=>h bK.out)) Z) (oM Z Z (ifc rk ?_ ?_))))
 intro bu rl
 refine zj Z Z Z (zQ Z Z (zw (fun h=>h bu.out))) Z Z (zh Z Z Z (zQ Z Z (zw (fun h=>h bu.out))) (fun _=>za Z Z Zo) (zh Z Z Z (zQ Z Z (zw (fun h=>h bu.out))) (fun _=>yN Z Z Z) (oR Z (zZ Z (zw (fun h=>h bu.out)) Z) (eN (ifc rl ?_ ?_)))))
 intro dX rn
 refine cT Z dX (sR fL1 Z (oA Z Z (eN (zO (zR ?_)))))
 have hE:=nB rn;first | subst r | cases hE
 exact ⟨rfl,_,(zr rfl),bR,_,(dd.pick [] _ (by decide) rfl),rfl,rfl⟩
 intro dX dh
 refine cF Z dX (kN (zG (sR fL3 Z (oM Z Z (oR Z (za Z Z ZR) (oM Z Z (eN (zT ?_))))))))
 have q:=wBe dh
 obtain ⟨tR,df⟩:=q
 have q:=wBd df
 obtain ⟨fd,qy⟩:=q
 replace fd:=zF fd
 refine yA (fun bs _ σ_ w_=>∃ (U_:PHeap),σ_ 174=jV (↑bs:Int)/\σ_ 13=.slice aw av.length ay/\σ_ 172=.slice bO a7.length bU/\σ_ 173=jV (↑a7.length:Int)/\PHeap.Le bR U_/\sW w U U_ [.blk aX 28 bf,.blk aq 34 B8,.blk ah 28 [.slice an aa.Rules.Classes.length ao,jV aa.Rules.Each,jV aa.Rules.Laps,jV aa.Rules.Spare,jV aa.Rules.Loop,jV aa.Rules.Unused,jV aa.Start,.slice ai ((nD aa.Teams 0 (⟨ac.Bib,ac.Classes,(nA (fun (x:wAA) (l:List Int)=>(⟨x.Skier,l,x.Bouts⟩:wAA)) ac.Legs ak)⟩:wAD)).length) am],B0,.row bO bU 70 3 (hM wAG a7)] w_) qy ?_ ?_ ?_
 exact ⟨bR,rfl,lA,rfl,rfl,(zH _),(dd.pick [2,3,4,5,0] _ (by decide) rfl)⟩
 rintro bs ⟨⟩ uq uB ta eZ ⟨co,cu,cY,ee,eh,fz,eT⟩ i8 iy
 try dsimp only at i8
 have gv:Hid ((↑bs:Int) < (↑a7.length:Int)):=zF (wAo eZ)
 replace eZ:=zF eZ
 have iG:Hid (w64 ((↑bs:Int) + 1)=(↑(bs + 1):Int)):=zF (by have h1:=fd.out;have h2:=gv.out;rw [wAT] <;> omega)
 refine sR fL1 Z (oR Z (zU Z cu eh) (eN (zG (cT Z gv (kN (zG (zT (sR (wDE gCu) Z (oM Z cu (bnK i8 fun _ eG ro=>?_))))))))))
 obtain ⟨tl,ic⟩:=eT.rowSome (j:=4) rfl (by rw [wAF (f:=wAG) (sz:=3) (fun _=>rfl) a7];have hz:=wAd eG;omega)
 refine oR Z (zo Z ee ic cu ZR Zg (wAd eG)) ?_
 have qC:=wCX (xs:=a7) (wAd eG)
 let cL:List Value:=[jV ((gd a7 bs).Bib),jV ((gd a7 bs).Place),jV ((gd a7 bs).Time)]
 refine ZO rfl rfl rfl rfl (eT.ldRA (j:=4) rfl ic rfl rfl Tryz.isAgg70 Zg (vs:=cL) (wHq (sz:=3) (fun _=>rfl) _ _ _ qC (by first | omega | rfl | simp) rfl) rfl) rfl (zz (cs:=[jV 0,jV 0,jV 0]) rfl rfl rfl rfl rfl yI rfl eT ?_)
 intro tb jR qd
 refine oA Z Z (zu (j:=0) (vs:=cL) Z Z Z Z qd Z Z Z Z Zg (zC Z) Z Z Z ?_)
 intro dO qe
 have qf:sW w U co [.blk jR 70 cL,.blk aX 28 bf,.blk aq 34 B8,.blk ah 28 [.slice an aa.Rules.Classes.length ao,jV aa.Rules.Each,jV aa.Rules.Laps,jV aa.Rules.Spare,jV aa.Rules.Loop,jV aa.Rules.Unused,jV aa.Start,.slice ai ((nD aa.Teams 0 (⟨ac.Bib,ac.Classes,(nA (fun (x:wAA) (l:List Int)=>(⟨x.Skier,l,x.Bouts⟩:wAA)) ac.Legs ak)⟩:wAD)).length) am],B0,.row bO bU 70 3 (hM wAG a7)] dO:=qe
 refine eN (zG (ZY ZP [3,1,3,3,3,3,3,3,3,3,3,3,1,1,3,3,3] fL17 (by kernel_rfl) ?_))
 have bz:=qf.drew
 generalize hw_W795:({ dO with drawn:=dO.drawn + 1 }:World)=tc at bz ⊢
 refine oR Z (zJ Z Z Ze Z zD) (oL Z (bz.ldB (j:=0) Z Z Z zP (v:=jV ((gd a7 bs).Place)) Z) (oR Z (yN Z Z Z) (oM Z Z (ifc ro ?_ ?_))))
 intro aY rp
 refine zj Z Z Z (wT Z aY) Z Z (zj Z Z Z (wT Z aY) Z cY (rU Z (wT Z aY) (za Z Z ZR) (rU Z (wT Z aY) (yo Z Z Z) (zj Z Z Z (wT Z aY) Z Z (ifc rp ?_ ?_)))))
 intro bb rq
 refine oT Z bb (oT Z bb (oT Z bb (oT Z bb (oT Z bb (oT Z bb (rU Z (wT Z aY) (zV Z (Zj bb.out) Z) (oR Z (zV Z (Zj aY.out) Z) (eN (ZF Z (sR fL1 Z (oA Z Z (eN (zO (zf (zR ?_)))))))))))))))
 have q:=wAf rq
 obtain ⟨sr,rt,j9⟩:=q
 have q:=wCI dh df (iy sr j9)
 obtain rfl:=q
 refine zR (zf (zR ?_))
 have hE:=nB rt;first | subst r | cases hE
 exact ⟨rfl,_,(zr rfl),co,_,(bz.pick [] _ (by decide) rfl),rfl,rfl⟩
 intro bb ru
 refine zj Z Z Z (wF Z bb) Z cY (zj Z Z Z (wF Z bb) Z Z (bnK ru fun dv g9 rv=>?_))
 have m5:=iY.le jh
 have m6:=m5.le ji
 have m7:=m6.le jj
 have m8:=m7.le fy
 have m9:=m8.le sf
 have n2:=m9.le fz
 have q:=n2.el (fun _=>rfl) (wAR g9)
 obtain ⟨tp,tP,oc,og⟩:=q
 refine rU Z (wF Z bb) (zo Z Z oc Z ZR Zg (wAj g9)) (ZO Z Z Z (wF Z bb) (bz.ldCA (f:=0) og Z Z Tryz.isAgg70 Zg (us:=[jV dv.Bib,jV dv.Place,jV dv.Time]) Z Z) Z (ZO Z Z Z (wF Z bb) (bz.ldBA (j:=0) Z Z Z Tryz.isAgg70 Zg (vs:=cL) Z Z) Z (rU Z (wF Z bb) (zn (Runs.neS (enc:=wAG) (a:=dv) (b:=(gd a7 bs)) Z Z Z wOu wOt) (congrArg nE (decide_not).symm)) (rU Z (wT Z aY) (zZ Z (zw bb.out) Z) (oR Z (zV Z (Zj aY.out) Z) (eN (ifc rv ?_ ?_)))))))
 intro dY rx
 refine zm (zw (fun h=>h dY.out)) (ZV (zb (zI (rR fL2 Z (oR Z (zn (zX Z cu Z) (congrArg (jV) iG.out)) (oM Z Z (zg ?_)))))))
 have q:=nB rx
 obtain rfl:=q
 exact zI ⟨rfl,_,rfl,⟨co,rfl,cY,ee,eh,fz,(bz.pick [1,2,3,4,5] _ (by decide) rfl)⟩⟩
 intro dY ry
 refine cT Z dY (sR fL1 Z (oA Z Z (eN (zO (zf (zR ?_))))))
 have q:=wAf ry
 obtain ⟨su,rz,k5⟩:=q
 have q:=wCI dh df (iy su k5)
 obtain rfl:=q
 refine zR (zf (zR ?_))
 have hE:=nB rz;first | subst r | cases hE
 exact ⟨rfl,_,(zr rfl),co,_,(bz.pick [] _ (by decide) rfl),rfl,rfl⟩
 intro aY rC
 refine oF Z aY (oF Z aY (oF Z aY (oF Z aY (oF Z aY (zd Z Z Z (wAU Z Z Z) (zd Z Z Z (wAU Z Z Z) (zd Z Z Z (wAU Z Z Z) (zd Z Z Z (wAU Z Z Z) (zd Z Z Z (wAU Z Z Z) (zd Z Z Z (wAU Z Z Z) (oF Z aY (oR Z (zZ Z (zw aY.out) Z) (eN (zm Z (ZV (zb (zI (rR fL2 Z (oR Z (zn (zX Z cu Z) (congrArg (jV) iG.out)) (oM Z Z (zg ?_)))))))))))))))))))))
 have q:=nB rC
 obtain rfl:=q
 exact zI ⟨rfl,_,rfl,⟨co,rfl,cY,ee,eh,fz,(bz.pick [1,2,3,4,5] _ (by decide) rfl)⟩⟩
 rintro ⟨⟩ uC jL ⟨jy,lI,tz,tA,lC,tK,qh⟩ qo
 have iT:=wCm dh df qo
 try dsimp only at iT
 have j6:Hid (¬ ((↑(((↑a7.length:Int):Int) - 0).toNat:Int) < (↑a7.length:Int))):=zF (wAa)
 refine sR fL1 Z (oR Z (zU Z lI lC) (eN (zG (cF Z j6 (ZI (zY (zY (ZD (zI (sR gCs Z (bnK iT fun uj n3 rD=>zL 0 Z Z Z Z (zK Z Z Tryz.call12 zM Z) qh (fun hs=>wGM jL jy hs n3) (.inr Z) ?_)))))))))))
 rintro fU sT ub jM tL qi ⟨rfl,rfl⟩
 have qj:sW w U fU [.blk aX 28 bf,.blk aq 34 B8,.blk ah 28 [.slice an aa.Rules.Classes.length ao,jV aa.Rules.Each,jV aa.Rules.Laps,jV aa.Rules.Spare,jV aa.Rules.Loop,jV aa.Rules.Unused,jV aa.Start,.slice ai ((nD aa.Teams 0 (⟨ac.Bib,ac.Classes,(nA (fun (x:wAA) (l:List Int)=>(⟨x.Skier,l,x.Bouts⟩:wAA)) ac.Legs ak)⟩:wAD)).length) am],B0,.row bO bU 70 3 (hM wAG a7)] jM:=qi
 refine oA Z Z (eN (zO ?_))
 have hE:=nB rD;first | subst r | cases hE
 exact ⟨rfl,_,(zr rfl),fU,_,(qj.pick [] _ (by decide) rfl),rfl,rfl⟩
 intro bu rE
 refine oT Z bu (oT Z bu (oT Z bu (oR Z (zV Z (Zj bu.out) Z) (eN (ZF Z (sR fL1 Z (oA Z Z (eN (zO (zR ?_))))))))))
 have hE:=nB rE;first | subst r | cases hE
 exact ⟨rfl,_,(zr rfl),bR,_,(dd.pick [] _ (by decide) rfl),rfl,rfl⟩
 intro bK rF
 refine oT Z bK (oT Z bK (oR Z (zV Z (Zj bK.out) Z) (oM Z Z (oN Z (oN Z (oN Z (oR Z (zV Z Z Z) (eN (ZF Z (sR fL1 Z (oA Z Z (eN (zO (zR ?_))))))))))))))
 have hE:=nB rF;first | subst r | cases hE
 exact ⟨rfl,_,(zr rfl),bR,_,(dd.pick [] _ (by decide) rfl),rfl,rfl⟩
 intro dS rG
 refine ZF (nF (dS.out)) (sR fL1 Z (oA Z Z (eN (zO (zR ?_)))))
 have hE:=nB rG;first | subst r | cases hE
 exact ⟨rfl,_,(zr rfl),dH,_,(eS.pick [] _ (by decide) rfl),rfl,rfl⟩
 intro bp rH
 refine oT Z bp (oT Z bp (ZA Z Z Z (zN Z Z (Zj bp.out) Z) (oT Z bp (oR Z (zV Z (Zj bp.out) Z) (eN (ZF Z (sR fL1 Z (oA Z Z (eN (zO (zR ?_)))))))))))
 have hE:=nB rH;first | subst r | cases hE
 exact ⟨rfl,_,(zr rfl),fO,_,(im.pick [] _ (by decide) rfl),rfl,rfl⟩
 intro dR rI
 refine cT Z dR (sR fL1 Z (oA Z Z (eN (zO (zR ?_)))))
 have hE:=nB rI;first | subst r | cases hE
 exact ⟨rfl,_,(zr rfl),cM,_,(cy.pick [] _ (by decide) rfl),rfl,rfl⟩
 intro bI rJ
 refine oT Z bI (oT Z bI (oR Z (zV Z (Zj bI.out) Z) (eN (ZF Z (sR fL1 Z (oA Z Z (eN (zO (zR ?_)))))))))
 have hE:=nB rJ;first | subst r | cases hE
 exact ⟨rfl,_,(zr rfl),cM,_,(cy.pick [] _ (by decide) rfl),rfl,rfl⟩
 intro bH rK
 refine oT Z bH (oT Z bH (oR Z (zV Z (Zj bH.out) Z) (oM Z Z (oN Z (oN Z (oR Z (zV Z Z Z) (eN (ZF Z (sR fL1 Z (oA Z Z (eN (zO (zR ?_)))))))))))))
 have hE:=nB rK;first | subst r | cases hE
 exact ⟨rfl,_,(zr rfl),cM,_,(cy.pick [] _ (by decide) rfl),rfl,rfl⟩
end Go.Proofs.YtnbcoenjobdplaaGreat
