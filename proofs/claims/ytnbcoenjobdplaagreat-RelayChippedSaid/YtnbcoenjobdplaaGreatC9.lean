import Derived.Test.YtnbcoenjobdplaaGreatC6
import Derived.Test.YtnbcoenjobdplaaGreatC5
import Derived.Test.YtnbcoenjobdplaaGreatC7
import Derived.Test.YtnbcoenjobdplaaGreatC8
set_option linter.all false
open List renaming flatMap->hD,getElem_cons_succ->nA,getElem_cons_zero->nB,getElem_toArray->nD,length_set->nH,set->nI
open Int renaming toNat_natCast->nE,eq_ofNat_of_zero_le->nL
open Option.some renaming inj->nG
open Go.Value renaming bool->nJ
open Bool renaming eq_false_iff->nK
namespace Go.Proofs.YtnbcoenjobdplaaGreat
open Go.KL
def gCr:Sch:=.fl 0 (.fx 1 .nil .stop)
def gCs:Sch:=.fx 0 (.fl 1 .nil) .stop
def gCt:Sch:=.fx 2 (.fx 3 .nil .stop) .stop
def gCu:Sch:=.fx 4 (.fx 5 .nil .stop) .stop
def gCv:Sch:=.fx 6 (.fx 7 .nil .stop) .stop
def gCw:Sch:=.fx 8 (.fx 9 .nil .stop) .stop
def gCx:Sch:=.fx 4 (.fl 5 .nil) .stop
def gCy:Sch:=.fx 0 (.fx 1 .nil .stop) .stop
def gCz:Sch:=.fl 17 (.fx 18 .nil .stop)
def gDa:Sch:=.fx 13 (.fl 14 (.fl 15 .nil)) .stop
def gDb:Sch:=.fx 1 (.fl 2 (.fl 3 .nil)) .stop
def gDc:Sch:=.fx 2 (.fx 3 (.fl 4 .nil) .stop) .stop
def gDd:Sch:=.fx 3 gCx .stop
def gDe:Sch:=.fl 0 (.fx 1 (.fx 2 .nil .stop) .stop)
def gDf:Sch:=.fx 0 (.fl 1 (.fl 2 .nil)) .stop
def gDg:Sch:=.fx 7 (.fl 8 (.fl 9 .nil)) .stop
def gDh:Sch:=.fx 3 (.fl 4 (.fl 5 .nil)) .stop
def gDi:Sch:=.fx 0 (.fx 1 gCt .stop) .stop
def gDj:Sch:=.fx 0 gDb .stop
def gDk:Sch:=.fl 0 gDb
def gDl:Sch:=.fl 0 (.fl 1 (.fx 2 (.fl 3 .nil) .stop))
def gDm:Sch:=.fx 0 (.fx 1 gDc .stop) .stop
def gDn:Sch:=.fx 4 (.fx 16 gCz .stop) (.fx 16 (.fx 4 gCz .stop) .stop)
def gDo:Sch:=.fl 0 (.fl 1 (.fx 2 (.fx 3 (.fx 4 .nil .stop) .stop) .stop))
def gDp:Sch:=.fl 1 (.fl 2 (.fx 0 (.fl 3 gCu) (.fx 4 (.fx 0 (.fl 3 (.fx 5 .nil .stop)) .stop) .stop)))
def gDq:Sch:=.fl 0 (.fl 2 (.fx 1 gDd (.fx 3 (.fx 1 gCx .stop) .stop)))
set_option maxHeartbeats 4000000
theorem wFn  (w:World) (U:PHeap) (hS:St0 w U [])  {r:wAK} (hm:wDD =some r):Gv Tryz.prog 63 [] w (wBD w [] U (fun U_ L_ v=>v=.agg #[jV r.skier,jV r.mat]/\L_=[])):=by
 unfold wDD at hm
 refine Gv.of Tryz.func63 Z Tryz.ntmps63 Tryz.results63 Z (sR (.fx 0 .nil .stop) Z (zm (cs:=[jV 0,jV 0]) Z Z Z Z Z ZP Z hS ?_))
 intro W1 b2 ae
 refine eN (sR gCr Z ?_)
 let O:List Value:=[jV (-1),jV 0]
 refine oR Z (zx (pv:=[(0,jV (-1)),(1,jV 0)]) (z:=[jV 0,jV 0]) (cs:=O) Z (wAA Z (wAA Z wAI)) ZP wEg Z Z) (zh (j:=0) (vs:=O) Z Z Z Z ae Z Z Z Z zV (zA Z) Z Z Z ?_)
 intro W5 af
 have aa:sW w U U [.blk b2 149 O] W5:=af
 refine eN (zP ?_)
 cases hm
 exact ⟨rfl,_,(wFz (v:=.agg O.toArray) ⟨⟨_,rfl,(wBL ZC zV (aa.blkAt (k:=0) rfl) (vs:=O) rfl rfl)⟩,trivial⟩),U,_,(aa.pick [] _ (by decide) rfl),rfl,rfl⟩
theorem wHc {S E:Type} (PY:S->PHeap->List Res->Prop) (PE:E->PHeap->List Res->Prop) (f:S->wAO->Option (S ⊕ E)) (y:Nat) (s0:S) (O:wAF) (ai:Nat) (cd:Option Addr) (cm:Nat) (cg:Option Addr) (cn:Nat) (ci:Option Addr) (co:Nat) (cj:Option Addr) (cp:Nat) (w:World) (L:List Res) (U:PHeap) (hS:St ⟨w,L,U⟩ U L w) (hP:PY s0 U L) (hY:YOK Tryz.prog y wRk PY PE f U) (be:Cl U ai 0 [.slice cd O.Starts.length cm,.slice cg O.Splits.length cn,.slice ci O.Clocks.length co,.slice cj O.Readings.length cp]) (jx:Sl U 1 cd cm O.Starts.length (hD KL.encI O.Starts)) (jy:Sl U 2 cg cn O.Splits.length (hD wAH O.Splits)) (jz:Sl U 3 ci co O.Clocks.length (hD wAU O.Clocks)) (jA:Sl U 4 cj cp O.Readings.length (hD wAG O.Readings)) {r:S ⊕ E} (hm:wCo f s0 O=some r):Gv Tryz.prog 199 [.func (.yield y) #[] #[],.pointer (some ⟨ai,0,none⟩)] w (ItS w L U PY PE r):=by
 unfold wCo at hm
 refine Gv.of Tryz.func199 Z Tryz.ntmps199 Tryz.results199 Z (sR wRx Z (oR Z (zF Z Z zq Z yz) (oL Z (hS.ldC (f:=1) be (v:=.slice cg O.Splits.length cn) Z Z Yb Z) (oR Z (ze Z Z ZQ) (oR Z (zF Z Z zq Z YW) (oL Z (hS.ldC (f:=2) be (v:=.slice ci O.Clocks.length co) Z Z Yc Z) (oR Z (ze Z Z yK) (oR Z (zF Z Z zq Z yQ) (oL Z (hS.ldC (f:=3) be (v:=.slice cj O.Readings.length cp) Z Z YU Z) (oR Z (ze Z Z yb) ?_))))))))))
 let B0:List Value:=[jV 1,jV (↑O.Splits.length:Int),jV (↑O.Clocks.length:Int),jV (↑O.Readings.length:Int)]
 refine oR Z (Runs.buildA (pv:=[(0,jV 1),(1,jV (↑O.Splits.length:Int)),(2,jV (↑O.Clocks.length:Int)),(3,jV (↑O.Readings.length:Int))]) (z:=[jV 0,jV 0,jV 0,jV 0]) (cs:=B0) Z (wAA Z (wAA Z (wAA Z (wAA Z wAI)))) Tryz.zeroValue272 Tryz.runUnderlying272 zC Z Z) (oM Z Z (eN (zU ?_)))
 have q:=wBJ hm
 obtain ⟨jD,am⟩:=q
 have q:=wBI am
 obtain ⟨bU,gC⟩:=q
 replace bU:=zH bU
 refine yB (fun aa du σ_ w_=>∃ (U_:PHeap) (ao:List Res),σ_ 18=jV (↑aa:Int)/\σ_ 0=.func (.yield y) #[] #[]/\σ_ 1=.pointer (some ⟨ai,0,none⟩)/\σ_ 17=.agg B0.toArray/\PHeap.Le U U_/\St ⟨w,L,U⟩ U_ ao w_/\PY du U_ ao) gC ?_ ?_ ?_
 exact ⟨U,L,Z,Z,Z,Z,(zL _),hS,hP⟩
 rintro aa du jI jS iY bP ⟨bw,ao,aq,cN,bD,bE,ak,bN,cZ⟩ ip bf
 have cJ:Hid ((↑aa:Int) < 4):=zH (wAj bP)
 replace bP:=zH bP
 have di:Hid (w64 ((↑aa:Int) + 1)=(↑(aa + 1):Int)):=zH (by have h1:=bU.out;have h2:=cJ.out;rw [wAX] <;> omega)
 refine sR fL1 Z (oR Z (zW Z aq Z) (eN (zI (cT Z cJ (kN (zI (zU (sR fL4 Z (oM Z aq (bnK ip fun ae bM gV=>oR Z (Runs.ixA (cs:=hD KL.encI ([1,(↑O.Splits.length:Int),(↑O.Clocks.length:Int),(↑O.Readings.length:Int)]:List Int)) Z bE aq Tryz.runUnderlying272 zC (wCh bM) (wCs bM) (wNj zJ (wFc (sz:=1) (fun _=>Z) _ _ 0 _ _ (wAV bM) Z))) (oA Z Z (oA Z Z (eN (sR fL4 Z (oR Z (zF Z bD zq Z zS) ?_)))))))))))))))
 have fP:=be.le ak
 refine oL Z (bN.ldC (f:=0) fP (v:=.slice cd O.Starts.length cm) Z Z zZ Z) (oR Z (ze Z Z zB) (oA Z Z (eN (zI ?_))))
 have q:=bnd gV
 obtain ⟨⟨dI,iD⟩,dp,dl⟩:=q
 try dsimp only at dl
 refine yd (fun σ_ w_=>∃ (U_:PHeap) (ap:List Res),σ_ 0=.func (.yield y) #[] #[]/\σ_ 1=.pointer (some ⟨ai,0,none⟩)/\σ_ 3=jV (↑aa:Int)/\σ_ 4=jV ae/\σ_ 5=jV (↑O.Starts.length:Int)/\σ_ 17=.agg B0.toArray/\σ_ 18=jV (↑aa:Int)/\σ_ 30=.bool dI/\PHeap.Le bw U_/\St ⟨w,L,U⟩ U_ ap w_/\PY iD U_ ap) ?_ ?_
 refine rR fL6 Z (oM Z Z (oR Z (yc Z Z Z) (oM Z Z ?_)))
 by_cases af:(↑aa:Int)=2
 have dm:=dp;rw [if_pos af] at dm;replace af:=zH af
 refine oT Z af (oT Z af (oR Z (zT Z (ZZ af.out) Z) (zg ?_)))
 cases dm
 exact zG ⟨Z,⟨bw,ao,cN,bD,Z,Z,Z,bE,aq,Z,(zL _),bN,cZ⟩⟩
 have dn:=dp;rw [if_neg af] at dn;replace af:=zH af
 refine zj Z Z Z (wF Z af) Z Z (rU Z (wF Z af) (yc Z Z Z) (oR Z (za Z (zt af.out) Z) (zg ?_)))
 cases dn
 exact zG ⟨Z,⟨bw,ao,cN,bD,Z,Z,Z,bE,aq,Z,(zL _),bN,cZ⟩⟩
 rintro j5 jg ⟨ay,ap,cP,cQ,cR,cS,fm,cU,cV,cW,an,dd,c6⟩
 refine ifc dl ?_ ?_
 intro bz bn
 refine zy (cW.trans (congrArg nJ bz.out)) (rR fL1 Z (oA Z Z (eN (sR fL2 Z (oM Z Z (oM Z Z (eN (zU ?_))))))))
 have q:=wBJ bn
 obtain ⟨jG,bd⟩:=q
 have q:=wBI bd
 obtain ⟨bX,gF⟩:=q
 replace bX:=zH bX
 refine yB (fun ac dy σ_ w_=>∃ (U_:PHeap) (av:List Res),σ_ 32=jV (↑ac:Int)/\σ_ 0=.func (.yield y) #[] #[]/\σ_ 1=.pointer (some ⟨ai,0,none⟩)/\σ_ 3=jV (↑aa:Int)/\σ_ 4=jV ae/\σ_ 17=.agg B0.toArray/\σ_ 18=jV (↑aa:Int)/\σ_ 31=jV 1/\PHeap.Le ay U_/\St ⟨w,L,U⟩ U_ av w_/\PY dy U_ av) gF ?_ ?_ ?_
 exact ⟨ay,ap,Z,cP,cQ,cR,cS,cU,cV,Z,(zL _),dd,c6⟩
 rintro ac dy jL j6 jh bS ⟨cy,av,bL,fq,ft,fu,cX,fw,fy,cY,cc,gv,fE⟩ bq dh
 have cE:Hid ((↑ac:Int) < 1):=zH (wAj bS)
 replace bS:=zH bS
 have gG:Hid (w64 ((↑ac:Int) + 1)=(↑(ac + 1):Int)):=zH (by have h1:=bX.out;have h2:=cE.out;rw [wAX] <;> omega)
 refine sR fL1 Z (oR Z (zW Z bL cY) (eN (zI (cT Z cE (kN (zI (zU (sR fL2 Z (oM Z bL (oA Z Z (eN (sR fL2 Z (oM Z cX (oM Z Z (eN (zU ?_))))))))))))))))
 have q:=wBJ bq
 obtain ⟨jC,a8⟩:=q
 have q:=wBI a8
 obtain ⟨bT,gB⟩:=q
 replace bT:=zH bT
 refine yB (fun ag dv σ_ w_=>∃ (U_:PHeap) (br:List Res),σ_ 36=jV (↑ag:Int)/\σ_ 0=.func (.yield y) #[] #[]/\σ_ 1=.pointer (some ⟨ai,0,none⟩)/\σ_ 3=jV (↑aa:Int)/\σ_ 4=jV ae/\σ_ 6=jV (↑ac:Int)/\σ_ 17=.agg B0.toArray/\σ_ 18=jV (↑aa:Int)/\σ_ 31=jV 1/\σ_ 32=jV (↑ac:Int)/\σ_ 35=jV ae/\PHeap.Le cy U_/\St ⟨w,L,U⟩ U_ br w_/\PY dv U_ br) gB ?_ ?_ ?_
 exact ⟨cy,av,Z,fq,ft,fu,cX,Z,fw,fy,cY,bL,Z,(zL _),gv,fE⟩
 rintro ag dv jH jR iX bO ⟨iV,br,bI,bA,d7,bB,d8,bC,d9,eh,ej,eo,cK,bY,fT,fG⟩ io de
 have cG:Hid ((↑ag:Int) < ae):=zH (wAj bO)
 replace bO:=zH bO
 have gH:Hid (w64 ((↑ag:Int) + 1)=(↑(ag + 1):Int)):=zH (by have h1:=bT.out;have h2:=cG.out;rw [wAX] <;> omega)
 refine sR fL1 Z (oR Z (zW Z bI cK) (eN (zI (cT Z cG (kN (zI (zU (sR fL2 Z (oM Z bI (oA Z Z (eN (sR (wHg (.fx 5 (wQG gDa) .stop)) Z (oM Z bA (oM Z bB (oM Z bC (oM Z Z ?_))))))))))))))))
 let B1:List Value:=[jV 0,jV 0,jV 0,.bool false]
 refine oR Z (zx (pv:=[(0,jV (↑aa:Int)),(1,jV (↑ac:Int)),(2,jV (↑ag:Int)),(3,.bool true)]) (z:=B1) (cs:=[jV (↑aa:Int),jV (↑ac:Int),jV (↑ag:Int),.bool true]) Z (wAA Z (wAA Z (wAA Z (wAA Z wAI)))) Tryz.zeroValue214 wHu Z Z) (bnK io fun iQ fH bg=>OKS.yieldT 0 (a:=(⟨(↑aa:Int),(↑ac:Int),(↑ag:Int),true⟩:wAO)) Z Z Z Z Z Z (zD Z zO) fT hY (((ak.trans an).trans cc).trans bY) fG Z fH Z ?_)
 rintro bv ct ji cz dq c8 az
 rcases iQ with iz | iz
 try dsimp only at bg az
 obtain ⟨rfl,ib⟩:=az
 have fU:St ⟨w,L,U⟩ bv ct cz:=c8
 refine oR Z (ZF Z Z) (oM Z Z (zj Z Z Z (zN Z Z Z) Z bA (zj Z Z Z (zN Z Z Z) Z bB (zj Z Z Z (zN Z Z Z) Z bC (zj Z Z Z (zN Z Z Z) Z Z (zY Z Z Z (zN Z Z Z) (fun _=>zx (pv:=[(0,jV (↑aa:Int)),(1,jV (↑ac:Int)),(2,jV (↑ag:Int)),(3,.bool false)]) (z:=B1) (cs:=[jV (↑aa:Int),jV (↑ac:Int),jV (↑ag:Int),.bool false]) Z (wAA Z (wAA Z (wAA Z (wAA Z wAI)))) Tryz.zeroValue214 wHu Z Z) (bnK bg fun iR fI bh=>OKS.yieldT 0 (a:=(⟨(↑aa:Int),(↑ac:Int),(↑ag:Int),false⟩:wAO)) Z Z Z (zN Z Z Z) Z Z (zD Z zO) fU hY ((((ak.trans an).trans cc).trans bY).trans dq) ib Z fI Z ?_)))))))
 rintro aw bs jj cA ir c9 aY
 rcases iR with iA | iA
 try dsimp only at bh aY
 obtain ⟨rfl,ic⟩:=aY
 have fV:St ⟨w,L,U⟩ aw bs cA:=c9
 refine zY Z Z Z (zN Z Z Z) (fun _=>ZF Z Z) (oR Z (za Z Z Z) (eN (zn Z (ZT (zf (zG (rR fL2 Z (oR Z (zr (zX Z bI Z) (congrArg (jV) gH.out)) (oM Z Z (zg ?_))))))))))
 have q:=nG bh
 obtain rfl:=q
 exact zG ⟨Z,_,Z,⟨aw,bs,Z,bA,d7,bB,d8,bC,d9,eh,ej,eo,cK,((bY.trans dq).trans ir),fV,ic⟩⟩
 try dsimp only at bh aY
 obtain ⟨rfl,ie⟩:=aY
 have fW:St ⟨w,L,U⟩ aw bs cA:=c9
 refine zY Z Z Z (zN Z Z Z) (fun _=>ZF Z Z) (oR Z (za Z Z Z) (eN (zy Z (zP (zc (zR ?_))))))
 have q:=wAb bh
 obtain ⟨iE,gK,dO⟩:=q
 have q:=wBC bq a8 (de iE dO)
 obtain rfl:=q
 refine zR (zc (zc (zR ?_)))
 have q:=wAb gK
 obtain ⟨iF,gL,dP⟩:=q
 have q:=wBC bn bd (dh iF dP)
 obtain rfl:=q
 refine zR (zc (zc (zR ?_)))
 have q:=wAb gL
 obtain ⟨iG,gM,dQ⟩:=q
 have q:=wBC hm am (bf iG dQ)
 obtain rfl:=q
 refine zR (zc ?_)
 cases gM
 exact ⟨Z,_,(wMc),aw,_,fW,ie⟩
 try dsimp only at bg az
 obtain ⟨rfl,ig⟩:=az
 have fY:St ⟨w,L,U⟩ bv ct cz:=c8
 refine oR Z (ZF Z Z) (oM Z Z (oN Z (oN Z (oN Z (oN Z (oN Z (ZI Z Z Z (zQ Z Z Z Z) (oN Z (oR Z (zT Z Z Z) (eN (zy Z (zP (zc (zR ?_))))))))))))))
 have q:=wAb bg
 obtain ⟨iH,gN,dR⟩:=q
 have q:=wBC bq a8 (de iH dR)
 obtain rfl:=q
 refine zR (zc (zc (zR ?_)))
 have q:=wAb gN
 obtain ⟨iI,gO,dS⟩:=q
 have q:=wBC bn bd (dh iI dS)
 obtain rfl:=q
 refine zR (zc (zc (zR ?_)))
 have q:=wAb gO
 obtain ⟨iJ,gP,dT⟩:=q
 have q:=wBC hm am (bf iJ dT)
 obtain rfl:=q
 refine zR (zc ?_)
 cases gP
 exact ⟨Z,_,(wMc),bv,_,fY,ig⟩
 rintro jM jT iZ ⟨dD,dz,fz,ep,er,eu,ew,jm,ey,ez,eA,eB,eC,it,fZ,fJ⟩ gw
 have gQ:=wCI bq a8 gw
 have dJ:Hid (¬ ((↑((ae:Int) - 0).toNat:Int) < ae)):=zH (wAc)
 refine sR fL1 Z (oR Z (zW Z fz eC) (eN (zI (cF Z dJ (ZJ (zd (zd (ZG (zf (zG (rR fL2 Z (oR Z (zr (zX Z eB Z) (congrArg (jV) gG.out)) (oM Z Z (zg ?_))))))))))))))
 have q:=nG gQ
 obtain rfl:=q
 exact zG ⟨Z,_,Z,⟨dD,dz,Z,ep,er,eu,ew,ey,ez,eA,(cc.trans it),fZ,fJ⟩⟩
 rintro jN jU ja ⟨dE,dA,fA,eD,eE,jo,jp,eF,eG,eH,iu,gb,fK⟩ gx
 have gR:=wCI bn bd gx
 have dK:Hid (¬ ((↑((1:Int) - 0).toNat:Int) < 1)):=zH (wAc)
 refine sR fL1 Z (oR Z (zW Z fA eH) (eN (zI (cF Z dK (ZJ (zd (zd (ZG (zf (zG (rR fL2 Z (oR Z (zr (zX Z eG Z) (congrArg (jV) di.out)) (oM Z Z (zg ?_))))))))))))))
 have q:=nG gR
 obtain rfl:=q
 exact zG ⟨Z,_,Z,⟨dE,dA,Z,eD,eE,eF,((ak.trans an).trans iu),gb,fK⟩⟩
 intro bz bi
 refine zn (cW.trans (congrArg nJ (nK.2 bz.out))) (kN (sR fL2 Z (oM Z fm (oM Z Z (eN (zU ?_))))))
 have q:=wBJ bi
 obtain ⟨jE,ba⟩:=q
 have q:=wBI ba
 obtain ⟨bV,gD⟩:=q
 replace bV:=zH bV
 refine yB (fun ab dw σ_ w_=>∃ (U_:PHeap) (au:List Res),σ_ 32=jV (↑ab:Int)/\σ_ 0=.func (.yield y) #[] #[]/\σ_ 1=.pointer (some ⟨ai,0,none⟩)/\σ_ 3=jV (↑aa:Int)/\σ_ 4=jV ae/\σ_ 17=.agg B0.toArray/\σ_ 18=jV (↑aa:Int)/\σ_ 31=jV (↑O.Starts.length:Int)/\PHeap.Le ay U_/\St ⟨w,L,U⟩ U_ au w_/\PY dw U_ au) gD ?_ ?_ ?_
 exact ⟨ay,ap,Z,cP,cQ,cR,cS,cU,cV,Z,(zL _),dd,c6⟩
 rintro ab dw jJ jW jb bQ ⟨cw,au,bJ,eI,eJ,eK,cL,eM,eO,cM,bZ,ge,fL⟩ bp df
 have cH:Hid ((↑ab:Int) < (↑O.Starts.length:Int)):=zH (wAj bQ)
 replace bQ:=zH bQ
 have gI:Hid (w64 ((↑ab:Int) + 1)=(↑(ab + 1):Int)):=zH (by have h1:=bV.out;have h2:=cH.out;rw [wAX] <;> omega)
 refine sR fL1 Z (oR Z (zW Z bJ cM) (eN (zI (cT Z cH (kN (zI (zU (sR fL2 Z (oM Z bJ (oA Z Z (eN (sR fL2 Z (oM Z cL (oM Z Z (eN (zU ?_))))))))))))))))
 have q:=wBJ bp
 obtain ⟨jF,bb⟩:=q
 have q:=wBI bb
 obtain ⟨bW,gE⟩:=q
 replace bW:=zH bW
 refine yB (fun ah dx σ_ w_=>∃ (U_:PHeap) (bt:List Res),σ_ 36=jV (↑ah:Int)/\σ_ 0=.func (.yield y) #[] #[]/\σ_ 1=.pointer (some ⟨ai,0,none⟩)/\σ_ 3=jV (↑aa:Int)/\σ_ 4=jV ae/\σ_ 6=jV (↑ab:Int)/\σ_ 17=.agg B0.toArray/\σ_ 18=jV (↑aa:Int)/\σ_ 31=jV (↑O.Starts.length:Int)/\σ_ 32=jV (↑ab:Int)/\σ_ 35=jV ae/\PHeap.Le cw U_/\St ⟨w,L,U⟩ U_ bt w_/\PY dx U_ bt) gE ?_ ?_ ?_
 exact ⟨cw,au,Z,eI,eJ,eK,cL,Z,eM,eO,cM,bJ,Z,(zL _),ge,fL⟩
 rintro ah dx jK jX jc bR ⟨iW,bt,bK,bF,eQ,bG,eR,bH,eS,eT,eU,eV,cO,ca,gf,fM⟩ iq dg
 have cI:Hid ((↑ah:Int) < ae):=zH (wAj bR)
 replace bR:=zH bR
 have gJ:Hid (w64 ((↑ah:Int) + 1)=(↑(ah + 1):Int)):=zH (by have h1:=bW.out;have h2:=cI.out;rw [wAX] <;> omega)
 refine sR fL1 Z (oR Z (zW Z bK cO) (eN (zI (cT Z cI (kN (zI (zU (sR fL2 Z (oM Z bK (oA Z Z (eN (sR (wHg (.fx 5 (wQG gDa) .stop)) Z (oM Z bF (oM Z bG (oM Z bH (oM Z Z ?_))))))))))))))))
 let B2:List Value:=[jV 0,jV 0,jV 0,.bool false]
 refine oR Z (zx (pv:=[(0,jV (↑aa:Int)),(1,jV (↑ab:Int)),(2,jV (↑ah:Int)),(3,.bool true)]) (z:=B2) (cs:=[jV (↑aa:Int),jV (↑ab:Int),jV (↑ah:Int),.bool true]) Z (wAA Z (wAA Z (wAA Z (wAA Z wAI)))) Tryz.zeroValue214 wHu Z Z) (bnK iq fun iS fN bj=>OKS.yieldT 0 (a:=(⟨(↑aa:Int),(↑ab:Int),(↑ah:Int),true⟩:wAO)) Z Z Z Z Z Z (zD Z zO) gf hY (((ak.trans an).trans bZ).trans ca) fM Z fN Z ?_)
 rintro bx cu jk cC dr da aZ
 rcases iS with iB | iB
 try dsimp only at bj aZ
 obtain ⟨rfl,ii⟩:=aZ
 have gg:St ⟨w,L,U⟩ bx cu cC:=da
 refine oR Z (ZF Z Z) (oM Z Z (zj Z Z Z (zN Z Z Z) Z bF (zj Z Z Z (zN Z Z Z) Z bG (zj Z Z Z (zN Z Z Z) Z bH (zj Z Z Z (zN Z Z Z) Z Z (zY Z Z Z (zN Z Z Z) (fun _=>zx (pv:=[(0,jV (↑aa:Int)),(1,jV (↑ab:Int)),(2,jV (↑ah:Int)),(3,.bool false)]) (z:=B2) (cs:=[jV (↑aa:Int),jV (↑ab:Int),jV (↑ah:Int),.bool false]) Z (wAA Z (wAA Z (wAA Z (wAA Z wAI)))) Tryz.zeroValue214 wHu Z Z) (bnK bj fun iT fO bm=>OKS.yieldT 0 (a:=(⟨(↑aa:Int),(↑ab:Int),(↑ah:Int),false⟩:wAO)) Z Z Z (zN Z Z Z) Z Z (zD Z zO) gg hY ((((ak.trans an).trans bZ).trans ca).trans dr) ii Z fO Z ?_)))))))
 rintro ax bu jl cD iv db a7
 rcases iT with iC | iC
 try dsimp only at bm a7
 obtain ⟨rfl,ij⟩:=a7
 have gh:St ⟨w,L,U⟩ ax bu cD:=db
 refine zY Z Z Z (zN Z Z Z) (fun _=>ZF Z Z) (oR Z (za Z Z Z) (eN (zn Z (ZT (zf (zG (rR fL2 Z (oR Z (zr (zX Z bK Z) (congrArg (jV) gJ.out)) (oM Z Z (zg ?_))))))))))
 have q:=nG bm
 obtain rfl:=q
 exact zG ⟨Z,_,Z,⟨ax,bu,Z,bF,eQ,bG,eR,bH,eS,eT,eU,eV,cO,((ca.trans dr).trans iv),gh,ij⟩⟩
 try dsimp only at bm a7
 obtain ⟨rfl,il⟩:=a7
 have gi:St ⟨w,L,U⟩ ax bu cD:=db
 refine zY Z Z Z (zN Z Z Z) (fun _=>ZF Z Z) (oR Z (za Z Z Z) (eN (zy Z (zP (zc (zR ?_))))))
 have q:=wAb bm
 obtain ⟨iK,gS,dU⟩:=q
 have q:=wBC bp bb (dg iK dU)
 obtain rfl:=q
 refine zR (zc (zc (zR ?_)))
 have q:=wAb gS
 obtain ⟨iL,gT,dV⟩:=q
 have q:=wBC bi ba (df iL dV)
 obtain rfl:=q
 refine zR (zc (zc (zR ?_)))
 have q:=wAb gT
 obtain ⟨iM,gU,dW⟩:=q
 have q:=wBC hm am (bf iM dW)
 obtain rfl:=q
 refine zR (zc ?_)
 cases gU
 exact ⟨Z,_,(wMc),ax,_,gi,il⟩
 try dsimp only at bj aZ
 obtain ⟨rfl,im⟩:=aZ
 have gj:St ⟨w,L,U⟩ bx cu cC:=da
 refine oR Z (ZF Z Z) (oM Z Z (oN Z (oN Z (oN Z (oN Z (oN Z (ZI Z Z Z (zQ Z Z Z Z) (oN Z (oR Z (zT Z Z Z) (eN (zy Z (zP (zc (zR ?_))))))))))))))
 have q:=wAb bj
 obtain ⟨iN,gW,dX⟩:=q
 have q:=wBC bp bb (dg iN dX)
 obtain rfl:=q
 refine zR (zc (zc (zR ?_)))
 have q:=wAb gW
 obtain ⟨iO,gX,dY⟩:=q
 have q:=wBC bi ba (df iO dY)
 obtain rfl:=q
 refine zR (zc (zc (zR ?_)))
 have q:=wAb gX
 obtain ⟨iP,gY,dZ⟩:=q
 have q:=wBC hm am (bf iP dZ)
 obtain rfl:=q
 refine zR (zc ?_)
 cases gY
 exact ⟨Z,_,(wMc),bx,_,gj,im⟩
 rintro jO jY jd ⟨dF,dB,fB,eW,eX,eY,eZ,jq,e8,e9,fb,fc,fd,iw,gm,fQ⟩ gy
 have gZ:=wCI bp bb gy
 have dL:Hid (¬ ((↑((ae:Int) - 0).toNat:Int) < ae)):=zH (wAc)
 refine sR fL1 Z (oR Z (zW Z fB fd) (eN (zI (cF Z dL (ZJ (zd (zd (ZG (zf (zG (rR fL2 Z (oR Z (zr (zX Z fc Z) (congrArg (jV) gI.out)) (oM Z Z (zg ?_))))))))))))))
 have q:=nG gZ
 obtain rfl:=q
 exact zG ⟨Z,_,Z,⟨dF,dB,Z,eW,eX,eY,eZ,e8,e9,fb,(bZ.trans iw),gm,fQ⟩⟩
 rintro jP jZ je ⟨dG,dC,fC,ff,fg,jr,jt,fh,fj,fk,iy,gq,fR⟩ gz
 have g8:=wCI bi ba gz
 have dM:Hid (¬ ((↑(((↑O.Starts.length:Int):Int) - 0).toNat:Int) < (↑O.Starts.length:Int))):=zH (wAc)
 refine sR fL1 Z (oR Z (zW Z fC fk) (eN (zI (cF Z dM (ZJ (zd (zd (ZG (zf (zG (rR fL2 Z (oR Z (zr (zX Z fj Z) (congrArg (jV) di.out)) (oM Z Z (zg ?_))))))))))))))
 have q:=nG g8
 obtain rfl:=q
 exact zG ⟨Z,_,Z,⟨dG,dC,Z,ff,fg,fh,((ak.trans an).trans iy),gq,fR⟩⟩
 rintro jQ j0 jf ⟨dH,iU,fD,ju,jv,jw,jB,gu,fS⟩ gA
 have g9:=wCI hm am gA
 have dN:Hid (¬ ((↑((4:Int) - 0).toNat:Int) < 4)):=zH (wAc)
 refine sR fL1 Z (oR Z (zW Z fD Z) (eN (zI (cF Z dN (ZJ (zd (zd (ZG ?_))))))))
 cases g9
 exact ⟨Z,_,(wMc),dH,_,gu,fS⟩
theorem wIZ (O:wAF) (ab:Option Addr) (ag:Nat) (ac:Option Addr) (ah:Nat) (ae:Option Addr) (ai:Nat) (af:Option Addr) (aj:Nat) (w:World) (U:PHeap) (hS:St0 w U []) (aw:Sl U 1 ab ag O.Starts.length (hD KL.encI O.Starts)) (ax:Sl U 2 ac ah O.Splits.length (hD wAH O.Splits)) (ay:Sl U 3 ae ai O.Clocks.length (hD wAU O.Clocks)) (az:Sl U 4 af aj O.Readings.length (hD wAG O.Readings)) {r:Unit} (hm:wDz O=some r):Gv Tryz.prog 173 [.agg #[.slice ab O.Starts.length ag,.slice ac O.Splits.length ah,.slice ae O.Clocks.length ai,.slice af O.Readings.length aj]] w (wBD w [] U (fun U_ L_ v=>∃ (b0:Nat),v=.func (.func 199) #[] #[.pointer (some ⟨b0,0,none⟩)]/\L_=[]/\Cl U_ b0 0 [.slice ab O.Starts.length ag,.slice ac O.Splits.length ah,.slice ae O.Clocks.length ai,.slice af O.Readings.length aj])):=by
 unfold wDz at hm
 refine Gv.of Tryz.func173 Z Tryz.ntmps173 Tryz.results173 Z (sR gCs Z ?_)
 let B0:List Value:=[.slice ab O.Starts.length ag,.slice ac O.Splits.length ah,.slice ae O.Clocks.length ai,.slice af O.Readings.length aj]
 refine ZH (cs:=B0) rfl rfl rfl rfl rfl rfl (by rfl) hS ?_
 intro W1 b2 aq
 have q:=aq.freeze (k:=0) rfl
 obtain ⟨U5,aY,aa,au⟩:=q
 replace aa:=Cl.of aa
 have av:sW w U U5 [] W1:=au
 replace aa:Cl U5 b2 0 B0:=aa
 refine oA Z Z (eN (sR fL2 Z (oR Z (yn Z zO (zD Z zO)) (oA Z Z (eN (zP ?_))))))
 cases hm
 exact ⟨Z,_,(zz Z),U5,_,av,b2,Z,Z,aa⟩
theorem wJx (O:wAF) (ap:Option Addr) (aw:Nat) (aq:Option Addr) (ax:Nat) (au:Option Addr) (ay:Nat) (av:Option Addr) (az:Nat) (p1:wAO) (w:World) (U:PHeap) (hS:St0 w U []) (cq:Sl U 1 ap aw O.Starts.length (hD KL.encI O.Starts)) (cr:Sl U 2 aq ax O.Splits.length (hD wAH O.Splits)) (ct:Sl U 3 au ay O.Clocks.length (hD wAU O.Clocks)) (cu:Sl U 4 av az O.Readings.length (hD wAG O.Readings)) {r:wAK × wAK} (hm:wEy O p1=some r):Gv Tryz.prog 207 [.agg #[.slice ap O.Starts.length aw,.slice aq O.Splits.length ax,.slice au O.Clocks.length ay,.slice av O.Readings.length az],.agg #[jV p1.Kind,jV p1.Skier,jV p1.Index,.bool p1.Up]] w (wBD w [] U (fun U_ L_ v=>v=.tuple #[.agg #[jV r.1.skier,jV r.1.mat],.agg #[jV r.2.skier,jV r.2.mat]]/\L_=[])):=by
 unfold wEy at hm
 refine Gv.of Tryz.func207 Z Tryz.ntmps207 Tryz.results207 Z (sR gDi Z ?_)
 let B0:List Value:=[.slice ap O.Starts.length aw,.slice aq O.Splits.length ax,.slice au O.Clocks.length ay,.slice av O.Readings.length az]
 refine ZH (cs:=B0) rfl rfl rfl rfl rfl rfl (by rfl) hS ?_
 intro W1 b2 bI
 let B1:List Value:=[jV p1.Kind,jV p1.Skier,jV p1.Index,.bool p1.Up]
 refine ZH (cs:=B1) rfl rfl rfl rfl rfl rfl (by rfl) bI ?_
 intro W5 b6 bK
 let B2:List Value:=[jV 0,jV 0]
 refine zm (cs:=B2) Z Z Z Z Z ZP Z bK ?_
 intro W9 ac bz
 refine zm (cs:=B2) Z Z Z Z Z ZP Z bz ?_
 intro cd ae bH
 refine eN ?_
 have q:=bnd hm
 obtain ⟨⟨bX,bY⟩,bP,a7⟩:=q
 try dsimp only at a7
 let B3:List Value:=[jV p1.Skier,jV 0]
 let B4:List Value:=[jV bX,jV bY]
 refine yd (fun σ_ w_=>∃ (U_:PHeap),σ_ 4=.pointer (some ⟨ac,0,none⟩)/\σ_ 5=.pointer (some ⟨ae,0,none⟩)/\PHeap.Le U U_/\sW w U U_ [.blk ac 149 B4,.blk ae 149 B3,.blk b6 214 B1,.blk b2 83 B0] w_) ?_ ?_
 refine bnK bP fun a8 bx bO=>?_
 let B5:List Value:=[jV a8.skier,jV a8.mat]
 refine CK.webp (U0:=U) (L0:=[.blk ae 149 B2,.blk b6 214 B1,.blk b2 83 B0]) ZD [⟨some 6,[6],[],false,[],false,[],fun σ R=>σ 6=.agg B5.toArray/\R=[]⟩,pW 7 [] (.pointer (some ⟨b6,1,none⟩)),pX 8 [1] (jV p1.Skier),pW 9 [2] (.agg B3.toArray),⟨none,[],[0],false,[],false,[.blk ac 149 B2],fun _ R=>R=[.blk ac 149 B5]⟩] [false] [(3,.pointer (some ⟨b6,0,none⟩)),(4,.pointer (some ⟨ac,0,none⟩)),(5,.pointer (some ⟨ae,0,none⟩))] (by kernel_rfl) ⟨rfl,rfl,rfl,trivial⟩ (bH.pick [1,0,2,3] _ (by decide) rfl) ⟨?_,?_,?_,?_,?_,trivial⟩ ?_
 rintro _ _ bj bf bb _ _ _ _ rfl bJ bS
 refine zM 0 Z Z Z Z (zK Z Z Tryz.call63 zO Z) bJ (fun hs=>wFn bj bf hs bx) (.inr Z) ?_
 rintro bg ca cy bm bW bL ⟨rfl,rfl⟩
 have bM:sW w U bg (.blk ae 149 B2 :: .blk b6 214 B1 :: .blk b2 83 B0 :: bb) bm:=bL
 exact bS _ _ _ _ bW bM ⟨Z,Z⟩
 refine wpW ?_
 rintro _ _ _ _ _ ⟨bs,_⟩ _ _ _ bT
 exact oR Z (zF Z bs ZV Z zC) bT
 refine wpX ?_
 rintro _ _ _ _ _ _ _ ⟨⟨_,⟨bt,_⟩⟩,_⟩ bN bU
 exact yj Z Z Z Z (bN.ldB (j:=1) Z Z bt zJ (v:=jV p1.Skier) Z) bU
 refine wpW ?_
 rintro _ _ _ _ _ _ _ ⟨⟨_,⟨bu,_⟩⟩,_⟩ _ bQ
 exact oR Z (zx (pv:=[(0,jV p1.Skier),(1,jV 0)]) (z:=B2) (cs:=B3) Z (wAA bu (wAA Z wAI)) ZP wEg Z Z) bQ
 rintro _ _ _ bd ba _ ⟨_,bn,_⟩ _ ⟨⟨_,⟨bv,_⟩⟩,_⟩ rfl bA bR
 refine zh (j:=0) (vs:=B5) Z Z Z Z bA Z bn bv Z zV (zA Z) Z Z Z ?_
 intro bh bB
 have bC:sW w U bd (.blk ac 149 B5 :: .blk ae 149 B2 :: .blk b6 214 B1 :: .blk b2 83 B0 :: ba) bh:=bB
 exact bR undef _ _ _ (zL _) bC Z
 rintro bZ aY an ⟨cm,bp,aZ,_⟩ bV _ ⟨cn,rfl⟩ _ ⟨co,rfl⟩ _ ⟨cp,rfl⟩ _ ⟨bw,rfl⟩ _ rfl bD
 have bE:sW w U an [.blk ac 149 B5,.blk ae 149 B2,.blk b6 214 B1,.blk b2 83 B0] aY:=bD
 show OKS _ _ _ _ _ _ (.fx 5 .nil .stop) bZ aY
 refine zh (j:=1) (vs:=B3) Z Z Z Z bE Z aZ bw Z zV (zA Z) Z Z Z ?_
 intro bi bF
 have bG:sW w U an [.blk ac 149 B5,.blk ae 149 B3,.blk b6 214 B1,.blk b2 83 B0] bi:=bF
 refine zg ?_
 cases bO
 exact zG ⟨Z,⟨an,bp,aZ,bV,bG⟩⟩
 rintro cz cg ⟨be,bq,br,cw,ao⟩
 refine zP ?_
 cases a7
 exact ⟨rfl,_,(wFY (rs:=[.cell 4 149,.cell 5 149]) (vs:=[.agg B4.toArray,.agg B3.toArray]) ⟨⟨_,bq,(wBL ZC zV (ao.blkAt (k:=0) rfl) (vs:=B4) rfl rfl)⟩,⟨⟨_,br,(wBL ZC zV (ao.blkAt (k:=1) rfl) (vs:=B3) rfl rfl)⟩,trivial⟩⟩ rfl),be,_,(ao.pick [] _ (by decide) rfl),rfl,rfl⟩
theorem wJy (O:wAF) (ae:Option Addr) (af:Nat) (ag:Option Addr) (aj:Nat) (ah:Option Addr) (ak:Nat) (ai:Option Addr) (am:Nat) (p1:wAO) (w:World) (U:PHeap) (hS:St0 w U []) (ao:Sl U 1 ae af O.Starts.length (hD KL.encI O.Starts)) (bd:Sl U 2 ag aj O.Splits.length (hD wAH O.Splits)) (be:Sl U 3 ah ak O.Clocks.length (hD wAU O.Clocks)) (bf:Sl U 4 ai am O.Readings.length (hD wAG O.Readings)) {r:Int × Int} (hm:wEz O p1=some r):Gv Tryz.prog 208 [.agg #[.slice ae O.Starts.length af,.slice ag O.Splits.length aj,.slice ah O.Clocks.length ak,.slice ai O.Readings.length am],.agg #[jV p1.Kind,jV p1.Skier,jV p1.Index,.bool p1.Up]] w (wBD w [] U (fun U_ L_ v=>v=.tuple #[jV r.1,jV r.2]/\L_=[])):=by
 unfold wEz at hm
 refine Gv.of Tryz.func208 rfl Tryz.ntmps208 Tryz.results208 rfl (sR gDj rfl (ZH (cs:=[.slice ae O.Starts.length af,.slice ag O.Splits.length aj,.slice ah O.Clocks.length ak,.slice ai O.Readings.length am]) rfl rfl rfl rfl rfl rfl (by rfl) hS ?_))
 intro W1 b2 ax
 refine ZH (cs:=[jV p1.Kind,jV p1.Skier,jV p1.Index,.bool p1.Up]) rfl rfl rfl rfl rfl rfl (by rfl) ax ?_
 intro W5 b6 ay
 refine yU rfl rfl rfl rfl rfl rfl (yU rfl rfl rfl rfl rfl rfl (eN (zI (ZN ZD [3,1,3,1,3,1,3,1,3,1,3,1,3,3,3] fL15 (by kernel_rfl) ?_))))
 have ab:=ay.drew
 generalize hw_W10:({ W5 with drawn:=W5.drawn + 1 }:World)=aZ at ab ⊢
 refine oR Z (zF Z Z zq Z zS) (oL Z (ab.ldB (j:=1) Z Z Z zZ (v:=.slice ae O.Starts.length af) Z) (oR Z (zF Z Z ZV Z zC) (oL Z (ab.ldB (j:=0) Z Z Z zJ (v:=jV p1.Skier) Z) (bnK hm fun ap ac az=>?_))))
 have q:=ao.el (fun _=>rfl) (wAV ac)
 obtain ⟨a7,bg,aq,av⟩:=q
 refine oR Z (Za Z Z aq Z zB zC (wCh ac) (wCs ac)) (oL Z (ab.ldC (f:=0) av (v:=jV ap) Z Z zJ Z) (oR Z (zF Z Z zq Z zS) (oL Z (ab.ldB (j:=1) Z Z Z zZ (v:=.slice ae O.Starts.length af) Z) (oR Z (zF Z Z ZV Z zC) (oL Z (ab.ldB (j:=0) Z Z Z zJ (v:=jV p1.Skier) Z) ?_)))))
 have q:=ao.el (fun _=>rfl) (wAV ac)
 obtain ⟨a8,bh,au,aw⟩:=q
 refine oR Z (Za Z Z au Z zB zC (wCh ac) (wCs ac)) (oL Z (ab.ldC (f:=0) aw (v:=jV ap) Z Z zJ Z) (oR Z (Runs.negw Z Z) (oA Z Z (oA Z Z (eN (zP ?_))))))
 cases az
 exact ⟨rfl,_,(wEr rfl rfl),U,_,(ab.pick [] _ (by decide) rfl),rfl,rfl⟩
theorem wJz (p0:wAF) (ao:Option Addr) (av:Nat) (ap:Option Addr) (aw:Nat) (aq:Option Addr) (ax:Nat) (au:Option Addr) (ay:Nat) (O:wAO) (w:World) (U:PHeap) (hS:St0 w U []) (cG:Sl U 1 ao av p0.Starts.length (hD KL.encI p0.Starts)) (cH:Sl U 2 ap aw p0.Splits.length (hD wAH p0.Splits)) (cI:Sl U 3 aq ax p0.Clocks.length (hD wAU p0.Clocks)) (cJ:Sl U 4 au ay p0.Readings.length (hD wAG p0.Readings)) {r:wAK × wAK} (hm:wFA p0 O=some r):Gv Tryz.prog 210 [.agg #[.slice ao p0.Starts.length av,.slice ap p0.Splits.length aw,.slice aq p0.Clocks.length ax,.slice au p0.Readings.length ay],.agg #[jV O.Kind,jV O.Skier,jV O.Index,.bool O.Up]] w (wBD w [] U (fun U_ L_ v=>v=.tuple #[.agg #[jV r.1.skier,jV r.1.mat],.agg #[jV r.2.skier,jV r.2.mat]]/\L_=[])):=by
 unfold wFA at hm
 refine Gv.of Tryz.func210 Z Tryz.ntmps210 Tryz.results210 Z (sR gDi Z ?_)
 let B0:List Value:=[.slice ao p0.Starts.length av,.slice ap p0.Splits.length aw,.slice aq p0.Clocks.length ax,.slice au p0.Readings.length ay]
 refine ZH (cs:=B0) rfl rfl rfl rfl rfl rfl (by rfl) hS ?_
 intro W1 b2 bM
 let B1:List Value:=[jV O.Kind,jV O.Skier,jV O.Index,.bool O.Up]
 refine ZH (cs:=B1) rfl rfl rfl rfl rfl rfl (by rfl) bM ?_
 intro W5 b6 bO
 let B2:List Value:=[jV 0,jV 0]
 refine zm (cs:=B2) Z Z Z Z Z ZP Z bO ?_
 intro W9 af bC
 refine zm (cs:=B2) Z Z Z Z Z ZP Z bC ?_
 intro cm ah bE
 refine eN ?_
 have q:=bnd hm
 obtain ⟨⟨⟩,bQ,aZ⟩:=q
 try dsimp only at aZ
 let B3:List Value:=[jV O.Skier,jV O.Index]
 let B4:List Value:=[jV O.Skier,jV (w64 (O.Index + 1))]
 refine yd (fun σ_ w_=>∃ (U_:PHeap),σ_ 4=.pointer (some ⟨af,0,none⟩)/\σ_ 5=.pointer (some ⟨ah,0,none⟩)/\PHeap.Le U U_/\sW w U U_ [.blk af 149 B3,.blk ah 149 B4,.blk b6 214 B1,.blk b2 83 B0] w_) ?_ ?_
 refine CK.webp (U0:=U) (L0:=[.blk ah 149 B2,.blk b6 214 B1,.blk b2 83 B0]) ZD [pW 6 [] (.pointer (some ⟨b6,1,none⟩)),pW 7 [0] (jV O.Skier),pW 8 [] (.pointer (some ⟨b6,2,none⟩)),pW 9 [2] (jV O.Index),pW 10 [1,3] (.agg B3.toArray),pW 11 [] (.pointer (some ⟨b6,1,none⟩)),pX 12 [5] (jV O.Skier),pW 13 [] (.pointer (some ⟨b6,2,none⟩)),pX 14 [7] (jV O.Index),pW 15 [8] (jV (w64 (O.Index + 1))),pW 16 [6,9] (.agg B4.toArray),⟨none,[],[4],false,[],false,[.blk af 149 B2],fun _ R=>R=[.blk af 149 B3]⟩] [false] [(3,.pointer (some ⟨b6,0,none⟩)),(4,.pointer (some ⟨af,0,none⟩)),(5,.pointer (some ⟨ah,0,none⟩))] (by kernel_rfl) ⟨rfl,rfl,rfl,trivial⟩ (bE.pick [1,0,2,3] _ (by decide) rfl) ⟨?_,?_,?_,?_,?_,?_,?_,?_,?_,?_,?_,?_,trivial⟩ ?_
 refine wpW ?_
 rintro _ _ _ _ _ ⟨bm,_⟩ _ _ _ bX
 exact oR Z (zF Z bm ZV Z zC) bX
 refine wpW ?_
 rintro _ _ _ _ _ _ _ ⟨⟨_,⟨bw,_⟩⟩,_⟩ bN bY
 exact oL Z (bN.ldB (j:=1) Z Z bw zJ (v:=jV O.Skier) Z) bY
 refine wpW ?_
 rintro _ _ _ _ _ ⟨bn,_⟩ _ _ _ bZ
 exact oR Z (zF Z bn ZV Z zC) bZ
 refine wpW ?_
 rintro _ _ _ _ _ _ _ ⟨⟨_,⟨bx,_⟩⟩,_⟩ bP ca
 exact oL Z (bP.ldB (j:=1) Z Z bx zJ (v:=jV O.Index) Z) ca
 refine wpW ?_
 rintro _ _ _ _ _ _ _ ⟨⟨_,⟨bz,_⟩⟩,⟨_,⟨bA,_⟩⟩,_⟩ _ cc
 exact oR Z (zx (pv:=[(0,jV O.Skier),(1,jV O.Index)]) (z:=B2) (cs:=B3) Z (wAA bz (wAA bA wAI)) ZP wEg Z Z) cc
 refine wpW ?_
 rintro _ _ _ _ _ ⟨be,_⟩ _ _ _ cd
 exact oR Z (zF Z be ZV Z zC) cd
 refine wpX ?_
 rintro _ _ _ _ _ _ _ ⟨⟨_,⟨bp,_⟩⟩,_⟩ bB bR
 exact yj Z Z Z Z (bB.ldB (j:=1) Z Z bp zJ (v:=jV O.Skier) Z) bR
 refine wpW ?_
 rintro _ _ _ _ _ ⟨bf,_⟩ _ _ _ bS
 exact oR Z (zF Z bf ZV Z zC) bS
 refine wpX ?_
 rintro _ _ _ _ _ _ _ ⟨⟨_,⟨bq,_⟩⟩,_⟩ bD bT
 exact yj Z Z Z Z (bD.ldB (j:=1) Z Z bq zJ (v:=jV O.Index) Z) bT
 refine wpW ?_
 rintro _ _ _ _ _ _ _ ⟨⟨_,⟨br,_⟩⟩,_⟩ _ bU
 exact oR Z (zX Z br Z) bU
 refine wpW ?_
 rintro _ _ _ _ _ _ _ ⟨⟨_,⟨bs,_⟩⟩,⟨_,⟨bt,_⟩⟩,_⟩ _ bV
 exact oR Z (zx (pv:=[(0,jV O.Skier),(1,jV (w64 (O.Index + 1)))]) (z:=B2) (cs:=B4) Z (wAA bs (wAA bt wAI)) ZP wEg Z Z) bV
 rintro _ _ _ a8 a7 _ ⟨_,bg,_⟩ _ ⟨⟨_,⟨bu,_⟩⟩,_⟩ rfl bF bW
 refine zh (j:=0) (vs:=B3) Z Z Z Z bF Z bg bu Z zV (zA Z) Z Z Z ?_
 intro bb bG
 have bH:sW w U a8 (.blk af 149 B3 :: .blk ah 149 B2 :: .blk b6 214 B1 :: .blk b2 83 B0 :: a7) bb:=bG
 exact bW undef _ _ _ (zL _) bH Z
 rintro ci az am ⟨cq,bh,aY,_⟩ cg _ ⟨cr,rfl⟩ _ ⟨ct,rfl⟩ _ ⟨cu,rfl⟩ _ ⟨cw,rfl⟩ _ ⟨cy,rfl⟩ _ ⟨cz,rfl⟩ _ ⟨cA,rfl⟩ _ ⟨cC,rfl⟩ _ ⟨cD,rfl⟩ _ ⟨cE,rfl⟩ _ ⟨bv,rfl⟩ _ rfl bI
 have bJ:sW w U am [.blk af 149 B3,.blk ah 149 B2,.blk b6 214 B1,.blk b2 83 B0] az:=bI
 show OKS _ _ _ _ _ _ (.fx 12 .nil .stop) ci az
 refine zh (j:=1) (vs:=B4) Z Z Z Z bJ Z aY bv Z zV (zA Z) Z Z Z ?_
 intro bd bK
 have bL:sW w U am [.blk af 149 B3,.blk ah 149 B4,.blk b6 214 B1,.blk b2 83 B0] bd:=bK
 refine zg ?_
 cases bQ
 exact zG ⟨Z,⟨am,bh,aY,cg,bL⟩⟩
 rintro cL cn ⟨ba,bi,bj,cK,an⟩
 refine zP ?_
 cases aZ
 exact ⟨rfl,_,(wFY (rs:=[.cell 4 149,.cell 5 149]) (vs:=[.agg B3.toArray,.agg B4.toArray]) ⟨⟨_,bi,(wBL ZC zV (an.blkAt (k:=0) rfl) (vs:=B3) rfl rfl)⟩,⟨⟨_,bj,(wBL ZC zV (an.blkAt (k:=1) rfl) (vs:=B4) rfl rfl)⟩,trivial⟩⟩ rfl),ba,_,(an.pick [] _ (by decide) rfl),rfl,rfl⟩
set_option maxHeartbeats 4000000
theorem wKA (O:wAF) (ag:Option Addr) (aj:Nat) (ae:Option Addr) (af:Nat) (ah:Option Addr) (ak:Nat) (ai:Option Addr) (am:Nat) (p1:wAO) (w:World) (U:PHeap) (hS:St0 w U []) (bd:Sl U 1 ag aj O.Starts.length (hD KL.encI O.Starts)) (ao:Sl U 2 ae af O.Splits.length (hD wAH O.Splits)) (be:Sl U 3 ah ak O.Clocks.length (hD wAU O.Clocks)) (bf:Sl U 4 ai am O.Readings.length (hD wAG O.Readings)) {r:Int × Int} (hm:wFB O p1=some r):Gv Tryz.prog 211 [.agg #[.slice ag O.Starts.length aj,.slice ae O.Splits.length af,.slice ah O.Clocks.length ak,.slice ai O.Readings.length am],.agg #[jV p1.Kind,jV p1.Skier,jV p1.Index,.bool p1.Up]] w (wBD w [] U (fun U_ L_ v=>v=.tuple #[jV r.1,jV r.2]/\L_=[])):=by
 unfold wFB at hm
 refine Gv.of Tryz.func211 rfl Tryz.ntmps211 Tryz.results211 rfl (sR gDj rfl (ZH (cs:=[.slice ag O.Starts.length aj,.slice ae O.Splits.length af,.slice ah O.Clocks.length ak,.slice ai O.Readings.length am]) rfl rfl rfl rfl rfl rfl (by rfl) hS ?_))
 intro W1 b2 ax
 refine ZH (cs:=[jV p1.Kind,jV p1.Skier,jV p1.Index,.bool p1.Up]) rfl rfl rfl rfl rfl rfl (by rfl) ax ?_
 intro W5 b6 ay
 refine yU rfl rfl rfl rfl rfl rfl (yU rfl rfl rfl rfl rfl rfl (eN (zI (ZN ZD [3,1,3,1,3,3,1,3,1,3,1,3,3,1,3,3,3] fL17 (by kernel_rfl) ?_))))
 have ab:=ay.drew
 generalize hw_W10:({ W5 with drawn:=W5.drawn + 1 }:World)=aZ at ab ⊢
 refine oR Z (zF Z Z zq Z yz) (oL Z (ab.ldB (j:=1) Z Z Z Yb (v:=.slice ae O.Splits.length af) Z) (oR Z (zF Z Z ZV Z zC) (oL Z (ab.ldB (j:=0) Z Z Z zJ (v:=jV p1.Index) Z) (bnK hm fun ap ac az=>?_))))
 have q:=ao.el (fun _=>rfl) (wAV ac)
 obtain ⟨a7,bg,aq,av⟩:=q
 refine oR Z (Za Z Z aq Z ZQ ZK (wCh ac) (wCs ac)) (oR Z (zF Z Z ZM Z zC) (oL Z (ab.ldC (f:=1) av (v:=jV ap.Hi) Z Z zJ Z) (oR Z (zF Z Z zq Z yz) (oL Z (ab.ldB (j:=1) Z Z Z Yb (v:=.slice ae O.Splits.length af) Z) (oR Z (zF Z Z ZV Z zC) (oL Z (ab.ldB (j:=0) Z Z Z zJ (v:=jV p1.Index) Z) ?_))))))
 have q:=ao.el (fun _=>rfl) (wAV ac)
 obtain ⟨a8,bh,au,aw⟩:=q
 refine oR Z (Za Z Z au Z ZQ ZK (wCh ac) (wCs ac)) (oR Z (zF Z Z ZM Z zC) (oL Z (ab.ldC (f:=0) aw (v:=jV ap.Lo) Z Z zJ Z) (oR Z (Runs.negw Z Z) (oA Z Z (oA Z Z (eN (zP ?_)))))))
 cases az
 exact ⟨rfl,_,(wEr rfl rfl),U,_,(ab.pick [] _ (by decide) rfl),rfl,rfl⟩
theorem wHO (p0:Int) (w:World) (U:PHeap) (hS:St0 w U [])  {r:wAK} (hm:wEH p0=some r):Gv Tryz.prog 214 [jV p0] w (wBD w [] U (fun U_ L_ v=>v=.agg #[jV r.skier,jV r.mat]/\L_=[])):=by
 unfold wEH at hm
 refine Gv.of Tryz.func214 Z Tryz.ntmps214 Tryz.results214 Z (sR (.fx 0 .nil .stop) Z (zm (cs:=[jV 0,jV 0]) Z Z Z Z Z ZP Z hS ?_))
 intro W1 b2 af
 refine eN (sR (wCK (.fx 3 .nil .stop)) Z (oM Z Z (oR Z (zX Z Z Z) ?_)))
 let O:List Value:=[jV (-1),jV (w64 (1 + p0))]
 refine oR Z (zx (pv:=[(0,jV (-1)),(1,jV (w64 (1 + p0)))]) (z:=[jV 0,jV 0]) (cs:=O) Z (wAA Z (wAA Z wAI)) ZP wEg Z Z) (zh (j:=0) (vs:=O) Z Z Z Z af Z Z Z Z zV (zA Z) Z Z Z ?_)
 intro W5 ag
 have ab:sW w U U [.blk b2 149 O] W5:=ag
 refine eN (zP ?_)
 cases hm
 exact ⟨rfl,_,(wFz (v:=.agg O.toArray) ⟨⟨_,rfl,(wBL ZC zV (ab.blkAt (k:=0) rfl) (vs:=O) rfl rfl)⟩,trivial⟩),U,_,(ab.pick [] _ (by decide) rfl),rfl,rfl⟩
theorem wKB (O:wAF) (ap:Option Addr) (aw:Nat) (aq:Option Addr) (ax:Nat) (au:Option Addr) (ay:Nat) (av:Option Addr) (az:Nat) (p1:wAO) (w:World) (U:PHeap) (hS:St0 w U []) (bE:Sl U 1 ap aw O.Starts.length (hD KL.encI O.Starts)) (bF:Sl U 2 aq ax O.Splits.length (hD wAH O.Splits)) (bG:Sl U 3 au ay O.Clocks.length (hD wAU O.Clocks)) (bH:Sl U 4 av az O.Readings.length (hD wAG O.Readings)) {r:wAK × wAK} (hm:wFC O p1=some r):Gv Tryz.prog 213 [.agg #[.slice ap O.Starts.length aw,.slice aq O.Splits.length ax,.slice au O.Clocks.length ay,.slice av O.Readings.length az],.agg #[jV p1.Kind,jV p1.Skier,jV p1.Index,.bool p1.Up]] w (wBD w [] U (fun U_ L_ v=>v=.tuple #[.agg #[jV r.1.skier,jV r.1.mat],.agg #[jV r.2.skier,jV r.2.mat]]/\L_=[])):=by
 unfold wFC at hm
 refine Gv.of Tryz.func213 Z Tryz.ntmps213 Tryz.results213 Z (sR gDi Z ?_)
 let B0:List Value:=[.slice ap O.Starts.length aw,.slice aq O.Splits.length ax,.slice au O.Clocks.length ay,.slice av O.Readings.length az]
 refine ZH (cs:=B0) rfl rfl rfl rfl rfl rfl (by rfl) hS ?_
 intro W1 b2 bp
 let B1:List Value:=[jV p1.Kind,jV p1.Skier,jV p1.Index,.bool p1.Up]
 refine ZH (cs:=B1) rfl rfl rfl rfl rfl rfl (by rfl) bp ?_
 intro W5 b6 bv
 let B2:List Value:=[jV 0,jV 0]
 refine zm (cs:=B2) Z Z Z Z Z ZP Z bv ?_
 intro W9 ai bi
 refine zm (cs:=B2) Z Z Z Z Z ZP Z bi ?_
 intro aZ aj bj
 refine eN (zI (ZN ZD [2,3,1,2,0,0] (.fl 1 (.fl 2 (.fx 0 (.fx 3 gCu .stop) .stop))) (by kernel_rfl) ?_))
 have an:=bj.drew
 generalize hw_W18:({ aZ with drawn:=aZ.drawn + 1 }:World)=bb at an ⊢
 refine oR Z (zF Z Z ZV Z zC) (oL Z (an.ldB (j:=2) Z Z Z zJ (v:=jV p1.Index) Z) (bnK hm fun a8 bg bw=>zM 0 Z Z Z Z (zK Z Z Tryz.call63 zO Z) an (fun hs=>wFn bb U hs bg) (.inr Z) ?_))
 rintro aY bz bK a7 bI bm ⟨rfl,rfl⟩
 have bn:sW w U aY [.blk aj 149 B2,.blk ai 149 B2,.blk b6 214 B1,.blk b2 83 B0] a7:=bm
 refine bnK bw fun ba bh bx=>zM 0 Z Z Z Z (zK Z Z Tryz.call214 (zD Z zO) Z) bn (fun hs=>wHO p1.Index a7 aY hs bh) (.inr Z) ?_
 rintro ah bA bL bd bJ bq ⟨rfl,rfl⟩
 have br:sW w U ah [.blk aj 149 B2,.blk ai 149 B2,.blk b6 214 B1,.blk b2 83 B0] bd:=bq
 let B3:List Value:=[jV a8.skier,jV a8.mat]
 refine zh (j:=1) (vs:=B3) Z Z Z Z br Z Z Z Z zV (zA Z) Z Z Z ?_
 intro be bs
 have bt:sW w U ah [.blk aj 149 B2,.blk ai 149 B3,.blk b6 214 B1,.blk b2 83 B0] be:=bs
 let B4:List Value:=[jV ba.skier,jV ba.mat]
 refine zh (j:=0) (vs:=B4) Z Z Z Z bt Z Z Z Z zV (zA Z) Z Z Z ?_
 intro bf bu
 have ao:sW w U ah [.blk aj 149 B4,.blk ai 149 B3,.blk b6 214 B1,.blk b2 83 B0] bf:=bu
 refine eN (zP ?_)
 cases bx
 exact ⟨rfl,_,(wFY (rs:=[.cell 4 149,.cell 5 149]) (vs:=[.agg B3.toArray,.agg B4.toArray]) ⟨⟨_,rfl,(wBL ZC zV (ao.blkAt (k:=1) rfl) (vs:=B3) rfl rfl)⟩,⟨⟨_,rfl,(wBL ZC zV (ao.blkAt (k:=0) rfl) (vs:=B4) rfl rfl)⟩,trivial⟩⟩ rfl),ah,_,(ao.pick [] _ (by decide) rfl),rfl,rfl⟩
theorem wKC (O:wAF) (ag:Option Addr) (aj:Nat) (ah:Option Addr) (ak:Nat) (ae:Option Addr) (af:Nat) (ai:Option Addr) (am:Nat) (p1:wAO) (w:World) (U:PHeap) (hS:St0 w U []) (bd:Sl U 1 ag aj O.Starts.length (hD KL.encI O.Starts)) (be:Sl U 2 ah ak O.Splits.length (hD wAH O.Splits)) (ao:Sl U 3 ae af O.Clocks.length (hD wAU O.Clocks)) (bf:Sl U 4 ai am O.Readings.length (hD wAG O.Readings)) {r:Int × Int} (hm:wFD O p1=some r):Gv Tryz.prog 215 [.agg #[.slice ag O.Starts.length aj,.slice ah O.Splits.length ak,.slice ae O.Clocks.length af,.slice ai O.Readings.length am],.agg #[jV p1.Kind,jV p1.Skier,jV p1.Index,.bool p1.Up]] w (wBD w [] U (fun U_ L_ v=>v=.tuple #[jV r.1,jV r.2]/\L_=[])):=by
 unfold wFD at hm
 refine Gv.of Tryz.func215 rfl Tryz.ntmps215 Tryz.results215 rfl (sR gDj rfl (ZH (cs:=[.slice ag O.Starts.length aj,.slice ah O.Splits.length ak,.slice ae O.Clocks.length af,.slice ai O.Readings.length am]) rfl rfl rfl rfl rfl rfl (by rfl) hS ?_))
 intro W1 b2 ax
 refine ZH (cs:=[jV p1.Kind,jV p1.Skier,jV p1.Index,.bool p1.Up]) rfl rfl rfl rfl rfl rfl (by rfl) ax ?_
 intro W5 b6 ay
 refine yU rfl rfl rfl rfl rfl rfl (yU rfl rfl rfl rfl rfl rfl (eN (zI (ZN ZD [3,1,3,1,3,3,3,1,3,3,1,3,1,3,3,3,1,3,3] fL19 (by kernel_rfl) ?_))))
 have ab:=ay.drew
 generalize hw_W10:({ W5 with drawn:=W5.drawn + 1 }:World)=aZ at ab ⊢
 refine oR Z (zF Z Z zq Z YW) (oL Z (ab.ldB (j:=1) Z Z Z Yc (v:=.slice ae O.Clocks.length af) Z) (oR Z (zF Z Z ZV Z zC) (oL Z (ab.ldB (j:=0) Z Z Z zJ (v:=jV p1.Index) Z) (bnK hm fun ap ac az=>?_))))
 have q:=ao.el (fun _=>rfl) (wAV ac)
 obtain ⟨a7,bg,aq,av⟩:=q
 refine oR Z (Za Z Z aq Z yK yy (wCh ac) (wCs ac)) (oR Z (zF Z Z YM Z ZK) (oR Z (zF Z Z ZM Z zC) (oL Z (ab.ldC (f:=0) av (v:=jV ap.Offset.Lo) Z Z zJ Z) (oR Z (Runs.negw Z Z) (oR Z (zF Z Z zq Z YW) (oL Z (ab.ldB (j:=1) Z Z Z Yc (v:=.slice ae O.Clocks.length af) Z) (oR Z (zF Z Z ZV Z zC) (oL Z (ab.ldB (j:=0) Z Z Z zJ (v:=jV p1.Index) Z) ?_))))))))
 have q:=ao.el (fun _=>rfl) (wAV ac)
 obtain ⟨a8,bh,au,aw⟩:=q
 refine oR Z (Za Z Z au Z yK yy (wCh ac) (wCs ac)) (oR Z (zF Z Z YM Z ZK) (oR Z (zF Z Z ZM Z zC) (oL Z (ab.ldC (f:=1) aw (v:=jV ap.Offset.Hi) Z Z zJ Z) (oA Z Z (oA Z Z (eN (zP ?_)))))))
 cases az
 exact ⟨rfl,_,(wEr rfl rfl),U,_,(ab.pick [] _ (by decide) rfl),rfl,rfl⟩
theorem wJQ (p0:wAF) (az:Option Addr) (a7:Nat) (aY:Option Addr) (a8:Nat) (aZ:Option Addr) (ba:Nat) (aq:Option Addr) (au:Nat) (p1:wAO) (w:World) (U:PHeap) (hS:St0 w U []) (c6:Sl U 1 az a7 p0.Starts.length (hD KL.encI p0.Starts)) (c8:Sl U 2 aY a8 p0.Splits.length (hD wAH p0.Splits)) (c9:Sl U 3 aZ ba p0.Clocks.length (hD wAU p0.Clocks)) (cm:Sl U 4 aq au p0.Readings.length (hD wAG p0.Readings)) {r:wAK × wAK} (hm:wEb p0 p1=some r):Gv Tryz.prog 217 [.agg #[.slice az p0.Starts.length a7,.slice aY p0.Splits.length a8,.slice aZ p0.Clocks.length ba,.slice aq p0.Readings.length au],.agg #[jV p1.Kind,jV p1.Skier,jV p1.Index,.bool p1.Up]] w (wBD w [] U (fun U_ L_ v=>v=.tuple #[.agg #[jV r.1.skier,jV r.1.mat],.agg #[jV r.2.skier,jV r.2.mat]]/\L_=[])):=by
 unfold wEb at hm
 refine Gv.of Tryz.func217 Z Tryz.ntmps217 Tryz.results217 Z (sR gDi Z ?_)
 let B0:List Value:=[.slice az p0.Starts.length a7,.slice aY p0.Splits.length a8,.slice aZ p0.Clocks.length ba,.slice aq p0.Readings.length au]
 refine ZH (cs:=B0) rfl rfl rfl rfl rfl rfl (by rfl) hS ?_
 intro W1 b2 cd
 let B1:List Value:=[jV p1.Kind,jV p1.Skier,jV p1.Index,.bool p1.Up]
 refine ZH (cs:=B1) rfl rfl rfl rfl rfl rfl (by rfl) cd ?_
 intro W5 b6 ci
 let B2:List Value:=[jV 0,jV 0]
 refine zm (cs:=B2) Z Z Z Z Z ZP Z ci ?_
 intro W9 af bO
 refine zm (cs:=B2) Z Z Z Z Z ZP Z bO ?_
 intro cL ag ap
 refine eN (sR (wGx gCv) Z (oR Z (zF Z Z zq Z yQ) (oL Z (ap.ldB (j:=3) Z Z Z YU (v:=.slice aq p0.Readings.length au) Z) (oR Z (zF Z Z ZV Z zC) (oL Z (ap.ldB (j:=2) Z Z Z zJ (v:=jV p1.Index) Z) (bnK hm fun O ax cn=>?_))))))
 have q:=cm.el (fun _=>rfl) (wAV ax)
 obtain ⟨cQ,db,bL,bM⟩:=q
 refine oR Z (Za Z Z bL Z yb yI (wCh ax) (wCs ax)) (oL Z (ap.ldCA (f:=0) bM Z Z Tryz.isAgg85 yI (us:=[jV O.Skier,jV O.Mat,jV O.Clock,jV O.Time]) Z Z) (zm (cs:=[jV 0,jV 0,jV 0,jV 0]) Z Z Z Z Z YD Z ap ?_))
 intro cN ab ca
 let B3:List Value:=[jV O.Skier,jV O.Mat,jV O.Clock,jV O.Time]
 refine zh (j:=0) (vs:=B3) Z Z Z Z ca Z Z Z Z yI (zA Z) Z Z Z ?_
 intro bs cc
 have cg:sW w U U [.blk ab 85 B3,.blk ag 149 B2,.blk af 149 B2,.blk b6 214 B1,.blk b2 83 B0] bs:=cc
 refine eN ?_
 have q:=bnd cn
 obtain ⟨⟨cG,cH⟩,cp,be⟩:=q
 try dsimp only at be
 let B4:List Value:=[jV O.Skier,jV O.Mat]
 let B5:List Value:=[jV cG,jV cH]
 refine yd (fun σ_ w_=>∃ (U_:PHeap),σ_ 4=.pointer (some ⟨af,0,none⟩)/\σ_ 5=.pointer (some ⟨ag,0,none⟩)/\PHeap.Le U U_/\sW w U U_ [.blk af 149 B5,.blk ab 85 B3,.blk ag 149 B4,.blk b6 214 B1,.blk b2 83 B0] w_) ?_ ?_
 refine bnK cp fun bf bK co=>?_
 let B6:List Value:=[jV bf.skier,jV bf.mat]
 refine CK.webp (U0:=U) (L0:=[.blk ab 85 B3,.blk ag 149 B2,.blk b6 214 B1,.blk b2 83 B0]) ZD [pW 13 [] (.pointer (some ⟨ab,2,none⟩)),pW 14 [0] (jV O.Clock),⟨some 15,[15],[1],false,[],false,[],fun σ R=>σ 15=.agg B6.toArray/\R=[]⟩,pW 16 [] (.pointer (some ⟨ab,0,none⟩)),pX 17 [3] (jV O.Skier),pW 18 [] (.pointer (some ⟨ab,1,none⟩)),pX 19 [5] (jV O.Mat),pW 20 [4,6] (.agg B4.toArray),⟨none,[],[2],false,[],false,[.blk af 149 B2],fun _ R=>R=[.blk af 149 B6]⟩] [false] [(4,.pointer (some ⟨af,0,none⟩)),(5,.pointer (some ⟨ag,0,none⟩)),(6,.pointer (some ⟨ab,0,none⟩))] (by kernel_rfl) ⟨rfl,rfl,rfl,trivial⟩ (cg.pick [2,0,1,3,4] _ (by decide) rfl) ⟨?_,?_,?_,?_,?_,?_,?_,?_,?_,trivial⟩ ?_
 refine wpW ?_
 rintro _ _ _ _ _ ⟨_,_,bB,_⟩ _ _ _ cA
 exact oR Z (zF Z bB Zt Z zC) cA
 refine wpW ?_
 rintro _ _ _ _ _ _ _ ⟨⟨_,⟨bJ,_⟩⟩,_⟩ cj cC
 exact oL Z (cj.ldB (j:=0) Z Z bJ zJ (v:=jV O.Clock) Z) cC
 rintro _ _ bt bn bh _ _ _ ⟨⟨_,⟨bC,_⟩⟩,_⟩ rfl bN cq
 refine zM 0 Z Z Z Z (zK Z Z Tryz.call214 (zD bC zO) Z) bN (fun hs=>wHO O.Clock bt bn hs bK) (.inr Z) ?_
 rintro bi cJ dd bp cD bP ⟨rfl,rfl⟩
 have bQ:sW w U bi (.blk ab 85 B3 :: .blk ag 149 B2 :: .blk b6 214 B1 :: .blk b2 83 B0 :: bh) bp:=bP
 exact cq _ _ _ _ cD bQ ⟨Z,Z⟩
 refine wpW ?_
 rintro _ _ _ _ _ ⟨_,_,bu,_⟩ _ _ _ cr
 exact oR Z (zF Z bu Zt Z zC) cr
 refine wpX ?_
 rintro _ _ _ _ _ _ _ ⟨⟨_,⟨bD,_⟩⟩,_⟩ bR ct
 exact yj Z Z Z Z (bR.ldB (j:=0) Z Z bD zJ (v:=jV O.Skier) Z) ct
 refine wpW ?_
 rintro _ _ _ _ _ ⟨_,_,bv,_⟩ _ _ _ cu
 exact oR Z (zF Z bv Zt Z zC) cu
 refine wpX ?_
 rintro _ _ _ _ _ _ _ ⟨⟨_,⟨bE,_⟩⟩,_⟩ bS cw
 exact yj Z Z Z Z (bS.ldB (j:=0) Z Z bE zJ (v:=jV O.Mat) Z) cw
 refine wpW ?_
 rintro _ _ _ _ _ _ _ ⟨⟨_,⟨bF,_⟩⟩,⟨_,⟨bG,_⟩⟩,_⟩ _ cy
 exact oR Z (zx (pv:=[(0,jV O.Skier),(1,jV O.Mat)]) (z:=B2) (cs:=B4) Z (wAA bF (wAA bG wAI)) ZP wEg Z Z) cy
 rintro _ _ _ bj bg _ ⟨bw,_⟩ _ ⟨⟨_,⟨bH,_⟩⟩,_⟩ rfl bT cz
 refine zh (j:=0) (vs:=B6) Z Z Z Z bT Z bw bH Z zV (zA Z) Z Z Z ?_
 intro bq bU
 have bV:sW w U bj (.blk af 149 B6 :: .blk ab 85 B3 :: .blk ag 149 B2 :: .blk b6 214 B1 :: .blk b2 83 B0 :: bg) bq:=bU
 exact cz undef _ _ _ (zL _) bV Z
 rintro cI bb aw ⟨bx,bd,cR,_⟩ cE _ ⟨cS,rfl⟩ _ ⟨cU,rfl⟩ _ ⟨cV,rfl⟩ _ ⟨cW,rfl⟩ _ ⟨cX,rfl⟩ _ ⟨cY,rfl⟩ _ ⟨cZ,rfl⟩ _ ⟨bI,rfl⟩ _ rfl bW
 have bX:sW w U aw [.blk af 149 B6,.blk ab 85 B3,.blk ag 149 B2,.blk b6 214 B1,.blk b2 83 B0] bb:=bW
 show OKS _ _ _ _ _ _ (.fx 9 .nil .stop) cI bb
 refine zh (j:=2) (vs:=B4) Z Z Z Z bX Z bd bI Z zV (zA Z) Z Z Z ?_
 intro br bY
 have bZ:sW w U aw [.blk af 149 B6,.blk ab 85 B3,.blk ag 149 B4,.blk b6 214 B1,.blk b2 83 B0] br:=bY
 refine zg ?_
 cases co
 exact zG ⟨Z,⟨aw,bx,bd,cE,bZ⟩⟩
 rintro de cM ⟨bm,bz,bA,da,ay⟩
 refine zP ?_
 cases be
 exact ⟨rfl,_,(wFY (rs:=[.cell 4 149,.cell 5 149]) (vs:=[.agg B5.toArray,.agg B4.toArray]) ⟨⟨_,bz,(wBL ZC zV (ay.blkAt (k:=0) rfl) (vs:=B5) rfl rfl)⟩,⟨⟨_,bA,(wBL ZC zV (ay.blkAt (k:=2) rfl) (vs:=B4) rfl rfl)⟩,trivial⟩⟩ rfl),bm,_,(ay.pick [] _ (by decide) rfl),rfl,rfl⟩
theorem wJR (O:wAF) (an:Option Addr) (ap:Nat) (ao:Option Addr) (aq:Nat) (af:Option Addr) (ag:Nat) (ai:Option Addr) (aj:Nat) (p1:wAO) (w:World) (U:PHeap) (hS:St0 w U []) (bw:Sl U 1 an ap O.Starts.length (hD KL.encI O.Starts)) (bx:Sl U 2 ao aq O.Splits.length (hD wAH O.Splits)) (ax:Sl U 3 af ag O.Clocks.length (hD wAU O.Clocks)) (bj:Sl U 4 ai aj O.Readings.length (hD wAG O.Readings)) {r:Int × Int} (hm:wEc O p1=some r):Gv Tryz.prog 218 [.agg #[.slice an O.Starts.length ap,.slice ao O.Splits.length aq,.slice af O.Clocks.length ag,.slice ai O.Readings.length aj],.agg #[jV p1.Kind,jV p1.Skier,jV p1.Index,.bool p1.Up]] w (wBD w [] U (fun U_ L_ v=>v=.tuple #[jV r.1,jV r.2]/\L_=[])):=by
 unfold wEc at hm
 refine Gv.of Tryz.func218 Z Tryz.ntmps218 Tryz.results218 Z (sR gDj Z ?_)
 let B0:List Value:=[.slice an O.Starts.length ap,.slice ao O.Splits.length aq,.slice af O.Clocks.length ag,.slice ai O.Readings.length aj]
 refine ZH (cs:=B0) rfl rfl rfl rfl rfl rfl (by rfl) hS ?_
 intro W1 b2 bi
 let B1:List Value:=[jV p1.Kind,jV p1.Skier,jV p1.Index,.bool p1.Up]
 refine ZH (cs:=B1) rfl rfl rfl rfl rfl rfl (by rfl) bi ?_
 intro W5 b6 ah
 refine oA Z Z (oA Z Z (eN (sR (wGx gCv) Z (oR Z (zF Z Z zq Z yQ) (oL Z (ah.ldB (j:=1) Z Z Z YU (v:=.slice ai O.Readings.length aj) Z) (oR Z (zF Z Z ZV Z zC) (oL Z (ah.ldB (j:=0) Z Z Z zJ (v:=jV p1.Index) Z) (bnK hm fun x9 am bm=>?_))))))))
 have q:=bj.el (fun _=>rfl) (wAV am)
 obtain ⟨bt,bz,a7,bb⟩:=q
 refine oR Z (Za Z Z a7 Z yb yI (wCh am) (wCs am)) (oL Z (ah.ldCA (f:=0) bb Z Z Tryz.isAgg85 yI (us:=[jV x9.Skier,jV x9.Mat,jV x9.Clock,jV x9.Time]) Z Z) (zm (cs:=[jV 0,jV 0,jV 0,jV 0]) Z Z Z Z Z YD Z ah ?_))
 intro bq az bf
 let B2:List Value:=[jV x9.Skier,jV x9.Mat,jV x9.Clock,jV x9.Time]
 refine zh (j:=0) (vs:=B2) Z Z Z Z bf Z Z Z Z yI (zA Z) Z Z Z ?_
 intro ak bg
 have bh:sW w U U [.blk az 85 B2,.blk b6 214 B1,.blk b2 83 B0] ak:=bg
 refine eN (zI (ZN ZD [3,1,3,1,3,1,3,3,1,3,3,1,3,1,3,3,1,3,1,3,3,3] wRy (by kernel_rfl) ?_))
 have ab:=bh.drew
 generalize hw_W24:({ ak with drawn:=ak.drawn + 1 }:World)=br at ab ⊢
 refine oR Z (zF Z Z Zt Z zC) (oL Z (ab.ldB (j:=0) Z Z Z zJ (v:=jV x9.Time) Z) (oR Z (zF Z Z zq Z YW) (oL Z (ab.ldB (j:=2) Z Z Z Yc (v:=.slice af O.Clocks.length ag) Z) (oR Z (zF Z Z Zt Z zC) (oL Z (ab.ldB (j:=0) Z Z Z zJ (v:=jV x9.Clock) Z) (bnK bm fun ay ae bn=>?_))))))
 have q:=ax.el (fun _=>rfl) (wAV ae)
 obtain ⟨bu,bA,a8,bd⟩:=q
 refine oR Z (Za Z Z a8 Z yK yy (wCh ae) (wCs ae)) (oR Z (zF Z Z YM Z zC) (oL Z (ab.ldC (f:=2) bd (v:=jV ay.Error) Z Z zJ Z) (oR Z (zX Z Z Z) (oR Z (zF Z Z zq Z YW) (oL Z (ab.ldB (j:=2) Z Z Z Yc (v:=.slice af O.Clocks.length ag) Z) (oR Z (zF Z Z Zt Z zC) (oL Z (ab.ldB (j:=0) Z Z Z zJ (v:=jV x9.Clock) Z) ?_)))))))
 have q:=ax.el (fun _=>rfl) (wAV ae)
 obtain ⟨bv,bB,ba,be⟩:=q
 refine oR Z (Za Z Z ba Z yK yy (wCh ae) (wCs ae)) (oR Z (zF Z Z YM Z zC) (oL Z (ab.ldC (f:=2) be (v:=jV ay.Error) Z Z zJ Z) (oR Z (zF Z Z Zt Z zC) (oL Z (ab.ldB (j:=0) Z Z Z zJ (v:=jV x9.Time) Z) (oR Z (Zy Z Z Z) (oA Z Z (oA Z Z (eN (zP ?_)))))))))
 cases bn
 exact ⟨rfl,_,(wEr rfl rfl),U,_,(ab.pick [] _ (by decide) rfl),rfl,rfl⟩
theorem wCc  (w:World) (U:PHeap) (hS:St0 w U [])  {r:Unit} (hm:wDO =some r):Gv Tryz.prog 200 [] w (wBD w [] U (fun U_ L_ v=>v=.agg #[.func (.func 206) #[] #[],.func (.func 207) #[] #[],.func (.func 208) #[] #[],.func (.func 209) #[] #[],.func (.func 210) #[] #[],.func (.func 211) #[] #[],.func (.func 212) #[] #[],.func (.func 213) #[] #[],.func (.func 215) #[] #[],.func (.func 216) #[] #[],.func (.func 217) #[] #[],.func (.func 218) #[] #[]]/\L_=[])):=by
 unfold wDO at hm
 refine Gv.of Tryz.func200 Z Tryz.ntmps200 Tryz.results200 Z (sR (.fx 0 .nil .stop) Z ?_)
 let B0:List Value:=[.nilFunc,.nilFunc,.nilFunc,.nilFunc,.nilFunc,.nilFunc,.nilFunc,.nilFunc,.nilFunc,.nilFunc,.nilFunc,.nilFunc]
 refine zm (cs:=B0) Z Z Z Z Z Tryz.zeroValue278 Z hS ?_
 intro W1 b2 ak
 refine eN (sR (wHg (.fx 5 .nil .stop)) Z ?_)
 let B1:List Value:=[.nilFunc,.nilFunc,.nilFunc]
 let B2:List Value:=[.func (.func 206) #[] #[],.func (.func 207) #[] #[],.func (.func 208) #[] #[]]
 refine oR Z (zx (pv:=[(0,.func (.func 206) #[] #[]),(1,.func (.func 207) #[] #[]),(2,.func (.func 208) #[] #[])]) (z:=B1) (cs:=B2) Z (wAA Z (wAA Z (wAA Z wAI))) yJ wHv Z Z) ?_
 let B3:List Value:=[.func (.func 209) #[] #[],.func (.func 210) #[] #[],.func (.func 211) #[] #[]]
 refine oR Z (zx (pv:=[(0,.func (.func 209) #[] #[]),(1,.func (.func 210) #[] #[]),(2,.func (.func 211) #[] #[])]) (z:=B1) (cs:=B3) Z (wAA Z (wAA Z (wAA Z wAI))) yJ wHv Z Z) ?_
 let B4:List Value:=[.func (.func 212) #[] #[],.func (.func 213) #[] #[],.func (.func 215) #[] #[]]
 refine oR Z (zx (pv:=[(0,.func (.func 212) #[] #[]),(1,.func (.func 213) #[] #[]),(2,.func (.func 215) #[] #[])]) (z:=B1) (cs:=B4) Z (wAA Z (wAA Z (wAA Z wAI))) yJ wHv Z Z) ?_
 let B5:List Value:=[.func (.func 216) #[] #[],.func (.func 217) #[] #[],.func (.func 218) #[] #[]]
 refine oR Z (zx (pv:=[(0,.func (.func 216) #[] #[]),(1,.func (.func 217) #[] #[]),(2,.func (.func 218) #[] #[])]) (z:=B1) (cs:=B5) Z (wAA Z (wAA Z (wAA Z wAI))) yJ wHv Z Z) ?_
 let O:List Value:=[.func (.func 206) #[] #[],.func (.func 207) #[] #[],.func (.func 208) #[] #[],.func (.func 209) #[] #[],.func (.func 210) #[] #[],.func (.func 211) #[] #[],.func (.func 212) #[] #[],.func (.func 213) #[] #[],.func (.func 215) #[] #[],.func (.func 216) #[] #[],.func (.func 217) #[] #[],.func (.func 218) #[] #[]]
 refine oR Z (Runs.buildA (pv:=[(0,.agg B2.toArray),(1,.agg B3.toArray),(2,.agg B4.toArray),(3,.agg B5.toArray)]) (z:=B0) (cs:=O) Z (wAA Z (wAA Z (wAA Z (wAA Z wAI)))) Tryz.zeroValue278 yW Zl Z Z) (zh (j:=0) (vs:=O) Z Z Z Z ak Z Z Z Z Tryz.sizeOf278 (zA Z) Z Z Z ?_)
 intro W5 am
 have ah:sW w U U [.blk b2 278 O] W5:=am
 refine eN (zP ?_)
 cases hm
 exact ⟨rfl,_,(wFz (v:=.agg O.toArray) ⟨⟨_,rfl,(wBL Tryz.isAgg278 Tryz.sizeOf278 (ah.blkAt (k:=0) rfl) (vs:=O) rfl rfl)⟩,trivial⟩),U,_,(ah.pick [] _ (by decide) rfl),rfl,rfl⟩
theorem wIa (p0:wAF) (bu:Option Addr) (bz:Nat) (bv:Option Addr) (bA:Nat) (bw:Option Addr) (bB:Nat) (bx:Option Addr) (bC:Nat) (O:wAO) (w:World) (U:PHeap) (hS:St0 w U []) (cI:Sl U 1 bu bz p0.Starts.length (hD KL.encI p0.Starts)) (cJ:Sl U 2 bv bA p0.Splits.length (hD wAH p0.Splits)) (cK:Sl U 3 bw bB p0.Clocks.length (hD wAU p0.Clocks)) (cL:Sl U 4 bx bC p0.Readings.length (hD wAG p0.Readings)) {r:wAK × wAK × Int} (hm:wCf p0 O=some r):Gv Tryz.prog 174 [.agg #[.slice bu p0.Starts.length bz,.slice bv p0.Splits.length bA,.slice bw p0.Clocks.length bB,.slice bx p0.Readings.length bC],.agg #[jV O.Kind,jV O.Skier,jV O.Index,.bool O.Up]] w (wBD w [] U (fun U_ L_ v=>v=.tuple #[.agg #[jV r.1.skier,jV r.1.mat],.agg #[jV r.2.1.skier,jV r.2.1.mat],jV r.2.2]/\L_=[])):=by
 unfold wCf at hm
 refine Gv.of Tryz.func174 Z Tryz.ntmps174 Tryz.results174 Z ?_
 by_cases c1:O.Kind=0
 have fJ:=hm;rw [if_pos c1] at fJ
 refine sR gDm Z ?_
 let B0:List Value:=[.slice bu p0.Starts.length bz,.slice bv p0.Splits.length bA,.slice bw p0.Clocks.length bB,.slice bx p0.Readings.length bC]
 refine ZH (cs:=B0) rfl rfl rfl rfl rfl rfl (by rfl) hS ?_
 intro W6 b7 mY
 let B1:List Value:=[jV O.Kind,jV O.Skier,jV O.Index,.bool O.Up]
 refine ZH (cs:=B1) rfl rfl rfl rfl rfl rfl (by rfl) mY ?_
 intro oI ba jE
 let B2:List Value:=[jV 0,jV 0]
 refine zm (cs:=B2) Z Z Z Z Z ZP Z jE ?_
 intro oK aw jO
 refine zm (cs:=B2) Z Z Z Z Z ZP Z jO ?_
 intro dY az jW
 refine oA Z Z (eN ?_)
 have q:=bnd fJ
 obtain ⟨⟨⟩,n5,fz⟩:=q
 try dsimp only at fz
 let B3:List Value:=[.func (.func 206) #[] #[],.func (.func 207) #[] #[],.func (.func 208) #[] #[]]
 refine yd (fun σ_ w_=>∃ (U_:PHeap) (bE:Nat),σ_ 2=.pointer (some ⟨b7,0,none⟩)/\σ_ 3=.pointer (some ⟨ba,0,none⟩)/\σ_ 4=.pointer (some ⟨aw,0,none⟩)/\σ_ 5=.pointer (some ⟨az,0,none⟩)/\σ_ 7=.pointer (some ⟨bE,0,none⟩)/\PHeap.Le U U_/\sW w U U_ [.blk az 149 B2,.blk aw 149 B2,.blk ba 214 B1,.blk b7 83 B0,.blk bE 277 B3] w_) ?_ ?_
 have q:=bnd n5
 obtain ⟨⟨⟩,eR,dP⟩:=q
 try dsimp only at dP
 refine ZN ZD [2,3,1,3,2,0] gDp (by kernel_rfl) ?_
 have cA:=jW.drew
 generalize hw_W45:({ dY with drawn:=dY.drawn + 1 }:World)=gZ at cA ⊢
 refine oR Z (zF Z Z ZV Z Tryz.sizeOf212) (oL Z (cA.ldB (j:=2) Z Z Z Tryz.isAgg212 (v:=jV O.Kind) Z) (yp ?_ ?_))
 refine zM 0 Z Z Z Z (zK Z Z YN zO Z) cA (fun hs=>wCc gZ U hs eR) (.inr Z) ?_
 rintro dh ox pQ ii oe me ⟨rfl,rfl⟩
 have mf:sW w U dh [.blk az 149 B2,.blk aw 149 B2,.blk ba 214 B1,.blk b7 83 B0] ii:=me
 refine zY rfl rfl rfl rfl (fun _=>(Runs.ixA (i:=0) rfl rfl (congrArg (jV) c1) yW Zl (by decide) (by decide) (wEw YX Zl rfl))) (zm (cs:=[.nilFunc,.nilFunc,.nilFunc]) rfl rfl rfl rfl rfl yJ rfl mf ?_)
 intro o9 eu mp
 refine zh (j:=0) (vs:=B3) Z Z Z Z mp Z Z Z Z Zl (zA Z) Z Z Z ?_
 intro it mw
 have mA:sW w U dh [.blk eu 277 B3,.blk az 149 B2,.blk aw 149 B2,.blk ba 214 B1,.blk b7 83 B0] it:=mw
 refine zg ?_
 cases dP
 exact zG ⟨rfl,⟨dh,eu,rfl,rfl,rfl,rfl,rfl,oe,(mA.pick [1,2,3,4,0] _ (by decide) rfl)⟩⟩
 refine zm (cs:=[.nilFunc,.nilFunc,.nilFunc]) Z Z Z Z Z yJ Z cA ?_
 intro iz dw mM
 refine zM 0 Z Z Z Z (zK Z Z YN zO Z) mM (fun hs=>wCc iz U hs eR) (.inr Z) ?_
 rintro dm oD pY iI oi mU ⟨rfl,rfl⟩
 have mV:sW w U dm [.blk dw 277 [.nilFunc,.nilFunc,.nilFunc],.blk az 149 B2,.blk aw 149 B2,.blk ba 214 B1,.blk b7 83 B0] iI:=mU
 refine zY rfl rfl rfl rfl (fun _=>(Runs.ixA (i:=0) rfl rfl (congrArg (jV) c1) yW Zl (by decide) (by decide) (wEw YX Zl rfl))) (zh (j:=0) (vs:=B3) rfl rfl rfl rfl mV rfl rfl rfl rfl Zl (zA rfl) rfl rfl rfl ?_)
 intro iJ mW
 have mX:sW w U dm [.blk dw 277 B3,.blk az 149 B2,.blk aw 149 B2,.blk ba 214 B1,.blk b7 83 B0] iJ:=mW
 refine zg ?_
 cases dP
 exact zG ⟨rfl,⟨dm,dw,rfl,rfl,rfl,rfl,rfl,oi,(mX.pick [1,2,3,4,0] _ (by decide) rfl)⟩⟩
 rintro qe iK ⟨gq,bE,eH,dE,bS,bO,eI,cU,cH⟩
 refine sR (wEL (.fx 4 (wPZ gCw) .stop)) Z (oR Z (zF Z eI ye Z Tryz.sizeOf274) (oL Z (cH.ldB (j:=4) Z Z Z Tryz.isAgg274 (v:=.func (.func 207) #[] #[]) Z) (oL Z (cH.ldBA (j:=3) Z Z eH Zv Zg (vs:=B0) Z Z) (oL Z (cH.ldBA (j:=2) Z Z dE YA yk (vs:=B1) Z Z) ?_))))
 have fc:=cI.le cU
 have fd:=cJ.le cU
 have ff:=cK.le cU
 have fg:=cL.le cU
 have q:=bnd fz
 obtain ⟨⟨c8,c9⟩,jy,fP⟩:=q
 try dsimp only at fP
 refine zM 0 Z Z Z Z (zK Z Z Tryz.call207 (zD Z (zD Z zO)) Z) cH (fun hs=>wJx p0 bu bz bv bA bw bB bx bC O iK gq hs fc fd ff fg jy) (.inr Z) ?_
 rintro co oH p6 iL cM jz ⟨rfl,rfl⟩
 have jA:sW w U co [.blk az 149 B2,.blk aw 149 B2,.blk ba 214 B1,.blk b7 83 B0,.blk bE 277 B3] iL:=jz
 refine oM Z Z (oR Z (zi Z Z (v:=.agg #[jV c8.skier,jV c8.mat]) Z) (oR Z (zi Z Z (v:=.agg #[jV c9.skier,jV c9.mat]) Z) ?_))
 let B4:List Value:=[jV c8.skier,jV c8.mat]
 refine zh (j:=1) (vs:=B4) Z Z Z Z jA Z bS Z Z zV (zA Z) Z Z Z ?_
 intro gu jB
 have jC:sW w U co [.blk az 149 B2,.blk aw 149 B4,.blk ba 214 B1,.blk b7 83 B0,.blk bE 277 B3] gu:=jB
 let B5:List Value:=[jV c9.skier,jV c9.mat]
 refine zh (j:=0) (vs:=B5) Z Z Z Z jC Z bO Z Z zV (zA Z) Z Z Z ?_
 intro dW jD
 have cq:sW w U co [.blk az 149 B5,.blk aw 149 B4,.blk ba 214 B1,.blk b7 83 B0,.blk bE 277 B3] dW:=jD
 refine eN (sR (wEL (.fx 4 (wIh (.nil)) .stop)) Z (oR Z (zF Z eI ye Z Tryz.sizeOf275) (oL Z (cq.ldB (j:=4) Z Z Z Tryz.isAgg275 (v:=.func (.func 208) #[] #[]) Z) (oL Z (cq.ldBA (j:=3) Z Z eH Zv Zg (vs:=B0) Z Z) (oL Z (cq.ldBA (j:=2) Z Z dE YA yk (vs:=B1) Z Z) ?_)))))
 have iZ:=fc.le cM
 have ja:=fd.le cM
 have jb:=ff.le cM
 have jc:=fg.le cM
 have q:=bnd fP
 obtain ⟨⟨dS,fU⟩,jd,fq⟩:=q
 try dsimp only at fq
 refine zM 0 Z Z Z Z (zK Z Z Tryz.call208 (zD Z (zD Z zO)) Z) cq (fun hs=>wJy p0 bu bz bv bA bw bB bx bC O dW co hs iZ ja jb jc jd) (.inr Z) ?_
 rintro bH oj pH dn pq jF ⟨rfl,rfl⟩
 have bX:sW w U bH [.blk az 149 B5,.blk aw 149 B4,.blk ba 214 B1,.blk b7 83 B0,.blk bE 277 B3] dn:=jF
 refine oM Z Z (oR Z (zi Z Z (v:=jV dS) Z) (oR Z (zi Z Z (v:=jV fU) Z) (oA Z Z (oA Z Z (eN (zI (sR fL3 Z (oR Z (zF Z dE ZV Z yN) (oL Z (bX.ldB (j:=2) Z Z Z Tryz.isAgg4 (v:=.bool O.Up) Z) (oR Z (ZF Z Z) (eN (ifc fq ?_ ?_))))))))))))
 intro dx mZ
 refine zn (nC dx.out) (kN ?_)
 have q:=bnd mZ
 obtain ⟨⟨⟩,fQ,ft⟩:=q
 try dsimp only at ft
 refine yd (fun σ_ w_=>∃ (U_:PHeap),σ_ 4=.pointer (some ⟨aw,0,none⟩)/\σ_ 5=.pointer (some ⟨az,0,none⟩)/\σ_ 6=jV dS/\PHeap.Le bH U_/\sW w U U_ [.blk az 149 B5,.blk aw 149 B4,.blk ba 214 B1,.blk b7 83 B0,.blk bE 277 B3] w_) ?_ ?_
 refine ZN ZD [1,2,3,0,0,3] gDq (by kernel_rfl) ?_
 have bY:=bX.drew
 generalize hw_W136:({ dn with drawn:=dn.drawn + 1 }:World)=oJ at bY ⊢
 refine oL Z (bY.ldBA (j:=1) Z Z bS ZC zV (vs:=B4) Z Z) (oM Z Z (yp ?_ ?_))
 refine yj Z Z Z Z (bY.ldBA (j:=0) Z Z bO ZC zV (vs:=B5) Z Z) (zh (j:=1) (vs:=B4) Z Z Z Z bY Z bS Z Z zV (zA Z) Z Z Z ?_)
 intro gv jG
 have jH:sW w U bH [.blk az 149 B5,.blk aw 149 B4,.blk ba 214 B1,.blk b7 83 B0,.blk bE 277 B3] gv:=jG
 refine zh (j:=0) (vs:=B5) Z Z Z Z jH Z bO Z Z zV (zA Z) Z Z Z ?_
 intro gw jI
 have jJ:sW w U bH [.blk az 149 B5,.blk aw 149 B4,.blk ba 214 B1,.blk b7 83 B0,.blk bE 277 B3] gw:=jI
 refine oA Z Z (zg ?_)
 cases fQ
 exact zG ⟨Z,⟨bH,bS,bO,Z,(zL _),jJ⟩⟩
 refine zh (j:=1) (vs:=B4) Z Z Z Z bY Z bS Z Z zV (zA Z) Z Z Z ?_
 intro gx jK
 have fh:sW w U bH [.blk az 149 B5,.blk aw 149 B4,.blk ba 214 B1,.blk b7 83 B0,.blk bE 277 B3] gx:=jK
 refine yj Z Z Z Z (fh.ldBA (j:=0) Z Z bO ZC zV (vs:=B5) Z Z) (zh (j:=0) (vs:=B5) Z Z Z Z fh Z bO Z Z zV (zA Z) Z Z Z ?_)
 intro gy jL
 have jM:sW w U bH [.blk az 149 B5,.blk aw 149 B4,.blk ba 214 B1,.blk b7 83 B0,.blk bE 277 B3] gy:=jL
 refine oA Z Z (zg ?_)
 cases fQ
 exact zG ⟨Z,⟨bH,bS,bO,Z,(zL _),jM⟩⟩
 rintro p7 oO ⟨fZ,iN,iO,iP,pu,dF⟩
 refine zP ?_
 cases ft
 exact ⟨rfl,_,(wFY (rs:=[.cell 4 149,.cell 5 149,.tmp 6]) (vs:=[.agg B4.toArray,.agg B5.toArray,jV dS]) ⟨⟨_,iN,(wBL ZC zV (dF.blkAt (k:=1) rfl) (vs:=B4) rfl rfl)⟩,⟨⟨_,iO,(wBL ZC zV (dF.blkAt (k:=0) rfl) (vs:=B5) rfl rfl)⟩,⟨iP,trivial⟩⟩⟩ rfl),fZ,_,(dF.pick [] _ (by decide) rfl),rfl,rfl⟩
 intro dx m4
 refine zy (nF (dx.out)) (sR (wCK gDd) Z (oL Z (bX.ldBA (j:=0) Z Z bO ZC zV (vs:=B5) Z Z) (oL Z (bX.ldBA (j:=1) Z Z bS ZC zV (vs:=B4) Z Z) (oM Z Z (zh (j:=1) (vs:=B5) Z Z Z Z bX Z bS Z Z zV (zA Z) Z Z Z ?_)))))
 intro gz jN
 have jP:sW w U bH [.blk az 149 B5,.blk aw 149 B5,.blk ba 214 B1,.blk b7 83 B0,.blk bE 277 B3] gz:=jN
 refine zh (j:=0) (vs:=B4) Z Z Z Z jP Z bO Z Z zV (zA Z) Z Z Z ?_
 intro gA jQ
 have dG:sW w U bH [.blk az 149 B4,.blk aw 149 B5,.blk ba 214 B1,.blk b7 83 B0,.blk bE 277 B3] gA:=jQ
 refine oA Z Z (eN (zP (zR ?_)))
 cases m4
 exact ⟨rfl,_,(wFY (rs:=[.cell 4 149,.cell 5 149,.tmp 6]) (vs:=[.agg B5.toArray,.agg B4.toArray,jV fU]) ⟨⟨_,bS,(wBL ZC zV (dG.blkAt (k:=1) rfl) (vs:=B5) rfl rfl)⟩,⟨⟨_,bO,(wBL ZC zV (dG.blkAt (k:=0) rfl) (vs:=B4) rfl rfl)⟩,⟨rfl,trivial⟩⟩⟩ rfl),bH,_,(dG.pick [] _ (by decide) rfl),rfl,rfl⟩
 by_cases c2:O.Kind=1
 have fu:=hm;rw [if_neg c1,if_pos c2] at fu
 refine sR gDm Z ?_
 let B6:List Value:=[.slice bu p0.Starts.length bz,.slice bv p0.Splits.length bA,.slice bw p0.Clocks.length bB,.slice bx p0.Readings.length bC]
 refine ZH (cs:=B6) rfl rfl rfl rfl rfl rfl (by rfl) hS ?_
 intro oP bb jR
 let B7:List Value:=[jV O.Kind,jV O.Skier,jV O.Index,.bool O.Up]
 refine ZH (cs:=B7) rfl rfl rfl rfl rfl rfl (by rfl) jR ?_
 intro oQ bd jS
 let B8:List Value:=[jV 0,jV 0]
 refine zm (cs:=B8) Z Z Z Z Z ZP Z jS ?_
 intro oS ax jT
 refine zm (cs:=B8) Z Z Z Z Z ZP Z jT ?_
 intro dX ay jU
 refine oA Z Z (eN ?_)
 have q:=bnd fu
 obtain ⟨⟨⟩,n4,fw⟩:=q
 try dsimp only at fw
 let B9:List Value:=[.func (.func 209) #[] #[],.func (.func 210) #[] #[],.func (.func 211) #[] #[]]
 refine yd (fun σ_ w_=>∃ (U_:PHeap) (bD:Nat),σ_ 2=.pointer (some ⟨bb,0,none⟩)/\σ_ 3=.pointer (some ⟨bd,0,none⟩)/\σ_ 4=.pointer (some ⟨ax,0,none⟩)/\σ_ 5=.pointer (some ⟨ay,0,none⟩)/\σ_ 7=.pointer (some ⟨bD,0,none⟩)/\PHeap.Le U U_/\sW w U U_ [.blk ay 149 B8,.blk ax 149 B8,.blk bd 214 B7,.blk bb 83 B6,.blk bD 277 B9] w_) ?_ ?_
 have q:=bnd n4
 obtain ⟨⟨⟩,eJ,dN⟩:=q
 try dsimp only at dN
 refine ZN ZD [2,3,1,3,2,0] gDp (by kernel_rfl) ?_
 have cr:=jU.drew
 generalize hw_W204:({ dX with drawn:=dX.drawn + 1 }:World)=gB at cr ⊢
 refine oR Z (zF Z Z ZV Z Tryz.sizeOf212) (oL Z (cr.ldB (j:=2) Z Z Z Tryz.isAgg212 (v:=jV O.Kind) Z) (yp ?_ ?_))
 refine zM 0 Z Z Z Z (zK Z Z YN zO Z) cr (fun hs=>wCc gB U hs eJ) (.inr Z) ?_
 rintro dd ol pI gC n9 jX ⟨rfl,rfl⟩
 have jY:sW w U dd [.blk ay 149 B8,.blk ax 149 B8,.blk bd 214 B7,.blk bb 83 B6] gC:=jX
 refine zY rfl rfl rfl rfl (fun _=>(Runs.ixA (i:=1) rfl rfl (congrArg (jV) c2) yW Zl (by decide) (by decide) (wEw YX Zl rfl))) (zm (cs:=[.nilFunc,.nilFunc,.nilFunc]) rfl rfl rfl rfl rfl yJ rfl jY ?_)
 intro oU eo jZ
 refine zh (j:=0) (vs:=B9) Z Z Z Z jZ Z Z Z Z Zl (zA Z) Z Z Z ?_
 intro gD j0
 have j5:sW w U dd [.blk eo 277 B9,.blk ay 149 B8,.blk ax 149 B8,.blk bd 214 B7,.blk bb 83 B6] gD:=j0
 refine zg ?_
 cases dN
 exact zG ⟨rfl,⟨dd,eo,rfl,rfl,rfl,rfl,rfl,n9,(j5.pick [1,2,3,4,0] _ (by decide) rfl)⟩⟩
 refine zm (cs:=[.nilFunc,.nilFunc,.nilFunc]) Z Z Z Z Z yJ Z cr ?_
 intro gE dt j6
 refine zM 0 Z Z Z Z (zK Z Z YN zO Z) j6 (fun hs=>wCc gE U hs eJ) (.inr Z) ?_
 rintro de om pJ gF oa j7 ⟨rfl,rfl⟩
 have j8:sW w U de [.blk dt 277 [.nilFunc,.nilFunc,.nilFunc],.blk ay 149 B8,.blk ax 149 B8,.blk bd 214 B7,.blk bb 83 B6] gF:=j7
 refine zY rfl rfl rfl rfl (fun _=>(Runs.ixA (i:=1) rfl rfl (congrArg (jV) c2) yW Zl (by decide) (by decide) (wEw YX Zl rfl))) (zh (j:=0) (vs:=B9) rfl rfl rfl rfl j8 rfl rfl rfl rfl Zl (zA rfl) rfl rfl rfl ?_)
 intro gG j9
 have k5:sW w U de [.blk dt 277 B9,.blk ay 149 B8,.blk ax 149 B8,.blk bd 214 B7,.blk bb 83 B6] gG:=j9
 refine zg ?_
 cases dN
 exact zG ⟨rfl,⟨de,dt,rfl,rfl,rfl,rfl,rfl,oa,(k5.pick [1,2,3,4,0] _ (by decide) rfl)⟩⟩
 rintro p8 gH ⟨gb,bD,eB,dB,bP,bL,eC,cN,ct⟩
 refine sR (wEL (.fx 4 (wPZ gCw) .stop)) Z (oR Z (zF Z eC ye Z Tryz.sizeOf274) (oL Z (ct.ldB (j:=4) Z Z Z Tryz.isAgg274 (v:=.func (.func 210) #[] #[]) Z) (oL Z (ct.ldBA (j:=3) Z Z eB Zv Zg (vs:=B6) Z Z) (oL Z (ct.ldBA (j:=2) Z Z dB YA yk (vs:=B7) Z Z) ?_))))
 have eK:=cI.le cN
 have eM:=cJ.le cN
 have eO:=cK.le cN
 have eQ:=cL.le cN
 have q:=bnd fw
 obtain ⟨⟨cV,cW⟩,je,fy⟩:=q
 try dsimp only at fy
 refine zM 0 Z Z Z Z (zK Z Z Tryz.call210 (zD Z (zD Z zO)) Z) ct (fun hs=>wJz p0 bu bz bv bA bw bB bx bC O gH gb hs eK eM eO eQ je) (.inr Z) ?_
 rintro cj oo pK gI cO k6 ⟨rfl,rfl⟩
 have k8:sW w U cj [.blk ay 149 B8,.blk ax 149 B8,.blk bd 214 B7,.blk bb 83 B6,.blk bD 277 B9] gI:=k6
 refine oM Z Z (oR Z (zi Z Z (v:=.agg #[jV cV.skier,jV cV.mat]) Z) (oR Z (zi Z Z (v:=.agg #[jV cW.skier,jV cW.mat]) Z) ?_))
 let ai:List Value:=[jV cV.skier,jV cV.mat]
 refine zh (j:=1) (vs:=ai) Z Z Z Z k8 Z bP Z Z zV (zA Z) Z Z Z ?_
 intro gJ k9
 have lb:sW w U cj [.blk ay 149 B8,.blk ax 149 ai,.blk bd 214 B7,.blk bb 83 B6,.blk bD 277 B9] gJ:=k9
 let ab:List Value:=[jV cW.skier,jV cW.mat]
 refine zh (j:=0) (vs:=ab) Z Z Z Z lb Z bL Z Z zV (zA Z) Z Z Z ?_
 intro dZ lc
 have cu:sW w U cj [.blk ay 149 ab,.blk ax 149 ai,.blk bd 214 B7,.blk bb 83 B6,.blk bD 277 B9] dZ:=lc
 refine eN (sR (wEL (.fx 4 (wIh (.nil)) .stop)) Z (oR Z (zF Z eC ye Z Tryz.sizeOf275) (oL Z (cu.ldB (j:=4) Z Z Z Tryz.isAgg275 (v:=.func (.func 211) #[] #[]) Z) (oL Z (cu.ldBA (j:=3) Z Z eB Zv Zg (vs:=B6) Z Z) (oL Z (cu.ldBA (j:=2) Z Z dB YA yk (vs:=B7) Z Z) ?_)))))
 have jf:=eK.le cO
 have jg:=eM.le cO
 have jh:=eO.le cO
 have ji:=eQ.le cO
 have q:=bnd fy
 obtain ⟨⟨dT,fV⟩,jj,fA⟩:=q
 try dsimp only at fA
 refine zM 0 Z Z Z Z (zK Z Z Tryz.call211 (zD Z (zD Z zO)) Z) cu (fun hs=>wKA p0 bu bz bv bA bw bB bx bC O dZ cj hs jf jg jh ji jj) (.inr Z) ?_
 rintro bI oq pL dp py lf ⟨rfl,rfl⟩
 have bZ:sW w U bI [.blk ay 149 ab,.blk ax 149 ai,.blk bd 214 B7,.blk bb 83 B6,.blk bD 277 B9] dp:=lf
 refine oM Z Z (oR Z (zi Z Z (v:=jV dT) Z) (oR Z (zi Z Z (v:=jV fV) Z) (oA Z Z (oA Z Z (eN (zI (sR fL3 Z (oR Z (zF Z dB ZV Z yN) (oL Z (bZ.ldB (j:=2) Z Z Z Tryz.isAgg4 (v:=.bool O.Up) Z) (oR Z (ZF Z Z) (eN (ifc fA ?_ ?_))))))))))))
 intro dy m5
 refine zn (nC dy.out) (kN ?_)
 have q:=bnd m5
 obtain ⟨⟨⟩,fR,fB⟩:=q
 try dsimp only at fB
 refine yd (fun σ_ w_=>∃ (U_:PHeap),σ_ 4=.pointer (some ⟨ax,0,none⟩)/\σ_ 5=.pointer (some ⟨ay,0,none⟩)/\σ_ 6=jV dT/\PHeap.Le bI U_/\sW w U U_ [.blk ay 149 ab,.blk ax 149 ai,.blk bd 214 B7,.blk bb 83 B6,.blk bD 277 B9] w_) ?_ ?_
 refine ZN ZD [1,2,3,0,0,3] gDq (by kernel_rfl) ?_
 have ca:=bZ.drew
 generalize hw_W295:({ dp with drawn:=dp.drawn + 1 }:World)=oV at ca ⊢
 refine oL Z (ca.ldBA (j:=1) Z Z bP ZC zV (vs:=ai) Z Z) (oM Z Z (yp ?_ ?_))
 refine yj Z Z Z Z (ca.ldBA (j:=0) Z Z bL ZC zV (vs:=ab) Z Z) (zh (j:=1) (vs:=ai) Z Z Z Z ca Z bP Z Z zV (zA Z) Z Z Z ?_)
 intro gK lh
 have li:sW w U bI [.blk ay 149 ab,.blk ax 149 ai,.blk bd 214 B7,.blk bb 83 B6,.blk bD 277 B9] gK:=lh
 refine zh (j:=0) (vs:=ab) Z Z Z Z li Z bL Z Z zV (zA Z) Z Z Z ?_
 intro gL lj
 have lk:sW w U bI [.blk ay 149 ab,.blk ax 149 ai,.blk bd 214 B7,.blk bb 83 B6,.blk bD 277 B9] gL:=lj
 refine oA Z Z (zg ?_)
 cases fR
 exact zG ⟨Z,⟨bI,bP,bL,Z,(zL _),lk⟩⟩
 refine zh (j:=1) (vs:=ai) Z Z Z Z ca Z bP Z Z zV (zA Z) Z Z Z ?_
 intro gM ll
 have fj:sW w U bI [.blk ay 149 ab,.blk ax 149 ai,.blk bd 214 B7,.blk bb 83 B6,.blk bD 277 B9] gM:=ll
 refine yj Z Z Z Z (fj.ldBA (j:=0) Z Z bL ZC zV (vs:=ab) Z Z) (zh (j:=0) (vs:=ab) Z Z Z Z fj Z bL Z Z zV (zA Z) Z Z Z ?_)
 intro gN lm
 have lq:sW w U bI [.blk ay 149 ab,.blk ax 149 ai,.blk bd 214 B7,.blk bb 83 B6,.blk bD 277 B9] gN:=lm
 refine oA Z Z (zg ?_)
 cases fR
 exact zG ⟨Z,⟨bI,bP,bL,Z,(zL _),lq⟩⟩
 rintro p9 oW ⟨ge,iQ,iR,iS,pz,dH⟩
 refine zP ?_
 cases fB
 exact ⟨rfl,_,(wFY (rs:=[.cell 4 149,.cell 5 149,.tmp 6]) (vs:=[.agg ai.toArray,.agg ab.toArray,jV dT]) ⟨⟨_,iQ,(wBL ZC zV (dH.blkAt (k:=1) rfl) (vs:=ai) rfl rfl)⟩,⟨⟨_,iR,(wBL ZC zV (dH.blkAt (k:=0) rfl) (vs:=ab) rfl rfl)⟩,⟨iS,trivial⟩⟩⟩ rfl),ge,_,(dH.pick [] _ (by decide) rfl),rfl,rfl⟩
 intro dy m6
 refine zy (nF (dy.out)) (sR (wCK gDd) Z (oL Z (bZ.ldBA (j:=0) Z Z bL ZC zV (vs:=ab) Z Z) (oL Z (bZ.ldBA (j:=1) Z Z bP ZC zV (vs:=ai) Z Z) (oM Z Z (zh (j:=1) (vs:=ab) Z Z Z Z bZ Z bP Z Z zV (zA Z) Z Z Z ?_)))))
 intro gO lu
 have lw:sW w U bI [.blk ay 149 ab,.blk ax 149 ab,.blk bd 214 B7,.blk bb 83 B6,.blk bD 277 B9] gO:=lu
 refine zh (j:=0) (vs:=ai) Z Z Z Z lw Z bL Z Z zV (zA Z) Z Z Z ?_
 intro gP lx
 have dI:sW w U bI [.blk ay 149 ai,.blk ax 149 ab,.blk bd 214 B7,.blk bb 83 B6,.blk bD 277 B9] gP:=lx
 refine oA Z Z (eN (zP (zR ?_)))
 cases m6
 exact ⟨rfl,_,(wFY (rs:=[.cell 4 149,.cell 5 149,.tmp 6]) (vs:=[.agg ab.toArray,.agg ai.toArray,jV fV]) ⟨⟨_,bP,(wBL ZC zV (dI.blkAt (k:=1) rfl) (vs:=ab) rfl rfl)⟩,⟨⟨_,bL,(wBL ZC zV (dI.blkAt (k:=0) rfl) (vs:=ai) rfl rfl)⟩,⟨rfl,trivial⟩⟩⟩ rfl),bI,_,(dI.pick [] _ (by decide) rfl),rfl,rfl⟩
 by_cases c3:O.Kind=2
 have fC:=hm;rw [if_neg c1,if_neg c2,if_pos c3] at fC
 refine sR gDm Z ?_
 let aj:List Value:=[.slice bu p0.Starts.length bz,.slice bv p0.Splits.length bA,.slice bw p0.Clocks.length bB,.slice bx p0.Readings.length bC]
 refine ZH (cs:=aj) rfl rfl rfl rfl rfl rfl (by rfl) hS ?_
 intro oX be ly
 let ak:List Value:=[jV O.Kind,jV O.Skier,jV O.Index,.bool O.Up]
 refine ZH (cs:=ak) rfl rfl rfl rfl rfl rfl (by rfl) ly ?_
 intro oY bf lz
 let bq:List Value:=[jV 0,jV 0]
 refine zm (cs:=bq) Z Z Z Z Z ZP Z lz ?_
 intro oZ aY lB
 refine zm (cs:=bq) Z Z Z Z Z ZP Z lB ?_
 intro d7 aZ lC
 refine oA Z Z (eN ?_)
 have q:=bnd fC
 obtain ⟨⟨⟩,n7,fD⟩:=q
 try dsimp only at fD
 let bj:List Value:=[.func (.func 212) #[] #[],.func (.func 213) #[] #[],.func (.func 215) #[] #[]]
 refine yd (fun σ_ w_=>∃ (U_:PHeap) (bF:Nat),σ_ 2=.pointer (some ⟨be,0,none⟩)/\σ_ 3=.pointer (some ⟨bf,0,none⟩)/\σ_ 4=.pointer (some ⟨aY,0,none⟩)/\σ_ 5=.pointer (some ⟨aZ,0,none⟩)/\σ_ 7=.pointer (some ⟨bF,0,none⟩)/\PHeap.Le U U_/\sW w U U_ [.blk aZ 149 bq,.blk aY 149 bq,.blk bf 214 ak,.blk be 83 aj,.blk bF 277 bj] w_) ?_ ?_
 have q:=bnd n7
 obtain ⟨⟨⟩,eS,dO⟩:=q
 try dsimp only at dO
 refine ZN ZD [2,3,1,3,2,0] gDp (by kernel_rfl) ?_
 have cw:=lC.drew
 generalize hw_W363:({ d7 with drawn:=d7.drawn + 1 }:World)=gQ at cw ⊢
 refine oR Z (zF Z Z ZV Z Tryz.sizeOf212) (oL Z (cw.ldB (j:=2) Z Z Z Tryz.isAgg212 (v:=jV O.Kind) Z) (yp ?_ ?_))
 refine zM 0 Z Z Z Z (zK Z Z YN zO Z) cw (fun hs=>wCc gQ U hs eS) (.inr Z) ?_
 rintro df ot pM gR oc lD ⟨rfl,rfl⟩
 have lE:sW w U df [.blk aZ 149 bq,.blk aY 149 bq,.blk bf 214 ak,.blk be 83 aj] gR:=lD
 refine zY rfl rfl rfl rfl (fun _=>(Runs.ixA (i:=2) rfl rfl (congrArg (jV) c3) yW Zl (by decide) (by decide) (wEw YX Zl rfl))) (zm (cs:=[.nilFunc,.nilFunc,.nilFunc]) rfl rfl rfl rfl rfl yJ rfl lE ?_)
 intro o0 ep lF
 refine zh (j:=0) (vs:=bj) Z Z Z Z lF Z Z Z Z Zl (zA Z) Z Z Z ?_
 intro gS lG
 have lH:sW w U df [.blk ep 277 bj,.blk aZ 149 bq,.blk aY 149 bq,.blk bf 214 ak,.blk be 83 aj] gS:=lG
 refine zg ?_
 cases dO
 exact zG ⟨rfl,⟨df,ep,rfl,rfl,rfl,rfl,rfl,oc,(lH.pick [1,2,3,4,0] _ (by decide) rfl)⟩⟩
 refine zm (cs:=[.nilFunc,.nilFunc,.nilFunc]) Z Z Z Z Z yJ Z cw ?_
 intro gT du lI
 refine zM 0 Z Z Z Z (zK Z Z YN zO Z) lI (fun hs=>wCc gT U hs eS) (.inr Z) ?_
 rintro dg ou pN gU od lJ ⟨rfl,rfl⟩
 have lK:sW w U dg [.blk du 277 [.nilFunc,.nilFunc,.nilFunc],.blk aZ 149 bq,.blk aY 149 bq,.blk bf 214 ak,.blk be 83 aj] gU:=lJ
 refine zY rfl rfl rfl rfl (fun _=>(Runs.ixA (i:=2) rfl rfl (congrArg (jV) c3) yW Zl (by decide) (by decide) (wEw YX Zl rfl))) (zh (j:=0) (vs:=bj) rfl rfl rfl rfl lK rfl rfl rfl rfl Zl (zA rfl) rfl rfl rfl ?_)
 intro gV lL
 have lM:sW w U dg [.blk du 277 bj,.blk aZ 149 bq,.blk aY 149 bq,.blk bf 214 ak,.blk be 83 aj] gV:=lL
 refine zg ?_
 cases dO
 exact zG ⟨rfl,⟨dg,du,rfl,rfl,rfl,rfl,rfl,od,(lM.pick [1,2,3,4,0] _ (by decide) rfl)⟩⟩
 rintro qa gW ⟨gf,bF,eD,dC,bQ,bM,eE,cP,cy⟩
 refine sR (wEL (.fx 4 (wPZ gCw) .stop)) Z (oR Z (zF Z eE ye Z Tryz.sizeOf274) (oL Z (cy.ldB (j:=4) Z Z Z Tryz.isAgg274 (v:=.func (.func 213) #[] #[]) Z) (oL Z (cy.ldBA (j:=3) Z Z eD Zv Zg (vs:=aj) Z Z) (oL Z (cy.ldBA (j:=2) Z Z dC YA yk (vs:=ak) Z Z) ?_))))
 have eT:=cI.le cP
 have eU:=cJ.le cP
 have eV:=cK.le cP
 have eW:=cL.le cP
 have q:=bnd fD
 obtain ⟨⟨cX,cY⟩,jk,fE⟩:=q
 try dsimp only at fE
 refine zM 0 Z Z Z Z (zK Z Z Tryz.call213 (zD Z (zD Z zO)) Z) cy (fun hs=>wKB p0 bu bz bv bA bw bB bx bC O gW gf hs eT eU eV eW jk) (.inr Z) ?_
 rintro cm ov pO gX cQ lN ⟨rfl,rfl⟩
 have lO:sW w U cm [.blk aZ 149 bq,.blk aY 149 bq,.blk bf 214 ak,.blk be 83 aj,.blk bF 277 bj] gX:=lN
 refine oM Z Z (oR Z (zi Z Z (v:=.agg #[jV cX.skier,jV cX.mat]) Z) (oR Z (zi Z Z (v:=.agg #[jV cY.skier,jV cY.mat]) Z) ?_))
 let am:List Value:=[jV cX.skier,jV cX.mat]
 refine zh (j:=1) (vs:=am) Z Z Z Z lO Z bQ Z Z zV (zA Z) Z Z Z ?_
 intro gY lQ
 have lR:sW w U cm [.blk aZ 149 bq,.blk aY 149 am,.blk bf 214 ak,.blk be 83 aj,.blk bF 277 bj] gY:=lQ
 let ac:List Value:=[jV cY.skier,jV cY.mat]
 refine zh (j:=0) (vs:=ac) Z Z Z Z lR Z bM Z Z zV (zA Z) Z Z Z ?_
 intro d8 lU
 have cz:sW w U cm [.blk aZ 149 ac,.blk aY 149 am,.blk bf 214 ak,.blk be 83 aj,.blk bF 277 bj] d8:=lU
 refine eN (sR (wEL (.fx 4 (wIh (.nil)) .stop)) Z (oR Z (zF Z eE ye Z Tryz.sizeOf275) (oL Z (cz.ldB (j:=4) Z Z Z Tryz.isAgg275 (v:=.func (.func 215) #[] #[]) Z) (oL Z (cz.ldBA (j:=3) Z Z eD Zv Zg (vs:=aj) Z Z) (oL Z (cz.ldBA (j:=2) Z Z dC YA yk (vs:=ak) Z Z) ?_)))))
 have jl:=eT.le cQ
 have jm:=eU.le cQ
 have jo:=eV.le cQ
 have jp:=eW.le cQ
 have q:=bnd fE
 obtain ⟨⟨dU,fW⟩,jq,fG⟩:=q
 try dsimp only at fG
 refine zM 0 Z Z Z Z (zK Z Z Tryz.call215 (zD Z (zD Z zO)) Z) cz (fun hs=>wKC p0 bu bz bv bA bw bB bx bC O d8 cm hs jl jm jo jp jq) (.inr Z) ?_
 rintro bJ ow pP dq pB lV ⟨rfl,rfl⟩
 have cc:sW w U bJ [.blk aZ 149 ac,.blk aY 149 am,.blk bf 214 ak,.blk be 83 aj,.blk bF 277 bj] dq:=lV
 refine oM Z Z (oR Z (zi Z Z (v:=jV dU) Z) (oR Z (zi Z Z (v:=jV fW) Z) (oA Z Z (oA Z Z (eN (zI (sR fL3 Z (oR Z (zF Z dC ZV Z yN) (oL Z (cc.ldB (j:=2) Z Z Z Tryz.isAgg4 (v:=.bool O.Up) Z) (oR Z (ZF Z Z) (eN (ifc fG ?_ ?_))))))))))))
 intro dz m7
 refine zn (nC dz.out) (kN ?_)
 have q:=bnd m7
 obtain ⟨⟨⟩,fS,fH⟩:=q
 try dsimp only at fH
 refine yd (fun σ_ w_=>∃ (U_:PHeap),σ_ 4=.pointer (some ⟨aY,0,none⟩)/\σ_ 5=.pointer (some ⟨aZ,0,none⟩)/\σ_ 6=jV dU/\PHeap.Le bJ U_/\sW w U U_ [.blk aZ 149 ac,.blk aY 149 am,.blk bf 214 ak,.blk be 83 aj,.blk bF 277 bj] w_) ?_ ?_
 refine ZN ZD [1,2,3,0,0,3] gDq (by kernel_rfl) ?_
 have cd:=cc.drew
 generalize hw_W454:({ dq with drawn:=dq.drawn + 1 }:World)=o3 at cd ⊢
 refine oL Z (cd.ldBA (j:=1) Z Z bQ ZC zV (vs:=am) Z Z) (oM Z Z (yp ?_ ?_))
 refine yj Z Z Z Z (cd.ldBA (j:=0) Z Z bM ZC zV (vs:=ac) Z Z) (zh (j:=1) (vs:=am) Z Z Z Z cd Z bQ Z Z zV (zA Z) Z Z Z ?_)
 intro g8 lW
 have lY:sW w U bJ [.blk aZ 149 ac,.blk aY 149 am,.blk bf 214 ak,.blk be 83 aj,.blk bF 277 bj] g8:=lW
 refine zh (j:=0) (vs:=ac) Z Z Z Z lY Z bM Z Z zV (zA Z) Z Z Z ?_
 intro g9 lZ
 have l0:sW w U bJ [.blk aZ 149 ac,.blk aY 149 am,.blk bf 214 ak,.blk be 83 aj,.blk bF 277 bj] g9:=lZ
 refine oA Z Z (zg ?_)
 cases fS
 exact zG ⟨Z,⟨bJ,bQ,bM,Z,(zL _),l0⟩⟩
 refine zh (j:=1) (vs:=am) Z Z Z Z cd Z bQ Z Z zV (zA Z) Z Z Z ?_
 intro ib l3
 have fk:sW w U bJ [.blk aZ 149 ac,.blk aY 149 am,.blk bf 214 ak,.blk be 83 aj,.blk bF 277 bj] ib:=l3
 refine yj Z Z Z Z (fk.ldBA (j:=0) Z Z bM ZC zV (vs:=ac) Z Z) (zh (j:=0) (vs:=ac) Z Z Z Z fk Z bM Z Z zV (zA Z) Z Z Z ?_)
 intro ic l4
 have l5:sW w U bJ [.blk aZ 149 ac,.blk aY 149 am,.blk bf 214 ak,.blk be 83 aj,.blk bF 277 bj] ic:=l4
 refine oA Z Z (zg ?_)
 cases fS
 exact zG ⟨Z,⟨bJ,bQ,bM,Z,(zL _),l5⟩⟩
 rintro qb o5 ⟨gg,iT,iU,iV,pC,dJ⟩
 refine zP ?_
 cases fH
 exact ⟨rfl,_,(wFY (rs:=[.cell 4 149,.cell 5 149,.tmp 6]) (vs:=[.agg am.toArray,.agg ac.toArray,jV dU]) ⟨⟨_,iT,(wBL ZC zV (dJ.blkAt (k:=1) rfl) (vs:=am) rfl rfl)⟩,⟨⟨_,iU,(wBL ZC zV (dJ.blkAt (k:=0) rfl) (vs:=ac) rfl rfl)⟩,⟨iV,trivial⟩⟩⟩ rfl),gg,_,(dJ.pick [] _ (by decide) rfl),rfl,rfl⟩
 intro dz m8
 refine zy (nF (dz.out)) (sR (wCK gDd) Z (oL Z (cc.ldBA (j:=0) Z Z bM ZC zV (vs:=ac) Z Z) (oL Z (cc.ldBA (j:=1) Z Z bQ ZC zV (vs:=am) Z Z) (oM Z Z (zh (j:=1) (vs:=ac) Z Z Z Z cc Z bQ Z Z zV (zA Z) Z Z Z ?_)))))
 intro ie l6
 have l7:sW w U bJ [.blk aZ 149 ac,.blk aY 149 ac,.blk bf 214 ak,.blk be 83 aj,.blk bF 277 bj] ie:=l6
 refine zh (j:=0) (vs:=am) Z Z Z Z l7 Z bM Z Z zV (zA Z) Z Z Z ?_
 intro ig l8
 have dK:sW w U bJ [.blk aZ 149 am,.blk aY 149 ac,.blk bf 214 ak,.blk be 83 aj,.blk bF 277 bj] ig:=l8
 refine oA Z Z (eN (zP (zR ?_)))
 cases m8
 exact ⟨rfl,_,(wFY (rs:=[.cell 4 149,.cell 5 149,.tmp 6]) (vs:=[.agg ac.toArray,.agg am.toArray,jV fW]) ⟨⟨_,bQ,(wBL ZC zV (dK.blkAt (k:=1) rfl) (vs:=ac) rfl rfl)⟩,⟨⟨_,bM,(wBL ZC zV (dK.blkAt (k:=0) rfl) (vs:=am) rfl rfl)⟩,⟨rfl,trivial⟩⟩⟩ rfl),bJ,_,(dK.pick [] _ (by decide) rfl),rfl,rfl⟩
 by_cases c4:O.Kind=3
 have fI:=hm;rw [if_neg c1,if_neg c2,if_neg c3,if_pos c4] at fI
 refine sR gDm Z ?_
 let an:List Value:=[.slice bu p0.Starts.length bz,.slice bv p0.Splits.length bA,.slice bw p0.Clocks.length bB,.slice bx p0.Readings.length bC]
 refine ZH (cs:=an) rfl rfl rfl rfl rfl rfl (by rfl) hS ?_
 intro o6 bg ma
 let ao:List Value:=[jV O.Kind,jV O.Skier,jV O.Index,.bool O.Up]
 refine ZH (cs:=ao) rfl rfl rfl rfl rfl rfl (by rfl) ma ?_
 intro o7 bh mb
 let bs:List Value:=[jV 0,jV 0]
 refine zm (cs:=bs) Z Z Z Z Z ZP Z mb ?_
 intro o8 a7 mc
 refine zm (cs:=bs) Z Z Z Z Z ZP Z mc ?_
 intro d9 a8 md
 refine oA Z Z (eN ?_)
 have q:=bnd fI
 obtain ⟨⟨⟩,n8,fK⟩:=q
 try dsimp only at fK
 let bm:List Value:=[.func (.func 216) #[] #[],.func (.func 217) #[] #[],.func (.func 218) #[] #[]]
 refine yd (fun σ_ w_=>∃ (U_:PHeap) (bG:Nat),σ_ 2=.pointer (some ⟨bg,0,none⟩)/\σ_ 3=.pointer (some ⟨bh,0,none⟩)/\σ_ 4=.pointer (some ⟨a7,0,none⟩)/\σ_ 5=.pointer (some ⟨a8,0,none⟩)/\σ_ 7=.pointer (some ⟨bG,0,none⟩)/\PHeap.Le U U_/\sW w U U_ [.blk a8 149 bs,.blk a7 149 bs,.blk bh 214 ao,.blk bg 83 an,.blk bG 277 bm] w_) ?_ ?_
 have q:=bnd n8
 obtain ⟨⟨⟩,eX,dQ⟩:=q
 try dsimp only at dQ
 refine ZN ZD [2,3,1,3,2,0] gDp (by kernel_rfl) ?_
 have cC:=md.drew
 generalize hw_W522:({ d9 with drawn:=d9.drawn + 1 }:World)=ij at cC ⊢
 refine oR Z (zF Z Z ZV Z Tryz.sizeOf212) (oL Z (cC.ldB (j:=2) Z Z Z Tryz.isAgg212 (v:=jV O.Kind) Z) (yp ?_ ?_))
 refine zM 0 Z Z Z Z (zK Z Z YN zO Z) cC (fun hs=>wCc ij U hs eX) (.inr Z) ?_
 rintro di oy pR il og mg ⟨rfl,rfl⟩
 have mh:sW w U di [.blk a8 149 bs,.blk a7 149 bs,.blk bh 214 ao,.blk bg 83 an] il:=mg
 refine zY rfl rfl rfl rfl (fun _=>(Runs.ixA (i:=3) rfl rfl (congrArg (jV) c4) yW Zl (by decide) (by decide) (wEw YX Zl rfl))) (zm (cs:=[.nilFunc,.nilFunc,.nilFunc]) rfl rfl rfl rfl rfl yJ rfl mh ?_)
 intro pd er mi
 refine zh (j:=0) (vs:=bm) Z Z Z Z mi Z Z Z Z Zl (zA Z) Z Z Z ?_
 intro im mj
 have ml:sW w U di [.blk er 277 bm,.blk a8 149 bs,.blk a7 149 bs,.blk bh 214 ao,.blk bg 83 an] im:=mj
 refine zg ?_
 cases dQ
 exact zG ⟨rfl,⟨di,er,rfl,rfl,rfl,rfl,rfl,og,(ml.pick [1,2,3,4,0] _ (by decide) rfl)⟩⟩
 refine zm (cs:=[.nilFunc,.nilFunc,.nilFunc]) Z Z Z Z Z yJ Z cC ?_
 intro io dv mm
 refine zM 0 Z Z Z Z (zK Z Z YN zO Z) mm (fun hs=>wCc io U hs eX) (.inr Z) ?_
 rintro dl oz pS ip oh mn ⟨rfl,rfl⟩
 have mo:sW w U dl [.blk dv 277 [.nilFunc,.nilFunc,.nilFunc],.blk a8 149 bs,.blk a7 149 bs,.blk bh 214 ao,.blk bg 83 an] ip:=mn
 refine zY rfl rfl rfl rfl (fun _=>(Runs.ixA (i:=3) rfl rfl (congrArg (jV) c4) yW Zl (by decide) (by decide) (wEw YX Zl rfl))) (zh (j:=0) (vs:=bm) rfl rfl rfl rfl mo rfl rfl rfl rfl Zl (zA rfl) rfl rfl rfl ?_)
 intro iq mq
 have mr:sW w U dl [.blk dv 277 bm,.blk a8 149 bs,.blk a7 149 bs,.blk bh 214 ao,.blk bg 83 an] iq:=mq
 refine zg ?_
 cases dQ
 exact zG ⟨rfl,⟨dl,dv,rfl,rfl,rfl,rfl,rfl,oh,(mr.pick [1,2,3,4,0] _ (by decide) rfl)⟩⟩
 rintro qc ir ⟨gh,bG,eF,dD,bR,bN,eG,cR,cD⟩
 refine sR (wEL (.fx 4 (wPZ gCw) .stop)) Z (oR Z (zF Z eG ye Z Tryz.sizeOf274) (oL Z (cD.ldB (j:=4) Z Z Z Tryz.isAgg274 (v:=.func (.func 217) #[] #[]) Z) (oL Z (cD.ldBA (j:=3) Z Z eF Zv Zg (vs:=an) Z Z) (oL Z (cD.ldBA (j:=2) Z Z dD YA yk (vs:=ao) Z Z) ?_))))
 have eY:=cI.le cR
 have eZ:=cJ.le cR
 have e8:=cK.le cR
 have e9:=cL.le cR
 have q:=bnd fK
 obtain ⟨⟨cZ,c6⟩,jr,fL⟩:=q
 try dsimp only at fL
 refine zM 0 Z Z Z Z (zK Z Z Tryz.call217 (zD Z (zD Z zO)) Z) cD (fun hs=>wJQ p0 bu bz bv bA bw bB bx bC O ir gh hs eY eZ e8 e9 jr) (.inr Z) ?_
 rintro cn oB pT iu cS ms ⟨rfl,rfl⟩
 have mu:sW w U cn [.blk a8 149 bs,.blk a7 149 bs,.blk bh 214 ao,.blk bg 83 an,.blk bG 277 bm] iu:=ms
 refine oM Z Z (oR Z (zi Z Z (v:=.agg #[jV cZ.skier,jV cZ.mat]) Z) (oR Z (zi Z Z (v:=.agg #[jV c6.skier,jV c6.mat]) Z) ?_))
 let ap:List Value:=[jV cZ.skier,jV cZ.mat]
 refine zh (j:=1) (vs:=ap) Z Z Z Z mu Z bR Z Z zV (zA Z) Z Z Z ?_
 intro iv mx
 have my:sW w U cn [.blk a8 149 bs,.blk a7 149 ap,.blk bh 214 ao,.blk bg 83 an,.blk bG 277 bm] iv:=mx
 let ae:List Value:=[jV c6.skier,jV c6.mat]
 refine zh (j:=0) (vs:=ae) Z Z Z Z my Z bN Z Z zV (zA Z) Z Z Z ?_
 intro eh mz
 have cE:sW w U cn [.blk a8 149 ae,.blk a7 149 ap,.blk bh 214 ao,.blk bg 83 an,.blk bG 277 bm] eh:=mz
 refine eN (sR (wEL (.fx 4 (wIh (.nil)) .stop)) Z (oR Z (zF Z eG ye Z Tryz.sizeOf275) (oL Z (cE.ldB (j:=4) Z Z Z Tryz.isAgg275 (v:=.func (.func 218) #[] #[]) Z) (oL Z (cE.ldBA (j:=3) Z Z eF Zv Zg (vs:=an) Z Z) (oL Z (cE.ldBA (j:=2) Z Z dD YA yk (vs:=ao) Z Z) ?_)))))
 have jt:=eY.le cS
 have ju:=eZ.le cS
 have jv:=e8.le cS
 have jw:=e9.le cS
 have q:=bnd fL
 obtain ⟨⟨dV,fY⟩,jx,fM⟩:=q
 try dsimp only at fM
 refine zM 0 Z Z Z Z (zK Z Z Tryz.call218 (zD Z (zD Z zO)) Z) cE (fun hs=>wJR p0 bu bz bv bA bw bB bx bC O eh cn hs jt ju jv jw jx) (.inr Z) ?_
 rintro bK oC pU dr pD mB ⟨rfl,rfl⟩
 have cg:sW w U bK [.blk a8 149 ae,.blk a7 149 ap,.blk bh 214 ao,.blk bg 83 an,.blk bG 277 bm] dr:=mB
 refine oM Z Z (oR Z (zi Z Z (v:=jV dV) Z) (oR Z (zi Z Z (v:=jV fY) Z) (oA Z Z (oA Z Z (eN (zI (sR fL3 Z (oR Z (zF Z dD ZV Z yN) (oL Z (cg.ldB (j:=2) Z Z Z Tryz.isAgg4 (v:=.bool O.Up) Z) (oR Z (ZF Z Z) (eN (ifc fM ?_ ?_))))))))))))
 intro dA m9
 refine zn (nC dA.out) (kN ?_)
 have q:=bnd m9
 obtain ⟨⟨⟩,fT,fN⟩:=q
 try dsimp only at fN
 refine yd (fun σ_ w_=>∃ (U_:PHeap),σ_ 4=.pointer (some ⟨a7,0,none⟩)/\σ_ 5=.pointer (some ⟨a8,0,none⟩)/\σ_ 6=jV dV/\PHeap.Le bK U_/\sW w U U_ [.blk a8 149 ae,.blk a7 149 ap,.blk bh 214 ao,.blk bg 83 an,.blk bG 277 bm] w_) ?_ ?_
 refine ZN ZD [1,2,3,0,0,3] gDq (by kernel_rfl) ?_
 have ci:=cg.drew
 generalize hw_W613:({ dr with drawn:=dr.drawn + 1 }:World)=pf at ci ⊢
 refine oL Z (ci.ldBA (j:=1) Z Z bR ZC zV (vs:=ap) Z Z) (oM Z Z (yp ?_ ?_))
 refine yj Z Z Z Z (ci.ldBA (j:=0) Z Z bN ZC zV (vs:=ae) Z Z) (zh (j:=1) (vs:=ap) Z Z Z Z ci Z bR Z Z zV (zA Z) Z Z Z ?_)
 intro iw mC
 have mD:sW w U bK [.blk a8 149 ae,.blk a7 149 ap,.blk bh 214 ao,.blk bg 83 an,.blk bG 277 bm] iw:=mC
 refine zh (j:=0) (vs:=ae) Z Z Z Z mD Z bN Z Z zV (zA Z) Z Z Z ?_
 intro iy mE
 have mF:sW w U bK [.blk a8 149 ae,.blk a7 149 ap,.blk bh 214 ao,.blk bg 83 an,.blk bG 277 bm] iy:=mE
 refine oA Z Z (zg ?_)
 cases fT
 exact zG ⟨Z,⟨bK,bR,bN,Z,(zL _),mF⟩⟩
 refine zh (j:=1) (vs:=ap) Z Z Z Z ci Z bR Z Z zV (zA Z) Z Z Z ?_
 intro iA mG
 have fm:sW w U bK [.blk a8 149 ae,.blk a7 149 ap,.blk bh 214 ao,.blk bg 83 an,.blk bG 277 bm] iA:=mG
 refine yj Z Z Z Z (fm.ldBA (j:=0) Z Z bN ZC zV (vs:=ae) Z Z) (zh (j:=0) (vs:=ae) Z Z Z Z fm Z bN Z Z zV (zA Z) Z Z Z ?_)
 intro iB mH
 have mI:sW w U bK [.blk a8 149 ae,.blk a7 149 ap,.blk bh 214 ao,.blk bg 83 an,.blk bG 277 bm] iB:=mH
 refine oA Z Z (zg ?_)
 cases fT
 exact zG ⟨Z,⟨bK,bR,bN,Z,(zL _),mI⟩⟩
 rintro qd pg ⟨gi,iW,iX,iY,pE,dL⟩
 refine zP ?_
 cases fN
 exact ⟨rfl,_,(wFY (rs:=[.cell 4 149,.cell 5 149,.tmp 6]) (vs:=[.agg ap.toArray,.agg ae.toArray,jV dV]) ⟨⟨_,iW,(wBL ZC zV (dL.blkAt (k:=1) rfl) (vs:=ap) rfl rfl)⟩,⟨⟨_,iX,(wBL ZC zV (dL.blkAt (k:=0) rfl) (vs:=ae) rfl rfl)⟩,⟨iY,trivial⟩⟩⟩ rfl),gi,_,(dL.pick [] _ (by decide) rfl),rfl,rfl⟩
 intro dA n3
 refine zy (nF (dA.out)) (sR (wCK gDd) Z (oL Z (cg.ldBA (j:=0) Z Z bN ZC zV (vs:=ae) Z Z) (oL Z (cg.ldBA (j:=1) Z Z bR ZC zV (vs:=ap) Z Z) (oM Z Z (zh (j:=1) (vs:=ae) Z Z Z Z cg Z bR Z Z zV (zA Z) Z Z Z ?_)))))
 intro iC mJ
 have mK:sW w U bK [.blk a8 149 ae,.blk a7 149 ae,.blk bh 214 ao,.blk bg 83 an,.blk bG 277 bm] iC:=mJ
 refine zh (j:=0) (vs:=ap) Z Z Z Z mK Z bN Z Z zV (zA Z) Z Z Z ?_
 intro iD mL
 have dM:sW w U bK [.blk a8 149 ap,.blk a7 149 ae,.blk bh 214 ao,.blk bg 83 an,.blk bG 277 bm] iD:=mL
 refine oA Z Z (eN (zP (zR ?_)))
 cases n3
 exact ⟨rfl,_,(wFY (rs:=[.cell 4 149,.cell 5 149,.tmp 6]) (vs:=[.agg ae.toArray,.agg ap.toArray,jV fY]) ⟨⟨_,bR,(wBL ZC zV (dM.blkAt (k:=1) rfl) (vs:=ae) rfl rfl)⟩,⟨⟨_,bN,(wBL ZC zV (dM.blkAt (k:=0) rfl) (vs:=ap) rfl rfl)⟩,⟨rfl,trivial⟩⟩⟩ rfl),bK,_,(dM.pick [] _ (by decide) rfl),rfl,rfl⟩
 have fO:=hm;rw [if_neg c1,if_neg c2,if_neg c3,if_neg c4] at fO
 refine sR gDm Z ?_
 let da:List Value:=[.slice bu p0.Starts.length bz,.slice bv p0.Splits.length bA,.slice bw p0.Clocks.length bB,.slice bx p0.Readings.length bC]
 refine ZH (cs:=da) rfl rfl rfl rfl rfl rfl (by rfl) hS ?_
 intro ph ew mN
 let db:List Value:=[jV O.Kind,jV O.Skier,jV O.Index,.bool O.Up]
 refine ZH (cs:=db) rfl rfl rfl rfl rfl rfl (by rfl) mN ?_
 intro pj ey mO
 let bU:List Value:=[jV 0,jV 0]
 refine zm (cs:=bU) Z Z Z Z Z ZP Z mO ?_
 intro pn ez mP
 refine zm (cs:=bU) Z Z Z Z Z ZP Z mP ?_
 intro ej eA mQ
 refine oA Z Z (eN (zI ?_))
 have q:=bnd fO
 obtain ⟨⟨⟩,fb,dR⟩:=q
 try dsimp only at dR
 refine ZN ZD [2,3,1,3,2,0] gDp (by kernel_rfl) ?_
 have cG:=mQ.drew
 generalize hw_W669:({ ej with drawn:=ej.drawn + 1 }:World)=iE at cG ⊢
 refine oR Z (zF Z Z ZV Z Tryz.sizeOf212) (oL Z (cG.ldB (j:=2) Z Z Z Tryz.isAgg212 (v:=jV O.Kind) Z) (yp ?_ ?_))
 refine zM 0 Z Z Z Z (zK Z Z YN zO Z) cG (fun hs=>wCc iE U hs fb) (.inr Z) ?_
 rintro gj oE pV iF pF mR ⟨rfl,rfl⟩
 have po:sW w U gj [.blk eA 149 bU,.blk ez 149 bU,.blk ey 214 db,.blk ew 83 da] iF:=mR
 cases dR
 refine zm (cs:=[.nilFunc,.nilFunc,.nilFunc]) Z Z Z Z Z yJ Z cG ?_
 intro iG iM mS
 refine zM 0 Z Z Z Z (zK Z Z YN zO Z) mS (fun hs=>wCc iG U hs fb) (.inr Z) ?_
 rintro gm oG pZ iH pG mT ⟨rfl,rfl⟩
 have pp:sW w U gm [.blk iM 277 [.nilFunc,.nilFunc,.nilFunc],.blk eA 149 bU,.blk ez 149 bU,.blk ey 214 db,.blk ew 83 da] iH:=mT
 cases dR
set_option maxHeartbeats 4000000
theorem wKb (O:wAF) (ao:Option Addr) (av:Nat) (ap:Option Addr) (aw:Nat) (aq:Option Addr) (ax:Nat) (au:Option Addr) (ay:Nat) (w:World) (U:PHeap) (hS:St0 w U []) (iT:Sl U 1 ao av O.Starts.length (hD KL.encI O.Starts)) (iU:Sl U 2 ap aw O.Splits.length (hD wAH O.Splits)) (iW:Sl U 3 aq ax O.Clocks.length (hD wAU O.Clocks)) (iX:Sl U 4 au ay O.Readings.length (hD wAG O.Readings)) {r:wAu} (hm:wEd O=some r):Gv Tryz.prog 133 [.agg #[.slice ao O.Starts.length av,.slice ap O.Splits.length aw,.slice aq O.Clocks.length ax,.slice au O.Readings.length ay]] w (wBD w [] U (fun U_ L_ v=>∃ (b0:Nat) (A0p00:Option Addr) (c0p00:Nat) (A0p01:Option Addr) (c0p01:Nat) (A0p02:Option Addr) (c0p02:Nat) (A0p03:Option Addr) (c0p03:Nat) (m0p1:Nat) (es0p1:Array MapEntry) (ck0p1:Nat) (A0p2:Option Addr) (c0p2:Nat),v=.pointer (some ⟨b0,0,none⟩)/\L_=[.blk b0 180 [.slice A0p00 r.Race.Starts.length c0p00,.slice A0p01 r.Race.Splits.length c0p01,.slice A0p02 r.Race.Clocks.length c0p02,.slice A0p03 r.Race.Readings.length c0p03,.map (some m0p1),.slice A0p2 r.edges.length c0p2],.obj m0p1 (.map es0p1 ck0p1),.row A0p2 c0p2 216 7 (hD wAf r.edges)]/\Sl U_ 1 A0p00 c0p00 r.Race.Starts.length (hD KL.encI r.Race.Starts)/\Sl U_ 2 A0p01 c0p01 r.Race.Splits.length (hD wAH r.Race.Splits)/\Sl U_ 3 A0p02 c0p02 r.Race.Clocks.length (hD wAU r.Race.Clocks)/\Sl U_ 4 A0p03 c0p03 r.Race.Readings.length (hD wAG r.Race.Readings)/\MpR es0p1 wEA wEI r.number)):=by
 unfold wEd at hm
 refine Go.KX.Gv.ofM Tryz.func133 Z Tryz.ntmps133 Tryz.results133 (zA Z) (sR gCs Z ?_)
 let B0:List Value:=[.slice ao O.Starts.length av,.slice ap O.Splits.length aw,.slice aq O.Clocks.length ax,.slice au O.Readings.length ay]
 refine ZH (cs:=B0) rfl rfl rfl rfl rfl rfl (by rfl) hS ?_
 intro W1 b2 iR
 refine oA Z Z (eN (bnK hm fun dC jm jg=>yd (fun σ_ w_=>∃ (U_:PHeap) (b6:Nat) (b8:Nat) (aa:Nat) (bG:Array MapEntry) (bO:Nat),σ_ 1=.pointer (some ⟨b2,0,none⟩)/\σ_ 3=.pointer (some ⟨b6,0,none⟩)/\PHeap.Le U U_/\sW w U U_ [.blk b2 83 B0,.blk b6 140 [.pointer (some ⟨b8,0,none⟩)],.blk b8 180 [.slice ao O.Starts.length av,.slice ap O.Splits.length aw,.slice aq O.Clocks.length ax,.slice au O.Readings.length ay,.map (some aa),.slice none 0 0],.obj aa (.map bG bO)] w_/\MpR bG wEA wEI dC) ?_ ?_))
 refine bnK jm fun bw gh jh=>CK.webp (U0:=U) (L0:=[.blk b2 83 B0]) ZD [pX 12 [] (.agg B0.toArray),⟨some 13,[13],[],false,[],true,[],fun σ R=>∃ af,σ 13=.map (some af)/\R=[.obj af (.map #[] 0)]/\MpR #[] wEA wEI ([]:List (wAK × Int))⟩,⟨some 14,[14],[],false,[],false,[],fun σ R=>σ 14=.agg #[jV bw.skier,jV bw.mat]/\R=[]⟩,⟨none,[13],[2],false,[1],true,[],fun σ R=>∃ af ai az,σ 13=.map (some af)/\R=[.obj af (.map ai az)]/\MpR ai wEA wEI (wHq ([]:List (wAK × Int)) bw 0)⟩,⟨some 15,[15],[],true,[3],true,[],fun σ R=>∃ af ai az,σ 15=.map (some af)/\R=[.obj af (.map ai az)]/\MpR ai wEA wEI (wHq ([]:List (wAK × Int)) bw 0)⟩,⟨some 16,[16],[0],true,[4],true,[],fun σ R=>∃ af ai az,σ 16=.agg #[.slice ao O.Starts.length av,.slice ap O.Splits.length aw,.slice aq O.Clocks.length ax,.slice au O.Readings.length ay,.map (some af),.slice none 0 0]/\R=[.obj af (.map ai az)]/\MpR ai wEA wEI (wHq ([]:List (wAK × Int)) bw 0)⟩,⟨some 17,[17],[],false,[5],false,[],fun σ R=>∃ bx af ai az,σ 17=.pointer (some ⟨bx,0,none⟩)/\R=[.blk bx 180 [.slice ao O.Starts.length av,.slice ap O.Splits.length aw,.slice aq O.Clocks.length ax,.slice au O.Readings.length ay,.map (some af),.slice none 0 0],.obj af (.map ai az)]/\MpR ai wEA wEI (wHq ([]:List (wAK × Int)) bw 0)⟩,⟨some 3,[3],[],false,[],false,[],fun σ R=>∃ bz,σ 3=.pointer (some ⟨bz,0,none⟩)/\R=[.blk bz 140 [.pointer none]]⟩] [false] [(1,.pointer (some ⟨b2,0,none⟩))] (by kernel_rfl) ⟨rfl,trivial⟩ iR ⟨?_,?_,?_,?_,?_,?_,?_,?_,trivial⟩ ?_
 refine wpX ?_
 rintro _ _ _ _ _ ⟨eC,_⟩ _ _ gx jo
 exact yj Z Z Z Z (gx.ldBA (j:=0) Z Z eC Zv Zg (vs:=B0) Z Z) jo
 rintro _ _ _ _ _ _ _ _ _ rfl gy jp
 refine OKS.makeMap Z Z Z Z Z gy ?_
 intro k5 ew gz
 have ji:=MpR.nil wEA wEI
 exact jp _ _ _ _ (zL _) gz ⟨ew,Z,Z,ji⟩
 rintro _ _ dT dM dI _ _ _ _ rfl gO jq
 refine zM 0 Z Z Z Z (zK Z Z Tryz.call63 zO Z) gO (fun hs=>wFn dT dM hs gh) (.inr Z) ?_
 rintro dN j6 l7 dZ jT gW ⟨rfl,rfl⟩
 have gX:sW w U dN (.blk b2 83 B0 :: dI) dZ:=gW
 exact jq _ _ _ _ jT gX ⟨Z,Z⟩
 rintro _ _ _ dP dJ _ _ _ ⟨⟨_,⟨fh,_⟩⟩,_⟩ ⟨_,_,⟨af,dm,rfl,fU⟩,rfl,rfl⟩ ib jy
 refine OKS.mapPut (x:=.tmp 13) (y:=.tmp 14) (j:=0) (mk:=wEA) (mv:=wEI) (a:=bw) (v:=0) rfl rfl rfl (by first | exact .inl rfl | exact .inr rfl) ib rfl dm fh rfl (wBr Zp) wFi fU rfl ?_
 intro da c8 d7 jk il
 have io:sW w U dP (.obj af (.map da c8) :: .blk b2 83 B0 :: dJ) d7:=il
 exact jy undef _ _ _ (zL _) io ⟨af,da,c8,dm,Z,jk⟩
 rintro _ _ _ _ _ _ _ _ _ ⟨_,_,⟨af,ai,az,fH,rfl,fV⟩,rfl,rfl⟩ iv jP
 exact oM Z fH (jP _ _ _ _ (zL _) iv ⟨af,ai,az,Z,Z,fV⟩)
 rintro _ _ _ _ _ _ _ _ ⟨⟨_,⟨fK,_⟩⟩,_⟩ ⟨_,_,⟨af,ai,az,fJ,rfl,gf⟩,rfl,rfl⟩ iG jQ
 exact oR Z (zx (pv:=[(0,.agg B0.toArray),(1,.map (some af))]) (z:=[.slice none 0 0,.slice none 0 0,.slice none 0 0,.slice none 0 0,.map none,.slice none 0 0]) (cs:=[.slice ao O.Starts.length av,.slice ap O.Splits.length aw,.slice aq O.Clocks.length ax,.slice au O.Readings.length ay,.map (some af),.slice none 0 0]) Z (wAA fK (wAA fJ wAI)) Tryz.zeroValue180 wOL Z Z) (jQ _ _ _ _ (zL _) iG ⟨af,ai,az,Z,Z,gf⟩)
 rintro _ _ _ _ _ _ _ _ _ ⟨_,_,⟨af,ai,az,fL,rfl,gg⟩,rfl,rfl⟩ iH jR
 refine ZH (cs:=[.slice ao O.Starts.length av,.slice ap O.Splits.length aw,.slice aq O.Clocks.length ax,.slice au O.Readings.length ay,.map (some af),.slice none 0 0]) rfl rfl rfl rfl rfl fL (by rfl) iH ?_
 intro li ey iI
 exact jR _ _ _ _ (zL _) iI ⟨ey,af,ai,az,Z,Z,gg⟩
 rintro _ _ _ _ _ _ _ _ _ rfl iJ jS
 refine zm (cs:=[.pointer none]) Z Z Z Z Z Tryz.zeroValue140 Z iJ ?_
 intro lj ez iK
 exact jS _ _ _ _ (zL _) iK ⟨ez,Z,Z⟩
 rintro jZ cS cj ⟨eW,_⟩ jU _ ⟨lW,rfl⟩ _ _ _ ⟨lY,rfl⟩ _ _ _ _ _ _ _ ⟨bx,af,ai,az,fM,rfl,gi⟩ _ ⟨bz,dn,rfl⟩ iL
 let B1:Res:=.blk bx 180 [.slice ao O.Starts.length av,.slice ap O.Splits.length aw,.slice aq O.Clocks.length ax,.slice au O.Readings.length ay,.map (some af),.slice none 0 0]
 have iM:sW w U cj [.blk bz 140 [.pointer none],B1,.obj af (.map ai az),.blk b2 83 B0] cS:=iL
 show OKS _ _ _ _ _ _ (.fx 8 .nil .stop) jZ cS
 let B2:List Value:=[.pointer (some ⟨bx,0,none⟩)]
 refine zh (j:=0) (vs:=B2) Z Z Z Z iM Z dn fM Z Tryz.sizeOf140 (zA Z) Z Z Z ?_
 intro ep iN
 have iO:sW w U cj [.blk bz 140 B2,B1,.obj af (.map ai az),.blk b2 83 B0] ep:=iN
 refine zg ?_
 cases jh
 exact zG ⟨rfl,⟨cj,bz,bx,af,ai,az,eW,dn,jU,(iO.pick [3,0,1,2] _ (by decide) rfl),gi⟩⟩
 rintro mf er ⟨dS,b6,b8,aa,bG,bO,di,eX,bW,dw,gj⟩
 refine zI (sR gCr Z (oL Z (dw.ldBA (j:=0) Z Z di Zv Zg (vs:=B0) Z Z) ?_))
 have dp:=iT.le bW
 have dq:=iU.le bW
 have dr:=iW.le bW
 have dt:=iX.le bW
 have q:=bnd jg
 obtain ⟨⟨⟩,gm,dB⟩:=q
 try dsimp only at dB
 refine zM 0 Z Z Z Z (zK Z Z Tryz.call173 (zD Z zO) Z) dw (fun hs=>wIZ O ao av ap aw aq ax au ay er dS hs dp dq dr dt gm) (.inr Z) ?_
 rintro cO j8 l8 eu bX iP ⟨cX,rfl,rfl,gq⟩
 let B3:Res:=.blk b6 140 [.pointer (some ⟨b8,0,none⟩)]
 have iQ:sW w U cO [.blk b2 83 B0,B3,.blk b8 180 [.slice ao O.Starts.length av,.slice ap O.Splits.length aw,.slice aq O.Clocks.length ax,.slice au O.Readings.length ay,.map (some aa),.slice none 0 0],.obj aa (.map bG bO)] eu:=iP
 refine eN (zU (yL fun ca bT=>?_))
 have eY:ca 1=.pointer (some ⟨b2,0,none⟩):=(bT 1).trans di
 have dl:ca 3=.pointer (some ⟨b6,0,none⟩):=(bT 3).trans eX
 have eZ:ca 19=.func (.func 199) #[] #[.pointer (some ⟨cX,0,none⟩)]:=(bT 19).trans rfl
 clear bT
 have gA:=iQ.nilrow 216 7
 refine bnK dB fun dF ja dz=>?_
 have cq:=dp.le bX
 have cr:=dq.le bX
 have ct:=dr.le bX
 have cu:=dt.le bX
 refine CK.rangeY (S:=(List wAm) × (List (wAK × Int))) (E:=Empty) (ar:=wRk) (PY:=(fun (s_:(List wAm) × (List (wAK × Int))) (U_:PHeap) (L_:List Res)=>match s_ with | (l1269,l1273)=>∃ (bq:Option Addr) (bs:Nat) (bi:Array MapEntry) (bj:Nat),L_=[.blk b2 83 B0,B3,.row bq bs 216 7 (hD wAf l1269),.blk b8 180 [.slice ao O.Starts.length av,.slice ap O.Splits.length aw,.slice aq O.Clocks.length ax,.slice au O.Readings.length ay,.map (some aa),.slice bq l1269.length bs],.obj aa (.map bi bj)]/\MpR bi wEA wEI l1273)) (PE:=(fun (_:Empty) _ _=>False)) (exO:=Empty.elim) (s0:=([],dC)) (rr:=dF) eZ Tryz.call199 (gA.pick [1,2,0,3,4] _ (by decide) rfl) (by decide) (fun _ _ _ h=>by obtain rfl:=h;rfl) (fun e=>nomatch e) ⟨none,0,bG,bO,rfl,gj⟩ (fun l w1 L1 PY' PE' gw gu iS=>wHc PY' PE' _ l _ O cX ao av ap aw aq ax au ay w1 L1 cO gw gu iS gq cq cr ct cu ja) ?_ ?_
 rintro a7 l5 ly ⟨l1269,l1273⟩ ae ma l4 bY j0 jX cE bd bU gB gv iV dx bZ bC
 obtain ⟨bq,bs,bi,bj,rfl,fN⟩:=gv
 obtain rfl:=iV
 replace bC:∀ t,bZ t=upd ca 20 (.agg #[jV ae.Kind,jV ae.Skier,jV ae.Index,.bool ae.Up]) t:=bC
 have eD:bZ 20=.agg #[jV ae.Kind,jV ae.Skier,jV ae.Index,.bool ae.Up]:=(bC 20).trans (wDv _ _ _)
 have db:bZ 1=.pointer (some ⟨b2,0,none⟩):=(bC 1).trans ((wDN _ _ (by decide)).trans eY)
 have eE:bZ 3=.pointer (some ⟨b6,0,none⟩):=(bC 3).trans ((wDN _ _ (by decide)).trans dl)
 clear bC
 let B4:Res:=.blk b8 180 [.slice ao O.Starts.length av,.slice ap O.Splits.length aw,.slice aq O.Clocks.length ax,.slice au O.Readings.length ay,.map (some aa),.slice bq l1269.length bs]
 let B5:Res:=.row bq bs 216 7 (hD wAf l1269)
 have gC:St bd bY [.obj a7 cE,.blk b2 83 B0,B3,B5,B4,.obj aa (.map bi bj)] jX:=gB
 try dsimp only at dx
 refine rR gCy Z (zm (cs:=[jV 0,jV 0,jV 0,.bool false]) Z Z Z Z Z Tryz.zeroValue214 Z gC ?_)
 intro k6 aY gD
 let B6:List Value:=[jV ae.Kind,jV ae.Skier,jV ae.Index,.bool ae.Up]
 refine zh (j:=0) (vs:=B6) Z Z Z Z gD Z Z eD Z yk (zA Z) Z Z Z ?_
 intro dU gE
 have gF:St bd bY [.blk aY 214 B6,.obj a7 cE,.blk b2 83 B0,B3,B5,B4,.obj aa (.map bi bj)] dU:=gE
 refine zg ⟨rfl,rfl,_,_,(gF.pick [1,0,2,3,4,5,6] [.obj a7 cE,.blk aY 214 B6,.blk b2 83 B0,B3,B5,B4,.obj aa (.map bi bj)] (by decide) rfl),fun cP bg gG=>?_⟩
 have cz:St bd bY [.obj a7 bg,.blk aY 214 B6,.blk b2 83 B0,B3,B5,B4,.obj aa (.map bi bj)] cP:=gG
 refine zU (sR (.fl 0 (.fl 1 (.fx 2 (wNe (.fx 7 (.fx 8 (.fx 9 (.fx 10 (.fl 11 .nil) .stop) .stop) .stop) .stop)) .stop))) Z (oL Z (cz.ldBA (j:=2) Z Z db Zv Zg (vs:=B0) Z Z) (oL Z (cz.ldBA (j:=1) Z Z Z YA yk (vs:=B6) Z Z) ?_)))
 have fO:=cq.le bU
 have fP:=cr.le bU
 have fQ:=ct.le bU
 have fR:=cu.le bU
 have q:=bnd dx
 obtain ⟨⟨ak,am,a8⟩,fS,dA⟩:=q
 try dsimp only at dA
 refine zM 0 Z Z Z Z (zK Z Z Tryz.call174 (zD Z (zD Z zO)) Z) cz (fun hs=>wIa O ao av ap aw aq ax au ay ae cP bY hs fO fP fQ fR fS) (.inr Z) ?_
 rintro bF j5 l6 dV lZ gH ⟨rfl,rfl⟩
 have gI:St bd bF [.obj a7 bg,.blk aY 214 B6,.blk b2 83 B0,B3,B5,B4,.obj aa (.map bi bj)] dV:=gH
 refine oM Z Z (oR Z (zi Z Z (v:=.agg #[jV ak.skier,jV ak.mat]) Z) (oR Z (zi Z Z (v:=.agg #[jV am.skier,jV am.mat]) Z) (oR Z (zi Z Z (v:=jV a8) Z) ?_)))
 let B7:List Value:=[jV 0,jV 0]
 refine zm (cs:=B7) Z Z Z Z Z ZP Z gI ?_
 intro k8 be gJ
 refine zm (cs:=B7) Z Z Z Z Z ZP Z gJ ?_
 intro k9 bf gK
 let B8:List Value:=[jV ak.skier,jV ak.mat]
 refine zh (j:=1) (vs:=B8) Z Z Z Z gK Z Z Z Z zV (zA Z) Z Z Z ?_
 intro dW gL
 have gM:St bd bF [.blk bf 149 B7,.blk be 149 B8,.obj a7 bg,.blk aY 214 B6,.blk b2 83 B0,B3,B5,B4,.obj aa (.map bi bj)] dW:=gL
 let B9:List Value:=[jV am.skier,jV am.mat]
 refine zh (j:=0) (vs:=B9) Z Z Z Z gM Z Z Z Z zV (zA Z) Z Z Z ?_
 intro dX gN
 have cA:St bd bF [.blk bf 149 B9,.blk be 149 B8,.obj a7 bg,.blk aY 214 B6,.blk b2 83 B0,B3,B5,B4,.obj aa (.map bi bj)] dX:=gN
 refine oA Z Z (eN (zI (sR fL4 Z (oL Z (cA.ldBA (j:=1) Z Z Z ZC zV (vs:=B8) Z Z) (oL Z (cA.ldBA (j:=0) Z Z Z ZC zV (vs:=B9) Z Z) ?_)))))
 let cI:List Value:=[jV ak.skier,jV ak.mat,jV am.skier,jV am.mat]
 refine oR Z (Runs.buildA (pv:=[(0,.agg B8.toArray),(1,.agg B9.toArray)]) (z:=[jV 0,jV 0,jV 0,jV 0]) (cs:=cI) Z (wAA Z (wAA Z wAI)) Tryz.zeroValue254 Tryz.runUnderlying254 zV Z Z) (oM Z Z (eN (zU (bnK dA fun ah iY jb=>?_))))
 have q:=wAn iY
 obtain ⟨cD,iZ⟩:=q
 replace cD:=zH cD
 refine CK.forN' (fun bJ bK σ_ w_=>∃ (U_:PHeap) (bH:Array MapEntry) (bP:Nat),σ_ 31=jV (↑bJ:Int)/\σ_ 1=.pointer (some ⟨b2,0,none⟩)/\σ_ 3=.pointer (some ⟨b6,0,none⟩)/\σ_ 4=.pointer (some ⟨aY,0,none⟩)/\σ_ 5=.pointer (some ⟨be,0,none⟩)/\σ_ 6=.pointer (some ⟨bf,0,none⟩)/\σ_ 7=jV a8/\σ_ 30=.agg cI.toArray/\PHeap.Le bF U_/\St bd U_ [.blk bf 149 B9,.blk be 149 B8,.obj a7 bg,.blk aY 214 B6,.blk b2 83 B0,B3,B5,B4,.obj aa (.map bH bP)] w_/\MpR bH wEA wEI bK) iZ ?_ ?_ ?_
 exact ⟨bF,bi,bj,Z,db,eE,Z,Z,Z,Z,Z,(zL _),cA,fN⟩
 rintro bJ bK mb md lb cC ⟨bM,bH,bP,bR,dd,bI,de,df,dg,dh,cp,dD,gP,bS⟩ jl
 have cY:Hid ((↑bJ:Int) < 2):=zH (wAj cC)
 replace cC:=zH cC
 have dy:Hid (w64 ((↑bJ:Int) + 1)=(↑(bJ + 1):Int)):=zH (by have h1:=cD.out;have h2:=cY.out;rw [wAX] <;> omega)
 refine sR fL1 Z (oR Z (zW Z bR Z) (eN (zI (cT Z cY (kN (zI (zU (sR gDe Z (bnK jl fun bD cw jc=>oR Z (Runs.ixA (cs:=hD wJH ([ak,am]:List wAK)) Z cp bR Tryz.runUnderlying254 zV (wCh cw) (wCs cw) (wEw ZC zV (wKw (sz:=2) (fun _=>Z) _ _ (wAV cw)))) (zm (cs:=B7) Z Z Z Z Z ZP Z gP ?_))))))))))
 intro lc cV gQ
 let bE:List Value:=[jV bD.skier,jV bD.mat]
 refine zh (j:=0) (vs:=bE) Z Z Z Z gQ Z Z Z Z zV (zA Z) Z Z Z ?_
 intro cm gR
 have gS:St bd bM [.blk cV 149 bE,.blk bf 149 B9,.blk be 149 B8,.obj a7 bg,.blk aY 214 B6,.blk b2 83 B0,B3,B5,B4,.obj aa (.map bH bP)] cm:=gR
 refine eN (zI (ZN ZD [1,3,3,1,1,1,3,3,3,3,3] wRx (by kernel_rfl) ?_))
 have bu:=gS.drew
 generalize hw_W1407:({ cm with drawn:=cm.drawn + 1 }:World)=cQ at bu ⊢
 refine oL Z (bu.ldB (j:=6) Z Z bI YY (v:=.pointer (some ⟨b8,0,none⟩)) Z) (oR Z (ZR Z Z) (oR Z (zF Z Z Zc Z yP) (oL Z (bu.ldB (j:=8) Z Z Z yY (v:=.map (some aa)) Z) (oL Z (bu.ldBA (j:=0) Z Z Z ZC zV (vs:=bE) Z Z) (oL Z (bu.lookup2 (j:=9) (mk:=wEA) (mv:=wEI) (a:=bD) (z:=0) Z Z Z Z (wBr Zp) wFi zw bS) (oM Z Z (oR Z (zi Z Z (v:=jV (wBE bK bD 0)) Z) (oR Z (zi Z Z (v:=.bool (wNf bK bD)) Z) (oA Z Z (oA Z Z (eN (sR fL2 Z (oM Z Z (oR Z (ZF Z Z) (eN (ifc jc ?_ ?_))))))))))))))))
 intro cn jd
 refine zn (nC cn.out) (ZT (zf (zG (rR fL2 Z (oR Z (zr (zX Z bR Z) (congrArg (jV) dy.out)) (oM Z Z (zg ?_)))))))
 cases jd
 exact zG ⟨rfl,⟨bM,bH,bP,rfl,dd,bI,de,df,dg,dh,cp,dD,(bu.pick [1,2,3,4,5,6,7,8,9] _ (by decide) rfl),bS⟩⟩
 intro cn je
 refine zy (nF (cn.out)) (ZN ZD [1,3,3,1,1,1,3,3,1,1,0] (wQx (.fx 10 .nil .stop)) (by kernel_rfl) ?_)
 have bp:=bu.drew
 generalize hw_W1415:({ cQ with drawn:=cQ.drawn + 1 }:World)=lf at bp ⊢
 refine ZB rfl rfl rfl rfl (bp.ldB (j:=6) rfl rfl bI YY (v:=.pointer (some ⟨b8,0,none⟩)) rfl) rfl (zY rfl rfl rfl rfl (fun _=>ZR rfl rfl) (zY rfl rfl rfl rfl (fun _=>zF rfl rfl Zc rfl yP) (ZB rfl rfl rfl rfl (bp.ldB (j:=8) rfl rfl rfl yY (v:=.map (some aa)) rfl) rfl (ZB rfl rfl rfl rfl (bp.ldBA (j:=0) rfl rfl rfl ZC zV (vs:=bE) rfl rfl) rfl (ZB rfl rfl rfl rfl (bp.ldB (j:=6) rfl rfl bI YY (v:=.pointer (some ⟨b8,0,none⟩)) rfl) rfl (zY rfl rfl rfl rfl (fun _=>ZR rfl rfl) (zY rfl rfl rfl rfl (fun _=>zF rfl rfl Zc rfl yP) (ZB rfl rfl rfl rfl (bp.ldB (j:=8) rfl rfl rfl yY (v:=.map (some aa)) rfl) rfl (ZB rfl rfl rfl rfl (bp.lenM (j:=9) (mk:=wEA) (mv:=wEI) rfl rfl rfl (wBr Zp) bS) rfl (OKS.mapPut (x:=.tmp 48) (y:=.tmp 49) (z:=.tmp 54) (j:=9) (mk:=wEA) (mv:=wEI) (a:=bD) (v:=(↑(bK.length):Int)) rfl rfl rfl (by first | exact .inl rfl | exact .inr rfl) bp rfl rfl rfl rfl (wBr Zp) wFi bS rfl ?_))))))))))
 intro c9 c6 dY jj gT
 have gU:St bd bM [.blk cV 149 bE,.blk bf 149 B9,.blk be 149 B8,.obj a7 bg,.blk aY 214 B6,.blk b2 83 B0,B3,B5,B4,.obj aa (.map c9 c6)] dY:=gT
 refine zg (zf (zG (rR fL2 Z (oR Z (zr (zX Z bR Z) (congrArg (jV) dy.out)) (oM Z Z (zg ?_))))))
 cases je
 exact zG ⟨rfl,⟨bM,c9,c6,rfl,dd,bI,de,df,dg,dh,cp,dD,(gU.pick [1,2,3,4,5,6,7,8,9] _ (by decide) rfl),jj⟩⟩
 rintro me lh ⟨dO,bB,bA,e8,eF,eG,eH,eI,eJ,eK,lk,l0,gV,cy⟩
 have eA:Hid (¬ ((↑((2:Int) - 0).toNat:Int) < 2)):=zH (wAc)
 refine sR fL1 rfl (zY rfl rfl rfl rfl (fun _=>zW rfl e8 rfl) (eN (zI (cF Z eA (ZJ (zd (zd (ZG (zG (bnK jb fun bv fT jf=>CK.webp (U0:=dO) (L0:=[.blk bf 149 B9,.blk be 149 B8,.obj a7 bg,.blk aY 214 B6,.blk b2 83 B0,B3,B4,.obj aa (.map bB bA)]) ZD [pX 56 [] (.pointer (some ⟨b8,0,none⟩)),pW 57 [] (.pointer (some ⟨b8,0,none⟩)),pW 58 [1] (.pointer (some ⟨b8,0,none⟩)),pW 59 [2] (.pointer (some ⟨b8,5,none⟩)),pW 60 [3] (.slice bq l1269.length bs),pW 61 [] (.agg B6.toArray),pW 62 [] (.pointer (some ⟨b8,0,none⟩)),pW 63 [6] (.pointer (some ⟨b8,0,none⟩)),pW 64 [7] (.pointer (some ⟨b8,4,none⟩)),pW 65 [8] (.map (some aa)),pW 66 [] (.agg B8.toArray),pW 67 [9,10] (jV (wBE ah ak 0)),pW 68 [] (.pointer (some ⟨b8,0,none⟩)),pW 69 [12] (.pointer (some ⟨b8,0,none⟩)),pW 70 [13] (.pointer (some ⟨b8,4,none⟩)),pW 71 [14] (.map (some aa)),pW 72 [] (.agg B9.toArray),pW 73 [15,16] (jV (wBE ah am 0)),pW 74 [] (jV a8),pW 75 [5,11,17,18] (.agg #[jV ae.Kind,jV ae.Skier,jV ae.Index,.bool ae.Up,jV (wBE ah ak 0),jV (wBE ah am 0),jV a8]),⟨some 76,[76],[19],false,[],true,[],fun σ R=>∃ bm,σ 76=.slice (some ⟨bm,0,none⟩) 1 1/\R=[.row (some ⟨bm,0,none⟩) 1 216 7 (hD wAf [(⟨ae,(wBE ah ak 0),(wBE ah am 0),a8⟩:wAm)])]⟩,⟨some 77,[77],[4],false,[20],false,[B5],fun σ R=>∃ br bt bm,σ 77=.slice br bv.length bt/\R=[.row br bt 216 7 (hD wAf bv),.row (some ⟨bm,0,none⟩) 1 216 7 (hD wAf [(⟨ae,(wBE ah ak 0),(wBE ah am 0),a8⟩:wAm)])]⟩] [true,true,false] [(1,.pointer (some ⟨b2,0,none⟩)),(3,.pointer (some ⟨b6,0,none⟩)),(4,.pointer (some ⟨aY,0,none⟩)),(5,.pointer (some ⟨be,0,none⟩)),(6,.pointer (some ⟨bf,0,none⟩)),(7,jV a8)] (by kernel_rfl) ⟨eF,eG,eH,eI,eJ,eK,trivial⟩ (gV.pick [6,0,1,2,3,4,5,7,8] _ (by decide) rfl) ⟨?_,?_,?_,?_,?_,?_,?_,?_,?_,?_,?_,?_,?_,?_,?_,?_,?_,?_,?_,?_,?_,?_,trivial⟩ ?_))))))))))
 refine wpX ?_
 rintro _ _ _ _ _ ⟨_,eM,_⟩ _ _ gY jr
 exact yj Z Z Z Z (gY.ldB (j:=5) Z Z eM YY (v:=.pointer (some ⟨b8,0,none⟩)) Z) jr
 refine wpW ?_
 rintro _ _ _ _ _ ⟨_,eO,_⟩ _ _ gZ jt
 exact oL Z (gZ.ldB (j:=5) Z Z eO YY (v:=.pointer (some ⟨b8,0,none⟩)) Z) jt
 refine wpW ?_
 rintro _ _ _ _ _ _ _ ⟨⟨_,⟨e9,_⟩⟩,_⟩ _ ju
 exact oR Z (ZR Z e9) ju
 refine wpW ?_
 rintro _ _ _ _ _ _ _ ⟨⟨_,⟨fb,_⟩⟩,_⟩ _ jv
 exact oR Z (zF Z fb Zc Z Tryz.sizeOf178) jv
 refine wpW ?_
 rintro _ _ _ _ _ _ _ ⟨⟨_,⟨fc,_⟩⟩,_⟩ g8 jw
 exact oL Z (g8.ldB (j:=6) Z Z fc Tryz.isAgg178 (v:=.slice bq l1269.length bs) Z) jw
 refine wpW ?_
 rintro _ _ _ _ _ ⟨_,_,eQ,_⟩ _ _ g9 jx
 exact oL Z (g9.ldBA (j:=3) Z Z eQ YA yk (vs:=B6) Z Z) jx
 refine wpW ?_
 rintro _ _ _ _ _ ⟨_,eR,_⟩ _ _ ic jz
 exact oL Z (ic.ldB (j:=5) Z Z eR YY (v:=.pointer (some ⟨b8,0,none⟩)) Z) jz
 refine wpW ?_
 rintro _ _ _ _ _ _ _ ⟨⟨_,⟨fd,_⟩⟩,_⟩ _ jA
 exact oR Z (ZR Z fd) jA
 refine wpW ?_
 rintro _ _ _ _ _ _ _ ⟨⟨_,⟨ff,_⟩⟩,_⟩ _ jB
 exact oR Z (zF Z ff Zc Z yP) jB
 refine wpW ?_
 rintro _ _ _ _ _ _ _ ⟨⟨_,⟨fg,_⟩⟩,_⟩ ie jC
 exact oL Z (ie.ldB (j:=6) Z Z fg yY (v:=.map (some aa)) Z) jC
 refine wpW ?_
 rintro _ _ _ _ _ ⟨_,_,_,eS,_⟩ _ _ ig jD
 exact oL Z (ig.ldBA (j:=1) Z Z eS ZC zV (vs:=B8) Z Z) jD
 refine wpW ?_
 rintro _ _ _ _ _ _ _ ⟨⟨_,⟨fj,_⟩⟩,⟨_,⟨fk,_⟩⟩,_⟩ ii jE
 exact oL Z (ii.lookup1 (j:=7) (mk:=wEA) (mv:=wEI) (a:=ak) (z:=0) Z Z fj fk (wBr Zp) wFi zw cy) jE
 refine wpW ?_
 rintro _ _ _ _ _ ⟨_,eT,_⟩ _ _ ij jF
 exact oL Z (ij.ldB (j:=5) Z Z eT YY (v:=.pointer (some ⟨b8,0,none⟩)) Z) jF
 refine wpW ?_
 rintro _ _ _ _ _ _ _ ⟨⟨_,⟨fm,_⟩⟩,_⟩ _ jG
 exact oR Z (ZR Z fm) jG
 refine wpW ?_
 rintro _ _ _ _ _ _ _ ⟨⟨_,⟨fq,_⟩⟩,_⟩ _ jH
 exact oR Z (zF Z fq Zc Z yP) jH
 refine wpW ?_
 rintro _ _ _ _ _ _ _ ⟨⟨_,⟨ft,_⟩⟩,_⟩ im jI
 exact oL Z (im.ldB (j:=6) Z Z ft yY (v:=.map (some aa)) Z) jI
 refine wpW ?_
 rintro _ _ _ _ _ ⟨_,_,_,_,eU,_⟩ _ _ ip jJ
 exact oL Z (ip.ldBA (j:=0) Z Z eU ZC zV (vs:=B9) Z Z) jJ
 refine wpW ?_
 rintro _ _ _ _ _ _ _ ⟨⟨_,⟨fu,_⟩⟩,⟨_,⟨fw,_⟩⟩,_⟩ iq jK
 exact oL Z (iq.lookup1 (j:=7) (mk:=wEA) (mv:=wEI) (a:=am) (z:=0) Z Z fu fw (wBr Zp) wFi zw cy) jK
 refine wpW ?_
 rintro _ _ _ _ _ ⟨_,_,_,_,_,eV,_⟩ _ _ _ jL
 exact oM Z eV jL
 refine wpW ?_
 rintro _ _ _ _ _ _ _ ⟨⟨_,⟨fy,_⟩⟩,⟨_,⟨fz,_⟩⟩,⟨_,⟨fA,_⟩⟩,⟨_,⟨fB,_⟩⟩,_⟩ _ jM
 exact oR Z (zx (pv:=[(0,.agg B6.toArray),(1,jV (wBE ah ak 0)),(2,jV (wBE ah am 0)),(3,jV a8)]) (z:=[jV 0,jV 0,jV 0,.bool false,jV 0,jV 0,jV 0]) (cs:=[jV ae.Kind,jV ae.Skier,jV ae.Index,.bool ae.Up,jV (wBE ah ak 0),jV (wBE ah am 0),jV a8]) Z (wAA fy (wAA fz (wAA fA (wAA fB wAI)))) Tryz.zeroValue216 wON Z Z) jM
 rintro _ _ _ dQ dK _ _ _ ⟨⟨_,⟨fC,_⟩⟩,_⟩ rfl ir jN
 let cJ:List Value:=[jV ae.Kind,jV ae.Skier,jV ae.Index,.bool ae.Up,jV (wBE ah ak 0),jV (wBE ah am 0),jV a8]
 refine zb (pv:=[(0,.agg cJ.toArray)]) (zs:=[jV 0,jV 0,jV 0,.bool false,jV 0,jV 0,jV 0]) (cs:=cJ) Z Z Z Z Z (wAA fC wAI) Tryz.runUnderlying178 Tryz.sizeOf216 Tryz.zeroValue216 Z Z Z Z Z ir ?_
 intro d8 cW it
 have iu:St bd dQ (.row (some ⟨cW,0,none⟩) 1 216 7 (hD wAf [(⟨ae,(wBE ah ak 0),(wBE ah am 0),a8⟩:wAm)]) :: .blk bf 149 B9 :: .blk be 149 B8 :: .obj a7 bg :: .blk aY 214 B6 :: .blk b2 83 B0 :: B3 :: B4 :: .obj aa (.map bB bA) :: dK) d8:=it
 exact jN _ _ _ _ (zL _) iu ⟨cW,Z,Z⟩
 rintro _ _ _ dR dL _ _ _ ⟨⟨_,⟨fE,_⟩⟩,_⟩ ⟨_,_,⟨bm,fD,rfl⟩,rfl,rfl⟩ du jO
 refine Zr (j:=0) (enc:=wAf) (xs:=l1269) (ys:=[(⟨ae,(wBE ah ak 0),(wBE ah am 0),a8⟩:wAm)]) (zs:=bv) rfl rfl rfl rfl rfl Tryz.underlying178 wQX rfl rfl rfl rfl rfl rfl du rfl fE fD (du.srcR (j:=1) rfl (by decide) (wAB (f:=wAf) (sz:=7) (fun _=>rfl) [(⟨ae,(wBE ah ak 0),(wBE ah am 0),a8⟩:wAm)])) (fun _=>rfl) (fun _=>rfl) fT rfl ?_
 intro cG cZ d9 iw
 have iy:St bd dR (.row cG cZ 216 7 (hD wAf bv) :: .row (some ⟨bm,0,none⟩) 1 216 7 (hD wAf [(⟨ae,(wBE ah ak 0),(wBE ah am 0),a8⟩:wAm)]) :: .blk bf 149 B9 :: .blk be 149 B8 :: .obj a7 bg :: .blk aY 214 B6 :: .blk b2 83 B0 :: B3 :: B4 :: .obj aa (.map bB bA) :: dL) d9:=iw
 exact jO _ _ _ _ (zL _) iy ⟨cG,cZ,bm,Z,Z⟩
 rintro jY cR cN ⟨ll,lm,lq,lu,lw,lx,_⟩ l3 _ ⟨fG,rfl⟩ _ ⟨lz,rfl⟩ _ ⟨lB,rfl⟩ _ ⟨lC,rfl⟩ _ ⟨lD,rfl⟩ _ ⟨lE,rfl⟩ _ ⟨lF,rfl⟩ _ ⟨lG,rfl⟩ _ ⟨lH,rfl⟩ _ ⟨lI,rfl⟩ _ ⟨lJ,rfl⟩ _ ⟨lK,rfl⟩ _ ⟨lL,rfl⟩ _ ⟨lM,rfl⟩ _ ⟨lN,rfl⟩ _ ⟨lO,rfl⟩ _ ⟨lQ,rfl⟩ _ ⟨lR,rfl⟩ _ ⟨lU,rfl⟩ _ ⟨lV,rfl⟩ _ _ _ ⟨br,bt,bm,fI,rfl⟩ iz
 let cK:Res:=.row (some ⟨bm,0,none⟩) 1 216 7 (hD wAf [(⟨ae,(wBE ah ak 0),(wBE ah am 0),a8⟩:wAm)])
 let cL:Res:=.row br bt 216 7 (hD wAf bv)
 have iA:St bd cN [cL,cK,.blk bf 149 B9,.blk be 149 B8,.obj a7 bg,.blk aY 214 B6,.blk b2 83 B0,B3,B4,.obj aa (.map bB bA)] cR:=iz
 show OKS _ _ _ _ _ _ (.fl 22 (.fl 23 (.fx 24 .nil .stop))) jY cR
 refine oR Z (ZR Z fG) (oR Z (zF Z Z Zc Z Tryz.sizeOf178) (zh (j:=8) (vs:=[.slice br bv.length bt]) Z Z Z Z iA Z Z fI Z Tryz.sizeOf178 (zA Z) Z Z Z ?_))
 intro eh iB
 have iC:St bd cN [cL,cK,.blk bf 149 B9,.blk be 149 B8,.obj a7 bg,.blk aY 214 B6,.blk b2 83 B0,B3,.blk b8 180 [.slice ao O.Starts.length av,.slice ap O.Splits.length aw,.slice aq O.Clocks.length ax,.slice au O.Readings.length ay,.map (some aa),.slice br bv.length bt],.obj aa (.map bB bA)] eh:=iB
 refine zg (zf ?_)
 have q:=nG jf
 obtain rfl:=q
 exact ⟨_,_,(iC.pick [4,6,7,0,8,9] _ (by decide) rfl),rfl,⟨br,bt,bB,bA,rfl,cy⟩⟩
 rintro dE ci j7 ej bV iD
 rcases dF with ⟨dG,mc⟩ | eB
 try dsimp only at dz
 rintro ⟨cc,co,bQ,bN,rfl,fW⟩
 let cd:Res:=.blk b8 180 [.slice ao O.Starts.length av,.slice ap O.Splits.length aw,.slice aq O.Clocks.length ax,.slice au O.Readings.length ay,.map (some aa),.slice cc dG.length co]
 let cg:Res:=.row cc co 216 7 (hD wAf dG)
 have dv:sW w U ci [.blk b2 83 B0,B3,cg,cd,.obj aa (.map bQ bN),.obj dE (.deferred (some []))] ej:=iD
 refine zf (zG (sR fL2 Z (oL Z (dv.ldB (j:=1) Z Z dl YY (v:=.pointer (some ⟨b8,0,none⟩)) Z) (oA Z Z (eN (zP ?_))))))
 have fY:=cq.le bV
 have fZ:=cr.le bV
 have gb:=ct.le bV
 have ge:=cu.le bV
 refine wFQ (by first | exact .inl rfl | exact .inr rfl) (rbs:=[dE]) (L:=[.blk b2 83 B0,B3,cg,cd,.obj aa (.map bQ bN)]) dv fun eo iE=>?_
 have iF:sW w U ci [.blk b2 83 B0,B3,cg,cd,.obj aa (.map bQ bN)] eo:=iE
 cases dz
 exact ⟨_,(zz rfl),ci,_,(iF.pick [3,4,2] _ (by decide) rfl),b8,ao,av,ap,aw,aq,ax,au,ay,aa,bQ,bN,cc,co,rfl,rfl,fY,fZ,gb,ge,fW⟩
 exact eB.elim
theorem wLL (O:wAF) (ac:Option Addr) (ah:Nat) (ae:Option Addr) (ai:Nat) (af:Option Addr) (aj:Nat) (ag:Option Addr) (ak:Nat) (w:World) (U:PHeap) (hS:St0 w U []) (bj:Sl U 1 ac ah O.Starts.length (hD KL.encI O.Starts)) (bm:Sl U 2 ae ai O.Splits.length (hD wAH O.Splits)) (bn:Sl U 3 af aj O.Clocks.length (hD wAU O.Clocks)) (bp:Sl U 4 ag ak O.Readings.length (hD wAG O.Readings)) {r:(Option wAu) × Int} (hm:wEU O=some r):Gv Tryz.prog 95 [.agg #[.slice ac O.Starts.length ah,.slice ae O.Splits.length ai,.slice af O.Clocks.length aj,.slice ag O.Readings.length ak]] w (wBD w [] U (fun U_ L_ v=>match r.1 with | none=>v=.tuple #[.pointer none,jV r.2]/\L_=[] | some d=>∃ (b0:Nat) (A0p00:Option Addr) (c0p00:Nat) (A0p01:Option Addr) (c0p01:Nat) (A0p02:Option Addr) (c0p02:Nat) (A0p03:Option Addr) (c0p03:Nat) (m0p1:Nat) (es0p1:Array MapEntry) (ck0p1:Nat) (A0p2:Option Addr) (c0p2:Nat),v=.tuple #[.pointer (some ⟨b0,0,none⟩),jV r.2]/\L_=[.blk b0 180 [.slice A0p00 d.Race.Starts.length c0p00,.slice A0p01 d.Race.Splits.length c0p01,.slice A0p02 d.Race.Clocks.length c0p02,.slice A0p03 d.Race.Readings.length c0p03,.map (some m0p1),.slice A0p2 d.edges.length c0p2],.obj m0p1 (.map es0p1 ck0p1),.row A0p2 c0p2 216 7 (hD wAf d.edges)]/\Sl U_ 1 A0p00 c0p00 d.Race.Starts.length (hD KL.encI d.Race.Starts)/\Sl U_ 2 A0p01 c0p01 d.Race.Splits.length (hD wAH d.Race.Splits)/\Sl U_ 3 A0p02 c0p02 d.Race.Clocks.length (hD wAU d.Race.Clocks)/\Sl U_ 4 A0p03 c0p03 d.Race.Readings.length (hD wAG d.Race.Readings)/\MpR es0p1 wEA wEI d.number)):=by
 unfold wEU at hm
 refine Gv.of Tryz.func95 Z Tryz.ntmps95 Tryz.results95 Z (sR gDf Z ?_)
 let B0:List Value:=[.slice ac O.Starts.length ah,.slice ae O.Splits.length ai,.slice af O.Clocks.length aj,.slice ag O.Readings.length ak]
 refine ZH (cs:=B0) rfl rfl rfl rfl rfl rfl (by rfl) hS ?_
 intro W1 b2 bi
 refine oA Z Z (oA Z Z (eN (zI (sR (.fl 0 (.fx 1 (.fl 2 .nil) .stop)) Z (oL Z (bi.ldBA (j:=0) Z Z Z Zv Zg (vs:=B0) Z Z) (bnK hm fun x5 h6 bK=>zM 0 Z Z Z Z (zK Z Z Tryz.call132 (zD Z zO) Z) bi (fun hs=>wLK O ac ah ae ai af aj ag ak W1 U hs bj bm bn bp h6) (.inr Z) ?_))))))
 rintro U8 L9 bO aZ am bE ⟨rfl,rfl⟩
 have au:sW w U U8 [.blk b2 83 B0] aZ:=bE
 refine oA Z Z (eN (sR fL2 Z (oM Z Z (oR Z (ZX Z Z Z) (eN (ifc bK ?_ ?_))))))
 intro ap bH
 refine zn (zt (fun h=>h ap.out)) (kN (sR gDk Z (oL Z (au.ldBA (j:=0) Z Z Z Zv Zg (vs:=B0) Z Z) ?_)))
 have bs:=bj.le am
 have bt:=bm.le am
 have bu:=bn.le am
 have bv:=bp.le am
 refine bnK bH fun aa bw bI=>zM 0 Z Z Z Z (zK Z Z Tryz.call133 (zD Z zO) Z) au (fun hs=>wKb O ac ah ae ai af aj ag ak aZ U8 hs bs bt bu bv bw) (.inr Z) ?_
 rintro aY bL bP br bN bF ⟨ba,aw,bb,ax,bd,ay,be,az,bf,av,bh,bg,an,aq,rfl,rfl,bx,bz,bA,bB,bC⟩
 have bG:sW w U aY [.blk ba 180 [.slice aw aa.Race.Starts.length bb,.slice ax aa.Race.Splits.length bd,.slice ay aa.Race.Clocks.length be,.slice az aa.Race.Readings.length bf,.map (some av),.slice an aa.edges.length aq],.obj av (.map bh bg),.row an aq 216 7 (hD wAf aa.edges),.blk b2 83 B0] br:=bF
 refine oA Z Z (oA Z Z (eN (zP ?_)))
 cases bI
 exact ⟨rfl,_,(wEr rfl rfl),aY,_,(bG.pick [0,1,2] _ (by decide) rfl),ba,aw,bb,ax,bd,ay,be,az,bf,av,bh,bg,an,aq,rfl,rfl,bx,bz,bA,bB,bC⟩
 intro ap bJ
 refine cT Z ap (sR fL3 Z (oM Z Z (oA Z Z (oA Z Z (eN (zP (zR ?_)))))))
 cases bJ
 exact ⟨rfl,_,(wEr rfl rfl),U8,_,(au.pick [] _ (by decide) rfl),rfl,rfl⟩
theorem wEl (O:List wAa) (am:Option Addr) (an:Nat) (p1:(wAa->Option Bool)) (ao:Value) (w:World) (U:PHeap) (hS:St0 w U []) (bv:Sl U 2 am an O.length (hD wDg O)) (bw:FnOK Tryz.prog U ao wQU wQV p1) {r:Bool} (hm:wBR O p1=some r):Gv Tryz.prog 96 [.slice am O.length an,ao] w (wBD w [] U (fun U_ L_ v=>v=.bool r/\L_=[])):=by
 unfold wBR at hm
 refine Gv.of Tryz.func96 Z Tryz.ntmps96 Tryz.results96 Z (sR fL1 Z (oA Z Z (eN (zI (sR fL3 Z (oM Z Z (oR Z (ze Z Z Tryz.runUnderlying185) (oM Z Z (eN (zU ?_))))))))))
 have q:=wBJ hm
 obtain ⟨r3,ah⟩:=q
 have q:=wBI ah
 obtain ⟨aj,bA⟩:=q
 replace aj:=zH aj
 refine yB (fun k2 _ σ_ w_=>∃ (U_:PHeap),σ_ 9=jV (↑k2:Int)/\σ_ 1=ao/\σ_ 7=.slice am O.length an/\σ_ 8=jV (↑O.length:Int)/\PHeap.Le U U_/\sW w U U_ [] w_) bA ?_ ?_ ?_
 exact ⟨U,Z,Z,Z,Z,(zL _),hS⟩
 rintro k2 ⟨⟩ bV bX W8 ai ⟨ba,ag,au,av,aw,ak,ay⟩ a7 bx
 try dsimp only at a7
 have aq:Hid ((↑k2:Int) < (↑O.length:Int)):=zH (wAj ai)
 replace ai:=zH ai
 have bB:Hid (w64 ((↑k2:Int) + 1)=(↑(k2 + 1):Int)):=zH (by have h1:=aj.out;have h2:=aq.out;rw [wAX] <;> omega)
 refine sR fL1 Z (oR Z (zW Z ag aw) (eN (zI (cT Z aq (kN (zI (zU (sR (.fl 0 (.fl 1 gCt)) Z (bnK a7 fun ab ax bC=>?_)))))))))
 have bj:=bv.le ak
 have q:=bj.el (fun _=>rfl) (wAV ax)
 obtain ⟨bN,bR,bp,bq⟩:=q
 refine oR Z (ZE Z av bp ag Tryz.runUnderlying185 YP (wAq ax)) (oL Z (ay.ldCA (f:=0) bq Z Z Tryz.isAgg92 YP (us:=[jV ab.Skier,jV ab.Mat]) Z Z) (zm (cs:=[jV 0,jV 0]) Z Z Z Z Z YS Z ay ?_))
 intro bK ap br
 let B0:List Value:=[jV ab.Skier,jV ab.Mat]
 refine zh (j:=0) (vs:=B0) Z Z Z Z br Z Z Z Z YP (zA Z) Z Z Z ?_
 intro bd bs
 have az:sW w U ba [.blk ap 92 B0] bd:=bs
 refine eN (sR gDl Z (oM Z au (oL Z (az.ldBA (j:=0) Z Z Z Tryz.isAgg92 YP (vs:=B0) Z Z) (bnK bC fun bU bm bD=>?_))))
 have bn:=bw.le ak
 refine yg (a:=ab) Z Z Z Z Z Z (zD Z zO) az bn Z bm ?_
 rintro ae bJ bT be bH bt ⟨rfl,rfl⟩
 have aY:sW w U ae [.blk ap 92 B0] be:=bt
 refine oR Z (ZF Z Z) (eN (ifc bD ?_ ?_))
 intro af bE
 refine zn (nC af.out) (ZT (zf (zG (rR fL2 Z (oR Z (zr (zX Z ag Z) (congrArg (jV) bB.out)) (oM Z Z (zg ?_)))))))
 have q:=nG bE
 obtain rfl:=q
 exact zG ⟨rfl,_,rfl,⟨ae,rfl,au,av,aw,(ak.trans bH),(aY.pick [] _ (by decide) rfl)⟩⟩
 intro af bF
 refine zy (nF (af.out)) (sR fL1 Z (oA Z Z (eN (zP (zc (zR ?_))))))
 have q:=wAb bF
 obtain ⟨bI,bG,bg⟩:=q
 have q:=wBC hm ah (bx bI bg)
 obtain rfl:=q
 refine zR (zc (zR ?_))
 have hE:=nG bG;first | subst r | cases hE
 exact ⟨rfl,_,(zz rfl),ae,_,(aY.pick [] _ (by decide) rfl),rfl,rfl⟩
 rintro ⟨⟩ bW bL ⟨bb,bi,bO,bP,bh,bQ,bu⟩ bz
 have aZ:=wCI hm ah bz
 try dsimp only at aZ
 have bf:Hid (¬ ((↑(((↑O.length:Int):Int) - 0).toNat:Int) < (↑O.length:Int))):=zH (wAc)
 refine sR fL1 Z (oR Z (zW Z bi bh) (eN (zI (cF Z bf (ZJ (zd (zd (ZG (zG (sR fL1 Z (oA Z Z (eN (zP ?_)))))))))))))
 have hE:=nG aZ;first | subst r | cases hE
 exact ⟨Z,_,(zz Z),bb,_,bu,Z,Z⟩
set_option maxHeartbeats 4000000
theorem wJS (p0 p1:Int) (w:World) (U:PHeap) (hS:St0 w U []) {r:Int × Int} (hm:wEe p0 p1=some r):Gv Tryz.prog 162 [.int .u64 p0,.int .u64 p1] w (wBD w [] U (fun U_ L_ v=>v=.tuple #[.int .u64 r.1,.int .u64 r.2]/\L_=[])):=by
 unfold wEe at hm
 split at hm
 rename_i h
 cases hm
 obtain ⟨x,rfl⟩:=nL h.1
 obtain ⟨y,rfl⟩:=nL h.2.2.1
 refine (Go.Proofs.Tryz.bits_Mul x y (by omega) (by omega) w).mono ?_
 rintro e w' ⟨rfl,rfl⟩
 refine ⟨_,Z,U,[],hS,?_,Z⟩
 simp
 cases hm
theorem wEm (p0:List Int) (ax:Option Addr) (ay:Nat) (p1:Int) (w:World) (U:PHeap) (hS:St0 w U []) (bX:Sl U 1 ax ay p0.length (hD KL.encI p0)) {r:(List Int)} (hm:wBS p0 p1=some r):Gv Tryz.prog 131 [.slice ax p0.length ay,jV p1] w (wBD w [] U (fun U_ L_ v=>∃ (A0:Option Addr) (c0:Nat),v=.slice A0 r.length c0/\L_=[.row A0 c0 3 1 (hD KL.encI r)])):=by
 unfold wBS at hm
 refine Gv.of Tryz.func131 Z Tryz.ntmps131 Tryz.results131 Z (sR fL1 Z (oA Z Z (eN (zI (sR fL2 Z (oM Z Z (oR Z (zW Z Z Z) (eN ?_))))))))
 by_cases c1:p1 < 0
 have bj:=hm;rw [if_pos c1] at bj;replace c1:=zH c1
 refine cT Z c1 (rR gCy Z ?_)
 cases bj
 have bp:=hm;rw [if_neg c1] at bp;replace c1:=zH c1
 refine cF Z c1 (kN (sR (wHg (.fx 5 (wSM (.nil)) .stop)) Z (oM Z Z (oR Z (ze Z Z zB) (oR Z (Runs.cv64 Z Z yu Tryz.runUnderlying168 Z Z) (oM Z Z (oR Z (Runs.cv64 Z Z yu Tryz.runUnderlying168 Z Z) ?_)))))))
 have q:=bnd bp
 obtain ⟨⟨x4,x5⟩,h6,bq⟩:=q
 try dsimp only at bq
 refine zM 0 Z Z Z Z (zK Z Z Tryz.call162 (zD Z (zD Z zO)) Z) hS (fun hs=>wJS (wOt (↑p0.length:Int)) (wOt p1) w U hs h6) (.inr Z) ?_
 rintro U8 L9 cI bA cw bR ⟨rfl,rfl⟩
 have bd:sW w U U8 [] bA:=bR
 refine oM Z Z (oR Z (zi Z Z (v:=.int .u64 x4) Z) (oR Z (zi Z Z (v:=.int .u64 x5) Z) (oA Z Z (oA Z Z (eN (zI (bnK bq fun bE bu cj=>yd (fun σ_ w_=>∃ (U_:PHeap),σ_ 0=.slice ax p0.length ay/\σ_ 6=.int .u64 x5/\σ_ 26=.bool bE/\PHeap.Le U8 U_/\sW w U U_ [] w_) ?_ ?_)))))))
 refine rR fL6 Z (oM Z Z (oR Z (yT Z Z Z) (oM Z Z ?_)))
 by_cases ab:0 < x4
 have bm:=bu;rw [if_pos ab] at bm;replace ab:=zH ab
 refine oT Z ab (oT Z ab (oR Z (zT Z (ZZ ab.out) Z) (zg ?_)))
 cases bm
 exact zG ⟨Z,⟨U8,Z,Z,Z,(zL _),bd⟩⟩
 have bn:=bu;rw [if_neg ab] at bn;replace ab:=zH ab
 refine zj Z Z Z (wF Z ab) Z Z (rU Z (wF Z ab) (yT Z Z Z) (oR Z (za Z (zt ab.out) Z) (zg ?_)))
 have q:=nG bn
 obtain rfl:=q
 exact zG ⟨Z,⟨U8,Z,Z,Z,(zL _),bd⟩⟩
 rintro cK cD ⟨ak,bG,bH,ba,cy,bS⟩
 refine ifc cj ?_ ?_
 intro aq cm
 refine zy (ba.trans (congrArg nJ aq.out)) (rR gCy Z ?_)
 cases cm
 intro aq cn
 refine zn (ba.trans (congrArg nJ (nK.2 aq.out))) (kN (sR gDl Z (oM Z bH (oR Z (Runs.cvw Z Z Tryz.runUnderlying168 yu Z Z) (bnK cn fun O bI co=>OKS.makeSlice (enc:=KL.encI) (z:=(0:Int)) (v:=jV 0) Z Z Z Z Z (wBr zB) wFr Z Z Z Z Z Z bI bS ?_)))))
 intro bB aa bT
 have be:sW w U ak [.row (some ⟨aa,0,none⟩) O.length 3 1 (hD KL.encI O)] bB:=bT
 refine oA Z Z (eN (sR gDl Z (oM Z Z (oM Z bG ?_))))
 have bJ:=bX.le cw
 have bK:=bJ.le cy
 refine bnK co fun az bL cp=>OKS.copyM (j:=0) (f:=KL.encI) (m:=O) (ys:=p0) (z:=az) (a:=0) (n:=O.length) rfl rfl rfl rfl rfl rfl zB zC be rfl (fun _=>rfl) (fun _=>rfl) rfl bL rfl (by simp) (.inr (by simp)) rfl (be.srcS bK) rfl ?_
 intro bC bU bh
 have bV:sW w U ak [.row (some ⟨aa,0,none⟩) O.length 3 1 (hD KL.encI az)] bC:=bU
 refine oA Z Z (eN (zI (zU (CK.iter (fun (ac,ae) σ_ w_=>∃ (U_:PHeap),σ_ 7=.slice (some ⟨aa,0,none⟩) ac.length O.length/\σ_ 8=jV ae/\PHeap.Le ak U_/\sW w U U_ [.row (some ⟨aa,0,none⟩) O.length 3 1 (hD KL.encI ac)] w_/\ac.length=O.length) cp ?_ ?_))))
 exact ⟨ak,(Eq.trans (b:=(.slice (some ⟨aa,0,none⟩) O.length O.length:Value)) (c:=(.slice (some ⟨aa,0,none⟩) az.length O.length:Value)) rfl (by rw [bh])),rfl,(zL _),bV,bh⟩
 rintro ⟨ac,ae⟩ cJ cL a7 ⟨ap,ai,an,cz,bf,bN⟩ aw cd
 try dsimp only at aw
 refine zI (sR fL4 Z (oM Z an (oM Z ai (oR Z (ze Z Z zB) (oR Z (zW Z Z Z) (eN ?_))))))
 by_cases ag:ae < (↑ac.length:Int)
 have br:=aw;rw [if_pos ag] at br;replace ag:=zH ag
 refine cT Z ag (kN (zU (ZN ZD [3,3,3,3,3,3,3,0,3,3] (wNd gDg) (by kernel_rfl) ?_)))
 have aj:=bf.drew
 generalize hw_W76:({ a7 with drawn:=a7.drawn + 1 }:World)=cE at aj ⊢
 refine oM Z an (oM Z ai (oM Z an (bnK br fun bx bO cq=>?_)))
 have q:=wNr bO
 obtain ⟨bY,ca,au,cG,av⟩:=q
 have bs:=aj.rowCap (j:=0) rfl (by decide) (wAB (f:=KL.encI) (sz:=1) (fun _=>rfl) ac)
 refine zY (v:=.slice (if O.length=(ae:Int).toNat then (some ⟨aa,0,none⟩) else Option.map (fun q:Addr=>q.add ((ae:Int).toNat * 1)) ((some ⟨aa,0,none⟩):Option Addr)) bx.length (O.length - (ae:Int).toNat)) rfl rfl rfl rfl (fun _=>zr (Runs.slc (sz:=1) (a:=ae) (b:=(↑(ac.length):Int)) rfl rfl (.inl ⟨_,rfl,rfl⟩) (.inr ⟨rfl,rfl⟩) zB zC bY ca au bs) (by rw [av])) (zj rfl rfl rfl rfl rfl ai (zj rfl rfl rfl rfl rfl an (bnK cq fun bz bb cr=>?_)))
 have q:=wNr bb
 obtain ⟨bZ,cc,cg,cH,cu⟩:=q
 have bt:=aj.rowCap (j:=0) rfl (by decide) (wAB (f:=KL.encI) (sz:=1) (fun _=>rfl) ac)
 refine zY (v:=.slice (if O.length=(0:Int).toNat then (some ⟨aa,0,none⟩) else Option.map (fun q:Addr=>q.add ((0:Int).toNat * 1)) ((some ⟨aa,0,none⟩):Option Addr)) bz.length (O.length - (0:Int).toNat)) rfl rfl rfl rfl (fun _=>zr (Runs.slc (sz:=1) (a:=0) (b:=ae) rfl rfl (.inr ⟨rfl,rfl⟩) (.inl ⟨_,rfl,rfl⟩) zB zC bZ cc cg bt) (by rw [cu])) (bnK cr fun aY bP ct=>OKS.copyM (j:=0) (f:=KL.encI) (m:=ac) (ys:=bz) (z:=aY) (a:=ae) (n:=bx.length) rfl rfl rfl rfl rfl rfl zB zC aj rfl (fun _=>rfl) (fun _=>rfl) rfl bP rfl (by have:=av;have:=au;omega) (cutA rfl (by have:=av;have:=au;have:=bs;omega)) rfl (aj.srcCut (f:=KL.encI) (j:=0) rfl (fun _=>rfl) rfl bb bt) rfl ?_)
 intro bD bW bg
 have bQ:sW w U ap [.row (some ⟨aa,0,none⟩) O.length 3 1 (hD KL.encI aY)] bD:=bW
 refine oR Z (zX Z Z Z) (oA Z Z (zg (zf ?_)))
 have q:=nG ct
 obtain rfl:=q
 exact zG ⟨rfl,_,rfl,⟨ap,(Eq.trans (b:=(.slice (some ⟨aa,0,none⟩) ac.length O.length:Value)) (c:=(.slice (some ⟨aa,0,none⟩) aY.length O.length:Value)) ai (by rw [bg])),rfl,cz,bQ,(bg.trans bN)⟩⟩
 have bi:=aw;rw [if_neg ag] at bi;replace ag:=zH ag
 refine cF Z ag (ZJ (zd ?_))
 have q:=wAb bi
 obtain ⟨cA,ci,bF⟩:=q
 have q:=cd cA bF
 obtain rfl:=q
 refine zd (ZG (zG (sR fL2 Z (oM Z ai (oA Z Z (eN (zP ?_)))))))
 have hE:=nG ci;first | subst r | cases hE
 exact ⟨Z,_,(zz Z),ap,_,bf,(some ⟨aa,0,none⟩),O.length,Z,Z⟩
theorem wCU (p0:wAu) (az:Nat) (ct:Option Addr) (cz:Nat) (cu:Option Addr) (cA:Nat) (cw:Option Addr) (cC:Nat) (cy:Option Addr) (cD:Nat) (O:Nat) (ab:Array MapEntry) (ac:Nat) (br:Option Addr) (bs:Nat) (p1:Int) (p2:Bool) (w:World) (U:PHeap) (hS:St0 w U [.blk az 180 [.slice ct p0.Race.Starts.length cz,.slice cu p0.Race.Splits.length cA,.slice cw p0.Race.Clocks.length cC,.slice cy p0.Race.Readings.length cD,.map (some O),.slice br p0.edges.length bs],.obj O (.map ab ac)]) (pD:Sl U 1 ct cz p0.Race.Starts.length (hD KL.encI p0.Race.Starts)) (pE:Sl U 2 cu cA p0.Race.Splits.length (hD wAH p0.Race.Splits)) (pF:Sl U 3 cw cC p0.Race.Clocks.length (hD wAU p0.Race.Clocks)) (pG:Sl U 4 cy cD p0.Race.Readings.length (hD wAG p0.Race.Readings)) (dq:MpR ab wEA wEI p0.number) (lV:Sl U 7 br bs p0.edges.length (hD wAf p0.edges)) {r:wER × Int × Bool} (hm:wAw p0 p1 p2=some r):Gv Tryz.prog 94 [.pointer (some ⟨az,0,none⟩),jV p1,.bool p2] w (wBD w [.blk az 180 [.slice ct p0.Race.Starts.length cz,.slice cu p0.Race.Splits.length cA,.slice cw p0.Race.Clocks.length cC,.slice cy p0.Race.Readings.length cD,.map (some O),.slice br p0.edges.length bs],.obj O (.map ab ac)] U (fun U_ L_ v=>∃ (dD:Option Addr) (ew:Nat) (dE:Option Addr) (ey:Nat),v=.tuple #[.agg #[.slice dD r.1.far.length ew,.slice dE r.1.by_.length ey],jV r.2.1,.bool r.2.2]/\L_=[.row dD ew 3 1 (hD KL.encI r.1.far),.row dE ey 3 1 (hD KL.encI r.1.by_),.blk az 180 [.slice ct p0.Race.Starts.length cz,.slice cu p0.Race.Splits.length cA,.slice cw p0.Race.Clocks.length cC,.slice cy p0.Race.Readings.length cD,.map (some O),.slice br p0.edges.length bs],.obj O (.map ab ac)])):=by
 unfold wAw at hm
 refine Gv.of Tryz.func94 Z Tryz.ntmps94 Tryz.results94 Z (sR gDf Z ?_)
 let B0:List Value:=[.slice none 0 0,.slice none 0 0]
 refine zm (cs:=B0) Z Z Z Z Z yl Z hS ?_
 intro W3 b4 lh
 refine oA Z Z (oA Z Z (eN ?_))
 have q:=bnd hm
 obtain ⟨⟨l9,bx⟩,mU,fE⟩:=q
 try dsimp only at fE
 let B1:Res:=.blk az 180 [.slice ct p0.Race.Starts.length cz,.slice cu p0.Race.Splits.length cA,.slice cw p0.Race.Clocks.length cC,.slice cy p0.Race.Readings.length cD,.map (some O),.slice br p0.edges.length bs]
 refine yd (fun σ_ w_=>∃ (U_:PHeap) (b8:Nat) (aj:Option Addr) (ak:Nat) (am:Option Addr) (an:Nat),σ_ 0=.pointer (some ⟨az,0,none⟩)/\σ_ 1=jV p1/\σ_ 2=.bool p2/\σ_ 6=.pointer (some ⟨b4,0,none⟩)/\σ_ 9=.pointer (some ⟨b8,0,none⟩)/\PHeap.Le U U_/\SW w [B1,.obj O (.map ab ac)] U U_ [.blk b4 182 B0,B1,.obj O (.map ab ac),.blk b8 182 [.slice aj l9.length ak,.slice am bx.length an],.row aj ak 3 1 (hD KL.encI l9),.row am an 3 1 (hD KL.encI bx)] w_) ?_ ?_
 refine bnK mU fun bI jp mE=>bnK mE fun bJ jr mF=>CK.webp (U0:=U) (L0:=[.blk b4 182 B0,B1,.obj O (.map ab ac)]) ZD [⟨some 16,[16],[],false,[],true,[],fun σ R=>∃ cL,σ 16=.slice (some ⟨cL,0,none⟩) 1 1/\R=[.row (some ⟨cL,0,none⟩) 1 3 1 (hD KL.encI [1125899906842624])]⟩,pW 17 [] (.pointer (some ⟨az,0,none⟩)),pW 18 [1] (.pointer (some ⟨az,0,none⟩)),pW 19 [2] (.pointer (some ⟨az,4,none⟩)),pW 20 [3] (.map (some O)),pW 21 [4] (jV (↑(p0.number.length):Int)),⟨some 22,[22],[5],false,[0],true,[],fun σ R=>∃ ba bg,σ 22=.slice ba bI.length bg/\R=[.row ba bg 3 1 (hD KL.encI bI)]⟩,⟨some 23,[23],[],false,[],true,[],fun σ R=>∃ cK,σ 23=.slice (some ⟨cK,0,none⟩) 1 1/\R=[.row (some ⟨cK,0,none⟩) 1 3 1 (hD KL.encI [-1])]⟩,pW 24 [] (.pointer (some ⟨az,0,none⟩)),pW 25 [8] (.pointer (some ⟨az,0,none⟩)),pW 26 [9] (.pointer (some ⟨az,4,none⟩)),pW 27 [10] (.map (some O)),pW 28 [11] (jV (↑(p0.number.length):Int)),⟨some 29,[29],[12],false,[7],true,[],fun σ R=>∃ bb bh,σ 29=.slice bb bJ.length bh/\R=[.row bb bh 3 1 (hD KL.encI bJ)]⟩,⟨some 30,[30],[],true,[6,13],false,[],fun σ R=>∃ ba bg bb bh,σ 30=.agg #[.slice ba bI.length bg,.slice bb bJ.length bh]/\R=[.row ba bg 3 1 (hD KL.encI bI),.row bb bh 3 1 (hD KL.encI bJ)]⟩,⟨some 9,[9],[],false,[],false,[],fun σ R=>∃ bW,σ 9=.pointer (some ⟨bW,0,none⟩)/\R=[.blk bW 182 B0]⟩] [false] [(0,.pointer (some ⟨az,0,none⟩)),(1,jV p1),(2,.bool p2),(6,.pointer (some ⟨b4,0,none⟩))] (by kernel_rfl) ⟨rfl,rfl,rfl,rfl,trivial⟩ lh ⟨?_,?_,?_,?_,?_,?_,?_,?_,?_,?_,?_,?_,?_,?_,?_,?_,trivial⟩ ?_
 rintro _ _ _ gg ge _ _ _ _ rfl jF mY
 refine zb (pv:=[(0,jV 1125899906842624)]) (zs:=[jV 0]) (cs:=[jV 1125899906842624]) Z Z Z Z Z (wAA Z wAI) zB zC zw Z Z Z Z Z jF ?_
 intro gv er jG
 have jH:SW w [B1,.obj O (.map ab ac)] U gg (.row (some ⟨er,0,none⟩) 1 3 1 (hD KL.encI [1125899906842624]) :: .blk b4 182 B0 :: B1 :: .obj O (.map ab ac) :: ge) gv:=jG
 exact mY _ _ _ _ (zL _) jH ⟨er,Z,Z⟩
 refine wpW ?_
 rintro _ _ _ _ _ ⟨gH,_⟩ _ _ _ mZ
 exact oM Z gH mZ
 refine wpW ?_
 rintro _ _ _ _ _ _ _ ⟨⟨_,⟨iZ,_⟩⟩,_⟩ _ m4
 exact oR Z (ZR Z iZ) m4
 refine wpW ?_
 rintro _ _ _ _ _ _ _ ⟨⟨_,⟨ja,_⟩⟩,_⟩ _ m5
 exact oR Z (zF Z ja Zc Z yP) m5
 refine wpW ?_
 rintro _ _ _ _ _ _ _ ⟨⟨_,⟨jb,_⟩⟩,_⟩ jI m6
 exact oL Z (jI.ldB (j:=1) Z Z jb yY (v:=.map (some O)) Z) m6
 refine wpW ?_
 rintro _ _ _ _ _ _ _ ⟨⟨_,⟨jc,_⟩⟩,_⟩ jJ m7
 exact oL Z (jJ.lenM (j:=2) (mk:=wEA) (mv:=wEI) Z Z jc (wBr Zp) dq) m7
 rintro _ _ dS _ dK _ _ _ ⟨⟨_,⟨je,_⟩⟩,_⟩ ⟨_,_,⟨cL,jd,rfl⟩,rfl,rfl⟩ jK m8
 have q:=jK.freezeR (k:=0) (n:=[1125899906842624].length) rfl (wAB (f:=KL.encI) (sz:=1) (fun _=>rfl) [1125899906842624]) (by decide)
 obtain ⟨dM,od,mS,jL⟩:=q
 have jM:SW w [B1,.obj O (.map ab ac)] U dM (.blk b4 182 B0 :: B1 :: .obj O (.map ab ac) :: dK) dS:=jL
 refine zM 0 Z Z Z Z (zK Z Z Tryz.call131 (zD jd (zD je zO)) Z) jM (fun hs=>wEm [1125899906842624] (some ⟨cL,0,none⟩) 1 (↑(p0.number.length):Int) dS dM hs mS jp) (.inr Z) ?_
 rintro gh oy pK gw oe jN ⟨dF,ez,rfl,rfl⟩
 have jO:SW w [B1,.obj O (.map ab ac)] U gh (.row dF ez 3 1 (hD KL.encI bI) :: .blk b4 182 B0 :: B1 :: .obj O (.map ab ac) :: dK) gw:=jN
 exact m8 _ _ _ _ (od.trans oe) jO ⟨dF,ez,Z,Z⟩
 rintro _ _ _ gi gf _ _ _ _ rfl jP m9
 refine zb (pv:=[(0,jV (-1))]) (zs:=[jV 0]) (cs:=[jV (-1)]) Z Z Z Z Z (wAA Z wAI) zB zC zw Z Z Z Z Z jP ?_
 intro gx eu jQ
 have jR:SW w [B1,.obj O (.map ab ac)] U gi (.row (some ⟨eu,0,none⟩) 1 3 1 (hD KL.encI [-1]) :: .blk b4 182 B0 :: B1 :: .obj O (.map ab ac) :: gf) gx:=jQ
 exact m9 _ _ _ _ (zL _) jR ⟨eu,Z,Z⟩
 refine wpW ?_
 rintro _ _ _ _ _ ⟨gI,_⟩ _ _ _ n3
 exact oM Z gI n3
 refine wpW ?_
 rintro _ _ _ _ _ _ _ ⟨⟨_,⟨jf,_⟩⟩,_⟩ _ n4
 exact oR Z (ZR Z jf) n4
 refine wpW ?_
 rintro _ _ _ _ _ _ _ ⟨⟨_,⟨jg,_⟩⟩,_⟩ _ n5
 exact oR Z (zF Z jg Zc Z yP) n5
 refine wpW ?_
 rintro _ _ _ _ _ _ _ ⟨⟨_,⟨jh,_⟩⟩,_⟩ jS n7
 exact oL Z (jS.ldB (j:=1) Z Z jh yY (v:=.map (some O)) Z) n7
 refine wpW ?_
 rintro _ _ _ _ _ _ _ ⟨⟨_,⟨ji,_⟩⟩,_⟩ jT n8
 exact oL Z (jT.lenM (j:=2) (mk:=wEA) (mv:=wEI) Z Z ji (wBr Zp) dq) n8
 rintro _ _ dT _ dL _ _ _ ⟨⟨_,⟨jk,_⟩⟩,_⟩ ⟨_,_,⟨cK,jj,rfl⟩,rfl,rfl⟩ jU n9
 have q:=jU.freezeR (k:=0) (n:=[-1].length) rfl (wAB (f:=KL.encI) (sz:=1) (fun _=>rfl) [-1]) (by decide)
 obtain ⟨dN,og,mT,jW⟩:=q
 have jX:SW w [B1,.obj O (.map ab ac)] U dN (.blk b4 182 B0 :: B1 :: .obj O (.map ab ac) :: dL) dT:=jW
 refine zM 0 Z Z Z Z (zK Z Z Tryz.call131 (zD jj (zD jk zO)) Z) jX (fun hs=>wEm [-1] (some ⟨cK,0,none⟩) 1 (↑(p0.number.length):Int) dT dN hs mT jr) (.inr Z) ?_
 rintro gj oz pL gy oh jY ⟨dG,eA,rfl,rfl⟩
 have jZ:SW w [B1,.obj O (.map ab ac)] U gj (.row dG eA 3 1 (hD KL.encI bJ) :: .blk b4 182 B0 :: B1 :: .obj O (.map ab ac) :: dL) gy:=jY
 exact n9 _ _ _ _ (og.trans oh) jZ ⟨dG,eA,Z,Z⟩
 rintro _ _ _ _ _ _ _ _ _ ⟨_,_,⟨ba,bg,jm,rfl⟩,⟨_,_,⟨bb,bh,jl,rfl⟩,rfl,rfl⟩,rfl⟩ j0 oa
 exact oR Z (zx (pv:=[(0,.slice ba bI.length bg),(1,.slice bb bJ.length bh)]) (z:=B0) (cs:=[.slice ba bI.length bg,.slice bb bJ.length bh]) Z (wAA jm (wAA jl wAI)) yl wOM Z Z) (oa _ _ _ _ (zL _) j0 ⟨ba,bg,bb,bh,Z,Z⟩)
 rintro _ _ _ _ _ _ _ _ _ rfl j5 oc
 refine zm (cs:=B0) Z Z Z Z Z yl Z j5 ?_
 intro oC gC j6
 exact oc _ _ _ _ (zL _) j6 ⟨gC,Z,Z⟩
 rintro ox dU cX ⟨gJ,gK,gL,gM,_⟩ oi _ _ _ ⟨pg,rfl⟩ _ ⟨ph,rfl⟩ _ ⟨pj,rfl⟩ _ ⟨pn,rfl⟩ _ ⟨po,rfl⟩ _ _ _ _ _ ⟨pp,rfl⟩ _ ⟨pq,rfl⟩ _ ⟨pu,rfl⟩ _ ⟨py,rfl⟩ _ ⟨pz,rfl⟩ _ _ _ ⟨ba,bg,bb,bh,jo,rfl⟩ _ ⟨bW,ff,rfl⟩ j7
 let B2:Res:=.row ba bg 3 1 (hD KL.encI bI)
 let B3:Res:=.row bb bh 3 1 (hD KL.encI bJ)
 have j8:SW w [B1,.obj O (.map ab ac)] U cX [.blk bW 182 B0,B2,B3,.blk b4 182 B0,B1,.obj O (.map ab ac)] dU:=j7
 show OKS _ _ _ _ _ _ (.fx 16 .nil .stop) ox dU
 let B4:List Value:=[.slice ba bI.length bg,.slice bb bJ.length bh]
 refine zh (j:=0) (vs:=B4) Z Z Z Z j8 Z ff jo Z yZ (zA Z) Z Z Z ?_
 intro gz j9
 have k5:SW w [B1,.obj O (.map ab ac)] U cX [.blk bW 182 B4,B2,B3,.blk b4 182 B0,B1,.obj O (.map ab ac)] gz:=j9
 refine zg ?_
 cases mF
 exact zG ⟨rfl,⟨cX,bW,ba,bg,bb,bh,gJ,gK,gL,gM,ff,oi,(k5.pick [3,4,5,0,1,2] _ (by decide) rfl)⟩⟩
 rintro pR oD ⟨dO,b8,aj,ak,am,an,gN,gO,gP,gQ,eE,oj,fu⟩
 refine zI (sR fL4 Z (oR Z (zF Z eE Zf Z zS) (oL Z (fu.ldB (j:=3) Z Z Z zZ (v:=.slice aj l9.length ak) Z) (oR Z (ze Z Z zB) (oM Z Z (eN (zU (bnK fE fun pP lZ dz=>?_))))))))
 have q:=wAn lZ
 obtain ⟨dw,l0⟩:=q
 replace dw:=zH dw
 let B5:Res:=.row am an 3 1 (hD KL.encI bx)
 refine CK.forN' (fun bv aY σ_ w_=>∃ (U_:PHeap),σ_ 34=jV (↑bv:Int)/\σ_ 0=.pointer (some ⟨az,0,none⟩)/\σ_ 1=jV p1/\σ_ 2=.bool p2/\σ_ 6=.pointer (some ⟨b4,0,none⟩)/\σ_ 9=.pointer (some ⟨b8,0,none⟩)/\σ_ 33=jV (↑l9.length:Int)/\PHeap.Le dO U_/\SW w [B1,.obj O (.map ab ac)] U U_ [.blk b4 182 B0,B1,.obj O (.map ab ac),.row aj ak 3 1 (hD KL.encI aY),B5,.blk b8 182 [.slice aj aY.length ak,.slice am bx.length an]] w_/\aY.length=l9.length) l0 ?_ ?_ ?_
 exact ⟨dO,rfl,gN,gO,gP,gQ,eE,rfl,(zL _),(fu.pick [0,1,2,4,5,3] _ (by decide) rfl),rfl⟩
 rintro bv aY pM pS oE dt ⟨bP,cq,dd,cm,de,df,cn,cM,dC,bT,dh⟩ fP
 have eB:Hid ((↑bv:Int) < (↑l9.length:Int)):=zH (wAj dt)
 replace dt:=zH dt
 have dr:Hid (w64 ((↑bv:Int) + 1)=(↑(bv + 1):Int)):=zH (by have h1:=dw.out;have h2:=eB.out;rw [wAX] <;> omega)
 refine sR fL1 Z (oR Z (zW Z cq cM) (eN (zI (cT Z eB (kN (zI (zU (sR fL2 Z (oM Z cq (oA Z Z (eN (sR fL7 Z (oM Z cm (oR Z (zW Z Z Z) (oM Z Z ?_)))))))))))))))
 by_cases aZ:p1 < 0
 have fG:=fP;rw [if_pos aZ] at fG;replace aZ:=zH aZ
 refine oT Z aZ (oT Z aZ (oT Z aZ (oR Z (zT Z (ZZ aZ.out) Z) (eN (zy Z (rR (wEL (.fx 4 .nil .stop)) Z (oR Z (zF Z cn Zf Z zS) (oL Z (bT.ldB (j:=5) Z Z Z zZ (v:=.slice aj aY.length ak) Z) (oM Z Z (bnK fG fun _ cQ ms=>?_))))))))))
 have q:=bT.rowSome (j:=3) rfl (by rw [wAB (f:=KL.encI) (sz:=1) (fun _=>rfl) aY];have hz:=wAS cQ;omega)
 obtain ⟨oW,fh⟩:=q
 refine oR Z (ZE Z Z fh Z zB zC (wAS cQ)) ?_
 have l6:=wBK (xs:=aY) (wAS cQ)
 refine YO (j:=3) (vs:=[jV 0]) (cs':=hD KL.encI (nI aY bv 0)) rfl rfl rfl rfl bT rfl fh rfl rfl rfl zC (by rw [wAB (f:=KL.encI) (sz:=1) (fun _=>rfl)];have hz:=wAS cQ;show _ + 1 <= _;first | omega | (simp only [nE];omega) | (simp only [nD,nA,nB];omega)) rfl (wDA (sz:=1) (fo:=0) (fun _=>rfl) _ _ _ _ l6 (by first | omega | (simp only [nE];omega) | (simp only [nD,nA,nB];omega)) (zA rfl) rfl) rfl ?_
 intro dV k6
 let B6:Res:=.row aj ak 3 1 (hD KL.encI (nI aY bv 0))
 have k8:SW w [B1,.obj O (.map ab ac)] U bP [.blk b4 182 B0,B1,.obj O (.map ab ac),B6,B5,.blk b8 182 [.slice aj aY.length ak,.slice am bx.length an]] dV:=k6
 have k9:SW w [B1,.obj O (.map ab ac)] U bP [.blk b4 182 B0,B1,.obj O (.map ab ac),B6,B5,.blk b8 182 [.slice aj ((nI aY bv 0).length) ak,.slice am bx.length an]] dV:=by simpa only [B0,B1,B5,B6,nH] using k8
 refine zg (zf (zG (rR fL2 Z (oR Z (zr (zX Z cq Z) (congrArg (jV) dr.out)) (oM Z Z (zg ?_))))))
 cases ms
 exact zG ⟨Z,⟨bP,Z,dd,cm,de,df,cn,cM,dC,k9,(nH.trans dh)⟩⟩
 have fH:=fP;rw [if_neg aZ] at fH;replace aZ:=zH aZ
 refine zj Z Z Z (wF Z aZ) Z Z (zj Z Z Z (wF Z aZ) Z cm (rU Z (wF Z aZ) (yc Z Z Z) (oR Z (za Z (zt aZ.out) Z) (eN (ifc fH ?_ ?_)))))
 intro c6 mu
 refine cT Z c6 (rR (wEL (.fx 4 .nil .stop)) Z (oR Z (zF Z cn Zf Z zS) (oL Z (bT.ldB (j:=5) Z Z Z zZ (v:=.slice aj aY.length ak) Z) (oM Z Z (bnK mu fun _ cR mw=>?_)))))
 have q:=bT.rowSome (j:=3) rfl (by rw [wAB (f:=KL.encI) (sz:=1) (fun _=>rfl) aY];have hz:=wAS cR;omega)
 obtain ⟨oX,fj⟩:=q
 refine oR Z (ZE Z Z fj Z zB zC (wAS cR)) ?_
 have l7:=wBK (xs:=aY) (wAS cR)
 refine YO (j:=3) (vs:=[jV 0]) (cs':=hD KL.encI (nI aY bv 0)) rfl rfl rfl rfl bT rfl fj rfl rfl rfl zC (by rw [wAB (f:=KL.encI) (sz:=1) (fun _=>rfl)];have hz:=wAS cR;show _ + 1 <= _;first | omega | (simp only [nE];omega) | (simp only [nD,nA,nB];omega)) rfl (wDA (sz:=1) (fo:=0) (fun _=>rfl) _ _ _ _ l7 (by first | omega | (simp only [nE];omega) | (simp only [nD,nA,nB];omega)) (zA rfl) rfl) rfl ?_
 intro dW lb
 let B7:Res:=.row aj ak 3 1 (hD KL.encI (nI aY bv 0))
 have lc:SW w [B1,.obj O (.map ab ac)] U bP [.blk b4 182 B0,B1,.obj O (.map ab ac),B7,B5,.blk b8 182 [.slice aj aY.length ak,.slice am bx.length an]] dW:=lb
 have lf:SW w [B1,.obj O (.map ab ac)] U bP [.blk b4 182 B0,B1,.obj O (.map ab ac),B7,B5,.blk b8 182 [.slice aj ((nI aY bv 0).length) ak,.slice am bx.length an]] dW:=by simpa only [B0,B1,B5,B7,nH] using lc
 refine zg (zf (zG (rR fL2 Z (oR Z (zr (zX Z cq Z) (congrArg (jV) dr.out)) (oM Z Z (zg ?_))))))
 cases mw
 exact zG ⟨Z,⟨bP,Z,dd,cm,de,df,cn,cM,dC,lf,(nH.trans dh)⟩⟩
 intro c6 mx
 refine cF Z c6 (ZT (zf (zG (rR fL2 Z (oR Z (zr (zX Z cq Z) (congrArg (jV) dr.out)) (oM Z Z (zg ?_)))))))
 cases mx
 exact zG ⟨Z,⟨bP,Z,dd,cm,de,df,cn,cM,dC,bT,dh⟩⟩
 rintro pT oG ⟨dP,iW,eF,o8,gR,gS,gT,gU,ol,di,jq⟩
 have gD:Hid (¬ ((↑(((↑l9.length:Int):Int) - 0).toNat:Int) < (↑l9.length:Int))):=zH (wAc)
 refine sR fL1 Z (oR Z (zW Z iW gU) (eN (zI (cF Z gD (ZJ (zd (zd (ZG (zG (sR fL1 Z (oA Z Z (eN (zI (sR fL7 Z (oM Z eF (oR Z (ZR Z Z) (oR Z (zF Z Z Zc Z yP) (oL Z (di.ldB (j:=1) Z Z Z yY (v:=.map (some O)) Z) (oL Z (di.lenM (j:=2) (mk:=wEA) (mv:=wEI) Z Z Z (wBr Zp) dq) (oR Z (zX Z Z Z) (oM Z Z (eN (zU ?_)))))))))))))))))))))))
 have q:=wBJ dz
 obtain ⟨pJ,dp⟩:=q
 have q:=wBI dp
 obtain ⟨dx,l3⟩:=q
 replace dx:=zH dx
 refine yB (fun bw (cS,cU,fU) σ_ w_=>∃ (U_:PHeap),σ_ 55=jV (↑bw:Int)/\σ_ 0=.pointer (some ⟨az,0,none⟩)/\σ_ 2=.bool p2/\σ_ 6=.pointer (some ⟨b4,0,none⟩)/\σ_ 9=.pointer (some ⟨b8,0,none⟩)/\σ_ 11=jV fU/\σ_ 54=jV (w64 ((↑(p0.number.length):Int) + 1))/\PHeap.Le dP U_/\SW w [B1,.obj O (.map ab ac)] U U_ [.blk b4 182 B0,B1,.obj O (.map ab ac),.row aj ak 3 1 (hD KL.encI cS),.row am an 3 1 (hD KL.encI cU),.blk b8 182 [.slice aj cS.length ak,.slice am cU.length an]] w_/\cS.length=l9.length/\cU.length=bx.length) l3 ?_ ?_ ?_
 exact ⟨dP,Z,eF,gR,gS,gT,Z,Z,(zL _),di,jq,Z⟩
 rintro bw ⟨cS,cU,fU⟩ pN pU oH du ⟨dQ,fd,eG,gV,gW,gX,o9,eH,fS,fw,jt,ju⟩ fQ lW
 try dsimp only at fQ
 have eC:Hid ((↑bw:Int) < (w64 ((↑(p0.number.length):Int) + 1))):=zH (wAj du)
 replace du:=zH du
 have mq:Hid (w64 ((↑bw:Int) + 1)=(↑(bw + 1):Int)):=zH (by have h1:=dx.out;have h2:=eC.out;rw [wAX] <;> omega)
 refine sR fL1 Z (oR Z (zW Z fd eH) (eN (zI (cT Z eC (kN (zI (zU (sR fL1 Z (oA Z Z (eN (zI (sR fL6 Z (oM Z eG (oR Z (ZR Z Z) (oR Z (zF Z Z Zc Z Tryz.sizeOf178) (oL Z (fw.ldB (j:=1) Z Z Z Tryz.isAgg178 (v:=.slice br p0.edges.length bs) Z) (oR Z (ze Z Z Tryz.runUnderlying178) (oM Z Z (eN (zU ?_))))))))))))))))))))
 have q:=bnd fQ
 obtain ⟨⟨fW,fY,pQ⟩,l4,fI⟩:=q
 try dsimp only at fI
 have q:=wAn l4
 obtain ⟨dy,l5⟩:=q
 replace dy:=zH dy
 refine CK.forN' (fun ax (ag,aq,fV) σ_ w_=>∃ (U_:PHeap),σ_ 62=jV (↑ax:Int)/\σ_ 0=.pointer (some ⟨az,0,none⟩)/\σ_ 2=.bool p2/\σ_ 6=.pointer (some ⟨b4,0,none⟩)/\σ_ 9=.pointer (some ⟨b8,0,none⟩)/\σ_ 11=jV fV/\σ_ 54=jV (w64 ((↑(p0.number.length):Int) + 1))/\σ_ 55=jV (↑bw:Int)/\σ_ 60=.slice br p0.edges.length bs/\σ_ 61=jV (↑p0.edges.length:Int)/\PHeap.Le dQ U_/\SW w [B1,.obj O (.map ab ac)] U U_ [.blk b4 182 B0,B1,.obj O (.map ab ac),.row aj ak 3 1 (hD KL.encI ag),.row am an 3 1 (hD KL.encI aq),.blk b8 182 [.slice aj ag.length ak,.slice am aq.length an]] w_/\ag.length=l9.length/\aq.length=bx.length) l5 ?_ ?_ ?_
 exact ⟨dQ,Z,eG,gV,gW,gX,Z,eH,fd,Z,Z,(zL _),fw,jt,ju⟩
 rintro ax ⟨ag,aq,fV⟩ pO pV oI dv ⟨av,bF,bX,bQ,bY,bm,cN,bZ,ca,bR,bS,fT,fy,cc,cd⟩ fR
 try dsimp only at fR
 have eD:Hid ((↑ax:Int) < (↑p0.edges.length:Int)):=zH (wAj dv)
 replace dv:=zH dv
 have mr:Hid (w64 ((↑ax:Int) + 1)=(↑(ax + 1):Int)):=zH (by have h1:=dy.out;have h2:=eD.out;rw [wAX] <;> omega)
 refine sR fL1 Z (oR Z (zW Z bF bS) (eN (zI (cT Z eD (kN ?_)))))
 have q:=bnd fR
 obtain ⟨⟨dA,dB,ov⟩,mV,fJ⟩:=q
 try dsimp only at fJ
 refine yd (fun σ_ w_=>∃ (U_:PHeap),σ_ 0=.pointer (some ⟨az,0,none⟩)/\σ_ 2=.bool p2/\σ_ 6=.pointer (some ⟨b4,0,none⟩)/\σ_ 9=.pointer (some ⟨b8,0,none⟩)/\σ_ 11=jV ov/\σ_ 54=jV (w64 ((↑(p0.number.length):Int) + 1))/\σ_ 55=jV (↑bw:Int)/\σ_ 60=.slice br p0.edges.length bs/\σ_ 61=jV (↑p0.edges.length:Int)/\σ_ 62=jV (↑ax:Int)/\PHeap.Le av U_/\SW w [B1,.obj O (.map ab ac)] U U_ [.blk b4 182 B0,B1,.obj O (.map ab ac),.row aj ak 3 1 (hD KL.encI dA),.row am an 3 1 (hD KL.encI dB),.blk b8 182 [.slice aj dA.length ak,.slice am dB.length an]] w_/\dA.length=l9.length/\dB.length=bx.length) ?_ ?_
 refine zU (sR (wCK (.fx 3 (.fl 4 (.fx 5 .nil .stop)) .stop)) Z (oM Z bF (bnK mV fun ae fg my=>?_)))
 have jv:=lV.le oj
 have jw:=jv.le ol
 have jx:=jw.le fS
 have jy:=jx.le fT
 have q:=jy.el (fun _=>rfl) (wAV fg)
 obtain ⟨oY,pI,jD,jE⟩:=q
 refine oR Z (ZE Z bR jD bF Tryz.runUnderlying178 Tryz.sizeOf216 (wAq fg)) (oL Z (fy.ldCA (f:=0) jE Z Z Tryz.isAgg216 Tryz.sizeOf216 (us:=[jV ae.step.Kind,jV ae.step.Skier,jV ae.step.Index,.bool ae.step.Up,jV ae.from_,jV ae.to_,jV ae.count]) Z Z) (zm (cs:=[jV 0,jV 0,jV 0,.bool false,jV 0,jV 0,jV 0]) Z Z Z Z Z Tryz.zeroValue216 Z fy ?_))
 intro oJ ay li
 refine oA Z Z ?_
 let B8:List Value:=[jV ae.step.Kind,jV ae.step.Skier,jV ae.step.Index,.bool ae.step.Up,jV ae.from_,jV ae.to_,jV ae.count]
 refine zh (j:=0) (vs:=B8) Z Z Z Z li Z Z Z Z Tryz.sizeOf216 (zA Z) Z Z Z ?_
 intro cZ lj
 let B9:Res:=.row am an 3 1 (hD KL.encI aq)
 let bE:Res:=.blk b8 182 [.slice aj ag.length ak,.slice am aq.length an]
 have lk:SW w [B1,.obj O (.map ab ac)] U av [.blk ay 216 B8,.blk b4 182 B0,B1,.obj O (.map ab ac),.row aj ak 3 1 (hD KL.encI ag),B9,bE] cZ:=lj
 refine eN (zI (ZN ZD [3,1,3,1,3,3] fL6 (by kernel_rfl) ?_))
 have cr:=lk.drew
 generalize hw_W626:({ cZ with drawn:=cZ.drawn + 1 }:World)=cJ at cr ⊢
 refine oR Z (zF Z Z YG Z zC) (oL Z (cr.ldB (j:=0) Z Z Z zJ (v:=jV ae.from_) Z) (oR Z (zF Z Z YG Z zC) (oL Z (cr.ldB (j:=0) Z Z Z zJ (v:=jV ae.to_) Z) (oA Z Z (oA Z Z (eN (zI (sR fL1 Z (oM Z bQ (eN (ifc my ?_ ?_)))))))))))
 intro c8 mz
 refine zy (congrArg nJ c8.out) (rR fL4 rfl (zj rfl rfl rfl rfl rfl rfl (zj rfl rfl rfl rfl rfl rfl (yU rfl rfl rfl rfl rfl rfl (yU rfl rfl rfl rfl rfl rfl (eN (zI (ZN ZD [3,1,3,3,1,3,3,3,1,3,3,1,3,1,3,3,1,3,3,1,3,3] wRy (by kernel_rfl) ?_))))))))
 have bn:=cr.drew
 generalize hw_W630:({ cJ with drawn:=cJ.drawn + 1 }:World)=dX at bn ⊢
 refine oR Z (zF Z bm Zf Z zS) (oL Z (bn.ldB (j:=6) Z Z Z zZ (v:=.slice aj ag.length ak) Z) (oM Z Z (bnK mz fun _ bA mA=>?_)))
 have q:=bn.rowSome (j:=4) rfl (by rw [wAB (f:=KL.encI) (sz:=1) (fun _=>rfl) ag];have hz:=wAS bA;omega)
 obtain ⟨oZ,bt⟩:=q
 refine oR Z (Za Z Z bt Z zB zC (wBa bA) (wBb bA)) ?_
 have l8:=wBK (xs:=ag) (wAS bA)
 refine ZB rfl rfl rfl rfl (bn.ldR (j:=4) rfl bt rfl rfl zJ (wAW (sz:=1) (fun _=>rfl) _ _ 0 _ l8 (by first | omega | rfl | simp) rfl)) rfl (zY rfl rfl rfl rfl (fun _=>zW rfl rfl rfl) (zj rfl rfl rfl rfl rfl rfl (ifc mA ?_ ?_)))
 intro ao mB
 refine rU Z (wT Z ao) (zF Z bm Zf Z zS) (ZB Z Z Z (wT Z ao) (bn.ldB (j:=6) Z Z Z zZ (v:=.slice aj ag.length ak) Z) Z (zj Z Z Z (wT Z ao) Z Z (rU Z (wT Z ao) (Za Z Z bt Z zB zC (wBa bA) (wBb bA)) ?_)))
 have ma:=wBK (xs:=ag) (wAS bA)
 refine ZB rfl rfl rfl (zN rfl rfl (ZZ ao.out)) (bn.ldR (j:=4) rfl bt rfl rfl zJ (wAW (sz:=1) (fun _=>rfl) _ _ 0 _ ma (by first | omega | rfl | simp) rfl)) rfl (zY rfl rfl rfl (zN rfl rfl (ZZ ao.out)) (fun _=>zF rfl rfl YG rfl zC) (ZB rfl rfl rfl (zN rfl rfl (ZZ ao.out)) (bn.ldB (j:=0) rfl rfl rfl zJ (v:=jV ae.count) rfl) rfl (zY rfl rfl rfl (zN rfl rfl (ZZ ao.out)) (fun _=>zX rfl rfl rfl) (zY rfl rfl rfl (zN rfl rfl (ZZ ao.out)) (fun _=>zF rfl bm Zf rfl zS) (ZB rfl rfl rfl (zN rfl rfl (ZZ ao.out)) (bn.ldB (j:=6) rfl rfl rfl zZ (v:=.slice aj ag.length ak) rfl) rfl (zj rfl rfl rfl (zN rfl rfl (ZZ ao.out)) rfl rfl (bnK mB fun _ bG mC=>zY rfl rfl rfl (zN rfl rfl (ZZ ao.out)) (fun _=>Za rfl rfl bt rfl zB zC (wBa bG) (wBb bG)) ?_)))))))
 have mb:=wBK (xs:=ag) (wAS bG)
 refine ZB rfl rfl rfl (zN rfl rfl (ZZ ao.out)) (bn.ldR (j:=4) rfl bt rfl rfl zJ (wAW (sz:=1) (fun _=>rfl) _ _ 0 _ mb (by first | omega | rfl | simp) rfl)) rfl (zY rfl rfl rfl (zN rfl rfl (ZZ ao.out)) (fun _=>zW rfl rfl rfl) (zY rfl rfl rfl rfl (fun _=>zT rfl (ZZ ao.out) rfl) (eN (ifc mC ?_ ?_))))
 intro c9 mD
 refine cT Z c9 ?_
 have q:=bnd mD
 obtain ⟨⟨⟩,mW,fK⟩:=q
 try dsimp only at fK
 let bd:Res:=.row aj ak 3 1 (hD KL.encI (nI ag ae.from_.toNat (w64 ((gd ag ae.to_.toNat) + ae.count))))
 let ci:Res:=.blk b8 182 [.slice aj ((nI ag ae.from_.toNat (w64 ((gd ag ae.to_.toNat) + ae.count))).length) ak,.slice am ((nI aq ae.from_.toNat (↑ax:Int)).length) an]
 let bM:Res:=.row am an 3 1 (hD KL.encI (nI aq ae.from_.toNat (↑ax:Int)))
 refine yd (fun σ_ w_=>∃ (U_:PHeap),σ_ 0=.pointer (some ⟨az,0,none⟩)/\σ_ 2=.bool p2/\σ_ 6=.pointer (some ⟨b4,0,none⟩)/\σ_ 9=.pointer (some ⟨b8,0,none⟩)/\σ_ 15=jV ae.from_/\σ_ 54=jV (w64 ((↑(p0.number.length):Int) + 1))/\σ_ 55=jV (↑bw:Int)/\σ_ 60=.slice br p0.edges.length bs/\σ_ 61=jV (↑p0.edges.length:Int)/\σ_ 62=jV (↑ax:Int)/\PHeap.Le av U_/\SW w [B1,.obj O (.map ab ac)] U U_ [.blk ay 216 B8,.blk b4 182 B0,B1,.obj O (.map ab ac),bd,bM,ci] w_) ?_ ?_
 refine yL fun bi a7=>?_
 have eI:bi 0=.pointer (some ⟨az,0,none⟩):=(a7 0).trans bX
 have eJ:bi 2=.bool p2:=(a7 2).trans bQ
 have eK:bi 6=.pointer (some ⟨b4,0,none⟩):=(a7 6).trans bY
 have co:bi 9=.pointer (some ⟨b8,0,none⟩):=(a7 9).trans bm
 have gY:bi 12=jV (↑ax:Int):=(a7 12).trans rfl
 have gZ:bi 13=.pointer (some ⟨ay,0,none⟩):=(a7 13).trans rfl
 have g8:bi 14=jV ae.to_:=(a7 14).trans rfl
 have cO:bi 15=jV ae.from_:=(a7 15).trans rfl
 have eM:bi 54=jV (w64 ((↑(p0.number.length):Int) + 1)):=(a7 54).trans bZ
 have eO:bi 55=jV (↑bw:Int):=(a7 55).trans ca
 have eQ:bi 60=.slice br p0.edges.length bs:=(a7 60).trans bR
 have eR:bi 61=jV (↑p0.edges.length:Int):=(a7 61).trans bS
 have eS:bi 62=jV (↑ax:Int):=(a7 62).trans bF
 clear a7
 refine bnK mW fun _ bB fL=>ZN ZD [3,1,3,3,2,3,3,1,3,3,1,3,1,3,3,3,0,3,0] (wEL (wQF gDn)) (by kernel_rfl) ?_
 have bK:=bn.drew
 generalize hw_W691:({ dX with drawn:=dX.drawn + 1 }:World)=oK at bK ⊢
 refine oR Z (zF Z co Zf Z zS) (oL Z (bK.ldB (j:=6) Z Z Z zZ (v:=.slice aj ag.length ak) Z) (oM Z cO (oR Z (zF Z co Zf Z zS) (oM Z cO (oR Z (zF Z co Zf Z zS) (oL Z (bK.ldB (j:=6) Z Z Z zZ (v:=.slice aj ag.length ak) Z) (oM Z g8 (oR Z (Za Z Z bt Z zB zC (wBa bA) (wBb bA)) ?_))))))))
 have mc:=wBK (xs:=ag) (wAS bA)
 refine ZB rfl rfl rfl rfl (bK.ldR (j:=4) rfl bt rfl rfl zJ (wAW (sz:=1) (fun _=>rfl) _ _ 0 _ mc (by first | omega | rfl | simp) rfl)) rfl (zY rfl rfl rfl rfl (fun _=>zF rfl gZ YG rfl zC) (ZB rfl rfl rfl rfl (bK.ldB (j:=0) rfl rfl rfl zJ (v:=jV ae.count) rfl) rfl (zY rfl rfl rfl rfl (fun _=>zX rfl rfl rfl) (zj rfl rfl rfl rfl rfl gY (zY rfl rfl rfl rfl (fun _=>Za rfl rfl bt rfl zB zC (wBa bG) (wBb bG)) (yp ?_ ?_))))))
 refine yj Z Z Z Z (bK.ldB (j:=6) Z Z Z zZ (v:=.slice am aq.length an) Z) ?_
 have md:=wBK (xs:=ag) (wAS bG)
 refine YO (j:=4) (vs:=[jV (w64 ((gd ag ae.to_.toNat) + ae.count))]) (cs':=hD KL.encI (nI ag ae.from_.toNat (w64 ((gd ag ae.to_.toNat) + ae.count)))) rfl rfl rfl rfl bK rfl bt rfl rfl rfl zC (by rw [wAB (f:=KL.encI) (sz:=1) (fun _=>rfl)];have hz:=wAS bG;show _ + 1 <= _;first | omega | (simp only [nE];omega) | (simp only [nD,nA,nB];omega)) rfl (wDA (sz:=1) (fo:=0) (fun _=>rfl) _ _ _ _ md (by first | omega | (simp only [nE];omega) | (simp only [nD,nA,nB];omega)) (zA rfl) rfl) rfl ?_
 intro dY ll
 have lm:SW w [B1,.obj O (.map ab ac)] U av [.blk ay 216 B8,.blk b4 182 B0,B1,.obj O (.map ab ac),bd,B9,bE] dY:=ll
 let cE:Res:=.blk b8 182 [.slice aj ((nI ag ae.from_.toNat (w64 ((gd ag ae.to_.toNat) + ae.count))).length) ak,.slice am aq.length an]
 have fz:SW w [B1,.obj O (.map ab ac)] U av [.blk ay 216 B8,.blk b4 182 B0,B1,.obj O (.map ab ac),bd,B9,cE] dY:=by simpa only [B0,B1,bE,bd,cE,B8,B9,nH] using lm
 have q:=fz.rowSome (j:=5) rfl (by rw [wAB (f:=KL.encI) (sz:=1) (fun _=>rfl) aq];have hz:=wAS bB;omega)
 obtain ⟨o0,fk⟩:=q
 refine oR Z (Za Z Z fk Z zB zC (wBa bB) (wBb bB)) ?_
 have me:=wBK (xs:=aq) (wAS bB)
 refine YO (j:=5) (vs:=[jV (↑ax:Int)]) (cs':=hD KL.encI (nI aq ae.from_.toNat (↑ax:Int))) rfl rfl rfl rfl fz rfl fk rfl rfl rfl zC (by rw [wAB (f:=KL.encI) (sz:=1) (fun _=>rfl)];have hz:=wAS bB;show _ + 1 <= _;first | omega | (simp only [nE];omega) | (simp only [nD,nA,nB];omega)) rfl (wDA (sz:=1) (fo:=0) (fun _=>rfl) _ _ _ _ me (by first | omega | (simp only [nE];omega) | (simp only [nD,nA,nB];omega)) (zA rfl) rfl) rfl ?_
 intro dZ lq
 have lu:SW w [B1,.obj O (.map ab ac)] U av [.blk ay 216 B8,.blk b4 182 B0,B1,.obj O (.map ab ac),bd,bM,cE] dZ:=lq
 have lw:SW w [B1,.obj O (.map ab ac)] U av [.blk ay 216 B8,.blk b4 182 B0,B1,.obj O (.map ab ac),bd,bM,ci] dZ:=by simpa only [B0,B1,bd,ci,bM,cE,B8,nH] using lu
 refine zg ?_
 cases fL
 exact zG ⟨Z,⟨av,eI,eJ,eK,co,cO,eM,eO,eQ,eR,eS,(zL _),lw⟩⟩
 have mf:=wBK (xs:=ag) (wAS bG)
 refine YO (j:=4) (vs:=[jV (w64 ((gd ag ae.to_.toNat) + ae.count))]) (cs':=hD KL.encI (nI ag ae.from_.toNat (w64 ((gd ag ae.to_.toNat) + ae.count)))) rfl rfl rfl rfl bK rfl bt rfl rfl rfl zC (by rw [wAB (f:=KL.encI) (sz:=1) (fun _=>rfl)];have hz:=wAS bG;show _ + 1 <= _;first | omega | (simp only [nE];omega) | (simp only [nD,nA,nB];omega)) rfl (wDA (sz:=1) (fo:=0) (fun _=>rfl) _ _ _ _ mf (by first | omega | (simp only [nE];omega) | (simp only [nD,nA,nB];omega)) (zA rfl) rfl) rfl ?_
 intro d7 lx
 have ly:SW w [B1,.obj O (.map ab ac)] U av [.blk ay 216 B8,.blk b4 182 B0,B1,.obj O (.map ab ac),bd,B9,bE] d7:=lx
 let cG:Res:=.blk b8 182 [.slice aj ((nI ag ae.from_.toNat (w64 ((gd ag ae.to_.toNat) + ae.count))).length) ak,.slice am aq.length an]
 have dl:SW w [B1,.obj O (.map ab ac)] U av [.blk ay 216 B8,.blk b4 182 B0,B1,.obj O (.map ab ac),bd,B9,cG] d7:=by simpa only [B0,B1,bE,bd,cG,B8,B9,nH] using ly
 refine yj Z Z Z Z (dl.ldB (j:=6) Z Z Z zZ (v:=.slice am aq.length an) Z) ?_
 have q:=dl.rowSome (j:=5) rfl (by rw [wAB (f:=KL.encI) (sz:=1) (fun _=>rfl) aq];have hz:=wAS bB;omega)
 obtain ⟨o3,fm⟩:=q
 refine oR Z (Za Z Z fm Z zB zC (wBa bB) (wBb bB)) ?_
 have mg:=wBK (xs:=aq) (wAS bB)
 refine YO (j:=5) (vs:=[jV (↑ax:Int)]) (cs':=hD KL.encI (nI aq ae.from_.toNat (↑ax:Int))) rfl rfl rfl rfl dl rfl fm rfl rfl rfl zC (by rw [wAB (f:=KL.encI) (sz:=1) (fun _=>rfl)];have hz:=wAS bB;show _ + 1 <= _;first | omega | (simp only [nE];omega) | (simp only [nD,nA,nB];omega)) rfl (wDA (sz:=1) (fo:=0) (fun _=>rfl) _ _ _ _ mg (by first | omega | (simp only [nE];omega) | (simp only [nD,nA,nB];omega)) (zA rfl) rfl) rfl ?_
 intro d8 lz
 have lB:SW w [B1,.obj O (.map ab ac)] U av [.blk ay 216 B8,.blk b4 182 B0,B1,.obj O (.map ab ac),bd,bM,cG] d8:=lz
 have lC:SW w [B1,.obj O (.map ab ac)] U av [.blk ay 216 B8,.blk b4 182 B0,B1,.obj O (.map ab ac),bd,bM,ci] d8:=by simpa only [B0,B1,bd,ci,bM,cG,B8,nH] using lB
 refine zg ?_
 cases fL
 exact zG ⟨Z,⟨av,eI,eJ,eK,co,cO,eM,eO,eQ,eR,eS,(zL _),lC⟩⟩
 rintro pY oO ⟨gm,g9,ib,ic,ie,ig,ii,ij,il,im,io,om,lD⟩
 refine rR fL2 Z (oM Z ig (oA Z Z (zg (zf ?_))))
 cases fK
 exact zG ⟨rfl,⟨gm,g9,ib,ic,ie,rfl,ii,ij,il,im,io,om,(lD.pick [1,2,3,4,5,6] _ (by decide) rfl),(nH.trans cc),(nH.trans cd)⟩⟩
 intro c9 mG
 refine cF Z c9 (ZT (zf ?_))
 cases mG
 exact zG ⟨rfl,⟨av,bX,bQ,bY,bm,cN,bZ,ca,bR,bS,bF,(zL _),(bn.pick [1,2,3,4,5,6] _ (by decide) rfl),cc,cd⟩⟩
 intro ao mH
 refine oF Z ao (oF Z ao (oF Z ao (oF Z ao (oF Z ao (oF Z ao (oF Z ao (oF Z ao (oF Z ao (oF Z ao (oF Z ao (oF Z ao (oF Z ao (oF Z ao (oR Z (za Z (zt ao.out) Z) (eN (zn Z (ZT (zf ?_))))))))))))))))))
 cases mH
 exact zG ⟨rfl,⟨av,bX,bQ,bY,bm,cN,bZ,ca,bR,bS,bF,(zL _),(bn.pick [1,2,3,4,5,6] _ (by decide) rfl),cc,cd⟩⟩
 intro c8 mI
 refine zn (congrArg nJ (nK.2 c8.out)) (kN (zI (ZN ZD [3,1,3,3,1,3,3,3,1,3,3,1,3,1,3,3,1,3,3,1,3,3] wRy (by kernel_rfl) ?_)))
 have bp:=cr.drew
 generalize hw_W745:({ cJ with drawn:=cJ.drawn + 1 }:World)=d9 at bp ⊢
 refine oR Z (zF Z bm Zf Z zS) (oL Z (bp.ldB (j:=6) Z Z Z zZ (v:=.slice aj ag.length ak) Z) (oM Z Z (bnK mI fun _ bC mJ=>?_)))
 have q:=bp.rowSome (j:=4) rfl (by rw [wAB (f:=KL.encI) (sz:=1) (fun _=>rfl) ag];have hz:=wAS bC;omega)
 obtain ⟨o5,bu⟩:=q
 refine oR Z (Za Z Z bu Z zB zC (wBa bC) (wBb bC)) ?_
 have mh:=wBK (xs:=ag) (wAS bC)
 refine ZB rfl rfl rfl rfl (bp.ldR (j:=4) rfl bu rfl rfl zJ (wAW (sz:=1) (fun _=>rfl) _ _ 0 _ mh (by first | omega | rfl | simp) rfl)) rfl (zY rfl rfl rfl rfl (fun _=>zW rfl rfl rfl) (zj rfl rfl rfl rfl rfl rfl (ifc mJ ?_ ?_)))
 intro ap mK
 refine rU Z (wT Z ap) (zF Z bm Zf Z zS) (ZB Z Z Z (wT Z ap) (bp.ldB (j:=6) Z Z Z zZ (v:=.slice aj ag.length ak) Z) Z (zj Z Z Z (wT Z ap) Z Z (rU Z (wT Z ap) (Za Z Z bu Z zB zC (wBa bC) (wBb bC)) ?_)))
 have mi:=wBK (xs:=ag) (wAS bC)
 refine ZB rfl rfl rfl (zN rfl rfl (ZZ ap.out)) (bp.ldR (j:=4) rfl bu rfl rfl zJ (wAW (sz:=1) (fun _=>rfl) _ _ 0 _ mi (by first | omega | rfl | simp) rfl)) rfl (zY rfl rfl rfl (zN rfl rfl (ZZ ap.out)) (fun _=>zF rfl rfl YG rfl zC) (ZB rfl rfl rfl (zN rfl rfl (ZZ ap.out)) (bp.ldB (j:=0) rfl rfl rfl zJ (v:=jV ae.count) rfl) rfl (zY rfl rfl rfl (zN rfl rfl (ZZ ap.out)) (fun _=>zX rfl rfl rfl) (zY rfl rfl rfl (zN rfl rfl (ZZ ap.out)) (fun _=>zF rfl bm Zf rfl zS) (ZB rfl rfl rfl (zN rfl rfl (ZZ ap.out)) (bp.ldB (j:=6) rfl rfl rfl zZ (v:=.slice aj ag.length ak) rfl) rfl (zj rfl rfl rfl (zN rfl rfl (ZZ ap.out)) rfl rfl (bnK mK fun _ bH mL=>zY rfl rfl rfl (zN rfl rfl (ZZ ap.out)) (fun _=>Za rfl rfl bu rfl zB zC (wBa bH) (wBb bH)) ?_)))))))
 have mj:=wBK (xs:=ag) (wAS bH)
 refine ZB rfl rfl rfl (zN rfl rfl (ZZ ap.out)) (bp.ldR (j:=4) rfl bu rfl rfl zJ (wAW (sz:=1) (fun _=>rfl) _ _ 0 _ mj (by first | omega | rfl | simp) rfl)) rfl (zY rfl rfl rfl (zN rfl rfl (ZZ ap.out)) (fun _=>zW rfl rfl rfl) (zY rfl rfl rfl rfl (fun _=>zT rfl (ZZ ap.out) rfl) (eN (ifc mL ?_ ?_))))
 intro da mM
 refine cT Z da ?_
 have q:=bnd mM
 obtain ⟨⟨⟩,mX,fM⟩:=q
 try dsimp only at fM
 let be:Res:=.row aj ak 3 1 (hD KL.encI (nI ag ae.to_.toNat (w64 ((gd ag ae.from_.toNat) + ae.count))))
 let cj:Res:=.blk b8 182 [.slice aj ((nI ag ae.to_.toNat (w64 ((gd ag ae.from_.toNat) + ae.count))).length) ak,.slice am ((nI aq ae.to_.toNat (↑ax:Int)).length) an]
 let bN:Res:=.row am an 3 1 (hD KL.encI (nI aq ae.to_.toNat (↑ax:Int)))
 refine yd (fun σ_ w_=>∃ (U_:PHeap),σ_ 0=.pointer (some ⟨az,0,none⟩)/\σ_ 2=.bool p2/\σ_ 6=.pointer (some ⟨b4,0,none⟩)/\σ_ 9=.pointer (some ⟨b8,0,none⟩)/\σ_ 15=jV ae.to_/\σ_ 54=jV (w64 ((↑(p0.number.length):Int) + 1))/\σ_ 55=jV (↑bw:Int)/\σ_ 60=.slice br p0.edges.length bs/\σ_ 61=jV (↑p0.edges.length:Int)/\σ_ 62=jV (↑ax:Int)/\PHeap.Le av U_/\SW w [B1,.obj O (.map ab ac)] U U_ [.blk ay 216 B8,.blk b4 182 B0,B1,.obj O (.map ab ac),be,bN,cj] w_) ?_ ?_
 refine yL fun bj a8=>?_
 have eT:bj 0=.pointer (some ⟨az,0,none⟩):=(a8 0).trans bX
 have eU:bj 2=.bool p2:=(a8 2).trans bQ
 have eV:bj 6=.pointer (some ⟨b4,0,none⟩):=(a8 6).trans bY
 have cp:bj 9=.pointer (some ⟨b8,0,none⟩):=(a8 9).trans bm
 have ip:bj 12=jV (↑ax:Int):=(a8 12).trans rfl
 have iq:bj 13=.pointer (some ⟨ay,0,none⟩):=(a8 13).trans rfl
 have ir:bj 14=jV ae.from_:=(a8 14).trans rfl
 have cP:bj 15=jV ae.to_:=(a8 15).trans rfl
 have eW:bj 54=jV (w64 ((↑(p0.number.length):Int) + 1)):=(a8 54).trans bZ
 have eX:bj 55=jV (↑bw:Int):=(a8 55).trans ca
 have eY:bj 60=.slice br p0.edges.length bs:=(a8 60).trans bR
 have eZ:bj 61=jV (↑p0.edges.length:Int):=(a8 61).trans bS
 have e8:bj 62=jV (↑ax:Int):=(a8 62).trans bF
 clear a8
 refine bnK mX fun _ bD fN=>ZN ZD [3,1,3,3,2,3,3,1,3,3,1,3,1,3,3,3,0,3,0] (wEL (wQF gDn)) (by kernel_rfl) ?_
 have bL:=bp.drew
 generalize hw_W806:({ d9 with drawn:=d9.drawn + 1 }:World)=oP at bL ⊢
 refine oR Z (zF Z cp Zf Z zS) (oL Z (bL.ldB (j:=6) Z Z Z zZ (v:=.slice aj ag.length ak) Z) (oM Z cP (oR Z (zF Z cp Zf Z zS) (oM Z cP (oR Z (zF Z cp Zf Z zS) (oL Z (bL.ldB (j:=6) Z Z Z zZ (v:=.slice aj ag.length ak) Z) (oM Z ir (oR Z (Za Z Z bu Z zB zC (wBa bC) (wBb bC)) ?_))))))))
 have ml:=wBK (xs:=ag) (wAS bC)
 refine ZB rfl rfl rfl rfl (bL.ldR (j:=4) rfl bu rfl rfl zJ (wAW (sz:=1) (fun _=>rfl) _ _ 0 _ ml (by first | omega | rfl | simp) rfl)) rfl (zY rfl rfl rfl rfl (fun _=>zF rfl iq YG rfl zC) (ZB rfl rfl rfl rfl (bL.ldB (j:=0) rfl rfl rfl zJ (v:=jV ae.count) rfl) rfl (zY rfl rfl rfl rfl (fun _=>zX rfl rfl rfl) (zj rfl rfl rfl rfl rfl ip (zY rfl rfl rfl rfl (fun _=>Za rfl rfl bu rfl zB zC (wBa bH) (wBb bH)) (yp ?_ ?_))))))
 refine yj Z Z Z Z (bL.ldB (j:=6) Z Z Z zZ (v:=.slice am aq.length an) Z) ?_
 have mm:=wBK (xs:=ag) (wAS bH)
 refine YO (j:=4) (vs:=[jV (w64 ((gd ag ae.from_.toNat) + ae.count))]) (cs':=hD KL.encI (nI ag ae.to_.toNat (w64 ((gd ag ae.from_.toNat) + ae.count)))) rfl rfl rfl rfl bL rfl bu rfl rfl rfl zC (by rw [wAB (f:=KL.encI) (sz:=1) (fun _=>rfl)];have hz:=wAS bH;show _ + 1 <= _;first | omega | (simp only [nE];omega) | (simp only [nD,nA,nB];omega)) rfl (wDA (sz:=1) (fo:=0) (fun _=>rfl) _ _ _ _ mm (by first | omega | (simp only [nE];omega) | (simp only [nD,nA,nB];omega)) (zA rfl) rfl) rfl ?_
 intro eh lE
 have lF:SW w [B1,.obj O (.map ab ac)] U av [.blk ay 216 B8,.blk b4 182 B0,B1,.obj O (.map ab ac),be,B9,bE] eh:=lE
 let cH:Res:=.blk b8 182 [.slice aj ((nI ag ae.to_.toNat (w64 ((gd ag ae.from_.toNat) + ae.count))).length) ak,.slice am aq.length an]
 have fA:SW w [B1,.obj O (.map ab ac)] U av [.blk ay 216 B8,.blk b4 182 B0,B1,.obj O (.map ab ac),be,B9,cH] eh:=by simpa only [B0,B1,bE,be,cH,B8,B9,nH] using lF
 have q:=fA.rowSome (j:=5) rfl (by rw [wAB (f:=KL.encI) (sz:=1) (fun _=>rfl) aq];have hz:=wAS bD;omega)
 obtain ⟨o6,fq⟩:=q
 refine oR Z (Za Z Z fq Z zB zC (wBa bD) (wBb bD)) ?_
 have mn:=wBK (xs:=aq) (wAS bD)
 refine YO (j:=5) (vs:=[jV (↑ax:Int)]) (cs':=hD KL.encI (nI aq ae.to_.toNat (↑ax:Int))) rfl rfl rfl rfl fA rfl fq rfl rfl rfl zC (by rw [wAB (f:=KL.encI) (sz:=1) (fun _=>rfl)];have hz:=wAS bD;show _ + 1 <= _;first | omega | (simp only [nE];omega) | (simp only [nD,nA,nB];omega)) rfl (wDA (sz:=1) (fo:=0) (fun _=>rfl) _ _ _ _ mn (by first | omega | (simp only [nE];omega) | (simp only [nD,nA,nB];omega)) (zA rfl) rfl) rfl ?_
 intro ej lG
 have lH:SW w [B1,.obj O (.map ab ac)] U av [.blk ay 216 B8,.blk b4 182 B0,B1,.obj O (.map ab ac),be,bN,cH] ej:=lG
 have lI:SW w [B1,.obj O (.map ab ac)] U av [.blk ay 216 B8,.blk b4 182 B0,B1,.obj O (.map ab ac),be,bN,cj] ej:=by simpa only [B0,B1,be,cj,bN,cH,B8,nH] using lH
 refine zg ?_
 cases fN
 exact zG ⟨Z,⟨av,eT,eU,eV,cp,cP,eW,eX,eY,eZ,e8,(zL _),lI⟩⟩
 have mo:=wBK (xs:=ag) (wAS bH)
 refine YO (j:=4) (vs:=[jV (w64 ((gd ag ae.from_.toNat) + ae.count))]) (cs':=hD KL.encI (nI ag ae.to_.toNat (w64 ((gd ag ae.from_.toNat) + ae.count)))) rfl rfl rfl rfl bL rfl bu rfl rfl rfl zC (by rw [wAB (f:=KL.encI) (sz:=1) (fun _=>rfl)];have hz:=wAS bH;show _ + 1 <= _;first | omega | (simp only [nE];omega) | (simp only [nD,nA,nB];omega)) rfl (wDA (sz:=1) (fo:=0) (fun _=>rfl) _ _ _ _ mo (by first | omega | (simp only [nE];omega) | (simp only [nD,nA,nB];omega)) (zA rfl) rfl) rfl ?_
 intro eo lJ
 have lK:SW w [B1,.obj O (.map ab ac)] U av [.blk ay 216 B8,.blk b4 182 B0,B1,.obj O (.map ab ac),be,B9,bE] eo:=lJ
 let cI:Res:=.blk b8 182 [.slice aj ((nI ag ae.to_.toNat (w64 ((gd ag ae.from_.toNat) + ae.count))).length) ak,.slice am aq.length an]
 have dm:SW w [B1,.obj O (.map ab ac)] U av [.blk ay 216 B8,.blk b4 182 B0,B1,.obj O (.map ab ac),be,B9,cI] eo:=by simpa only [B0,B1,bE,be,cI,B8,B9,nH] using lK
 refine yj Z Z Z Z (dm.ldB (j:=6) Z Z Z zZ (v:=.slice am aq.length an) Z) ?_
 have q:=dm.rowSome (j:=5) rfl (by rw [wAB (f:=KL.encI) (sz:=1) (fun _=>rfl) aq];have hz:=wAS bD;omega)
 obtain ⟨o7,ft⟩:=q
 refine oR Z (Za Z Z ft Z zB zC (wBa bD) (wBb bD)) ?_
 have mp:=wBK (xs:=aq) (wAS bD)
 refine YO (j:=5) (vs:=[jV (↑ax:Int)]) (cs':=hD KL.encI (nI aq ae.to_.toNat (↑ax:Int))) rfl rfl rfl rfl dm rfl ft rfl rfl rfl zC (by rw [wAB (f:=KL.encI) (sz:=1) (fun _=>rfl)];have hz:=wAS bD;show _ + 1 <= _;first | omega | (simp only [nE];omega) | (simp only [nD,nA,nB];omega)) rfl (wDA (sz:=1) (fo:=0) (fun _=>rfl) _ _ _ _ mp (by first | omega | (simp only [nE];omega) | (simp only [nD,nA,nB];omega)) (zA rfl) rfl) rfl ?_
 intro ep lL
 have lM:SW w [B1,.obj O (.map ab ac)] U av [.blk ay 216 B8,.blk b4 182 B0,B1,.obj O (.map ab ac),be,bN,cI] ep:=lL
 have lN:SW w [B1,.obj O (.map ab ac)] U av [.blk ay 216 B8,.blk b4 182 B0,B1,.obj O (.map ab ac),be,bN,cj] ep:=by simpa only [B0,B1,be,cj,bN,cI,B8,nH] using lM
 refine zg ?_
 cases fN
 exact zG ⟨Z,⟨av,eT,eU,eV,cp,cP,eW,eX,eY,eZ,e8,(zL _),lN⟩⟩
 rintro pZ oQ ⟨gq,it,iu,iv,iw,iy,iz,iA,iB,iC,iD,oo,lO⟩
 refine rR fL2 Z (oM Z iy (oA Z Z (zg (zf ?_))))
 cases fM
 exact zG ⟨rfl,⟨gq,it,iu,iv,iw,rfl,iz,iA,iB,iC,iD,oo,(lO.pick [1,2,3,4,5,6] _ (by decide) rfl),(nH.trans cc),(nH.trans cd)⟩⟩
 intro da mN
 refine cF Z da (ZT (zf ?_))
 cases mN
 exact zG ⟨rfl,⟨av,bX,bQ,bY,bm,cN,bZ,ca,bR,bS,bF,(zL _),(bp.pick [1,2,3,4,5,6] _ (by decide) rfl),cc,cd⟩⟩
 intro ap mO
 refine oF Z ap (oF Z ap (oF Z ap (oF Z ap (oF Z ap (oF Z ap (oF Z ap (oF Z ap (oF Z ap (oF Z ap (oF Z ap (oF Z ap (oF Z ap (oF Z ap (oR Z (za Z (zt ap.out) Z) (eN (zn Z (ZT (zf ?_))))))))))))))))))
 cases mO
 exact zG ⟨rfl,⟨av,bX,bQ,bY,bm,cN,bZ,ca,bR,bS,bF,(zL _),(bp.pick [1,2,3,4,5,6] _ (by decide) rfl),cc,cd⟩⟩
 rintro p6 oS ⟨gu,iE,iF,iG,iH,iI,iJ,iK,iL,iM,iN,oq,lQ,jz,jA⟩
 refine rR fL2 Z (oR Z (zr (zX Z iN Z) (congrArg (jV) mr.out)) (oM Z Z (zg ?_)))
 cases fJ
 exact zG ⟨Z,⟨gu,Z,iE,iF,iG,iH,iI,iJ,iK,iL,iM,(fT.trans oq),lQ,jz,jA⟩⟩
 rintro p7 oU ⟨cY,iX,iO,iP,dg,e9,fb,iQ,iR,pd,iS,ot,dn,jB,jC⟩
 have gE:Hid (¬ ((↑(((↑p0.edges.length:Int):Int) - 0).toNat:Int) < (↑p0.edges.length:Int))):=zH (wAc)
 refine sR fL1 Z (oR Z (zW Z iX iS) (eN (zI (cF Z gE (ZJ (zd (zd (ZG (zG (sR fL2 Z (oM Z fb (oR Z (zW Z Z Z) (eN (ifc fI ?_ ?_))))))))))))))
 intro db mP
 refine cT Z db (sR gDk Z ?_)
 let bU:List Value:=[.slice aj fW.length ak,.slice am fY.length an]
 refine oL Z (dn.ldBA (j:=5) Z Z e9 Tryz.isAgg182 yZ (vs:=bU) Z Z) (zh (j:=0) (vs:=bU) Z Z Z Z dn Z dg Z Z yZ (zA Z) Z Z Z ?_)
 intro gA lR
 have fB:SW w [B1,.obj O (.map ab ac)] U cY [.blk b4 182 bU,B1,.obj O (.map ab ac),.row aj ak 3 1 (hD KL.encI fW),.row am an 3 1 (hD KL.encI fY),.blk b8 182 bU] gA:=lR
 refine oA Z Z (oA Z Z (eN (zP (zc (zR ?_)))))
 have q:=wAb mP
 obtain ⟨ou,mQ,gG⟩:=q
 have q:=wBC dz dp (lW ou gG)
 obtain rfl:=q
 refine zR (zc (zR ?_))
 cases mQ
 exact ⟨rfl,_,(wFY (rs:=[.cell 6 182,.tmp 7,.tmp 8]) (vs:=[.agg bU.toArray,jV 0,.bool true]) ⟨⟨_,dg,(wBL Tryz.isAgg182 yZ (fB.blkAt (k:=0) rfl) (vs:=bU) rfl rfl)⟩,⟨rfl,⟨rfl,trivial⟩⟩⟩ rfl),cY,_,(fB.pick [3,4,1,2] _ (by decide) rfl),aj,ak,am,an,rfl,rfl⟩
 intro db mR
 refine cF Z db (ZT (zf (zG (rR fL2 Z (oR Z (zr (zX Z iR Z) (congrArg (jV) mq.out)) (oM Z Z (zg ?_)))))))
 have q:=nG mR
 obtain rfl:=q
 exact zG ⟨Z,_,Z,⟨cY,Z,iO,iP,dg,e9,fb,iQ,(fS.trans ot),dn,jB,jC⟩⟩
 rintro ⟨fZ,gb,ow⟩ p8 oV ⟨dR,iY,pe,pf,fc,iT,iU,iV,pH,fC,pB,pC⟩ lY
 have fO:=wCI dz dp lY
 try dsimp only at fO
 have gF:Hid (¬ ((↑((w64 ((↑(p0.number.length):Int) + 1):Int) - 0).toNat:Int) < (w64 ((↑(p0.number.length):Int) + 1)))):=zH (wAc)
 refine sR fL1 Z (oR Z (zW Z iY iV) (eN (zI (cF Z gF (ZJ (zd (zd (ZG (zG (sR (.fl 0 (.fl 1 (.fx 2 (.fl 3 (.fl 4 .nil)) .stop))) Z ?_))))))))))
 let bV:List Value:=[.slice aj fZ.length ak,.slice am gb.length an]
 refine oL Z (fC.ldBA (j:=5) Z Z iT Tryz.isAgg182 yZ (vs:=bV) Z Z) (oM Z iU (zh (j:=0) (vs:=bV) Z Z Z Z fC Z fc Z Z yZ (zA Z) Z Z Z ?_))
 intro gB lU
 have fD:SW w [B1,.obj O (.map ab ac)] U dR [.blk b4 182 bV,B1,.obj O (.map ab ac),.row aj ak 3 1 (hD KL.encI fZ),.row am an 3 1 (hD KL.encI gb),.blk b8 182 bV] gB:=lU
 refine oA Z Z (oA Z Z (eN (zP ?_)))
 cases fO
 exact ⟨rfl,_,(wFY (rs:=[.cell 6 182,.tmp 7,.tmp 8]) (vs:=[.agg bV.toArray,jV ow,.bool false]) ⟨⟨_,fc,(wBL Tryz.isAgg182 yZ (fD.blkAt (k:=0) rfl) (vs:=bV) rfl rfl)⟩,⟨rfl,⟨rfl,trivial⟩⟩⟩ rfl),dR,_,(fD.pick [3,4,1,2] _ (by decide) rfl),aj,ak,am,an,rfl,rfl⟩
set_option maxHeartbeats 4000000
theorem wIb (O:wAu) (aj:Nat) (ae:Option Addr) (ak:Nat) (af:Option Addr) (am:Nat) (ag:Option Addr) (an:Nat) (ah:Option Addr) (ao:Nat) (aa:Nat) (ab:Array MapEntry) (ac:Nat) (ai:Option Addr) (ap:Nat) (w:World) (U:PHeap) (hS:St0 w U [.blk aj 180 [.slice ae O.Race.Starts.length ak,.slice af O.Race.Splits.length am,.slice ag O.Race.Clocks.length an,.slice ah O.Race.Readings.length ao,.map (some aa),.slice ai O.edges.length ap],.obj aa (.map ab ac)]) (bm:Sl U 1 ae ak O.Race.Starts.length (hD KL.encI O.Race.Starts)) (bn:Sl U 2 af am O.Race.Splits.length (hD wAH O.Race.Splits)) (bp:Sl U 3 ag an O.Race.Clocks.length (hD wAU O.Race.Clocks)) (bq:Sl U 4 ah ao O.Race.Readings.length (hD wAG O.Race.Readings)) (br:MpR ab wEA wEI O.number) (bs:Sl U 7 ai ap O.edges.length (hD wAf O.edges)) {r:Bool} (hm:wDL O=some r):Gv Tryz.prog 98 [.pointer (some ⟨aj,0,none⟩)] w (wBD w [.blk aj 180 [.slice ae O.Race.Starts.length ak,.slice af O.Race.Splits.length am,.slice ag O.Race.Clocks.length an,.slice ah O.Race.Readings.length ao,.map (some aa),.slice ai O.edges.length ap],.obj aa (.map ab ac)] U (fun U_ L_ v=>v=.bool r/\L_=[.blk aj 180 [.slice ae O.Race.Starts.length ak,.slice af O.Race.Splits.length am,.slice ag O.Race.Clocks.length an,.slice ah O.Race.Readings.length ao,.map (some aa),.slice ai O.edges.length ap],.obj aa (.map ab ac)])):=by
 unfold wDL at hm
 refine Gv.of Tryz.func98 Z Tryz.ntmps98 Tryz.results98 Z (sR fL1 Z (oA Z Z (eN (sR (.fl 0 (.fx 1 (fC2_5 (.fx 6 gDg .stop)) .stop)) Z (oM Z Z ?_)))))
 have q:=bnd hm
 obtain ⟨⟨x3,x4,x5⟩,h6,a8⟩:=q
 try dsimp only at a8
 refine zM 2 Z Z Z Z (zK Z Z Tryz.call94 (zD Z (zD Z (zD Z zO))) Z) hS (fun hs=>wCU O aj ae ak af am ag an ah ao aa ab ac ai ap (-1) false w U hs bm bn bp bq br bs h6) (.inl Z) ?_
 rintro U8 L9 bz ba bx bf ⟨av,ay,aw,az,rfl,rfl⟩
 let B0:Res:=.blk aj 180 [.slice ae O.Race.Starts.length ak,.slice af O.Race.Splits.length am,.slice ag O.Race.Clocks.length an,.slice ah O.Race.Readings.length ao,.map (some aa),.slice ai O.edges.length ap]
 let B1:Res:=.row av ay 3 1 (hD KL.encI x3.far)
 let B2:Res:=.row aw az 3 1 (hD KL.encI x3.by_)
 have bg:SW w [B0,.obj aa (.map ab ac)] U U8 [B1,B2,B0,.obj aa (.map ab ac)] ba:=bf
 refine oM Z Z (oR Z (zi Z Z (v:=.agg #[.slice av x3.far.length ay,.slice aw x3.by_.length az]) Z) (oR Z (zi Z Z (v:=jV x4) Z) (oR Z (zi Z Z (v:=.bool x5) Z) (zm (cs:=[.slice none 0 0,.slice none 0 0]) Z Z Z Z Z yl Z bg ?_))))
 intro bw bd bh
 let B3:List Value:=[.slice av x3.far.length ay,.slice aw x3.by_.length az]
 refine zh (j:=0) (vs:=B3) Z Z Z Z bh Z Z Z Z yZ (zA Z) Z Z Z ?_
 intro bb bi
 have bj:SW w [B0,.obj aa (.map ab ac)] U U8 [.blk bd 182 B3,B1,B2,B0,.obj aa (.map ab ac)] bb:=bi
 refine oA Z Z (oA Z Z (eN (sR fL2 Z (oM Z Z (oA Z Z (eN (zP ?_)))))))
 have hE:=nG a8;first | subst r | cases hE
 exact ⟨rfl,_,(zz rfl),U8,_,(bj.pick [3,4] _ (by decide) rfl),rfl,rfl⟩
theorem wIk (O:wAF) (ak:Option Addr) (ap:Nat) (am:Option Addr) (aq:Nat) (an:Option Addr) (au:Nat) (ao:Option Addr) (av:Nat) (p1:List wAa) (bb:Option Addr) (bd:Nat) (w:World) (U:PHeap) (hS:St0 w U []) (bA:Sl U 1 ak ap O.Starts.length (hD KL.encI O.Starts)) (bB:Sl U 2 am aq O.Splits.length (hD wAH O.Splits)) (bC:Sl U 3 an au O.Clocks.length (hD wAU O.Clocks)) (bD:Sl U 4 ao av O.Readings.length (hD wAG O.Readings)) (bU:Sl U 2 bb bd p1.length (hD wDg p1)) {r:(Option wAu) × Int} (hm:wEV O p1=some r):Gv Tryz.prog 61 [.agg #[.slice ak O.Starts.length ap,.slice am O.Splits.length aq,.slice an O.Clocks.length au,.slice ao O.Readings.length av],.slice bb p1.length bd] w (wBD w [] U (fun U_ L_ v=>match r.1 with | none=>v=.tuple #[.pointer none,jV r.2]/\L_=[] | some d=>∃ (b0:Nat) (A0p00:Option Addr) (c0p00:Nat) (A0p01:Option Addr) (c0p01:Nat) (A0p02:Option Addr) (c0p02:Nat) (A0p03:Option Addr) (c0p03:Nat) (m0p1:Nat) (es0p1:Array MapEntry) (ck0p1:Nat) (A0p2:Option Addr) (c0p2:Nat),v=.tuple #[.pointer (some ⟨b0,0,none⟩),jV r.2]/\L_=[.blk b0 180 [.slice A0p00 d.Race.Starts.length c0p00,.slice A0p01 d.Race.Splits.length c0p01,.slice A0p02 d.Race.Clocks.length c0p02,.slice A0p03 d.Race.Readings.length c0p03,.map (some m0p1),.slice A0p2 d.edges.length c0p2],.obj m0p1 (.map es0p1 ck0p1)]/\Sl U_ 1 A0p00 c0p00 d.Race.Starts.length (hD KL.encI d.Race.Starts)/\Sl U_ 2 A0p01 c0p01 d.Race.Splits.length (hD wAH d.Race.Splits)/\Sl U_ 3 A0p02 c0p02 d.Race.Clocks.length (hD wAU d.Race.Clocks)/\Sl U_ 4 A0p03 c0p03 d.Race.Readings.length (hD wAG d.Race.Readings)/\MpR es0p1 wEA wEI d.number/\Sl U_ 7 A0p2 c0p2 d.edges.length (hD wAf d.edges))):=by
 unfold wEV at hm
 refine Gv.of Tryz.func61 Z Tryz.ntmps61 Tryz.results61 Z (sR gDf Z ?_)
 let B0:List Value:=[.slice ak O.Starts.length ap,.slice am O.Splits.length aq,.slice an O.Clocks.length au,.slice ao O.Readings.length av]
 refine ZH (cs:=B0) rfl rfl rfl rfl rfl rfl (by rfl) hS ?_
 intro W1 b2 bS
 refine oA Z Z (oA Z Z (eN (sR (.fl 0 (.fx 1 (wIK (.nil)) .stop)) Z (oL Z (bS.ldBA (j:=0) Z Z Z Zv Zg (vs:=B0) Z Z) ?_))))
 have q:=bnd hm
 obtain ⟨⟨x5,x6⟩,h7,aw⟩:=q
 try dsimp only at aw
 refine zM 0 Z Z Z Z (zK Z Z Tryz.call95 (zD Z zO) Z) bS (fun hs=>wLL O ak ap am aq an au ao av W1 U hs bA bB bC bD h7) (.inr Z) ?_
 rintro U9 dh dq aY ab bR bP
 rcases x5 with _ | ac
 try dsimp only at aw
 obtain ⟨rfl,rfl⟩:=bP
 have bx:sW w U U9 [.blk b2 83 B0] aY:=bR
 refine oM Z Z (oR Z (zi Z Z (v:=.pointer none) Z) (oR Z (zi Z Z (v:=jV x6) Z) (oA Z Z (oA Z Z (eN (zI (zU (sR fL3 Z (oM Z Z (oR Z (ZX Z Z Z) (oA Z Z (eN (ifc aw ?_ ?_)))))))))))))
 intro bt cZ
 refine zn (zt (fun h=>h bt.out)) (sR (wCK gDh) Z (oM Z Z (oL Z (bx.ldBA (j:=0) Z Z Z Zv Zg (vs:=B0) Z Z) (oR Z (yn Z (zD Z zO) zO) ?_))))
 have cj:=bU.le ab
 have cm:=bA.le ab
 have cn:=bB.le ab
 have co:=bC.le ab
 have cp:=bD.le ab
 have cM:FnOK Tryz.prog U9 (.func (.func 97) #[.agg B0.toArray] #[]) wQU wQV (fun x=>wBF O x):=⟨97,[.agg B0.toArray],[],rfl,Tryz.call97,fun U1 w1 x y vs le hs ha hm=>by obtain rfl:=ha;exact wFS O ak ap am aq an au ao av x w1 U1 hs (cm.le le) (cn.le le) (co.le le) (cp.le le) hm⟩
 refine bnK cZ fun du cq c6=>zM 0 Z Z Z Z (zK Z Z Tryz.call96 (zD Z (zD Z zO)) Z) bx (fun hs=>wEl p1 bb bd (fun x=>wBF O x) (.func (.func 97) #[.agg B0.toArray] #[]) aY U9 hs cj cM cq) (.inr Z) ?_
 rintro bG dl dr bZ dn cP ⟨rfl,rfl⟩
 have cQ:sW w U bG [.blk b2 83 B0] bZ:=cP
 refine oR Z (ZF Z Z) (oA Z Z (eN (ifc c6 ?_ ?_)))
 intro bu c8
 refine zn (nC bu.out) (sR gDk Z (oM Z Z ?_))
 cases c8
 intro bu c9
 refine zy (nF (bu.out)) (sR fL2 Z (oA Z Z (oA Z Z (eN (zP (zc (zR ?_)))))))
 cases c9
 exact ⟨rfl,_,(wEr rfl rfl),bG,_,(cQ.pick [] _ (by decide) rfl),rfl,rfl⟩
 intro bt da
 refine cT Z bt (sR fL3 Z (oM Z Z (oA Z Z (oA Z Z (eN (zP (zc (zR ?_))))))))
 cases da
 exact ⟨rfl,_,(wEr rfl rfl),U9,_,(bx.pick [] _ (by decide) rfl),rfl,rfl⟩
 try dsimp only at aw
 obtain ⟨aZ,be,bp,bf,bq,bg,br,bh,bs,af,ai,ah,ay,a7,rfl,rfl,cr,ct,cu,cw,bK⟩:=bP
 let B1:Res:=.blk aZ 180 [.slice be ac.Race.Starts.length bp,.slice bf ac.Race.Splits.length bq,.slice bg ac.Race.Clocks.length br,.slice bh ac.Race.Readings.length bs,.map (some af),.slice ay ac.edges.length a7]
 let B2:Res:=.row ay a7 216 7 (hD wAf ac.edges)
 have bz:sW w U U9 [B1,.obj af (.map ai ah),B2,.blk b2 83 B0] aY:=bR
 refine oM Z Z (oR Z (zi Z Z (v:=.pointer (some ⟨aZ,0,none⟩)) Z) (oR Z (zi Z Z (v:=jV x6) Z) (oA Z Z (oA Z Z (eN (zI (zU (sR fL3 Z (oM Z Z (oR Z (ZX Z Z Z) (oA Z Z (eN (ifc aw ?_ ?_)))))))))))))
 intro bv db
 refine zn (zt (fun h=>h bv.out)) (sR (wCK gDh) Z (oM Z Z (oL Z (bz.ldBA (j:=3) Z Z Z Zv Zg (vs:=B0) Z Z) (oR Z (yn Z (zD Z zO) zO) ?_))))
 have cy:=bU.le ab
 have cz:=bA.le ab
 have cA:=bB.le ab
 have cC:=bC.le ab
 have cD:=bD.le ab
 have cN:FnOK Tryz.prog U9 (.func (.func 97) #[.agg B0.toArray] #[]) wQU wQV (fun x=>wBF O x):=⟨97,[.agg B0.toArray],[],rfl,Tryz.call97,fun U1 w1 x y vs le hs ha hm=>by obtain rfl:=ha;exact wFS O ak ap am aq an au ao av x w1 U1 hs (cz.le le) (cA.le le) (cC.le le) (cD.le le) hm⟩
 refine bnK db fun dv cG dd=>zM 0 Z Z Z Z (zK Z Z Tryz.call96 (zD Z (zD Z zO)) Z) bz (fun hs=>wEl p1 bb bd (fun x=>wBF O x) (.func (.func 97) #[.agg B0.toArray] #[]) aY U9 hs cy cN cG) (.inr Z) ?_
 rintro bH dm dt bm a8 cR ⟨rfl,rfl⟩
 have bT:sW w U bH [B1,.obj af (.map ai ah),B2,.blk b2 83 B0] bm:=cR
 refine oR Z (ZF Z Z) (oA Z Z (eN (ifc dd ?_ ?_)))
 intro bw de
 refine zn (nC bw.out) (sR gDk Z (oM Z Z ?_))
 have q:=bT.freezeR (k:=2) (n:=ac.edges.length) rfl (wAB (f:=wAf) (sz:=7) (fun _=>rfl) ac.edges) (by decide)
 obtain ⟨bI,ba,bV,cS⟩:=q
 have cU:sW w U bI [B1,.obj af (.map ai ah),.blk b2 83 B0] bm:=cS
 have cH:=cr.le a8
 have bL:=cH.le ba
 have cI:=ct.le a8
 have bM:=cI.le ba
 have cJ:=cu.le a8
 have bN:=cJ.le ba
 have cK:=cw.le a8
 have bO:=cK.le ba
 refine bnK de fun dw cL df=>zM 2 Z Z Z Z (zK Z Z Tryz.call98 (zD Z zO) Z) cU (fun hs=>wIb ac aZ be bp bf bq bg br bh bs af ai ah ay a7 bm bI hs bL bM bN bO bK bV cL) (.inl Z) ?_
 rintro bj di dp bY ax cO ⟨rfl,rfl⟩
 have bQ:sW w U bj [B1,.obj af (.map ai ah),.blk b2 83 B0] bY:=cO
 refine oR Z (ZF Z Z) (oA Z Z (eN (ifc df ?_ ?_)))
 intro bn cV
 refine zn (nC bn.out) (ZT (zf (zG (sR fL3 Z (oM Z Z (oA Z Z (oA Z Z (eN (zP ?_)))))))))
 have ca:=bL.le ax
 have cc:=bM.le ax
 have cd:=bN.le ax
 have cg:=bO.le ax
 have ci:=bV.le ax
 cases cV
 exact ⟨rfl,_,(wEr rfl rfl),bj,_,(bQ.pick [0,1] _ (by decide) rfl),aZ,be,bp,bf,bq,bg,br,bh,bs,af,ai,ah,ay,a7,rfl,rfl,ca,cc,cd,cg,bK,ci⟩
 intro bn cW
 refine zy (nF (bn.out)) (sR fL2 Z (oA Z Z (oA Z Z (eN (zP (zc (zR ?_)))))))
 cases cW
 exact ⟨rfl,_,(wEr rfl rfl),bj,_,(bQ.pick [] _ (by decide) rfl),rfl,rfl⟩
 intro bw cX
 refine zy (nF (bw.out)) (sR fL2 Z (oA Z Z (oA Z Z (eN (zP (zc (zR ?_)))))))
 cases cX
 exact ⟨rfl,_,(wEr rfl rfl),bH,_,(bT.pick [] _ (by decide) rfl),rfl,rfl⟩
 intro bv cY
 refine cT Z bv (sR fL3 Z (oM Z Z (oA Z Z (oA Z Z (eN (zP (zc (zR ?_))))))))
 cases cY
 exact ⟨rfl,_,(wEr rfl rfl),U9,_,(bz.pick [] _ (by decide) rfl),rfl,rfl⟩
theorem wKc (O:wAF) (ai:Option Addr) (an:Nat) (aj:Option Addr) (ao:Nat) (ak:Option Addr) (ap:Nat) (am:Option Addr) (aq:Nat) (p1:Int) (w:World) (U:PHeap) (hS:St0 w U []) (bK:Sl U 1 ai an O.Starts.length (hD KL.encI O.Starts)) (bL:Sl U 2 aj ao O.Splits.length (hD wAH O.Splits)) (bM:Sl U 3 ak ap O.Clocks.length (hD wAU O.Clocks)) (bN:Sl U 4 am aq O.Readings.length (hD wAG O.Readings)) {r:(Option wAu) × Int} (hm:wEf O p1=some r):Gv Tryz.prog 59 [.agg #[.slice ai O.Starts.length an,.slice aj O.Splits.length ao,.slice ak O.Clocks.length ap,.slice am O.Readings.length aq],jV p1] w (wBD w [] U (fun U_ L_ v=>match r.1 with | none=>v=.tuple #[.pointer none,jV r.2]/\L_=[] | some d=>∃ (b0:Nat) (A0p00:Option Addr) (c0p00:Nat) (A0p01:Option Addr) (c0p01:Nat) (A0p02:Option Addr) (c0p02:Nat) (A0p03:Option Addr) (c0p03:Nat) (m0p1:Nat) (es0p1:Array MapEntry) (ck0p1:Nat) (A0p2:Option Addr) (c0p2:Nat),v=.tuple #[.pointer (some ⟨b0,0,none⟩),jV r.2]/\L_=[.blk b0 180 [.slice A0p00 d.Race.Starts.length c0p00,.slice A0p01 d.Race.Splits.length c0p01,.slice A0p02 d.Race.Clocks.length c0p02,.slice A0p03 d.Race.Readings.length c0p03,.map (some m0p1),.slice A0p2 d.edges.length c0p2],.obj m0p1 (.map es0p1 ck0p1)]/\Sl U_ 1 A0p00 c0p00 d.Race.Starts.length (hD KL.encI d.Race.Starts)/\Sl U_ 2 A0p01 c0p01 d.Race.Splits.length (hD wAH d.Race.Splits)/\Sl U_ 3 A0p02 c0p02 d.Race.Clocks.length (hD wAU d.Race.Clocks)/\Sl U_ 4 A0p03 c0p03 d.Race.Readings.length (hD wAG d.Race.Readings)/\MpR es0p1 wEA wEI d.number/\Sl U_ 7 A0p2 c0p2 d.edges.length (hD wAf d.edges))):=by
 unfold wEf at hm
 refine Gv.of Tryz.func59 Z Tryz.ntmps59 Tryz.results59 Z (sR gDf Z ?_)
 let B0:List Value:=[.slice ai O.Starts.length an,.slice aj O.Splits.length ao,.slice ak O.Clocks.length ap,.slice am O.Readings.length aq]
 refine ZH (cs:=B0) rfl rfl rfl rfl rfl rfl (by rfl) hS ?_
 intro W1 b2 bq
 refine oA Z Z (oA Z Z (eN (sR (wCK (.fx 3 (.fx 4 (wQy (.nil)) .stop) .stop)) Z (oL Z (bq.ldBA (j:=0) Z Z Z Zv Zg (vs:=B0) Z Z) (oM Z Z ?_)))))
 let B1:List Value:=[jV 0,jV p1]
 refine oR Z (zx (pv:=[(0,jV 0),(1,jV p1)]) (z:=[jV 0,jV 0]) (cs:=B1) Z (wAA Z (wAA Z wAI)) YS wIx Z Z) (zb (pv:=[(0,.agg B1.toArray)]) (zs:=[jV 0,jV 0]) (cs:=B1) Z Z Z Z Z (wAA Z wAI) Tryz.runUnderlying185 YP YS Z Z Z Z Z bq ?_)
 intro W5 b6 bI
 have bJ:sW w U U [.row (some ⟨b6,0,none⟩) 1 92 2 (hD wDg [(⟨0,p1⟩:wAa)]),.blk b2 83 B0] W5:=bI
 have q:=bJ.freezeR (k:=0) (n:=[(⟨0,p1⟩:wAa)].length) rfl (wAB (f:=wDg) (sz:=2) (fun _=>rfl) [(⟨0,p1⟩:wAa)]) (by decide)
 obtain ⟨a8,ah,bO,bE⟩:=q
 have bF:sW w U a8 [.blk b2 83 B0] W5:=bE
 have bs:=bK.le ah
 have bt:=bL.le ah
 have bu:=bM.le ah
 have bv:=bN.le ah
 have q:=bnd hm
 obtain ⟨⟨bP,br⟩,bw,ac⟩:=q
 try dsimp only at ac
 refine zM 0 Z Z Z Z (zK Z Z Tryz.call61 (zD Z (zD Z zO)) Z) bF (fun hs=>wIk O ai an aj ao ak ap am aq [(⟨0,p1⟩:wAa)] (some ⟨b6,0,none⟩) 1 W5 a8 hs bs bt bu bv bO bw) (.inr Z) ?_
 rintro af bQ bT ba bS bp bn
 rcases bP with _ | ae
 try dsimp only at ac
 obtain ⟨rfl,rfl⟩:=bn
 have bG:sW w U af [.blk b2 83 B0] ba:=bp
 refine oR Z (zi Z Z (v:=.pointer none) Z) (oR Z (zi Z Z (v:=jV br) Z) (oA Z Z (oA Z Z (eN (zP ?_)))))
 cases ac
 exact ⟨rfl,_,(wEr rfl rfl),af,_,(bG.pick [] _ (by decide) rfl),rfl,rfl⟩
 try dsimp only at ac
 obtain ⟨aw,ay,be,az,bf,aY,bg,aZ,bh,ax,bm,bi,a7,bj,rfl,rfl,bx,bz,bA,bB,bC,bD⟩:=bn
 have bH:sW w U af [.blk aw 180 [.slice ay ae.Race.Starts.length be,.slice az ae.Race.Splits.length bf,.slice aY ae.Race.Clocks.length bg,.slice aZ ae.Race.Readings.length bh,.map (some ax),.slice a7 ae.edges.length bj],.obj ax (.map bm bi),.blk b2 83 B0] ba:=bp
 refine oR Z (zi Z Z (v:=.pointer (some ⟨aw,0,none⟩)) Z) (oR Z (zi Z Z (v:=jV br) Z) (oA Z Z (oA Z Z (eN (zP ?_)))))
 cases ac
 exact ⟨rfl,_,(wEr rfl rfl),af,_,(bH.pick [0,1] _ (by decide) rfl),aw,ay,be,az,bf,aY,bg,aZ,bh,ax,bm,bi,a7,bj,rfl,rfl,bx,bz,bA,bB,bC,bD⟩
theorem wHJ (O:wAu) (ao:Nat) (an:Option Addr) (ap:Nat) (aw:Option Addr) (aY:Nat) (ax:Option Addr) (aZ:Nat) (ay:Option Addr) (a7:Nat) (aa:Nat) (ab:Array MapEntry) (ac:Nat) (az:Option Addr) (a8:Nat) (p1:Int) (w:World) (U:PHeap) (hS:St0 w U [.blk ao 180 [.slice an O.Race.Starts.length ap,.slice aw O.Race.Splits.length aY,.slice ax O.Race.Clocks.length aZ,.slice ay O.Race.Readings.length a7,.map (some aa),.slice az O.edges.length a8],.obj aa (.map ab ac)]) (c8:Sl U 1 an ap O.Race.Starts.length (hD KL.encI O.Race.Starts)) (c9:Sl U 2 aw aY O.Race.Splits.length (hD wAH O.Race.Splits)) (da:Sl U 3 ax aZ O.Race.Clocks.length (hD wAU O.Race.Clocks)) (db:Sl U 4 ay a7 O.Race.Readings.length (hD wAG O.Race.Readings)) (bv:MpR ab wEA wEI O.number) (dd:Sl U 7 az a8 O.edges.length (hD wAf O.edges)) {r:(Arr Int 64)} (hm:wCb O p1=some r):Gv Tryz.prog 60 [.pointer (some ⟨ao,0,none⟩),jV p1] w (wBD w [.blk ao 180 [.slice an O.Race.Starts.length ap,.slice aw O.Race.Splits.length aY,.slice ax O.Race.Clocks.length aZ,.slice ay O.Race.Readings.length a7,.map (some aa),.slice az O.edges.length a8],.obj aa (.map ab ac)] U (fun U_ L_ v=>v=.agg (hD KL.encI r.l).toArray/\L_=[.blk ao 180 [.slice an O.Race.Starts.length ap,.slice aw O.Race.Splits.length aY,.slice ax O.Race.Clocks.length aZ,.slice ay O.Race.Readings.length a7,.map (some aa),.slice az O.edges.length a8],.obj aa (.map ab ac)])):=by
 unfold wCb at hm
 refine Gv.of Tryz.func60 Z Tryz.ntmps60 Tryz.results60 Z (sR (.fx 0 .nil .stop) Z (zm (cs:=hD KL.encI (Arr.fill 64 0).l) Z Z Z Z Z Tryz.zeroValue144 Z hS ?_))
 intro W3 b4 cS
 let B0:Res:=.blk ao 180 [.slice an O.Race.Starts.length ap,.slice aw O.Race.Splits.length aY,.slice ax O.Race.Clocks.length aZ,.slice ay O.Race.Readings.length a7,.map (some aa),.slice az O.edges.length a8]
 have cY:SW w [B0,.obj aa (.map ab ac)] U U [.blk b4 144 (hD KL.encI (Arr.fill 64 0).l),B0,.obj aa (.map ab ac)] W3:=cS
 refine eN (sR (.fx 0 .nil .stop) Z (zm (cs:=hD KL.encI (Arr.fill 64 0).l) Z Z Z Z Z Tryz.zeroValue144 Z cY ?_))
 intro W8 b9 cN
 have bS:SW w [B0,.obj aa (.map ab ac)] U U [.blk b9 144 (hD KL.encI (Arr.fill 64 0).l),.blk b4 144 (hD KL.encI (Arr.fill 64 0).l),B0,.obj aa (.map ab ac)] W8:=cN
 refine eN (zI (sR fL7 Z (oM Z Z (oR Z (ZR Z Z) (oR Z (zF Z Z Zc Z Zg) (oR Z (zF Z Z zq Z zS) (oL Z (bS.ldB (j:=2) Z Z Z zZ (v:=.slice an O.Race.Starts.length ap) Z) (oR Z (ze Z Z zB) (oM Z Z (eN (zU (bnK hm fun aj de dt=>?_))))))))))))
 have q:=wAn de
 obtain ⟨bz,df⟩:=q
 replace bz:=zH bz
 refine CK.forN' (fun af ba σ_ w_=>∃ (U_:PHeap),σ_ 17=jV (↑af:Int)/\σ_ 0=.pointer (some ⟨ao,0,none⟩)/\σ_ 1=jV p1/\σ_ 4=.pointer (some ⟨b4,0,none⟩)/\σ_ 5=.pointer (some ⟨b9,0,none⟩)/\σ_ 16=jV (↑O.Race.Starts.length:Int)/\PHeap.Le U U_/\SW w [B0,.obj aa (.map ab ac)] U U_ [.blk b9 144 (hD KL.encI ba.l),.blk b4 144 (hD KL.encI (Arr.fill 64 0).l),B0,.obj aa (.map ab ac)] w_) df ?_ ?_ ?_
 exact ⟨U,Z,Z,Z,Z,Z,Z,(zL _),bS⟩
 rintro af ba dO dT bE bw ⟨bC,bs,bj,bL,cA,cC,bM,av,bu⟩ dv
 have bH:Hid ((↑af:Int) < (↑O.Race.Starts.length:Int)):=zH (wAj bw)
 replace bw:=zH bw
 have dn:Hid (w64 ((↑af:Int) + 1)=(↑(af + 1):Int)):=zH (by have h1:=bz.out;have h2:=bH.out;rw [wAX] <;> omega)
 refine sR fL1 Z (oR Z (zW Z bs bM) (eN (zI (cT Z bH (kN (zI (zU (sR fL2 Z (oM Z bs (oA Z Z (eN (sR (wQw (.fx 9 (wRA (.fx 14 (.fx 15 (.fl 16 (.fl 17 .nil)) .stop) .stop)) .stop)) Z (oM Z bj (oM Z bj (oR Z (ZR Z Z) (oR Z (zF Z Z Zc Z yP) (oL Z (bu.ldB (j:=2) Z Z Z yY (v:=.map (some aa)) Z) (oM Z Z (oM Z bL (oR Z (zx (pv:=[(0,jV (↑af:Int)),(1,jV p1)]) (z:=[jV 0,jV 0]) (cs:=[jV (↑af:Int),jV p1]) Z (wAA Z (wAA Z wAI)) ZP wEg Z Z) (oL Z (bu.lookup1 (j:=3) (mk:=wEA) (mv:=wEI) (a:=(⟨(↑af:Int),p1⟩:wAK)) (z:=0) Z Z Z Z (wBr Zp) wFi zw bv) ?_)))))))))))))))))))))
 have cH:=c8.le av
 have cI:=c9.le av
 have cJ:=da.le av
 have cK:=db.le av
 have cL:=dd.le av
 have q:=bnd dv
 obtain ⟨⟨ai,dA,dB⟩,cM,bW⟩:=q
 try dsimp only at bW
 have cU:SW w [B0,.obj aa (.map ab ac)] U bC [B0,.obj aa (.map ab ac),.blk b9 144 (hD KL.encI ba.l),.blk b4 144 (hD KL.encI (Arr.fill 64 0).l)] bE:=bu.pick [2,3,0,1] _ (by decide) rfl
 refine zM 2 Z Z Z Z (zK Z Z Tryz.call94 (zD Z (zD Z (zD Z zO))) Z) cU (fun hs=>wCU O ao an ap aw aY ax aZ ay a7 aa ab ac az a8 (wBE O.number (⟨(↑af:Int),p1⟩:wAK) 0) false bE bC hs cH cI cJ cK bv cL cM) (.inl Z) ?_
 rintro bg dC dN cc dy cV ⟨bb,bi,bq,br,rfl,rfl⟩
 let B1:Res:=.row bb bi 3 1 (hD KL.encI ai.far)
 let B2:Res:=.row bq br 3 1 (hD KL.encI ai.by_)
 have cW:SW w [B0,.obj aa (.map ab ac)] U bg [B1,B2,B0,.obj aa (.map ab ac),.blk b9 144 (hD KL.encI ba.l),.blk b4 144 (hD KL.encI (Arr.fill 64 0).l)] cc:=cV
 refine oM Z Z (oR Z (zi Z Z (v:=.agg #[.slice bb ai.far.length bi,.slice bq ai.by_.length br]) Z) (oR Z (zi Z Z (v:=jV dA) Z) (oR Z (zi Z Z (v:=.bool dB) Z) (zm (cs:=[.slice none 0 0,.slice none 0 0]) Z Z Z Z Z yl Z cW ?_))))
 intro dG bh cX
 let B3:List Value:=[.slice bb ai.far.length bi,.slice bq ai.by_.length br]
 refine zh (j:=0) (vs:=B3) Z Z Z Z cX Z Z Z Z yZ (zA Z) Z Z Z ?_
 intro cd cZ
 have bV:SW w [B0,.obj aa (.map ab ac)] U bg [.blk bh 182 B3,B1,B2,B0,.obj aa (.map ab ac),.blk b9 144 (hD KL.encI ba.l),.blk b4 144 (hD KL.encI (Arr.fill 64 0).l)] cd:=cZ
 refine oA Z Z (oA Z Z (eN (sR fL7 Z (oM Z bj (oR Z (ZR Z Z) (oR Z (zF Z Z Zc Z Zg) (oR Z (zF Z Z zq Z zS) (oL Z (bV.ldB (j:=3) Z Z Z zZ (v:=.slice an O.Race.Starts.length ap) Z) (oR Z (ze Z Z zB) (oM Z Z (eN (zU (bnK bW fun dQ dg du=>?_)))))))))))))
 have q:=wAn dg
 obtain ⟨bA,dh⟩:=q
 replace bA:=zH bA
 refine CK.forN' (fun ag au σ_ w_=>∃ (U_:PHeap),σ_ 40=jV (↑ag:Int)/\σ_ 0=.pointer (some ⟨ao,0,none⟩)/\σ_ 1=jV p1/\σ_ 4=.pointer (some ⟨b4,0,none⟩)/\σ_ 5=.pointer (some ⟨b9,0,none⟩)/\σ_ 6=jV (↑af:Int)/\σ_ 7=.pointer (some ⟨bh,0,none⟩)/\σ_ 16=jV (↑O.Race.Starts.length:Int)/\σ_ 17=jV (↑af:Int)/\σ_ 39=jV (↑O.Race.Starts.length:Int)/\PHeap.Le bg U_/\SW w [B0,.obj aa (.map ab ac)] U U_ [B1,B2,.blk bh 182 B3,B0,.obj aa (.map ab ac),.blk b9 144 (hD KL.encI au.l),.blk b4 144 (hD KL.encI (Arr.fill 64 0).l)] w_) dh ?_ ?_ ?_
 exact ⟨bg,rfl,bj,bL,cA,cC,rfl,rfl,bM,bs,rfl,(zL _),(bV.pick [1,2,0,3,4,5,6] _ (by decide) rfl)⟩
 rintro ag au dP dU bF bx ⟨bD,bt,bN,bO,cD,bP,bQ,bI,cm,cn,bJ,dz,c6⟩ dw
 have bG:Hid ((↑ag:Int) < (↑O.Race.Starts.length:Int)):=zH (wAj bx)
 replace bx:=zH bx
 have dm:Hid (w64 ((↑ag:Int) + 1)=(↑(ag + 1):Int)):=zH (by have h1:=bA.out;have h2:=bG.out;rw [wAX] <;> omega)
 refine sR fL1 rfl (zY rfl rfl rfl rfl (fun _=>zW rfl bt bJ) (eN (zI (cT Z bG (kN (zI (zU (sR fL2 rfl (zj rfl rfl rfl rfl rfl bt (yU rfl rfl rfl rfl rfl rfl (eN (ZN ZD [3,3,3,1,3,3,3,1,3,3,3,1,3,1,3,3,0] (wOo (.fx 16 .nil .stop)) (by kernel_rfl) ?_))))))))))))
 have aq:=c6.drew
 generalize hw_W107:({ bF with drawn:=bF.drawn + 1 }:World)=dD at aq ⊢
 refine oM Z bQ (oM Z Z (oR Z (zF Z bI Zf Z zS) (oL Z (aq.ldB (j:=2) Z Z Z zZ (v:=.slice bb ai.far.length bi) Z) (oM Z bN (oR Z (ZR Z Z) (oR Z (zF Z Z Zc Z yP) (oL Z (aq.ldB (j:=3) Z Z Z yY (v:=.map (some aa)) Z) (oM Z Z (oM Z bO (oR Z (zx (pv:=[(0,jV (↑ag:Int)),(1,jV p1)]) (z:=[jV 0,jV 0]) (cs:=[jV (↑ag:Int),jV p1]) Z (wAA Z (wAA Z wAI)) ZP wEg Z Z) (oL Z (aq.lookup1 (j:=4) (mk:=wEA) (mv:=wEI) (a:=(⟨(↑ag:Int),p1⟩:wAK)) (z:=0) Z Z Z Z (wBr Zp) wFi zw bv) (bnK dw fun _ bm dp=>?_))))))))))))
 have q:=aq.rowSome (j:=0) rfl (by rw [wAB (f:=KL.encI) (sz:=1) (fun _=>rfl) ai.far];have hz:=wAS bm;omega)
 obtain ⟨dH,bR⟩:=q
 refine oR Z (Za Z Z bR Z zB zC (wBa bm) (wBb bm)) ?_
 have di:=wBK (xs:=ai.far) (wAS bm)
 refine ZB rfl rfl rfl rfl (aq.ldR (j:=0) rfl bR rfl rfl zJ (wAW (sz:=1) (fun _=>rfl) _ _ 0 _ di (by first | omega | rfl | simp) rfl)) rfl (bnK dp fun _ bn dq=>zY rfl rfl rfl rfl (fun _=>YC rfl bP rfl Tryz.runUnderlying144 Tryz.sizeOf143 (wBa bn) (wBb bn)) (bnK dq fun _ bp dr=>zY rfl rfl rfl rfl (fun _=>YC rfl rfl rfl yV zC (wBa bp) (wBb bp)) ?_))
 have dl:=Arr.at_ au (k:=(af * 8 + ag)) (by have hz0:=wAS bn;have hz1:=wAS bp;omega)
 refine zh (j:=5) (vs:=[jV (gd ai.far (wBE O.number (⟨(↑ag:Int),p1⟩:wAK) 0).toNat)]) (cs':=hD KL.encI (au.set (af * 8 + ag) (gd ai.far (wBE O.number (⟨(↑ag:Int),p1⟩:wAK) 0).toNat)).l) rfl rfl rfl rfl aq rfl rfl rfl rfl zC (by have hz0:=wAS bn;have hz1:=wAS bp;simp only [List.length_append,List.length_cons,List.length_nil,nE,wCV (f:=KL.encI) (sz:=1) (N:=64) au (fun _=>rfl) rfl];omega) rfl (wDA (sz:=1) (fo:=0) (fun _=>rfl) _ _ _ _ dl (by first | omega | rfl | simp) (zA rfl) rfl) rfl ?_
 intro bY cO
 have cP:SW w [B0,.obj aa (.map ab ac)] U bD [B1,B2,.blk bh 182 B3,B0,.obj aa (.map ab ac),.blk b9 144 (hD KL.encI (au.set (af * 8 + ag) (gd ai.far (wBE O.number (⟨(↑ag:Int),p1⟩:wAK) 0).toNat)).l),.blk b4 144 (hD KL.encI (Arr.fill 64 0).l)] bY:=cO
 refine zg (zf (zG (rR fL2 Z (oR Z (zr (zX Z bt Z) (congrArg (jV) dm.out)) (oM Z Z (zg ?_))))))
 cases dr
 exact zG ⟨Z,⟨bD,Z,bN,bO,cD,bP,bQ,bI,cm,cn,bJ,dz,cP⟩⟩
 rintro dR dE ⟨bX,cE,co,cp,cq,cr,dI,dJ,ct,cu,cw,dx,cQ⟩
 have ci:Hid (¬ ((↑(((↑O.Race.Starts.length:Int):Int) - 0).toNat:Int) < (↑O.Race.Starts.length:Int))):=zH (wAc)
 refine sR fL1 Z (oR Z (zW Z cE cw) (eN (zI (cF Z ci (ZJ (zd (zd (ZG (zf (zG (rR fL2 Z (oR Z (zr (zX Z cu Z) (congrArg (jV) dn.out)) (oM Z Z (zg ?_))))))))))))))
 cases du
 exact zG ⟨rfl,⟨bX,rfl,co,cp,cq,cr,ct,((av.trans dy).trans dx),(cQ.pick [5,6,3,4] _ (by decide) rfl)⟩⟩
 rintro dS dF ⟨bB,cG,dK,dL,bK,cy,cz,dM,bT⟩
 have cj:Hid (¬ ((↑(((↑O.Race.Starts.length:Int):Int) - 0).toNat:Int) < (↑O.Race.Starts.length:Int))):=zH (wAc)
 refine sR fL1 rfl (zY rfl rfl rfl rfl (fun _=>zW rfl cG cz) (eN (zI (cF Z cj (ZJ (zd (zd (ZG (zG (sR gCr rfl (ZB rfl rfl rfl rfl (bT.ldBA (j:=0) rfl rfl cy Tryz.isAgg144 Tryz.sizeOf144 (vs:=hD KL.encI aj.l) (wRZ aj (fun _=>rfl) rfl) (wCV aj (fun _=>rfl) rfl)) rfl (zh (j:=1) (vs:=hD KL.encI aj.l) rfl rfl rfl rfl bT rfl bK rfl rfl (fun w=>by rw [wCV (f:=KL.encI) (sz:=1) (N:=64) aj (fun _=>rfl) rfl];exact Tryz.sizeOf144 w) (by rw [wCV (f:=KL.encI) (sz:=1) (N:=64) aj (fun _=>rfl) rfl,wCV (f:=KL.encI) (sz:=1) (N:=64) (Arr.fill 64 0) (fun _=>rfl) rfl];exact zA rfl) (wIj (fun _=>rfl) _) (wMe _ _ (by rw [wCV (f:=KL.encI) (sz:=1) (N:=64) aj (fun _=>rfl) rfl,wCV (f:=KL.encI) (sz:=1) (N:=64) (Arr.fill 64 0) (fun _=>rfl) rfl])) rfl ?_))))))))))))
 intro bZ cR
 have bU:SW w [B0,.obj aa (.map ab ac)] U bB [.blk b9 144 (hD KL.encI aj.l),.blk b4 144 (hD KL.encI aj.l),B0,.obj aa (.map ab ac)] bZ:=cR
 refine eN (zP ?_)
 have hE:=nG dt;first | subst r | cases hE
 exact ⟨rfl,_,(wFz (v:=.agg (hD KL.encI aj.l).toArray) ⟨⟨_,bK,(wBL Tryz.isAgg144 Tryz.sizeOf144 (bU.blkAt (k:=1) rfl) (wRZ aj (fun _=>rfl) rfl) (wCV aj (fun _=>rfl) rfl))⟩,trivial⟩),bB,_,(bU.pick [2,3] _ (by decide) rfl),rfl,rfl⟩
theorem wIB (O:wAF) (a7:Option Addr) (a8:Nat) (bu:Option Addr) (bx:Nat) (bv:Option Addr) (bz:Nat) (bw:Option Addr) (bA:Nat) (p1:Int) (w:World) (U:PHeap) (hS:St0 w U []) (dT:Sl U 1 a7 a8 O.Starts.length (hD KL.encI O.Starts)) (dU:Sl U 2 bu bx O.Splits.length (hD wAH O.Splits)) (dV:Sl U 3 bv bz O.Clocks.length (hD wAU O.Clocks)) (dW:Sl U 4 bw bA O.Readings.length (hD wAG O.Readings)) {r:(List wAD) × Int} (hm:wBZ O p1=some r):Gv Tryz.prog 23 [.agg #[.slice a7 O.Starts.length a8,.slice bu O.Splits.length bx,.slice bv O.Clocks.length bz,.slice bw O.Readings.length bA],jV p1] w (wBD w [] U (fun U_ L_ v=>∃ (A0:Option Addr) (c0:Nat),v=.tuple #[.slice A0 r.1.length c0,jV r.2]/\L_=[.row A0 c0 76 2 (hD wAH r.1)])):=by
 unfold wBZ at hm
 refine Gv.of Tryz.func23 Z Tryz.ntmps23 Tryz.results23 Z (sR gDf Z ?_)
 let B0:List Value:=[.slice a7 O.Starts.length a8,.slice bu O.Splits.length bx,.slice bv O.Clocks.length bz,.slice bw O.Readings.length bA]
 refine ZH (cs:=B0) rfl rfl rfl rfl rfl rfl (by rfl) hS ?_
 intro W1 b2 cA
 refine oA Z Z (oA Z Z (eN (sR (.fl 0 (.fl 1 (.fx 2 (wPY (.nil)) .stop))) Z (oL Z (cA.ldBA (j:=0) Z Z Z Zv Zg (vs:=B0) Z Z) (oM Z Z ?_)))))
 have q:=bnd hm
 obtain ⟨⟨x5,x6⟩,h7,bi⟩:=q
 try dsimp only at bi
 refine zM 0 Z Z Z Z (zK Z Z Tryz.call59 (zD Z (zD Z zO)) Z) cA (fun hs=>wKc O a7 a8 bu bx bv bz bw bA p1 W1 U hs dT dU dV dW h7) (.inr Z) ?_
 rintro U9 eO fb bH eZ cw ct
 rcases x5 with _ | ba
 try dsimp only at bi
 obtain ⟨rfl,rfl⟩:=ct
 have dL:sW w U U9 [.blk b2 83 B0] bH:=cw
 refine oM Z Z (oR Z (zi Z Z (v:=.pointer none) Z) (oR Z (zi Z Z (v:=jV x6) Z) (oA Z Z (oA Z Z (eN (zI (sR fL2 Z (oM Z Z (oR Z (ZX Z Z Z) (eN (ifc bi ?_ ?_)))))))))))
 intro bM eD
 refine zn (zt (fun h=>h bM.out)) (kN (sR gDo Z (oM Z Z (oM Z Z ?_))))
 cases eD
 intro bM eE
 refine cT Z bM (sR fL3 Z (oM Z Z (oA Z Z (oA Z Z (eN (zP (zR ?_)))))))
 have dM:=dL.nilrow 76 2
 cases eE
 exact ⟨rfl,_,(wEr rfl rfl),U9,_,(dM.pick [0] _ (by decide) rfl),none,0,rfl,rfl⟩
 try dsimp only at bi
 obtain ⟨bI,bU,ci,bV,cj,bW,cm,bY,co,ae,ag,af,bZ,cp,rfl,rfl,dp,dq,dr,dt,du,dv⟩:=ct
 let B1:Res:=.blk bI 180 [.slice bU ba.Race.Starts.length ci,.slice bV ba.Race.Splits.length cj,.slice bW ba.Race.Clocks.length cm,.slice bY ba.Race.Readings.length co,.map (some ae),.slice bZ ba.edges.length cp]
 have cC:sW w U U9 [B1,.obj ae (.map ag af),.blk b2 83 B0] bH:=cw
 refine oM Z Z (oR Z (zi Z Z (v:=.pointer (some ⟨bI,0,none⟩)) Z) (oR Z (zi Z Z (v:=jV x6) Z) (oA Z Z (oA Z Z (eN (zI (sR fL2 Z (oM Z Z (oR Z (ZX Z Z Z) (eN (ifc bi ?_ ?_)))))))))))
 intro bN eF
 refine zn (zt (fun h=>h bN.out)) (kN (sR gDo Z (oM Z Z (oM Z Z (bnK eF fun aa dw eG=>zM 2 Z Z Z Z (zK Z Z Tryz.call60 (zD Z (zD Z zO)) Z) cC (fun hs=>wHJ ba bI bU ci bV cj bW cm bY co ae ag af bZ cp p1 bH U9 hs dp dq dr dt du dv dw) (.inl Z) ?_)))))
 rintro be eQ fc cS e9 dN ⟨rfl,rfl⟩
 have dO:sW w U be [B1,.obj ae (.map ag af),.blk b2 83 B0] cS:=dN
 refine zm (cs:=hD KL.encI (Arr.fill 64 0).l) Z Z Z Z Z Tryz.zeroValue144 Z dO ?_
 intro cU ai dP
 have dQ:sW w U be [.blk ai 144 (hD KL.encI (Arr.fill 64 0).l),B1,.obj ae (.map ag af),.blk b2 83 B0] cU:=dP
 refine zh (j:=0) (vs:=hD KL.encI aa.l) rfl rfl rfl rfl dQ rfl rfl rfl rfl (fun w=>by rw [wCV (f:=KL.encI) (sz:=1) (N:=64) aa (fun _=>rfl) rfl];exact Tryz.sizeOf144 w) (by rw [wCV (f:=KL.encI) (sz:=1) (N:=64) aa (fun _=>rfl) rfl,wCV (f:=KL.encI) (sz:=1) (N:=64) (Arr.fill 64 0) (fun _=>rfl) rfl];exact zA rfl) (wIj (fun _=>rfl) _) (wMe _ _ (by rw [wCV (f:=KL.encI) (sz:=1) (N:=64) aa (fun _=>rfl) rfl,wCV (f:=KL.encI) (sz:=1) (N:=64) (Arr.fill 64 0) (fun _=>rfl) rfl])) rfl ?_
 intro cV dR
 have cD:sW w U be [.blk ai 144 (hD KL.encI aa.l),B1,.obj ae (.map ag af),.blk b2 83 B0] cV:=dR
 refine eN (sR fL1 Z (oA Z Z (eN (zI (sR fL4 Z (oR Z (zF Z Z zq Z zS) (oL Z (cD.ldB (j:=3) Z Z Z zZ (v:=.slice a7 O.Starts.length a8) Z) (oR Z (ze Z Z zB) (oM Z Z (eN (zU (bnK eG fun fg dZ eH=>?_))))))))))))
 have q:=wAn dZ
 obtain ⟨bS,d7⟩:=q
 replace bS:=zH bS
 refine CK.forN' (fun ak aZ σ_ w_=>∃ (U_:PHeap) (bb:Option Addr) (bg:Nat),σ_ 28=jV (↑ak:Int)/\σ_ 2=.pointer (some ⟨b2,0,none⟩)/\σ_ 8=.pointer (some ⟨ai,0,none⟩)/\σ_ 9=.slice bb aZ.length bg/\σ_ 27=jV (↑O.Starts.length:Int)/\PHeap.Le be U_/\sW w U U_ [.blk ai 144 (hD KL.encI aa.l),B1,.obj ae (.map ag af),.blk b2 83 B0,.row bb bg 76 2 (hD wAH aZ)] w_) d7 ?_ ?_ ?_
 have dS:=cD.nilrow 76 2
 exact ⟨be,none,0,rfl,rfl,rfl,rfl,rfl,(zL _),(dS.pick [1,2,3,4,0] _ (by decide) rfl)⟩
 rintro ak aZ ff fm eV bQ ⟨bG,bb,bg,bO,cq,c6,c8,cr,eK,dy⟩ eI
 have cd:Hid ((↑ak:Int) < (↑O.Starts.length:Int)):=zH (wAj bQ)
 replace bQ:=zH bQ
 have ej:Hid (w64 ((↑ak:Int) + 1)=(↑(ak + 1):Int)):=zH (by have h1:=bS.out;have h2:=cd.out;rw [wAX] <;> omega)
 refine sR fL1 Z (oR Z (zW Z bO cr) (eN (zI (cT Z cd (kN (zI (zU (sR fL2 Z (oM Z bO (oA Z Z (eN (sR gDe Z ?_))))))))))))
 let B2:List Value:=[jV 0,jV 0]
 let B3:List Value:=[jV 1,jV 1]
 refine oR Z (zx (pv:=[(0,jV 1),(1,jV 1)]) (z:=B2) (cs:=B3) Z (wAA Z (wAA Z wAI)) ZY wDU Z Z) (zm (cs:=B2) Z Z Z Z Z ZY Z dy ?_)
 intro eR ap dz
 refine zh (j:=0) (vs:=B3) Z Z Z Z dz Z Z Z Z ZK (zA Z) Z Z Z ?_
 intro cM dA
 let B4:Res:=.row bb bg 76 2 (hD wAH aZ)
 have cu:sW w U bG [.blk ap 76 B3,.blk ai 144 (hD KL.encI aa.l),B1,.obj ae (.map ag af),.blk b2 83 B0,B4] cM:=dA
 refine eN (zI (sR fL4 Z (oR Z (zF Z cq zq Z zS) (oL Z (cu.ldB (j:=4) Z Z Z zZ (v:=.slice a7 O.Starts.length a8) Z) (oR Z (ze Z Z zB) (oM Z Z (eN (zU ?_))))))))
 have q:=bnd eI
 obtain ⟨⟨bB,bC⟩,dX,cE⟩:=q
 try dsimp only at cE
 have q:=wAn dX
 obtain ⟨bR,dY⟩:=q
 replace bR:=zH bR
 refine CK.forN' (fun aq (ay,ao) σ_ w_=>∃ (U_:PHeap),σ_ 35=jV (↑aq:Int)/\σ_ 2=.pointer (some ⟨b2,0,none⟩)/\σ_ 8=.pointer (some ⟨ai,0,none⟩)/\σ_ 9=.slice bb aZ.length bg/\σ_ 10=jV (↑ak:Int)/\σ_ 11=.pointer (some ⟨ap,0,none⟩)/\σ_ 27=jV (↑O.Starts.length:Int)/\σ_ 28=jV (↑ak:Int)/\σ_ 34=jV (↑O.Starts.length:Int)/\PHeap.Le bG U_/\sW w U U_ [.blk ap 76 [jV ay,jV ao],.blk ai 144 (hD KL.encI aa.l),B1,.obj ae (.map ag af),.blk b2 83 B0,B4] w_) dY ?_ ?_ ?_
 exact ⟨bG,Z,cq,c6,c8,Z,Z,cr,bO,Z,(zL _),cu⟩
 rintro aq ⟨ay,ao⟩ fd fh eS bP ⟨au,aY,bj,av,bm,aw,aj,bn,bp,bh,bs,ax⟩ cG
 try dsimp only at cG
 have cg:Hid ((↑aq:Int) < (↑O.Starts.length:Int)):=zH (wAj bP)
 replace bP:=zH bP
 have br:Hid (w64 ((↑aq:Int) + 1)=(↑(aq + 1):Int)):=zH (by have h1:=bR.out;have h2:=cg.out;rw [wAX] <;> omega)
 refine sR fL1 Z (oR Z (zW Z aY bh) (eN (zI (cT Z cg (kN (zI (zU (sR fL2 Z (oM Z aY (oA Z Z (eN (zI (sR fL6 Z (oM Z aw (oM Z Z (bnK cG fun _ am eo=>oR Z (YC Z av Z Tryz.runUnderlying144 Tryz.sizeOf143 (wBa am) (wBb am)) (bnK eo fun _ an ep=>oR Z (YC Z Z Z yV zC (wBa an) (wBb an)) ?_)))))))))))))))))
 have d8:=Arr.at_ aa (k:=(ak * 8 + aq)) (by have hz0:=wAS am;have hz1:=wAS an;omega)
 refine ZB rfl rfl rfl rfl (ax.ldB (j:=1) rfl rfl rfl zJ (wAW (sz:=1) (fun _=>rfl) _ _ 0 _ d8 (by first | omega | rfl | simp) rfl)) rfl (zY rfl rfl rfl rfl (fun _=>zW rfl rfl rfl) (eN (ifc ep ?_ ?_)))
 intro bJ er
 refine cT Z bJ (rR (wEL (.fx 4 .nil .stop)) Z (oR Z (zF Z aj ZM Z zC) (oL Z (ax.ldB (j:=0) Z Z Z zJ (v:=jV ay) Z) (oR Z (zX Z Z Z) (oR Z (zF Z aj ZM Z zC) (zh (j:=0) (vs:=[jV (w64 (ay + 1))]) Z Z Z Z ax Z Z Z Z zC (zA Z) Z Z Z ?_))))))
 intro cN dB
 have bq:sW w U au [.blk ap 76 [jV (w64 (ay + 1)),jV ao],.blk ai 144 (hD KL.encI aa.l),B1,.obj ae (.map ag af),.blk b2 83 B0,B4] cN:=dB
 refine eN (sR fL6 Z (oM Z Z (oM Z aw (oR Z (YC Z av Z Tryz.runUnderlying144 Tryz.sizeOf143 (wBa an) (wBb an)) (oR Z (YC Z Z Z yV zC (wBa am) (wBb am)) ?_)))))
 have d9:=Arr.at_ aa (k:=(aq * 8 + ak)) (by have hz0:=wAS an;have hz1:=wAS am;omega)
 refine ZB rfl rfl rfl rfl (bq.ldB (j:=1) rfl rfl rfl zJ (wAW (sz:=1) (fun _=>rfl) _ _ 0 _ d9 (by first | omega | rfl | simp) rfl)) rfl (zY rfl rfl rfl rfl (fun _=>yT rfl rfl rfl) (eN (ifc er ?_ ?_)))
 intro bK eu
 refine cT Z bK (rR (wEL (.fx 4 .nil .stop)) Z (oR Z (zF Z aj ZM Z zC) (oL Z (bq.ldB (j:=0) Z Z Z zJ (v:=jV ao) Z) (oR Z (zX Z Z Z) (oR Z (zF Z aj ZM Z zC) (zh (j:=0) (vs:=[jV (w64 (ao + 1))]) Z Z Z Z bq Z Z Z Z zC (zA Z) Z Z Z ?_))))))
 intro cO dC
 have dD:sW w U au [.blk ap 76 [jV (w64 (ay + 1)),jV (w64 (ao + 1))],.blk ai 144 (hD KL.encI aa.l),B1,.obj ae (.map ag af),.blk b2 83 B0,B4] cO:=dC
 refine zg (zf (zG (rR fL2 Z (oR Z (zr (zX Z aY Z) (congrArg (jV) br.out)) (oM Z Z (zg ?_))))))
 cases eu
 exact zG ⟨Z,⟨au,Z,bj,av,bm,aw,aj,bn,bp,bh,bs,dD⟩⟩
 intro bK ew
 refine cF Z bK (ZT (zf (zG (rR fL2 Z (oR Z (zr (zX Z aY Z) (congrArg (jV) br.out)) (oM Z Z (zg ?_)))))))
 cases ew
 exact zG ⟨Z,⟨au,Z,bj,av,bm,aw,aj,bn,bp,bh,bs,bq⟩⟩
 intro bJ ey
 refine cF Z bJ (kN (sR fL6 Z (oM Z Z (oM Z aw (oR Z (YC Z av Z Tryz.runUnderlying144 Tryz.sizeOf143 (wBa an) (wBb an)) (oR Z (YC Z Z Z yV zC (wBa am) (wBb am)) ?_))))))
 have eh:=Arr.at_ aa (k:=(aq * 8 + ak)) (by have hz0:=wAS an;have hz1:=wAS am;omega)
 refine ZB rfl rfl rfl rfl (ax.ldB (j:=1) rfl rfl rfl zJ (wAW (sz:=1) (fun _=>rfl) _ _ 0 _ eh (by first | omega | rfl | simp) rfl)) rfl (zY rfl rfl rfl rfl (fun _=>yT rfl rfl rfl) (eN (ifc ey ?_ ?_)))
 intro bL ez
 refine cT Z bL (rR (wEL (.fx 4 .nil .stop)) Z (oR Z (zF Z aj ZM Z zC) (oL Z (ax.ldB (j:=0) Z Z Z zJ (v:=jV ao) Z) (oR Z (zX Z Z Z) (oR Z (zF Z aj ZM Z zC) (zh (j:=0) (vs:=[jV (w64 (ao + 1))]) Z Z Z Z ax Z Z Z Z zC (zA Z) Z Z Z ?_))))))
 intro cP dE
 have dF:sW w U au [.blk ap 76 [jV ay,jV (w64 (ao + 1))],.blk ai 144 (hD KL.encI aa.l),B1,.obj ae (.map ag af),.blk b2 83 B0,B4] cP:=dE
 refine zg (zf (zG (rR fL2 Z (oR Z (zr (zX Z aY Z) (congrArg (jV) br.out)) (oM Z Z (zg ?_))))))
 cases ez
 exact zG ⟨Z,⟨au,Z,bj,av,bm,aw,aj,bn,bp,bh,bs,dF⟩⟩
 intro bL eA
 refine cF Z bL (ZT (zf (zG (rR fL2 Z (oR Z (zr (zX Z aY Z) (congrArg (jV) br.out)) (oM Z Z (zg ?_)))))))
 cases eA
 exact zG ⟨Z,⟨au,Z,bj,av,bm,aw,aj,bn,bp,bh,bs,ax⟩⟩
 rintro fj eT ⟨bF,dl,c9,da,db,eW,dd,de,df,dg,eJ,cy⟩
 have cX:Hid (¬ ((↑(((↑O.Starts.length:Int):Int) - 0).toNat:Int) < (↑O.Starts.length:Int))):=zH (wAc)
 refine sR fL1 Z (oR Z (zW Z dl dg) (eN (zI (cF Z cX (ZJ (zd (zd (ZG (zG (rR (.fl 0 (.fl 1 gDc)) Z (oM Z db ?_)))))))))))
 let B5:List Value:=[jV bB,jV bC]
 refine oL Z (cy.ldBA (j:=0) Z Z dd yF ZK (vs:=B5) Z Z) (zb (pv:=[(0,.agg B5.toArray)]) (zs:=B2) (cs:=B5) Z Z Z Z Z (wAA Z wAI) ZQ ZK ZY Z Z Z Z Z cy ?_)
 intro cQ cW dG
 let B6:Res:=.row (some ⟨cW,0,none⟩) 1 76 2 (hD wAH [(⟨bB,bC⟩:wAD)])
 have cz:sW w U bF [B6,.blk ap 76 B5,.blk ai 144 (hD KL.encI aa.l),B1,.obj ae (.map ag af),.blk b2 83 B0,B4] cQ:=dG
 refine bnK cE fun cH dn eB=>Zr (j:=6) (enc:=wAH) (xs:=aZ) (ys:=[(⟨bB,bC⟩:wAD)]) (zs:=cH) rfl rfl rfl rfl rfl Tryz.underlying80 wOO rfl rfl rfl rfl rfl rfl cz rfl rfl rfl (cz.srcR (j:=0) rfl (by decide) (wAB (f:=wAH) (sz:=2) (fun _=>rfl) [(⟨bB,bC⟩:wAD)])) (fun _=>rfl) (fun _=>rfl) dn rfl ?_
 intro bX cn cR dH
 have dI:sW w U bF [B6,.blk ap 76 B5,.blk ai 144 (hD KL.encI aa.l),B1,.obj ae (.map ag af),.blk b2 83 B0,.row bX cn 76 2 (hD wAH cH)] cR:=dH
 refine oA Z Z (zg (zf (zG (rR fL2 Z (oR Z (zr (zX Z df Z) (congrArg (jV) ej.out)) (oM Z Z (zg ?_)))))))
 cases eB
 exact zG ⟨rfl,⟨bF,bX,cn,rfl,c9,da,rfl,de,(eK.trans eJ),(dI.pick [2,3,4,5,6] _ (by decide) rfl)⟩⟩
 rintro fk eU ⟨cK,cJ,cY,dm,eX,eY,dh,di,e8,dJ⟩
 have cZ:Hid (¬ ((↑(((↑O.Starts.length:Int):Int) - 0).toNat:Int) < (↑O.Starts.length:Int))):=zH (wAc)
 refine sR fL1 Z (oR Z (zW Z dm di) (eN (zI (cF Z cZ (ZJ (zd (zd (ZG (zG (sR fL3 Z (oM Z dh (oA Z Z (oA Z Z (eN (zP ?_)))))))))))))))
 cases eH
 exact ⟨rfl,_,(wEr rfl rfl),cK,_,(dJ.pick [4] _ (by decide) rfl),cJ,cY,rfl,rfl⟩
 intro bN eC
 refine cT Z bN (sR fL3 Z (oM Z Z (oA Z Z (oA Z Z (eN (zP (zR ?_)))))))
 have dK:=cC.nilrow 76 2
 cases eC
 exact ⟨rfl,_,(wEr rfl rfl),U9,_,(dK.pick [0] _ (by decide) rfl),none,0,rfl,rfl⟩
end Go.Proofs.YtnbcoenjobdplaaGreat
