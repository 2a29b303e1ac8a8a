import Derived.Test.YtnbcoenjobdplaaGreatC6
import Derived.Test.YtnbcoenjobdplaaGreatC5
set_option linter.all false
open List renaming flatMap->hD,length_set->nD,set->nG,getElem_cons_succ->nI,getElem_cons_zero->nJ,getElem_toArray->nK
open Option renaming map->nA
open Option.some renaming inj->nB
open Go.Value renaming bool->nE
open Bool renaming eq_false_iff->nH
open Int renaming toNat_natCast->nL
open Eq renaming trans->nM
namespace Go.Proofs.YtnbcoenjobdplaaGreat
open Go.KL
def gBi:Sch:=.fx 1 (.fl 2 .nil) .stop
def gBj:Sch:=.fx 2 (.fl 3 .nil) .stop
def gBk:Sch:=.fx 0 (.fl 1 .nil) .stop
def gBl:Sch:=.fx 0 (.fx 1 .nil .stop) .stop
def gBm:Sch:=.fl 0 (.fx 1 .nil .stop)
def gBn:Sch:=.fx 2 (.fx 3 .nil .stop) .stop
def gBo:Sch:=.fx 0 gBi .stop
def gBp:Sch:=.fx 0 (.fl 1 (.fl 2 .nil)) .stop
def gBq:Sch:=.fx 4 (.fx 5 (.fl 6 .nil) .stop) .stop
def gBr:Sch:=.fl 0 gBi
def gBs:Sch:=.fl 0 (.fl 1 (.fx 2 .nil .stop))
def gBt:Sch:=.fl 0 (.fx 1 gBj .stop)
def gBu:Sch:=.fl 0 (.fl 1 gBj)
def gBv:Sch:=.fx 3 gBq .stop
def gBw:Sch:=.fl 0 (.fl 1 gBn)
def gBx:Sch:=.fl 0 (.fx 1 gBn .stop)
def gBy:Sch:=.fl 0 (.fl 1 (.fx 2 (.fx 3 (.fl 4 .nil) .stop) .stop))
def gBz:Sch:=.fx 4 (.fx 9 (.fx 10 (.fx 11 (.fl 12 .nil) .stop) .stop) .stop) .stop
set_option maxHeartbeats 4000000
theorem wLH (O:wAZ) (aq:Option Addr) (av:Nat) (au:Option Addr) (aw:Nat) (w:World) (U:PHeap) (hS:St0 w U []) (cc:Sl U 1 aq av O.Rules.Classes.length (hD KL.encI O.Rules.Classes)) (cd:SlR U wHM au aw O.Teams) {r:wAk × Int} (hm:wES O=some r):Gv Tryz.prog 8 [.agg #[.slice aq O.Rules.Classes.length av,jV O.Rules.Each,jV O.Rules.Laps,jV O.Rules.Spare,jV O.Rules.Loop,jV O.Rules.Unused,jV O.Start,.slice au O.Teams.length aw]] w (wBD w [] U (fun U_ L_ v=>∃ (bd:Option Addr) (bj:Nat) (be:Option Addr) (bm:Nat) (br:List Value),v=.tuple #[.agg #[jV r.1.Laps,.slice bd r.1.Bibs.length bj,.slice be r.1.Times.length bm],jV r.2]/\L_=[.row bd bj 3 1 (hD KL.encI r.1.Bibs),.row be bm 23 1 br]/\RlL U_ wDl r.1.Times br)):=by
 unfold wES at hm
 refine Gv.of Tryz.func8 Z Tryz.ntmps8 Tryz.results8 Z (sR gBo Z ?_)
 let B0:List Value:=[.slice aq O.Rules.Classes.length av,jV O.Rules.Each,jV O.Rules.Laps,jV O.Rules.Spare,jV O.Rules.Loop,jV O.Rules.Unused,jV O.Start,.slice au O.Teams.length aw]
 refine ZH (cs:=B0) rfl rfl rfl rfl rfl rfl (by rfl) hS ?_
 intro W1 b2 bP
 let B1:List Value:=[jV 0,.slice none 0 0,.slice none 0 0]
 refine zm (cs:=B1) Z Z Z Z Z YB Z bP ?_
 intro W5 b6 bw
 refine oA Z Z (eN (sR (.fl 0 (.fx 1 (wIK (.nil)) .stop)) Z (oL Z (bw.ldBA (j:=1) Z Z Z ya Zk (vs:=B0) Z Z) ?_)))
 have q:=bnd hm
 obtain ⟨⟨x9,ax⟩,bG,ai⟩:=q
 try dsimp only at ai
 refine zM 0 Z Z Z Z (zK Z Z Tryz.call30 (zD Z zO) Z) bw (fun hs=>wGS O aq av au aw W5 U hs cc cd bG) (.inr Z) ?_
 rintro ag cq cy an cu bt bs
 rcases x9 with _ | ab
 try dsimp only at ai
 obtain ⟨rfl,rfl⟩:=bs
 have bO:sW w U ag [.blk b6 34 B1,.blk b2 28 B0] an:=bt
 refine oM Z Z (oR Z (zi Z Z (v:=.pointer none) Z) (oR Z (zi Z Z (v:=jV ax) Z) (oA Z Z (oA Z Z (eN (zI (sR fL2 Z (oM Z Z (oR Z (ZX Z Z Z) (eN (ifc ai ?_ ?_)))))))))))
 intro a7 cg
 refine zn (zt (fun h=>h a7.out)) (kN (sR gBt Z (oM Z Z ?_)))
 cases cg
 intro a7 ci
 refine cT Z a7 (sR gBu Z (oR Z (zx (pv:=[]) (z:=B1) (cs:=B1) Z wAI YB wKX Z Z) (oM Z Z (zh (j:=0) (vs:=B1) Z Z Z Z bO Z Z Z Z Zm (zA Z) Z Z Z ?_))))
 intro bB bQ
 have bR:sW w U ag [.blk b6 34 B1,.blk b2 28 B0] bB:=bQ
 refine oA Z Z (eN (zP (zR ?_)))
 have bS:=bR.nilrow 3 1
 have bu:=bS.nilrow 23 1
 cases ci
 exact ⟨rfl,_,(wFY (rs:=[.cell 2 34,.tmp 3]) (vs:=[.agg B1.toArray,jV ax]) ⟨⟨_,rfl,(wBL yh Zm (bu.blkAt (k:=2) rfl) (vs:=B1) rfl rfl)⟩,⟨rfl,trivial⟩⟩ rfl),ag,_,(bu.pick [1,0] _ (by decide) rfl),none,0,none,0,[],rfl,rfl,RlL.nil⟩
 try dsimp only at ai
 obtain ⟨aZ,bf,bn,bg,bp,aj,ao,bq,rfl,rfl,bH,bI,bJ⟩:=bs
 let B2:Res:=.blk aZ 130 [.slice bf ab.Race.Rules.Classes.length bn,jV ab.Race.Rules.Each,jV ab.Race.Rules.Laps,jV ab.Race.Rules.Spare,jV ab.Race.Rules.Loop,jV ab.Race.Rules.Unused,jV ab.Race.Start,.slice bg ab.Race.Teams.length bp,.slice aj ab.after.length ao]
 have bv:sW w U ag [B2,.row aj ao 23 1 bq,.blk b6 34 B1,.blk b2 28 B0] an:=bt
 refine oM Z Z (oR Z (zi Z Z (v:=.pointer (some ⟨aZ,0,none⟩)) Z) (oR Z (zi Z Z (v:=jV ax) Z) (oA Z Z (oA Z Z (eN (zI (sR fL2 Z (oM Z Z (oR Z (ZX Z Z Z) (eN (ifc ai ?_ ?_)))))))))))
 intro a8 cj
 refine zn (zt (fun h=>h a8.out)) (kN (sR gBt Z (oM Z Z ?_)))
 have q:=bv.freezeRR (R:=wDl) (k:=1) rfl bJ rfl (by decide)
 obtain ⟨bi,bA,co,bT⟩:=q
 have bU:sW w U bi [B2,.blk b6 34 B1,.blk b2 28 B0] an:=bT
 have bK:=bH.le bA
 have bL:=bI.le bA
 refine bnK cj fun ay bM cm=>zM 1 Z Z Z Z (zK Z Z Tryz.call31 (zD Z zO) Z) bU (fun hs=>wGI ab aZ bf bn bg bp aj ao an bi hs bK bL co bM) (.inl Z) ?_
 rintro aY cr cz bD cw bV ⟨az,ba,ak,ap,bb,rfl,rfl,bN⟩
 let B3:Res:=.row az ba 3 1 (hD KL.encI ay.Bibs)
 have bW:sW w U aY [B3,.row ak ap 23 1 bb,B2,.blk b6 34 B1,.blk b2 28 B0] bD:=bV
 let B4:List Value:=[jV ay.Laps,.slice az ay.Bibs.length ba,.slice ak ay.Times.length ap]
 refine zh (j:=3) (vs:=B4) Z Z Z Z bW Z Z Z Z Zm (zA Z) Z Z Z ?_
 intro bE bX
 have bx:sW w U aY [B3,.row ak ap 23 1 bb,B2,.blk b6 34 B4,.blk b2 28 B0] bE:=bX
 refine oA Z Z (eN (zP ?_))
 cases cm
 exact ⟨rfl,_,(wFY (rs:=[.cell 2 34,.tmp 3]) (vs:=[.agg B4.toArray,jV 0]) ⟨⟨_,rfl,(wBL yh Zm (bx.blkAt (k:=3) rfl) (vs:=B4) rfl rfl)⟩,⟨rfl,trivial⟩⟩ rfl),aY,_,(bx.pick [0,1] _ (by decide) rfl),az,ba,ak,ap,bb,rfl,rfl,bN⟩
 intro a8 cn
 refine cT Z a8 (sR gBu Z (oR Z (zx (pv:=[]) (z:=B1) (cs:=B1) Z wAI YB wKX Z Z) (oM Z Z (zh (j:=2) (vs:=B1) Z Z Z Z bv Z Z Z Z Zm (zA Z) Z Z Z ?_))))
 intro bF bY
 have bZ:sW w U ag [B2,.row aj ao 23 1 bq,.blk b6 34 B1,.blk b2 28 B0] bF:=bY
 refine oA Z Z (eN (zP (zR ?_)))
 have ca:=bZ.nilrow 3 1
 have bz:=ca.nilrow 23 1
 cases cn
 exact ⟨rfl,_,(wFY (rs:=[.cell 2 34,.tmp 3]) (vs:=[.agg B1.toArray,jV ax]) ⟨⟨_,rfl,(wBL yh Zm (bz.blkAt (k:=4) rfl) (vs:=B1) rfl rfl)⟩,⟨rfl,trivial⟩⟩ rfl),ag,_,(bz.pick [1,0] _ (by decide) rfl),none,0,none,0,[],rfl,rfl,RlL.nil⟩
theorem wHy (O:wDo) (ae:Nat) (an:Option Addr) (ap:Nat) (ao:Option Addr) (aq:Nat) (ac:Option Addr) (af:Nat) (p1:Int) (w:World) (U:PHeap) (hS:St0 w U [.blk ae 130 [.slice an O.Race.Rules.Classes.length ap,jV O.Race.Rules.Each,jV O.Race.Rules.Laps,jV O.Race.Rules.Spare,jV O.Race.Rules.Loop,jV O.Race.Rules.Unused,jV O.Race.Start,.slice ao O.Race.Teams.length aq,.slice ac O.after.length af]]) (cp:Sl U 1 an ap O.Race.Rules.Classes.length (hD KL.encI O.Race.Rules.Classes)) (cq:SlR U wHM ao aq O.Race.Teams) (bR:SlR U wDl ac af O.after) {r:(List Int)} (hm:wCw O p1=some r):Gv Tryz.prog 68 [.pointer (some ⟨ae,0,none⟩),jV p1] w (wBD w [.blk ae 130 [.slice an O.Race.Rules.Classes.length ap,jV O.Race.Rules.Each,jV O.Race.Rules.Laps,jV O.Race.Rules.Spare,jV O.Race.Rules.Loop,jV O.Race.Rules.Unused,jV O.Race.Start,.slice ao O.Race.Teams.length aq,.slice ac O.after.length af]] U (fun U_ L_ v=>∃ (A0:Option Addr) (c0:Nat),v=.slice A0 r.length c0/\L_=[.row A0 c0 3 1 (hD KL.encI r),.blk ae 130 [.slice an O.Race.Rules.Classes.length ap,jV O.Race.Rules.Each,jV O.Race.Rules.Laps,jV O.Race.Rules.Spare,jV O.Race.Rules.Loop,jV O.Race.Rules.Unused,jV O.Race.Start,.slice ao O.Race.Teams.length aq,.slice ac O.after.length af]])):=by
 unfold wCw at hm
 refine Gv.of Tryz.func68 Z Tryz.ntmps68 Tryz.results68 Z (sR fL1 Z (oA Z Z (eN (sR fL1 Z (oA Z Z (eN (zI (sR fL9 Z (oM Z Z (oR Z (ZR Z Z) (oR Z (zF Z Z Zu Z Zq) (oL Z (hS.ldB (j:=0) Z Z Z yE (v:=.slice ac O.after.length af) Z) (oM Z Z (bnK hm fun x2 h3 bV=>?_))))))))))))))
 have q:=bR.el (wAV h3)
 obtain ⟨b5,cg,cu,bK,aZ,cc⟩:=q
 obtain ⟨be,bf,rfl,bF⟩:=cc
 replace aZ:Cl U b5 (cg + p1.toNat * 1) [.slice be x2.length bf]:=aZ
 refine oR Z (Za Z Z bK Z zu zS (wCh h3) (wCs h3)) (oL Z (hS.ldC (f:=0) aZ (v:=.slice be x2.length bf) Z Z zZ Z) (oR Z (ze Z Z zB) (oM Z Z (eN (zU (bnK bV fun cz bS bU=>?_))))))
 have q:=wAn bS
 obtain ⟨ba,bT⟩:=q
 replace ba:=zH ba
 let B0:Res:=.blk ae 130 [.slice an O.Race.Rules.Classes.length ap,jV O.Race.Rules.Each,jV O.Race.Rules.Laps,jV O.Race.Rules.Spare,jV O.Race.Rules.Loop,jV O.Race.Rules.Unused,jV O.Race.Start,.slice ao O.Race.Teams.length aq,.slice ac O.after.length af]
 refine CK.forN' (fun ak am σ_ w_=>∃ (U_:PHeap) (ah:Option Addr) (ai:Nat),σ_ 16=jV (↑ak:Int)/\σ_ 0=.pointer (some ⟨ae,0,none⟩)/\σ_ 5=.slice ah am.length ai/\σ_ 14=.slice be x2.length bf/\σ_ 15=jV (↑x2.length:Int)/\PHeap.Le U U_/\SW w [B0] U U_ [B0,.row ah ai 3 1 (hD KL.encI am)] w_) bT ?_ ?_ ?_
 have bM:=hS.nilrow 3 1
 exact ⟨U,none,0,rfl,rfl,rfl,rfl,rfl,(zL _),(bM.pick [1,0] _ (by decide) rfl)⟩
 rintro ak am cy cA ci a8 ⟨au,ah,ai,aj,ax,bp,ay,az,bb,av⟩ cd
 have bm:Hid ((↑ak:Int) < (↑x2.length:Int)):=zH (wAj a8)
 replace a8:=zH a8
 have a7:Hid (w64 ((↑ak:Int) + 1)=(↑(ak + 1):Int)):=zH (by have h1:=ba.out;have h2:=bm.out;rw [wAX] <;> omega)
 refine sR fL1 Z (oR Z (zW Z aj az) (eN (zI (cT Z bm (kN (zI (zU (sR fL5 Z (oM Z aj (bnK cd fun ag bq bW=>?_))))))))))
 have bG:=bF.le bb
 have q:=bG.el (fun _=>rfl) (wAV bq)
 obtain ⟨cm,ct,bJ,bL⟩:=q
 refine oR Z (ZE Z ay bJ aj zB zC (wAq bq)) (oL Z (av.ldC (f:=0) bL (v:=jV ag) Z Z zJ Z) (oA Z Z (oA Z Z (eN (sR wQB Z (oM Z Z (oR Z (zr (zX Z Z Z) (congrArg (jV) a7.out)) (oM Z ax (oR Z (ZR Z Z) (oR Z (zF Z Z Zu Z Zk) (oR Z (zF Z Z zo Z ZO) (oR Z (zF Z Z ZA Z zC) (oL Z (av.ldB (j:=0) Z Z Z zJ (v:=jV O.Race.Rules.Laps) Z) (bnK bW fun cw bH bX=>oR Z (Runs.rem Z Z Z bH) (oR Z (yc Z Z Z) (eN (ifc bX ?_ ?_)))))))))))))))))
 intro aw bY
 refine cT Z aw (rR gBy Z (oM Z bp (oM Z Z (zb (pv:=[(0,jV ag)]) (zs:=[jV 0]) (cs:=[jV ag]) Z Z Z Z Z (wAA Z wAI) zB zC zw Z Z Z Z Z av ?_))))
 intro bv bz bN
 let B1:Res:=.row (some ⟨bz,0,none⟩) 1 3 1 (hD KL.encI [ag])
 have br:SW w [B0] U au [B1,B0,.row ah ai 3 1 (hD KL.encI am)] bv:=bN
 refine bnK bY fun bs bI bZ=>Zr (j:=2) (enc:=KL.encI) (xs:=am) (ys:=[ag]) (zs:=bs) rfl rfl rfl rfl rfl Zn wFr rfl rfl rfl rfl rfl rfl br rfl rfl rfl (br.srcR (j:=0) rfl (by decide) (wAB (f:=KL.encI) (sz:=1) (fun _=>rfl) [ag])) (fun _=>rfl) (fun _=>rfl) bI rfl ?_
 intro bh bn bw bO
 have bP:SW w [B0] U au [B1,B0,.row bh bn 3 1 (hD KL.encI bs)] bw:=bO
 refine oA Z Z (zg (zf (zG (rR fL2 Z (oR Z (zr (zX Z aj Z) (congrArg (jV) a7.out)) (oM Z Z (zg ?_)))))))
 cases bZ
 exact zG ⟨rfl,⟨au,bh,bn,rfl,ax,rfl,ay,az,bb,(bP.pick [1,2] _ (by decide) rfl)⟩⟩
 intro aw ca
 refine cF Z aw (ZT (zf (zG (rR fL2 Z (oR Z (zr (zX Z aj Z) (congrArg (jV) a7.out)) (oM Z Z (zg ?_)))))))
 cases ca
 exact zG ⟨Z,⟨au,ah,ai,Z,ax,bp,ay,az,bb,av⟩⟩
 rintro cC cj ⟨bu,bt,bB,bE,cn,bC,co,bD,cr,bQ⟩
 have bA:Hid (¬ ((↑(((↑x2.length:Int):Int) - 0).toNat:Int) < (↑x2.length:Int))):=zH (wAc)
 refine sR fL1 Z (oR Z (zW Z bE bD) (eN (zI (cF Z bA (ZJ (zd (zd (ZG (zG (sR fL2 Z (oM Z bC (oA Z Z (eN (zP ?_))))))))))))))
 have hE:=nB bU;first | subst r | cases hE
 exact ⟨rfl,_,(zz rfl),bu,_,(bQ.pick [1,0] _ (by decide) rfl),bt,bB,rfl,rfl⟩
theorem wHz (O:wAZ) (aY:Option Addr) (aZ:Nat) (ai:Option Addr) (aj:Nat) (w:World) (U:PHeap) (hS:St0 w U []) (dh:Sl U 1 aY aZ O.Rules.Classes.length (hD KL.encI O.Rules.Classes)) (di:SlR U wHM ai aj O.Teams) {r:(List (List Int)) × Int} (hm:wDx O=some r):Gv Tryz.prog 37 [.agg #[.slice aY O.Rules.Classes.length aZ,jV O.Rules.Each,jV O.Rules.Laps,jV O.Rules.Spare,jV O.Rules.Loop,jV O.Rules.Unused,jV O.Start,.slice ai O.Teams.length aj]] w (wBD w [] U (fun U_ L_ v=>∃ (A0:Option Addr) (c0:Nat) (bD:List Value),v=.tuple #[.slice A0 r.1.length c0,jV r.2]/\L_=[.row A0 c0 23 1 bD]/\RlL U_ wDl r.1 bD)):=by
 unfold wDx at hm
 refine Gv.of Tryz.func37 Z Tryz.ntmps37 Tryz.results37 Z (sR gBp Z ?_)
 let B0:List Value:=[.slice aY O.Rules.Classes.length aZ,jV O.Rules.Each,jV O.Rules.Laps,jV O.Rules.Spare,jV O.Rules.Loop,jV O.Rules.Unused,jV O.Start,.slice ai O.Teams.length aj]
 refine ZH (cs:=B0) rfl rfl rfl rfl rfl rfl (by rfl) hS ?_
 intro W1 b2 bL
 refine oA Z Z (oA Z Z (eN (sR (.fl 0 (.fx 1 (wIK (.nil)) .stop)) Z (oL Z (bL.ldBA (j:=0) Z Z Z ya Zk (vs:=B0) Z Z) ?_))))
 have q:=bnd hm
 obtain ⟨⟨x5,x6⟩,h7,am⟩:=q
 try dsimp only at am
 refine zM 0 Z Z Z Z (zK Z Z Tryz.call30 (zD Z zO) Z) bL (fun hs=>wGS O aY aZ ai aj W1 U hs dh di h7) (.inr Z) ?_
 rintro U9 dF dT bb dP bJ bI
 rcases x5 with _ | ab
 try dsimp only at am
 obtain ⟨rfl,rfl⟩:=bI
 have bh:sW w U U9 [.blk b2 28 B0] bb:=bJ
 refine oM Z Z (oR Z (zi Z Z (v:=.pointer none) Z) (oR Z (zi Z Z (v:=jV x6) Z) (oA Z Z (oA Z Z (eN (zI (sR fL2 Z (oM Z Z (oR Z (ZX Z Z Z) (eN (ifc am ?_ ?_)))))))))))
 intro be dw
 refine zn (zt (fun h=>h be.out)) (kN (sR fL1 Z (oA Z Z (eN (zI (sR fL4 Z (oR Z (zF Z Z zo Z Zw) (oL Z (bh.ldB (j:=0) Z Z Z yO (v:=.slice ai O.Teams.length aj) Z) (oR Z (ze Z Z ZW) (oM Z Z (eN (zU ?_))))))))))))
 have q:=bnd dw
 obtain ⟨⟨⟩,dn,bM⟩:=q
 try dsimp only at bM
 have q:=wAn dn
 obtain ⟨bp,dp⟩:=q
 replace bp:=zH bp
 refine CK.forN' (fun an _ σ_ w_=>∃ (U_:PHeap),σ_ 19=jV (↑an:Int)/\σ_ 4=.pointer none/\σ_ 6=.slice none 0 0/\σ_ 18=jV (↑O.Teams.length:Int)/\PHeap.Le U9 U_/\sW w U U_ [.blk b2 28 B0] w_) dp ?_ ?_ ?_
 exact ⟨U9,Z,Z,Z,Z,(zL _),bh⟩
 rintro an ⟨⟩ dW d7 dJ bm ⟨dH,bH,cr,ct,cu,dR,dN⟩ bO
 try dsimp only at bO
 have bC:Hid ((↑an:Int) < (↑O.Teams.length:Int)):=zH (wAj bm)
 replace bm:=zH bm
 have dO:Hid (w64 ((↑an:Int) + 1)=(↑(an + 1):Int)):=zH (by have h1:=bp.out;have h2:=bC.out;rw [wAX] <;> omega)
 refine sR fL1 Z (oR Z (zW Z bH cu) (eN (zI (cT Z bC (kN (zI (zU (sR fL2 Z (oM Z bH (oA Z Z (eN (rR (wCK gBv) Z (oM Z ct (oM Z cr (oM Z Z ?_)))))))))))))))
 cases bO
 rintro d8 dK ⟨bX,cA,dM,cw,cy,dS,db⟩
 have cn:Hid (¬ ((↑(((↑O.Teams.length:Int):Int) - 0).toNat:Int) < (↑O.Teams.length:Int))):=zH (wAc)
 refine sR fL1 Z (oR Z (zW Z cA cy) (eN (zI (cF Z cn (ZJ (zd (zd (ZG (zG (sR fL3 Z (oM Z cw (oA Z Z (oA Z Z (eN (zP ?_)))))))))))))))
 have dd:=db.nilrow 23 1
 cases bM
 exact ⟨rfl,_,(wEr rfl rfl),bX,_,(dd.pick [0] _ (by decide) rfl),none,0,[],rfl,rfl,RlL.nil⟩
 intro be dx
 refine cT Z be (sR fL3 Z (oM Z Z (oA Z Z (oA Z Z (eN (zP (zR ?_)))))))
 have de:=bh.nilrow 23 1
 cases dx
 exact ⟨rfl,_,(wEr rfl rfl),U9,_,(de.pick [0] _ (by decide) rfl),none,0,[],rfl,rfl,RlL.nil⟩
 try dsimp only at am
 obtain ⟨au,bs,bA,bt,bB,a7,bd,cm,rfl,rfl,cO,cP,cQ⟩:=bI
 let B1:Res:=.blk au 130 [.slice bs ab.Race.Rules.Classes.length bA,jV ab.Race.Rules.Each,jV ab.Race.Rules.Laps,jV ab.Race.Rules.Spare,jV ab.Race.Rules.Loop,jV ab.Race.Rules.Unused,jV ab.Race.Start,.slice bt ab.Race.Teams.length bB,.slice a7 ab.after.length bd]
 have bi:sW w U U9 [B1,.row a7 bd 23 1 cm,.blk b2 28 B0] bb:=bJ
 refine oM Z Z (oR Z (zi Z Z (v:=.pointer (some ⟨au,0,none⟩)) Z) (oR Z (zi Z Z (v:=jV x6) Z) (oA Z Z (oA Z Z (eN (zI (sR fL2 Z (oM Z Z (oR Z (ZX Z Z Z) (eN (ifc am ?_ ?_)))))))))))
 intro bf dy
 refine zn (zt (fun h=>h bf.out)) (kN (sR fL1 Z (oA Z Z (eN (zI (sR fL4 Z (oR Z (zF Z Z zo Z Zw) (oL Z (bi.ldB (j:=2) Z Z Z yO (v:=.slice ai O.Teams.length aj) Z) (oR Z (ze Z Z ZW) (oM Z Z (eN (zU ?_))))))))))))
 have q:=bi.freezeRR (R:=wDl) (k:=1) rfl cQ rfl (by decide)
 obtain ⟨ba,bR,dB,df⟩:=q
 have dg:sW w U ba [B1,.blk b2 28 B0] bb:=df
 refine bnK dy fun dX dl dr=>?_
 have q:=wAn dl
 obtain ⟨bn,dm⟩:=q
 replace bn:=zH bn
 refine CK.forN' (fun ah ay σ_ w_=>∃ (U_:PHeap) (ap:Option Addr) (aw:Nat) (ax:List Value),σ_ 19=jV (↑ah:Int)/\σ_ 4=.pointer (some ⟨au,0,none⟩)/\σ_ 6=.slice ap ay.length aw/\σ_ 18=jV (↑O.Teams.length:Int)/\PHeap.Le ba U_/\sW w U U_ [B1,.blk b2 28 B0,.row ap aw 23 1 ax] w_/\RlL U_ wDl ay ax) dm ?_ ?_ ?_
 have cS:=dg.nilrow 23 1
 exact ⟨ba,none,0,[],rfl,rfl,rfl,rfl,(zL _),(cS.pick [1,2,0] _ (by decide) rfl),RlL.nil⟩
 rintro ah ay dV dY bZ bj ⟨bU,ap,aw,ax,bg,bF,co,bG,az,cU,cC⟩ dC
 have bx:Hid ((↑ah:Int) < (↑O.Teams.length:Int)):=zH (wAj bj)
 replace bj:=zH bj
 have dq:Hid (w64 ((↑ah:Int) + 1)=(↑(ah + 1):Int)):=zH (by have h1:=bn.out;have h2:=bx.out;rw [wAX] <;> omega)
 refine sR fL1 Z (oR Z (zW Z bg bG) (eN (zI (cT Z bx (kN (zI (zU (sR fL2 Z (oM Z bg (oA Z Z (eN (rR (wCK gBv) Z (oM Z co (oM Z bF (oM Z Z ?_)))))))))))))))
 have cD:=cO.le bR
 have cE:=cD.le az
 have cG:=cP.le bR
 have cH:=cG.le az
 have cI:=dB.le az
 refine bnK dC fun ae cJ dt=>zM 1 Z Z Z Z (zK Z Z Tryz.call68 (zD Z (zD Z zO)) Z) cU (fun hs=>wHy ab au bs bA bt bB a7 bd (↑ah:Int) bZ bU hs cE cH cI cJ) (.inl Z) ?_
 rintro bV dG dU bv bP cV ⟨ao,av,rfl,rfl⟩
 let B2:Res:=.row ap aw 23 1 ax
 have cW:sW w U bV [.row ao av 3 1 (hD KL.encI ae),B1,.blk b2 28 B0,B2] bv:=cV
 have q:=cW.freezeR (k:=0) (n:=ae.length) rfl (wAB (f:=KL.encI) (sz:=1) (fun _=>rfl) ae) (by decide)
 obtain ⟨ak,bQ,dA,cY⟩:=q
 have cZ:sW w U ak [B1,.blk b2 28 B0,B2] bv:=cY
 let B3:List Value:=[.slice ao ae.length av]
 refine zb (pv:=[(0,.slice ao ae.length av)]) (zs:=[.slice none 0 0]) (cs:=B3) Z Z Z Z Z (wAA Z wAI) zu zS YQ Z Z Z Z Z cZ ?_
 intro ca cd cX
 have bN:RlL ak wDl [ae] B3:=(RlL.cons (R:=wDl) (x:=ae) (vs:=B3) ⟨ao,av,rfl,dA⟩ RlL.nil)
 let B4:Res:=.row (some ⟨cd,0,none⟩) 1 23 1 B3
 have bK:sW w U ak [B4,B1,.blk b2 28 B0,B2] ca:=cX
 refine bnK dt fun dD cK du=>?_
 have cL:=cC.le bP
 have cM:=cL.le bQ
 refine YH (R:=wDl) (j:=3) (xs:=ay) (ys:=[ae]) (zs:=dD) rfl rfl rfl rfl rfl Tryz.underlying32 wMm rfl rfl rfl rfl rfl rfl rfl bK rfl rfl rfl cM bN (bK.srcR (j:=0) rfl (by decide) (RlL.len bN)) cK rfl ?_
 intro br bz bE cc c6 dz
 have c8:sW w U ak [B4,B1,.blk b2 28 B0,.row br bz 23 1 bE] cc:=c6
 refine oA Z Z (zg (zf (zG (rR fL2 Z (oR Z (zr (zX Z bg Z) (congrArg (jV) dq.out)) (oM Z Z (zg ?_)))))))
 cases du
 exact zG ⟨rfl,⟨ak,br,bz,bE,rfl,bF,rfl,bG,((az.trans bP).trans bQ),(c8.pick [1,2,3] _ (by decide) rfl),dz⟩⟩
 rintro dZ dI ⟨bW,bT,cg,ci,cz,dL,cp,cq,dQ,c9,cN⟩
 have cj:Hid (¬ ((↑(((↑O.Teams.length:Int):Int) - 0).toNat:Int) < (↑O.Teams.length:Int))):=zH (wAc)
 refine sR fL1 Z (oR Z (zW Z cz cq) (eN (zI (cF Z cj (ZJ (zd (zd (ZG (zG (sR fL3 Z (oM Z cp (oA Z Z (oA Z Z (eN (zP ?_)))))))))))))))
 cases dr
 exact ⟨rfl,_,(wEr rfl rfl),bW,_,(c9.pick [2] _ (by decide) rfl),bT,cg,ci,rfl,rfl,cN⟩
 intro bf dv
 refine cT Z bf (sR fL3 Z (oM Z Z (oA Z Z (oA Z Z (eN (zP (zR ?_)))))))
 have da:=bi.nilrow 23 1
 cases dv
 exact ⟨rfl,_,(wEr rfl rfl),U9,_,(da.pick [0] _ (by decide) rfl),none,0,[],rfl,rfl,RlL.nil⟩
theorem wJp (O:wAZ) (aY:Option Addr) (aZ:Nat) (be:Option Addr) (bf:Nat) (p1:Int) (w:World) (U:PHeap) (hS:St0 w U []) (dA:Sl U 1 aY aZ O.Rules.Classes.length (hD KL.encI O.Rules.Classes)) (dB:SlR U wHM be bf O.Teams) {r:(List Int) × Int} (hm:wDB O p1=some r):Gv Tryz.prog 21 [.agg #[.slice aY O.Rules.Classes.length aZ,jV O.Rules.Each,jV O.Rules.Laps,jV O.Rules.Spare,jV O.Rules.Loop,jV O.Rules.Unused,jV O.Start,.slice be O.Teams.length bf],jV p1] w (wBD w [] U (fun U_ L_ v=>∃ (A0:Option Addr) (c0:Nat),v=.tuple #[.slice A0 r.1.length c0,jV r.2]/\L_=[.row A0 c0 3 1 (hD KL.encI r.1)])):=by
 unfold wDB at hm
 refine Gv.of Tryz.func21 Z Tryz.ntmps21 Tryz.results21 Z (sR gBp Z ?_)
 let B0:List Value:=[.slice aY O.Rules.Classes.length aZ,jV O.Rules.Each,jV O.Rules.Laps,jV O.Rules.Spare,jV O.Rules.Loop,jV O.Rules.Unused,jV O.Start,.slice be O.Teams.length bf]
 refine ZH (cs:=B0) rfl rfl rfl rfl rfl rfl (by rfl) hS ?_
 intro W1 b2 cj
 refine oA Z Z (oA Z Z (eN (sR (.fl 0 (.fx 1 (wIK (.nil)) .stop)) Z (oL Z (cj.ldBA (j:=0) Z Z Z ya Zk (vs:=B0) Z Z) ?_))))
 have q:=bnd hm
 obtain ⟨⟨x5,x6⟩,h7,co⟩:=q
 try dsimp only at co
 refine zM 0 Z Z Z Z (zK Z Z Tryz.call37 (zD Z zO) Z) cj (fun hs=>wHz O aY aZ be bf W1 U hs dA dB h7) (.inr Z) ?_
 rintro U9 eD e8 bV eV dm ⟨ak,am,cE,rfl,rfl,cX⟩
 let B1:Res:=.row ak am 23 1 cE
 have bH:sW w U U9 [B1,.blk b2 28 B0] bV:=dm
 refine oM Z Z (oR Z (zi Z Z (v:=.slice ak x5.length am) Z) (oR Z (zi Z Z (v:=jV x6) Z) (oA Z Z (oA Z Z (eN (zI (zU (sR fL3 Z (oM Z Z (oR Z (ZX Z Z Z) (oA Z Z (eN (ifc co ?_ ?_)))))))))))))
 intro bn dS
 refine zn (zt (fun h=>h bn.out)) (sR (wGx (.fx 6 (.fl 7 (.fl 8 .nil)) .stop)) Z (oM Z Z (oR Z (zF Z Z zo Z ZO) (oR Z (zF Z Z ZA Z zS) (oL Z (bH.ldB (j:=1) Z Z Z zZ (v:=.slice aY O.Rules.Classes.length aZ) Z) (oR Z (ze Z Z zB) (oR Z (Zy Z Z Z) (bnK dS fun fd cZ dV=>zM 0 Z Z Z Z (zK Z Z yf (zD Z (zD Z (zD Z zO))) Z) bH (fun hs=>wCH p1 0 (w64 ((↑O.Rules.Classes.length:Int) - 1)) bV U9 hs cZ) (.inr Z) ?_))))))))
 rintro bh eE e9 cA ew dv ⟨rfl,rfl⟩
 have cm:sW w U bh [B1,.blk b2 28 B0] cA:=dv
 refine oR Z (ZF Z Z) (oA Z Z (eN (ifc dV ?_ ?_)))
 intro bp dW
 refine zn (nC bp.out) (ZT (zf (zG (sR gBu Z (oM Z Z (oR Z (ze Z Z zu) (bnK dW fun ac c6 dX=>OKS.makeSlice (enc:=KL.encI) (z:=(0:Int)) (v:=jV 0) Z Z Z Z Z (wBr zB) wFr Z Z Z Z Z Z c6 cm ?_)))))))
 intro bW ag dw
 let B2:Res:=.row (some ⟨ag,0,none⟩) ac.length 3 1 (hD KL.encI ac)
 have dx:sW w U bh [B2,B1,.blk b2 28 B0] bW:=dw
 refine oA Z Z (eN (zI (sR fL3 Z (oM Z Z (oR Z (ze Z Z zu) (oM Z Z (eN (zU ?_))))))))
 have c8:=cX.le ew
 have q:=dx.freezeRR (R:=wDl) (k:=1) rfl c8 rfl (by decide)
 obtain ⟨bi,eX,eo,dy⟩:=q
 have dz:sW w U bi [B2,.blk b2 28 B0] bW:=dy
 refine bnK dX fun fj dE dY=>?_
 have q:=wAn dE
 obtain ⟨bN,dF⟩:=q
 replace bN:=zH bN
 refine CK.forN' (fun ab ai σ_ w_=>∃ (U_:PHeap),σ_ 36=jV (↑ab:Int)/\σ_ 1=jV p1/\σ_ 6=.slice ak x5.length am/\σ_ 8=.slice (some ⟨ag,0,none⟩) ai.length ac.length/\σ_ 34=.slice ak x5.length am/\σ_ 35=jV (↑x5.length:Int)/\PHeap.Le bi U_/\sW w U U_ [.blk b2 28 B0,.row (some ⟨ag,0,none⟩) ac.length 3 1 (hD KL.encI ai)] w_/\ai.length=ac.length) dF ?_ ?_ ?_
 exact ⟨bi,rfl,rfl,rfl,rfl,rfl,rfl,(zL _),(dz.pick [1,0] _ (by decide) rfl),rfl⟩
 rintro ab ai fg ft eI bL ⟨au,aw,bv,bw,bx,bz,bA,bO,bI,cc⟩ er
 have bZ:Hid ((↑ab:Int) < (↑x5.length:Int)):=zH (wAj bL)
 replace bL:=zH bL
 have cn:Hid (w64 ((↑ab:Int) + 1)=(↑(ab + 1):Int)):=zH (by have h1:=bN.out;have h2:=bZ.out;rw [wAX] <;> omega)
 refine sR fL1 Z (oR Z (zW Z aw bA) (eN (zI (cT Z bZ (kN (zI (zU (sR fL5 Z (oM Z aw (bnK er fun bR cd dZ=>?_))))))))))
 have cg:=eo.le bO
 have q:=cg.el (wAV cd)
 obtain ⟨cD,ez,fc,df,bG,ej⟩:=q
 obtain ⟨bP,bQ,rfl,da⟩:=ej
 replace bG:Cl au cD (ez + ab * 1) [.slice bP bR.length bQ]:=bG
 refine oR Z (ZE Z bz df aw zu zS (wAq cd)) (oL Z (bI.ldC (f:=0) bG (v:=.slice bP bR.length bQ) Z Z zZ Z) (oA Z Z (oA Z Z (eN (zI (sR fL4 Z (oM Z bv (oM Z Z (oR Z (ze Z Z zB) (oR Z (YJ Z Z Z) (eN (ifc dZ ?_ ?_))))))))))))
 intro bq d7
 refine cT Z bq (ZJ (zd (ZG (zG (rR fL2 Z (oR Z (zr (zX Z aw Z) (congrArg (jV) cn.out)) (oM Z Z (zg ?_))))))))
 cases d7
 exact zG ⟨Z,⟨au,Z,bv,bw,bx,bz,bA,bO,bI,cc⟩⟩
 intro bq d8
 refine cF Z bq (kN (sR (wCK (.fx 3 .nil .stop)) Z (oM Z bx (oM Z Z (bnK d8 fun _ bE d9=>oR Z (ZE Z Z Z Z zB zC (wAS bE)) ?_)))))
 have dI:=wBK (xs:=ai) (wAS bE)
 refine YO (j:=1) (vs:=[jV 1]) (cs':=hD KL.encI (nG ai ab 1)) rfl rfl rfl rfl bI rfl rfl rfl rfl rfl zC (by rw [wAB (f:=KL.encI) (sz:=1) (fun _=>rfl)];have hz:=wAS bE;show _ + 1 <= _;first | omega | (simp only [nL];omega) | (simp only [nK,nI,nJ];omega)) rfl (wDA (sz:=1) (fo:=0) (fun _=>rfl) _ _ _ _ dI (by first | omega | (simp only [nL];omega) | (simp only [nK,nI,nJ];omega)) (zA rfl) rfl) rfl ?_
 intro cy di
 have dl:sW w U au [.blk b2 28 B0,.row (some ⟨ag,0,none⟩) ac.length 3 1 (hD KL.encI (nG ai ab 1))] cy:=di
 refine eN (sR fL3 Z (oM Z bw (oR Z (ze Z Z zu) (oM Z Z (eN (zU (bnK d9 fun fh dC dJ=>?_)))))))
 have q:=wAn dC
 obtain ⟨bM,dD⟩:=q
 replace bM:=zH bM
 refine CK.forN' (fun ap af σ_ w_=>∃ (U_:PHeap),σ_ 50=jV (↑ap:Int)/\σ_ 1=jV p1/\σ_ 6=.slice ak x5.length am/\σ_ 8=.slice (some ⟨ag,0,none⟩) af.length ac.length/\σ_ 9=jV (↑ab:Int)/\σ_ 10=.slice bP bR.length bQ/\σ_ 34=.slice ak x5.length am/\σ_ 35=jV (↑x5.length:Int)/\σ_ 36=jV (↑ab:Int)/\σ_ 48=.slice ak x5.length am/\σ_ 49=jV (↑x5.length:Int)/\PHeap.Le au U_/\sW w U U_ [.blk b2 28 B0,.row (some ⟨ag,0,none⟩) ac.length 3 1 (hD KL.encI af)] w_/\af.length=ac.length) dD ?_ ?_ ?_
 exact ⟨au,rfl,bv,bw,(nM (b:=(.slice (some ⟨ag,0,none⟩) ai.length ac.length:Value)) (c:=(.slice (some ⟨ag,0,none⟩) ((nG ai ab 1).length) ac.length:Value)) bx (by simp only [nD])),rfl,rfl,bz,bA,aw,rfl,rfl,(zL _),dl,(nD.trans cc)⟩
 rintro ap af ff fk bU bK ⟨aq,av,ao,br,a7,a8,ba,bs,bt,bu,bb,bd,ay,ci,bB⟩ ep
 have bY:Hid ((↑ap:Int) < (↑x5.length:Int)):=zH (wAj bK)
 replace bK:=zH bK
 have bJ:Hid (w64 ((↑ap:Int) + 1)=(↑(ap + 1):Int)):=zH (by have h1:=bM.out;have h2:=bY.out;rw [wAX] <;> omega)
 refine sR fL1 Z (oR Z (zW Z av bd) (eN (zI (cT Z bY (kN (zI (zU (sR fL3 Z (bnK ep fun cr ca dK=>?_)))))))))
 have cU:=cg.le ay
 have q:=cU.el (wAV ca)
 obtain ⟨cC,ey,fb,db,bF,eh⟩:=q
 obtain ⟨cp,cq,rfl,cV⟩:=eh
 replace bF:Cl aq cC (ey + ap * 1) [.slice cp cr.length cq]:=bF
 refine zY rfl rfl rfl rfl (fun _=>ZE rfl bb db av zu zS (wAq ca)) (ZB rfl rfl rfl rfl (ci.ldC (f:=0) bF (v:=.slice cp cr.length cq) rfl rfl zZ rfl) rfl (yU rfl rfl rfl rfl rfl rfl (eN (zI (ZN ZD [3,3,3,3,3,3,3,3,1,3,3,3,1,3,3] fL15 (by kernel_rfl) ?_)))))
 have an:=ci.drew
 generalize hw_W152:({ bU with drawn:=bU.drawn + 1 }:World)=eF at an ⊢
 refine oM Z ao (oM Z Z (oR Z (ze Z Z zB) (oR Z (zW Z Z Z) (oM Z Z (ifc dK ?_ ?_)))))
 intro aa dL
 refine zj Z Z Z (wT Z aa) Z Z (zj Z Z Z (wT Z aa) Z ao (bnK dL fun eA bC dM=>?_))
 have q:=cV.el (fun _=>rfl) (wAV bC)
 obtain ⟨eJ,eY,dd,dg⟩:=q
 refine rU Z (wT Z aa) (Za Z Z dd Z zB zC (wCh bC) (wCs bC)) (ZB Z Z Z (wT Z aa) (an.ldC (f:=0) dg (v:=jV eA) Z Z zJ Z) Z (zj Z Z Z (wT Z aa) Z ba (zj Z Z Z (wT Z aa) Z ao (bnK dM fun eB bD dN=>?_))))
 have cW:=da.le ay
 have q:=cW.el (fun _=>rfl) (wAV bD)
 obtain ⟨eK,eZ,de,dh⟩:=q
 refine rU Z (wT Z aa) (Za Z Z de Z zB zC (wCh bD) (wCs bD)) (ZB Z Z Z (wT Z aa) (an.ldC (f:=0) dh (v:=jV eB) Z Z zJ Z) Z (rU Z (wT Z aa) (zW Z Z Z) (oR Z (zT Z (ZZ aa.out) Z) (eN (ifc dN ?_ ?_)))))
 intro bm dO
 refine cT Z bm (rR (wGx (.fx 6 .nil .stop)) Z (oM Z a7 (oM Z a8 (bnK dO fun _ ax dP=>oR Z (ZE Z Z Z Z zB zC (wAS ax)) ?_))))
 have dG:=wBK (xs:=af) (wAS ax)
 refine ZB rfl rfl rfl rfl (an.ldR (j:=1) rfl rfl rfl rfl zJ (wAW (sz:=1) (fun _=>rfl) _ _ 0 _ dG (by first | omega | rfl | simp) rfl)) rfl (zY rfl rfl rfl rfl (fun _=>zX rfl rfl rfl) (zY rfl rfl rfl rfl (fun _=>ZE rfl rfl rfl rfl zB zC (wAS ax)) ?_))
 have dH:=wBK (xs:=af) (wAS ax)
 refine YO (j:=1) (vs:=[jV (w64 ((gd af ab) + 1))]) (cs':=hD KL.encI (nG af ab (w64 ((gd af ab) + 1)))) rfl rfl rfl rfl an rfl rfl rfl rfl rfl zC (by rw [wAB (f:=KL.encI) (sz:=1) (fun _=>rfl)];have hz:=wAS ax;show _ + 1 <= _;first | omega | (simp only [nL];omega) | (simp only [nK,nI,nJ];omega)) rfl (wDA (sz:=1) (fo:=0) (fun _=>rfl) _ _ _ _ dH (by first | omega | (simp only [nL];omega) | (simp only [nK,nI,nJ];omega)) (zA rfl) rfl) rfl ?_
 intro cz dn
 have dp:sW w U aq [.blk b2 28 B0,.row (some ⟨ag,0,none⟩) ac.length 3 1 (hD KL.encI (nG af ab (w64 ((gd af ab) + 1))))] cz:=dn
 refine zg (zf (zG (rR fL2 Z (oR Z (zr (zX Z av Z) (congrArg (jV) bJ.out)) (oM Z Z (zg ?_))))))
 cases dP
 exact zG ⟨rfl,⟨aq,rfl,ao,br,(nM (b:=(.slice (some ⟨ag,0,none⟩) af.length ac.length:Value)) (c:=(.slice (some ⟨ag,0,none⟩) ((nG af ab (w64 ((gd af ab) + 1))).length) ac.length:Value)) a7 (by simp only [nD])),a8,ba,bs,bt,bu,bb,bd,ay,dp,(nD.trans bB)⟩⟩
 intro bm dQ
 refine cF Z bm (ZT (zf (zG (rR fL2 Z (oR Z (zr (zX Z av Z) (congrArg (jV) bJ.out)) (oM Z Z (zg ?_)))))))
 cases dQ
 exact zG ⟨Z,⟨aq,Z,ao,br,a7,a8,ba,bs,bt,bu,bb,bd,ay,an,bB⟩⟩
 intro aa dR
 refine oF Z aa (oF Z aa (oF Z aa (oF Z aa (oF Z aa (oF Z aa (oF Z aa (oF Z aa (oF Z aa (oR Z (za Z (zt aa.out) Z) (eN (zn Z (ZT (zf (zG (rR fL2 Z (oR Z (zr (zX Z av Z) (congrArg (jV) bJ.out)) (oM Z Z (zg ?_))))))))))))))))))
 cases dR
 exact zG ⟨Z,⟨aq,Z,ao,br,a7,a8,ba,bs,bt,bu,bb,bd,ay,an,bB⟩⟩
 rintro fm eG ⟨ct,cR,cI,cJ,cK,eM,eO,cL,cM,cN,eQ,cO,eu,dq,cY⟩
 have cG:Hid (¬ ((↑(((↑x5.length:Int):Int) - 0).toNat:Int) < (↑x5.length:Int))):=zH (wAc)
 refine sR fL1 Z (oR Z (zW Z cR cO) (eN (zI (cF Z cG (ZJ (zd (zd (ZG (zf (zG (rR fL2 Z (oR Z (zr (zX Z cN Z) (congrArg (jV) cn.out)) (oM Z Z (zg ?_))))))))))))))
 cases dJ
 exact zG ⟨Z,⟨ct,Z,cI,cJ,cK,cL,cM,(bO.trans eu),dq,cY⟩⟩
 rintro fq eH ⟨cu,cS,eR,eS,cP,eT,cQ,eW,dr,eU⟩
 have cH:Hid (¬ ((↑(((↑x5.length:Int):Int) - 0).toNat:Int) < (↑x5.length:Int))):=zH (wAc)
 refine sR fL1 Z (oR Z (zW Z cS cQ) (eN (zI (cF Z cH (ZJ (zd (zd (ZG (zG (sR fL3 Z (oM Z cP (oA Z Z (oA Z Z (eN (zP ?_)))))))))))))))
 cases dY
 exact ⟨rfl,_,(wEr rfl rfl),cu,_,(dr.pick [1] _ (by decide) rfl),(some ⟨ag,0,none⟩),ac.length,rfl,rfl⟩
 intro bp dT
 refine zy (nF (bp.out)) (sR fL2 Z (oA Z Z (oA Z Z (eN (zP (zc (zR ?_)))))))
 have dt:=cm.nilrow 3 1
 cases dT
 exact ⟨rfl,_,(wEr rfl rfl),bh,_,(dt.pick [0] _ (by decide) rfl),none,0,rfl,rfl⟩
 intro bn dU
 refine cT Z bn (sR fL3 Z (oM Z Z (oA Z Z (oA Z Z (eN (zP (zc (zR ?_))))))))
 have du:=bH.nilrow 3 1
 cases dU
 exact ⟨rfl,_,(wEr rfl rfl),U9,_,(du.pick [0] _ (by decide) rfl),none,0,rfl,rfl⟩
set_option maxHeartbeats 4000000
theorem wEE  (w:World) (U:PHeap) (hS:St0 w U [])  {r:(List (List Bool))} (hm:wCW =some r):Gv Tryz.prog 36 [] w (wBD w [] U (fun U_ L_ v=>∃ (A0:Option Addr) (c0:Nat) (aq:List Value),v=.slice A0 r.length c0/\L_=[.row A0 c0 47 1 aq]/\RlL U_ wHL r aq)):=by
 unfold wCW at hm
 refine Gv.of Tryz.func36 Z Tryz.ntmps36 Tryz.results36 Z (sR fL1 Z (oA Z Z (eN (sR (.fx 0 (.fx 1 (.fx 2 (.fx 3 (.fx 4 (.fl 5 .nil) .stop) .stop) .stop) .stop) .stop) Z (zb (pv:=[(0,.bool true),(1,.bool false),(2,.bool true),(3,.bool true),(4,.bool true),(5,.bool true)]) (zs:=[.bool false,.bool false,.bool false,.bool false,.bool false,.bool false]) (cs:=[.bool true,.bool false,.bool true,.bool true,.bool true,.bool true]) Z Z Z Z Z (wAA Z (wAA Z (wAA Z (wAA Z (wAA Z (wAA Z wAI)))))) Ze yN yt Z Z Z Z Z hS ?_)))))
 intro W1 b2 bq
 let B0:Res:=.row (some ⟨b2,0,none⟩) 6 4 1 (hD KL.encT [true,false,true,true,true,true])
 have bx:sW w U U [B0] W1:=bq
 refine zb (pv:=[(0,.bool false),(1,.bool false),(2,.bool false),(3,.bool true),(4,.bool true),(5,.bool true),(6,.bool true),(7,.bool true)]) (zs:=[.bool false,.bool false,.bool false,.bool false,.bool false,.bool false,.bool false,.bool false]) (cs:=[.bool false,.bool false,.bool false,.bool true,.bool true,.bool true,.bool true,.bool true]) Z Z Z Z Z (wAA Z (wAA Z (wAA Z (wAA Z (wAA Z (wAA Z (wAA Z (wAA Z wAI)))))))) Ze yN yt Z Z Z Z Z bx ?_
 intro W6 b7 bA
 let B1:Res:=.row (some ⟨b7,0,none⟩) 8 4 1 (hD KL.encT [false,false,false,true,true,true,true,true])
 have bf:sW w U U [B1,B0] W6:=bA
 refine zb (pv:=[(0,.bool true),(1,.bool true),(2,.bool true),(3,.bool true),(4,.bool false),(5,.bool false),(6,.bool false),(7,.bool false)]) (zs:=[.bool false,.bool false,.bool false,.bool false,.bool false,.bool false,.bool false,.bool false]) (cs:=[.bool true,.bool true,.bool true,.bool true,.bool false,.bool false,.bool false,.bool false]) Z Z Z Z Z (wAA Z (wAA Z (wAA Z (wAA Z (wAA Z (wAA Z (wAA Z (wAA Z wAI)))))))) Ze yN yt Z Z Z Z Z bf ?_
 intro az aa bg
 let B2:Res:=.row (some ⟨aa,0,none⟩) 8 4 1 (hD KL.encT [true,true,true,true,false,false,false,false])
 have bh:sW w U U [B2,B1,B0] az:=bg
 refine zb (pv:=[(0,.bool false),(1,.bool true),(2,.bool true),(3,.bool true),(4,.bool true)]) (zs:=[.bool false,.bool false,.bool false,.bool false,.bool false]) (cs:=[.bool false,.bool true,.bool true,.bool true,.bool true]) Z Z Z Z Z (wAA Z (wAA Z (wAA Z (wAA Z (wAA Z wAI))))) Ze yN yt Z Z Z Z Z bh ?_
 intro O ab bi
 let B3:Res:=.row (some ⟨ab,0,none⟩) 5 4 1 (hD KL.encT [false,true,true,true,true])
 have bj:sW w U U [B3,B2,B1,B0] O:=bi
 have q:=bj.freezeR (k:=3) (n:=[true,false,true,true,true,true].length) rfl (wAB (f:=KL.encT) (sz:=1) (fun _=>rfl) [true,false,true,true,true,true]) (by decide)
 obtain ⟨av,bH,bC,bn⟩:=q
 have bp:sW w U av [B3,B2,B1] O:=bn
 have q:=bp.freezeR (k:=2) (n:=[false,false,false,true,true,true,true,true].length) rfl (wAB (f:=KL.encT) (sz:=1) (fun _=>rfl) [false,false,false,true,true,true,true,true]) (by decide)
 obtain ⟨aw,bG,bD,br⟩:=q
 have bs:sW w U aw [B3,B2] O:=br
 have q:=bs.freezeR (k:=1) (n:=[true,true,true,true,false,false,false,false].length) rfl (wAB (f:=KL.encT) (sz:=1) (fun _=>rfl) [true,true,true,true,false,false,false,false]) (by decide)
 obtain ⟨ax,au,bE,bt⟩:=q
 have bu:sW w U ax [B3] O:=bt
 have q:=bu.freezeR (k:=0) (n:=[false,true,true,true,true].length) rfl (wAB (f:=KL.encT) (sz:=1) (fun _=>rfl) [false,true,true,true,true]) (by decide)
 obtain ⟨ak,am,bF,bv⟩:=q
 have bw:sW w U ak [] O:=bv
 let B4:List Value:=[.slice (some ⟨b2,0,none⟩) 6 6,.slice (some ⟨b7,0,none⟩) 8 8,.slice (some ⟨aa,0,none⟩) 8 8,.slice (some ⟨ab,0,none⟩) 5 5]
 refine zb (pv:=[(0,.slice (some ⟨b2,0,none⟩) 6 6),(1,.slice (some ⟨b7,0,none⟩) 8 8),(2,.slice (some ⟨aa,0,none⟩) 8 8),(3,.slice (some ⟨ab,0,none⟩) 5 5)]) (zs:=[.slice none 0 0,.slice none 0 0,.slice none 0 0,.slice none 0 0]) (cs:=B4) Z Z Z Z Z (wAA Z (wAA Z (wAA Z (wAA Z wAI)))) Zo yM Tryz.zeroValue47 Z Z Z Z Z bw ?_
 intro aY ao bm
 have a7:=bE.le am
 have a8:=bD.le au
 have ba:=a8.le am
 have bb:=bC.le bG
 have bd:=bb.le au
 have be:=bd.le am
 have bB:RlL ak wHL [[true,false,true,true,true,true],[false,false,false,true,true,true,true,true],[true,true,true,true,false,false,false,false],[false,true,true,true,true]] B4:=(RlL.cons (R:=wHL) (x:=[true,false,true,true,true,true]) (vs:=[.slice (some ⟨b2,0,none⟩) 6 6]) ⟨(some ⟨b2,0,none⟩),6,rfl,be⟩ (RlL.cons (R:=wHL) (x:=[false,false,false,true,true,true,true,true]) (vs:=[.slice (some ⟨b7,0,none⟩) 8 8]) ⟨(some ⟨b7,0,none⟩),8,rfl,ba⟩ (RlL.cons (R:=wHL) (x:=[true,true,true,true,false,false,false,false]) (vs:=[.slice (some ⟨aa,0,none⟩) 8 8]) ⟨(some ⟨aa,0,none⟩),8,rfl,a7⟩ (RlL.cons (R:=wHL) (x:=[false,true,true,true,true]) (vs:=[.slice (some ⟨ab,0,none⟩) 5 5]) ⟨(some ⟨ab,0,none⟩),5,rfl,bF⟩ RlL.nil))))
 have bz:sW w U ak [.row (some ⟨ao,0,none⟩) 4 47 1 B4] aY:=bm
 refine oA Z Z (eN (zP ?_))
 cases hm
 exact ⟨Z,_,(zz Z),ak,_,bz,(some ⟨ao,0,none⟩),4,B4,Z,Z,bB⟩
theorem wDk  (w:World) (U:PHeap) (hS:St0 w U [])  {r:wAZ} (hm:wCT =some r):Gv Tryz.prog 38 [] w (wBD w [] U (fun U_ L_ v=>∃ (dx:Option Addr) (dJ:Nat) (dy:Option Addr) (dK:Nat) (dL:List Value),v=.agg #[.slice dx r.Rules.Classes.length dJ,jV r.Rules.Each,jV r.Rules.Laps,jV r.Rules.Spare,jV r.Rules.Loop,jV r.Rules.Unused,jV r.Start,.slice dy r.Teams.length dK]/\L_=[.row dx dJ 3 1 (hD KL.encI r.Rules.Classes),.row dy dK 43 3 dL]/\RlL U_ wHM r.Teams dL)):=by
 unfold wCT at hm
 refine Gv.of Tryz.func38 Z Tryz.ntmps38 Tryz.results38 Z (sR (.fx 0 .nil .stop) Z ?_)
 let B0:List Value:=[.slice none 0 0,jV 0,jV 0,jV 0,jV 0,jV 0,jV 0,.slice none 0 0]
 refine zm (cs:=B0) Z Z Z Z Z Ya Z hS ?_
 intro W1 b2 gN
 refine eN (sR gBk Z (bnK hm fun x5 h6 jN=>zM 0 Z Z Z Z (zK Z Z Tryz.call36 zO Z) gN (fun hs=>wEE W1 U hs h6) (.inr Z) ?_))
 rintro U8 L9 qH dI qd gE ⟨O,aa,fH,rfl,rfl,fM⟩
 have gF:sW w U U8 [.row O aa 47 1 fH,.blk b2 28 B0] dI:=gE
 refine oA Z Z (eN ?_)
 have q:=bnd jN
 obtain ⟨⟨dn,dp⟩,k5,dU⟩:=q
 try dsimp only at dU
 refine yd (fun σ_ w_=>∃ (U_:PHeap) (bu:Option Addr) (bD:Nat) (bv:Option Addr) (bE:Nat) (bW:List Value),σ_ 0=.pointer (some ⟨b2,0,none⟩)/\PHeap.Le U8 U_/\sW w U U_ [.row bu bD 3 1 (hD KL.encI dn),.row bv bE 43 3 bW,.blk b2 28 [.slice bu dn.length bD,jV 1,jV 2,jV 100,jV 250,jV 1200,jV 0,.slice bv dp.length bE]] w_/\RlL U_ wHM dp bW) ?_ ?_
 have q:=gF.freezeRR (R:=wHL) (k:=0) rfl fM rfl (by decide)
 obtain ⟨dD,lJ,cu,gQ⟩:=q
 have gS:sW w U dD [.blk b2 28 B0] dI:=gQ
 refine bnK k5 fun ae dQ jK=>bnK jK fun af dS jL=>bnK jL fun ac dN jM=>CK.webs (U0:=dD) (L0:=[.blk b2 28 B0]) ZD [⟨3,[3],[],false,fun σ R=>σ 3=.slice (some ⟨(bk (σ 3)),0,none⟩) 2 2/\R=[.row (some ⟨(bk (σ 3)),0,none⟩) 2 3 1 (hD KL.encI [0,1])]⟩,⟨4,[3,4],[0],true,fun σ R=>σ 4=.agg #[.slice (some ⟨(bk (σ 3)),0,none⟩) 2 2,jV 1,jV 2,jV 100,jV 250,jV 1200]/\R=[]⟩,⟨5,[5],[],false,fun σ R=>σ 5=.slice (some ⟨(bk (σ 5)),0,none⟩) 2 2/\R=[.row (some ⟨(bk (σ 5)),0,none⟩) 2 3 1 (hD KL.encI [0,1])]⟩,⟨6,[6],[],false,fun σ R=>σ 6=.slice (some ⟨(bk (σ 6)),0,none⟩) 2 2/\R=[.row (some ⟨(bk (σ 6)),0,none⟩) 2 3 1 (hD KL.encI [1000,1100])]⟩,⟨7,[7],[],true,fun σ R=>σ 7=.slice O x5.length aa/\R=[]⟩,⟨8,[8],[4],true,fun σ R=>σ 8=.slice (if aa=(0:Int).toNat then O else nA (·.add ((0:Int).toNat * 1)) O) ae.length (aa - (0:Int).toNat)/\R=[]⟩,⟨9,[6,9],[3,5],true,fun σ R=>σ 9=.agg #[jV 0,.slice (some ⟨(bk (σ 6)),0,none⟩) 2 2,.slice (if aa=(0:Int).toNat then O else nA (·.add ((0:Int).toNat * 1)) O) ae.length (aa - (0:Int).toNat)]/\R=[]⟩,⟨10,[10],[],false,fun σ R=>σ 10=.slice (some ⟨(bk (σ 10)),0,none⟩) 2 2/\R=[.row (some ⟨(bk (σ 10)),0,none⟩) 2 3 1 (hD KL.encI [900,950])]⟩,⟨11,[11],[],true,fun σ R=>σ 11=.slice O x5.length aa/\R=[]⟩,⟨12,[12],[8],true,fun σ R=>σ 12=.slice (if aa=(2:Int).toNat then O else nA (·.add ((2:Int).toNat * 1)) O) af.length (aa - (2:Int).toNat)/\R=[]⟩,⟨13,[10,13],[7,9],true,fun σ R=>σ 13=.agg #[jV 1,.slice (some ⟨(bk (σ 10)),0,none⟩) 2 2,.slice (if aa=(2:Int).toNat then O else nA (·.add ((2:Int).toNat * 1)) O) af.length (aa - (2:Int).toNat)]/\R=[]⟩,⟨14,[6,10,14],[3,6,7,10],false,fun σ R=>σ 14=.slice (some ⟨(bk (σ 14)),0,none⟩) 2 2/\R=[.row (some ⟨(bk (σ 14)),0,none⟩) 2 46 3 [jV 0,.slice (some ⟨(bk (σ 6)),0,none⟩) 2 2,.slice (if aa=(0:Int).toNat then O else nA (·.add ((0:Int).toNat * 1)) O) ae.length (aa - (0:Int).toNat),jV 1,.slice (some ⟨(bk (σ 10)),0,none⟩) 2 2,.slice (if aa=(2:Int).toNat then O else nA (·.add ((2:Int).toNat * 1)) O) af.length (aa - (2:Int).toNat)]]⟩,⟨15,[5,14,15],[2,11],true,fun σ R=>σ 15=.agg #[jV 7,.slice (some ⟨(bk (σ 5)),0,none⟩) 2 2,.slice (some ⟨(bk (σ 14)),0,none⟩) 2 2]/\R=[]⟩,⟨16,[16],[],false,fun σ R=>σ 16=.slice (some ⟨(bk (σ 16)),0,none⟩) 2 2/\R=[.row (some ⟨(bk (σ 16)),0,none⟩) 2 3 1 (hD KL.encI [1,0])]⟩,⟨17,[17],[],false,fun σ R=>σ 17=.slice (some ⟨(bk (σ 17)),0,none⟩) 2 2/\R=[.row (some ⟨(bk (σ 17)),0,none⟩) 2 3 1 (hD KL.encI [1000,1150])]⟩,⟨18,[18],[],false,fun σ R=>σ 18=.slice (some ⟨(bk (σ 18)),0,none⟩) 5 5/\R=[.row (some ⟨(bk (σ 18)),0,none⟩) 5 4 1 (hD KL.encT [true,true,true,true,true])]⟩,⟨19,[18,19],[15],false,fun σ R=>σ 19=.slice (some ⟨(bk (σ 19)),0,none⟩) 1 1/\R=[.row (some ⟨(bk (σ 19)),0,none⟩) 1 47 1 [.slice (some ⟨(bk (σ 18)),0,none⟩) 5 5]]⟩,⟨20,[17,19,20],[14,16],true,fun σ R=>σ 20=.agg #[jV 1,.slice (some ⟨(bk (σ 17)),0,none⟩) 2 2,.slice (some ⟨(bk (σ 19)),0,none⟩) 1 1]/\R=[]⟩,⟨21,[21],[],false,fun σ R=>σ 21=.slice (some ⟨(bk (σ 21)),0,none⟩) 2 2/\R=[.row (some ⟨(bk (σ 21)),0,none⟩) 2 3 1 (hD KL.encI [900,1500])]⟩,⟨22,[22],[],true,fun σ R=>σ 22=.slice O x5.length aa/\R=[]⟩,⟨23,[23],[19],true,fun σ R=>σ 23=.slice (if aa=(3:Int).toNat then O else nA (·.add ((3:Int).toNat * 1)) O) ac.length (aa - (3:Int).toNat)/\R=[]⟩,⟨24,[21,24],[18,20],true,fun σ R=>σ 24=.agg #[jV 0,.slice (some ⟨(bk (σ 21)),0,none⟩) 2 2,.slice (if aa=(3:Int).toNat then O else nA (·.add ((3:Int).toNat * 1)) O) ac.length (aa - (3:Int).toNat)]/\R=[]⟩,⟨25,[17,19,21,25],[14,16,17,18,21],false,fun σ R=>σ 25=.slice (some ⟨(bk (σ 25)),0,none⟩) 2 2/\R=[.row (some ⟨(bk (σ 25)),0,none⟩) 2 46 3 [jV 1,.slice (some ⟨(bk (σ 17)),0,none⟩) 2 2,.slice (some ⟨(bk (σ 19)),0,none⟩) 1 1,jV 0,.slice (some ⟨(bk (σ 21)),0,none⟩) 2 2,.slice (if aa=(3:Int).toNat then O else nA (·.add ((3:Int).toNat * 1)) O) ac.length (aa - (3:Int).toNat)]]⟩,⟨26,[16,25,26],[13,22],true,fun σ R=>σ 26=.agg #[jV 3,.slice (some ⟨(bk (σ 16)),0,none⟩) 2 2,.slice (some ⟨(bk (σ 25)),0,none⟩) 2 2]/\R=[]⟩,⟨27,[5,14,16,25,27],[2,11,12,13,22,23],false,fun σ R=>σ 27=.slice (some ⟨(bk (σ 27)),0,none⟩) 2 2/\R=[.row (some ⟨(bk (σ 27)),0,none⟩) 2 43 3 [jV 7,.slice (some ⟨(bk (σ 5)),0,none⟩) 2 2,.slice (some ⟨(bk (σ 14)),0,none⟩) 2 2,jV 3,.slice (some ⟨(bk (σ 16)),0,none⟩) 2 2,.slice (some ⟨(bk (σ 25)),0,none⟩) 2 2]]⟩,⟨28,[3,27,28],[0,1,24],true,fun σ R=>σ 28=.agg #[.slice (some ⟨(bk (σ 3)),0,none⟩) 2 2,jV 1,jV 2,jV 100,jV 250,jV 1200,jV 0,.slice (some ⟨(bk (σ 27)),0,none⟩) 2 2]/\R=[]⟩] [(0,.pointer (some ⟨b2,0,none⟩)),(1,.slice O x5.length aa)] (by kernel_rfl) ⟨rfl,rfl,trivial⟩ gS ⟨?_,?_,?_,?_,?_,?_,?_,?_,?_,?_,?_,?_,?_,?_,?_,?_,?_,?_,?_,?_,?_,?_,?_,?_,?_,?_,trivial⟩ ?_
 intro _ lR eW mC l7 jh qe pR gG k6
 obtain ⟨ow,ox,_⟩:=jh
 show OKS _ _ _ _ _ _ (.fx 0 .nil .stop) lR eW
 refine zb (pv:=[(0,jV 0),(1,jV 1)]) (zs:=[jV 0,jV 0]) (cs:=[jV 0,jV 1]) Z Z Z Z Z (wAA Z (wAA Z wAI)) zB zC zw Z Z Z Z Z gG ?_
 intro m6 oe gH
 exact k6 _ _ _ _ (zL _) gH ⟨Z,Z⟩
 intro _ bs eX mD l8 ji qf dg gI k8
 obtain ⟨oy,oz,_⟩:=ji
 replace dg:WbD _ [0] bs:=dg
 have q:=dg 0 (by decide)
 obtain ⟨_,cH,_⟩:=q
 replace cH:bs 3=.slice (some ⟨(bk (bs 3)),0,none⟩) 2 2:=cH
 show OKS _ _ _ _ _ _ (.fl 1 .nil) bs eX
 exact oR Z (zx (pv:=[(0,.slice (some ⟨(bk (bs 3)),0,none⟩) 2 2),(1,jV 1),(2,jV 2),(3,jV 100),(4,jV 250),(5,jV 1200)]) (z:=[.slice none 0 0,jV 0,jV 0,jV 0,jV 0,jV 0]) (cs:=[.slice (some ⟨(bk (bs 3)),0,none⟩) 2 2,jV 1,jV 2,jV 100,jV 250,jV 1200]) Z (wAA cH (wAA Z (wAA Z (wAA Z (wAA Z (wAA Z wAI)))))) Tryz.zeroValue25 wMi Z Z) (k8 _ _ _ [] (zL _) gI ⟨Z,Z⟩)
 intro _ lU eY mE ma jj qh pS gJ k9
 obtain ⟨oB,oC,_⟩:=jj
 show OKS _ _ _ _ _ _ (.fx 2 .nil .stop) lU eY
 refine zb (pv:=[(0,jV 0),(1,jV 1)]) (zs:=[jV 0,jV 0]) (cs:=[jV 0,jV 1]) Z Z Z Z Z (wAA Z (wAA Z wAI)) zB zC zw Z Z Z Z Z gJ ?_
 intro m7 og gK
 exact k9 _ _ _ _ (zL _) gK ⟨Z,Z⟩
 intro _ lV eZ mF mb jk qi pT gL lb
 obtain ⟨oD,oE,_⟩:=jk
 show OKS _ _ _ _ _ _ (.fx 3 .nil .stop) lV eZ
 refine zb (pv:=[(0,jV 1000),(1,jV 1100)]) (zs:=[jV 0,jV 0]) (cs:=[jV 1000,jV 1100]) Z Z Z Z Z (wAA Z (wAA Z wAI)) zB zC zw Z Z Z Z Z gL ?_
 intro m8 oh gM
 exact lb _ _ _ _ (zL _) gM ⟨Z,Z⟩
 intro _ lW e8 mG mc jl qj pU gO lc
 obtain ⟨oG,fI,_⟩:=jl
 show OKS _ _ _ _ _ _ (.fl 4 .nil) lW e8
 exact oM Z fI (lc _ _ _ [] (zL _) gO ⟨Z,Z⟩)
 intro _ du e9 mH md jm lK dh gP lf
 obtain ⟨oH,oI,_⟩:=jm
 replace dh:WbD _ [4] du:=dh
 have q:=dh 4 (by decide)
 obtain ⟨_,cI,_⟩:=q
 replace cI:du 7=.slice O x5.length aa:=cI
 show OKS _ _ _ _ _ _ (.fl 5 .nil) du e9
 have dO:=cu.le lK
 have q:=SlR.cutM (R:=wHL) dO dQ
 obtain ⟨qE,iY,jb,je,jO⟩:=q
 exact zY (v:=.slice (if aa=(0:Int).toNat then O else nA (·.add ((0:Int).toNat * 1)) O) ae.length (aa - (0:Int).toNat)) rfl rfl rfl rfl (fun _=>zr (Runs.slc (sz:=1) (a:=0) (b:=1) rfl cI (.inr ⟨rfl,rfl⟩) (.inl ⟨_,rfl,rfl⟩) Zo yM iY jb je (dO).cap) (by rw [jO])) (lf _ _ _ [] (zL _) gP ⟨rfl,rfl⟩)
 intro _ bd fb mI me jo qk cg gR lh
 obtain ⟨oJ,oK,_⟩:=jo
 replace cg:WbD _ [3,5] bd:=cg
 have q:=cg 3 (by decide)
 obtain ⟨_,cJ,_⟩:=q
 replace cJ:bd 6=.slice (some ⟨(bk (bd 6)),0,none⟩) 2 2:=cJ
 have q:=cg 5 (by decide)
 obtain ⟨_,cK,_⟩:=q
 replace cK:bd 8=.slice (if aa=(0:Int).toNat then O else nA (·.add ((0:Int).toNat * 1)) O) ae.length (aa - (0:Int).toNat):=cK
 show OKS _ _ _ _ _ _ (.fl 6 .nil) bd fb
 exact oR Z (zx (pv:=[(1,.slice (some ⟨(bk (bd 6)),0,none⟩) 2 2),(2,.slice (if aa=(0:Int).toNat then O else nA (·.add ((0:Int).toNat * 1)) O) ae.length (aa - (0:Int).toNat))]) (z:=[jV 0,.slice none 0 0,.slice none 0 0]) (cs:=[jV 0,.slice (some ⟨(bk (bd 6)),0,none⟩) 2 2,.slice (if aa=(0:Int).toNat then O else nA (·.add ((0:Int).toNat * 1)) O) ae.length (aa - (0:Int).toNat)]) Z (wAA cJ (wAA cK wAI)) Zj wGy Z Z) (lh _ _ _ [] (zL _) gR ⟨Z,Z⟩)
 intro _ lY fc mJ mf jp qm pV gT li
 obtain ⟨oO,oP,_⟩:=jp
 show OKS _ _ _ _ _ _ (.fx 7 .nil .stop) lY fc
 refine zb (pv:=[(0,jV 900),(1,jV 950)]) (zs:=[jV 0,jV 0]) (cs:=[jV 900,jV 950]) Z Z Z Z Z (wAA Z (wAA Z wAI)) zB zC zw Z Z Z Z Z gT ?_
 intro m9 oi gU
 exact li _ _ _ _ (zL _) gU ⟨Z,Z⟩
 intro _ lZ fd mK mg jq qn pY gV lj
 obtain ⟨oQ,fJ,_⟩:=jq
 show OKS _ _ _ _ _ _ (.fl 8 .nil) lZ fd
 exact oM Z fJ (lj _ _ _ [] (zL _) gV ⟨Z,Z⟩)
 intro _ dv ff mL mh jr lL di gW lk
 obtain ⟨oS,oU,_⟩:=jr
 replace di:WbD _ [8] dv:=di
 have q:=di 8 (by decide)
 obtain ⟨_,cL,_⟩:=q
 replace cL:dv 11=.slice O x5.length aa:=cL
 show OKS _ _ _ _ _ _ (.fl 9 .nil) dv ff
 have dP:=cu.le lL
 have q:=SlR.cutM (R:=wHL) dP dS
 obtain ⟨qF,iZ,jc,jf,jP⟩:=q
 exact zY (v:=.slice (if aa=(2:Int).toNat then O else nA (·.add ((2:Int).toNat * 1)) O) af.length (aa - (2:Int).toNat)) rfl rfl rfl rfl (fun _=>zr (Runs.slc (sz:=1) (a:=2) (b:=3) rfl cL (.inl ⟨_,rfl,rfl⟩) (.inl ⟨_,rfl,rfl⟩) Zo yM iZ jc jf (dP).cap) (by rw [jP])) (lk _ _ _ [] (zL _) gW ⟨rfl,rfl⟩)
 intro _ be fg mM mi jt qo ci gX ll
 obtain ⟨oV,oW,_⟩:=jt
 replace ci:WbD _ [7,9] be:=ci
 have q:=ci 7 (by decide)
 obtain ⟨_,cM,_⟩:=q
 replace cM:be 10=.slice (some ⟨(bk (be 10)),0,none⟩) 2 2:=cM
 have q:=ci 9 (by decide)
 obtain ⟨_,cN,_⟩:=q
 replace cN:be 12=.slice (if aa=(2:Int).toNat then O else nA (·.add ((2:Int).toNat * 1)) O) af.length (aa - (2:Int).toNat):=cN
 show OKS _ _ _ _ _ _ (.fl 10 .nil) be fg
 exact oR Z (zx (pv:=[(0,jV 1),(1,.slice (some ⟨(bk (be 10)),0,none⟩) 2 2),(2,.slice (if aa=(2:Int).toNat then O else nA (·.add ((2:Int).toNat * 1)) O) af.length (aa - (2:Int).toNat))]) (z:=[jV 0,.slice none 0 0,.slice none 0 0]) (cs:=[jV 1,.slice (some ⟨(bk (be 10)),0,none⟩) 2 2,.slice (if aa=(2:Int).toNat then O else nA (·.add ((2:Int).toNat * 1)) O) af.length (aa - (2:Int).toNat)]) Z (wAA Z (wAA cM (wAA cN wAI))) Zj wGy Z Z) (ll _ _ _ [] (zL _) gX ⟨Z,Z⟩)
 intro _ au fh mN mj ju qp cj gY lm
 obtain ⟨oX,oY,_⟩:=ju
 replace cj:WbD _ [3,6,7,10] au:=cj
 have q:=cj 6 (by decide)
 obtain ⟨_,cO,_⟩:=q
 replace cO:au 9=.agg #[jV 0,.slice (some ⟨(bk (au 6)),0,none⟩) 2 2,.slice (if aa=(0:Int).toNat then O else nA (·.add ((0:Int).toNat * 1)) O) ae.length (aa - (0:Int).toNat)]:=cO
 have q:=cj 10 (by decide)
 obtain ⟨_,cP,_⟩:=q
 replace cP:au 13=.agg #[jV 1,.slice (some ⟨(bk (au 10)),0,none⟩) 2 2,.slice (if aa=(2:Int).toNat then O else nA (·.add ((2:Int).toNat * 1)) O) af.length (aa - (2:Int).toNat)]:=cP
 show OKS _ _ _ _ _ _ (.fx 11 .nil .stop) au fh
 refine zb (pv:=[(0,.agg #[jV 0,.slice (some ⟨(bk (au 6)),0,none⟩) 2 2,.slice (if aa=(0:Int).toNat then O else nA (·.add ((0:Int).toNat * 1)) O) ae.length (aa - (0:Int).toNat)]),(1,.agg #[jV 1,.slice (some ⟨(bk (au 10)),0,none⟩) 2 2,.slice (if aa=(2:Int).toNat then O else nA (·.add ((2:Int).toNat * 1)) O) af.length (aa - (2:Int).toNat)])]) (zs:=[jV 0,.slice none 0 0,.slice none 0 0,jV 0,.slice none 0 0,.slice none 0 0]) (cs:=[jV 0,.slice (some ⟨(bk (au 6)),0,none⟩) 2 2,.slice (if aa=(0:Int).toNat then O else nA (·.add ((0:Int).toNat * 1)) O) ae.length (aa - (0:Int).toNat),jV 1,.slice (some ⟨(bk (au 10)),0,none⟩) 2 2,.slice (if aa=(2:Int).toNat then O else nA (·.add ((2:Int).toNat * 1)) O) af.length (aa - (2:Int).toNat)]) Z Z Z Z Z (wAA cO (wAA cP wAI)) Zh Zb Zj Z Z Z Z Z gY ?_
 intro n3 oj gZ
 exact lm _ _ _ _ (zL _) gZ ⟨Z,Z⟩
 intro _ av fj mO ml jv qq cm g8 lq
 obtain ⟨oZ,o0,_⟩:=jv
 replace cm:WbD _ [2,11] av:=cm
 have q:=cm 2 (by decide)
 obtain ⟨_,cQ,_⟩:=q
 replace cQ:av 5=.slice (some ⟨(bk (av 5)),0,none⟩) 2 2:=cQ
 have q:=cm 11 (by decide)
 obtain ⟨_,cR,_⟩:=q
 replace cR:av 14=.slice (some ⟨(bk (av 14)),0,none⟩) 2 2:=cR
 show OKS _ _ _ _ _ _ (.fl 12 .nil) av fj
 exact oR Z (zx (pv:=[(0,jV 7),(1,.slice (some ⟨(bk (av 5)),0,none⟩) 2 2),(2,.slice (some ⟨(bk (av 14)),0,none⟩) 2 2)]) (z:=[jV 0,.slice none 0 0,.slice none 0 0]) (cs:=[jV 7,.slice (some ⟨(bk (av 5)),0,none⟩) 2 2,.slice (some ⟨(bk (av 14)),0,none⟩) 2 2]) Z (wAA Z (wAA cQ (wAA cR wAI))) yG wKY Z Z) (lq _ _ _ [] (zL _) g8 ⟨Z,Z⟩)
 intro _ l0 fk mP mm jw qr pZ g9 lu
 obtain ⟨o3,o5,_⟩:=jw
 show OKS _ _ _ _ _ _ (.fx 13 .nil .stop) l0 fk
 refine zb (pv:=[(0,jV 1),(1,jV 0)]) (zs:=[jV 0,jV 0]) (cs:=[jV 1,jV 0]) Z Z Z Z Z (wAA Z (wAA Z wAI)) zB zC zw Z Z Z Z Z g9 ?_
 intro n4 ol ib
 exact lu _ _ _ _ (zL _) ib ⟨Z,Z⟩
 intro _ l3 fm mQ mn jx qs p6 ic lw
 obtain ⟨o6,o7,_⟩:=jx
 show OKS _ _ _ _ _ _ (.fx 14 .nil .stop) l3 fm
 refine zb (pv:=[(0,jV 1000),(1,jV 1150)]) (zs:=[jV 0,jV 0]) (cs:=[jV 1000,jV 1150]) Z Z Z Z Z (wAA Z (wAA Z wAI)) zB zC zw Z Z Z Z Z ic ?_
 intro n5 om ie
 exact lw _ _ _ _ (zL _) ie ⟨Z,Z⟩
 intro _ l4 fq mR mo jy qt p7 ig lx
 obtain ⟨o8,o9,_⟩:=jy
 show OKS _ _ _ _ _ _ (.fx 15 .nil .stop) l4 fq
 refine zb (pv:=[(0,.bool true),(1,.bool true),(2,.bool true),(3,.bool true),(4,.bool true)]) (zs:=[.bool false,.bool false,.bool false,.bool false,.bool false]) (cs:=[.bool true,.bool true,.bool true,.bool true,.bool true]) Z Z Z Z Z (wAA Z (wAA Z (wAA Z (wAA Z (wAA Z wAI))))) Ze yN yt Z Z Z Z Z ig ?_
 intro n7 oo ii
 exact lx _ _ _ _ (zL _) ii ⟨Z,Z⟩
 intro _ bt ft mS mp jz qu dl ij ly
 obtain ⟨pd,pe,_⟩:=jz
 replace dl:WbD _ [15] bt:=dl
 have q:=dl 15 (by decide)
 obtain ⟨_,cS,_⟩:=q
 replace cS:bt 18=.slice (some ⟨(bk (bt 18)),0,none⟩) 5 5:=cS
 show OKS _ _ _ _ _ _ (.fx 16 .nil .stop) bt ft
 refine zb (pv:=[(0,.slice (some ⟨(bk (bt 18)),0,none⟩) 5 5)]) (zs:=[.slice none 0 0]) (cs:=[.slice (some ⟨(bk (bt 18)),0,none⟩) 5 5]) Z Z Z Z Z (wAA cS wAI) Zo yM Tryz.zeroValue47 Z Z Z Z Z ij ?_
 intro n8 oq il
 exact ly _ _ _ _ (zL _) il ⟨Z,Z⟩
 intro _ aw fu mT mq jA qv cn im lz
 obtain ⟨pf,pg,_⟩:=jA
 replace cn:WbD _ [14,16] aw:=cn
 have q:=cn 14 (by decide)
 obtain ⟨_,cU,_⟩:=q
 replace cU:aw 17=.slice (some ⟨(bk (aw 17)),0,none⟩) 2 2:=cU
 have q:=cn 16 (by decide)
 obtain ⟨_,cV,_⟩:=q
 replace cV:aw 19=.slice (some ⟨(bk (aw 19)),0,none⟩) 1 1:=cV
 show OKS _ _ _ _ _ _ (.fl 17 .nil) aw fu
 exact oR Z (zx (pv:=[(0,jV 1),(1,.slice (some ⟨(bk (aw 17)),0,none⟩) 2 2),(2,.slice (some ⟨(bk (aw 19)),0,none⟩) 1 1)]) (z:=[jV 0,.slice none 0 0,.slice none 0 0]) (cs:=[jV 1,.slice (some ⟨(bk (aw 17)),0,none⟩) 2 2,.slice (some ⟨(bk (aw 19)),0,none⟩) 1 1]) Z (wAA Z (wAA cU (wAA cV wAI))) Zj wGy Z Z) (lz _ _ _ [] (zL _) im ⟨Z,Z⟩)
 intro _ l5 fw mU mr jB qw p8 io lB
 obtain ⟨ph,pj,_⟩:=jB
 show OKS _ _ _ _ _ _ (.fx 18 .nil .stop) l5 fw
 refine zb (pv:=[(0,jV 900),(1,jV 1500)]) (zs:=[jV 0,jV 0]) (cs:=[jV 900,jV 1500]) Z Z Z Z Z (wAA Z (wAA Z wAI)) zB zC zw Z Z Z Z Z io ?_
 intro n9 ot ip
 exact lB _ _ _ _ (zL _) ip ⟨Z,Z⟩
 intro _ l6 fy mV ms jC qx p9 iq lC
 obtain ⟨pn,fK,_⟩:=jC
 show OKS _ _ _ _ _ _ (.fl 19 .nil) l6 fy
 exact oM Z fK (lC _ _ _ [] (zL _) iq ⟨Z,Z⟩)
 intro _ dw fz mW mu jD lM dm ir lD
 obtain ⟨po,pp,_⟩:=jD
 replace dm:WbD _ [19] dw:=dm
 have q:=dm 19 (by decide)
 obtain ⟨_,cW,_⟩:=q
 replace cW:dw 22=.slice O x5.length aa:=cW
 show OKS _ _ _ _ _ _ (.fl 20 .nil) dw fz
 have dR:=cu.le lM
 have q:=SlR.cutM (R:=wHL) dR dN
 obtain ⟨qG,ja,jd,jg,jQ⟩:=q
 exact zY (v:=.slice (if aa=(3:Int).toNat then O else nA (·.add ((3:Int).toNat * 1)) O) ac.length (aa - (3:Int).toNat)) rfl rfl rfl rfl (fun _=>zr (Runs.slc (sz:=1) (a:=3) (b:=(↑(x5.length):Int)) rfl cW (.inl ⟨_,rfl,rfl⟩) (.inr ⟨rfl,rfl⟩) Zo yM ja jd jg (dR).cap) (by rw [jQ])) (lD _ _ _ [] (zL _) ir ⟨rfl,rfl⟩)
 intro _ bf fA mX mw jE qy co it lE
 obtain ⟨pq,pu,_⟩:=jE
 replace co:WbD _ [18,20] bf:=co
 have q:=co 18 (by decide)
 obtain ⟨_,cX,_⟩:=q
 replace cX:bf 21=.slice (some ⟨(bk (bf 21)),0,none⟩) 2 2:=cX
 have q:=co 20 (by decide)
 obtain ⟨_,cY,_⟩:=q
 replace cY:bf 23=.slice (if aa=(3:Int).toNat then O else nA (·.add ((3:Int).toNat * 1)) O) ac.length (aa - (3:Int).toNat):=cY
 show OKS _ _ _ _ _ _ (.fl 21 .nil) bf fA
 exact oR Z (zx (pv:=[(1,.slice (some ⟨(bk (bf 21)),0,none⟩) 2 2),(2,.slice (if aa=(3:Int).toNat then O else nA (·.add ((3:Int).toNat * 1)) O) ac.length (aa - (3:Int).toNat))]) (z:=[jV 0,.slice none 0 0,.slice none 0 0]) (cs:=[jV 0,.slice (some ⟨(bk (bf 21)),0,none⟩) 2 2,.slice (if aa=(3:Int).toNat then O else nA (·.add ((3:Int).toNat * 1)) O) ac.length (aa - (3:Int).toNat)]) Z (wAA cX (wAA cY wAI)) Zj wGy Z Z) (lE _ _ _ [] (zL _) it ⟨Z,Z⟩)
 intro _ ak fB mY mx jF qz cp iu lF
 obtain ⟨py,pz,_⟩:=jF
 replace cp:WbD _ [14,16,17,18,21] ak:=cp
 have q:=cp 17 (by decide)
 obtain ⟨_,cZ,_⟩:=q
 replace cZ:ak 20=.agg #[jV 1,.slice (some ⟨(bk (ak 17)),0,none⟩) 2 2,.slice (some ⟨(bk (ak 19)),0,none⟩) 1 1]:=cZ
 have q:=cp 21 (by decide)
 obtain ⟨_,c6,_⟩:=q
 replace c6:ak 24=.agg #[jV 0,.slice (some ⟨(bk (ak 21)),0,none⟩) 2 2,.slice (if aa=(3:Int).toNat then O else nA (·.add ((3:Int).toNat * 1)) O) ac.length (aa - (3:Int).toNat)]:=c6
 show OKS _ _ _ _ _ _ (.fx 22 .nil .stop) ak fB
 refine zb (pv:=[(0,.agg #[jV 1,.slice (some ⟨(bk (ak 17)),0,none⟩) 2 2,.slice (some ⟨(bk (ak 19)),0,none⟩) 1 1]),(1,.agg #[jV 0,.slice (some ⟨(bk (ak 21)),0,none⟩) 2 2,.slice (if aa=(3:Int).toNat then O else nA (·.add ((3:Int).toNat * 1)) O) ac.length (aa - (3:Int).toNat)])]) (zs:=[jV 0,.slice none 0 0,.slice none 0 0,jV 0,.slice none 0 0,.slice none 0 0]) (cs:=[jV 1,.slice (some ⟨(bk (ak 17)),0,none⟩) 2 2,.slice (some ⟨(bk (ak 19)),0,none⟩) 1 1,jV 0,.slice (some ⟨(bk (ak 21)),0,none⟩) 2 2,.slice (if aa=(3:Int).toNat then O else nA (·.add ((3:Int).toNat * 1)) O) ac.length (aa - (3:Int).toNat)]) Z Z Z Z Z (wAA cZ (wAA c6 wAI)) Zh Zb Zj Z Z Z Z Z iu ?_
 intro oa ou iv
 exact lF _ _ _ _ (zL _) iv ⟨Z,Z⟩
 intro _ ax fC mZ my jG qA cq iw lG
 obtain ⟨pB,pC,_⟩:=jG
 replace cq:WbD _ [13,22] ax:=cq
 have q:=cq 13 (by decide)
 obtain ⟨_,c8,_⟩:=q
 replace c8:ax 16=.slice (some ⟨(bk (ax 16)),0,none⟩) 2 2:=c8
 have q:=cq 22 (by decide)
 obtain ⟨_,c9,_⟩:=q
 replace c9:ax 25=.slice (some ⟨(bk (ax 25)),0,none⟩) 2 2:=c9
 show OKS _ _ _ _ _ _ (.fl 23 .nil) ax fC
 exact oR Z (zx (pv:=[(0,jV 3),(1,.slice (some ⟨(bk (ax 16)),0,none⟩) 2 2),(2,.slice (some ⟨(bk (ax 25)),0,none⟩) 2 2)]) (z:=[jV 0,.slice none 0 0,.slice none 0 0]) (cs:=[jV 3,.slice (some ⟨(bk (ax 16)),0,none⟩) 2 2,.slice (some ⟨(bk (ax 25)),0,none⟩) 2 2]) Z (wAA Z (wAA c8 (wAA c9 wAI))) yG wKY Z Z) (lG _ _ _ [] (zL _) iw ⟨Z,Z⟩)
 intro _ ai fD m4 mz jH qB cr iy lH
 obtain ⟨pD,pE,_⟩:=jH
 replace cr:WbD _ [2,11,12,13,22,23] ai:=cr
 have q:=cr 12 (by decide)
 obtain ⟨_,da,_⟩:=q
 replace da:ai 15=.agg #[jV 7,.slice (some ⟨(bk (ai 5)),0,none⟩) 2 2,.slice (some ⟨(bk (ai 14)),0,none⟩) 2 2]:=da
 have q:=cr 23 (by decide)
 obtain ⟨_,db,_⟩:=q
 replace db:ai 26=.agg #[jV 3,.slice (some ⟨(bk (ai 16)),0,none⟩) 2 2,.slice (some ⟨(bk (ai 25)),0,none⟩) 2 2]:=db
 show OKS _ _ _ _ _ _ (.fx 24 .nil .stop) ai fD
 refine zb (pv:=[(0,.agg #[jV 7,.slice (some ⟨(bk (ai 5)),0,none⟩) 2 2,.slice (some ⟨(bk (ai 14)),0,none⟩) 2 2]),(1,.agg #[jV 3,.slice (some ⟨(bk (ai 16)),0,none⟩) 2 2,.slice (some ⟨(bk (ai 25)),0,none⟩) 2 2])]) (zs:=[jV 0,.slice none 0 0,.slice none 0 0,jV 0,.slice none 0 0,.slice none 0 0]) (cs:=[jV 7,.slice (some ⟨(bk (ai 5)),0,none⟩) 2 2,.slice (some ⟨(bk (ai 14)),0,none⟩) 2 2,jV 3,.slice (some ⟨(bk (ai 16)),0,none⟩) 2 2,.slice (some ⟨(bk (ai 25)),0,none⟩) 2 2]) Z Z Z Z Z (wAA da (wAA db wAI)) ZW Zd yG Z Z Z Z Z iy ?_
 intro oc ov iz
 exact lH _ _ _ _ (zL _) iz ⟨Z,Z⟩
 intro _ ay fE m5 mA jI qC ct iA lI
 obtain ⟨pF,pG,_⟩:=jI
 replace ct:WbD _ [0,1,24] ay:=ct
 have q:=ct 1 (by decide)
 obtain ⟨_,dd,_⟩:=q
 replace dd:ay 4=.agg #[.slice (some ⟨(bk (ay 3)),0,none⟩) 2 2,jV 1,jV 2,jV 100,jV 250,jV 1200]:=dd
 have q:=ct 24 (by decide)
 obtain ⟨_,de,_⟩:=q
 replace de:ay 27=.slice (some ⟨(bk (ay 27)),0,none⟩) 2 2:=de
 show OKS _ _ _ _ _ _ (.fl 25 .nil) ay fE
 exact oR Z (zx (pv:=[(0,.agg #[.slice (some ⟨(bk (ay 3)),0,none⟩) 2 2,jV 1,jV 2,jV 100,jV 250,jV 1200]),(2,.slice (some ⟨(bk (ay 27)),0,none⟩) 2 2)]) (z:=B0) (cs:=[.slice (some ⟨(bk (ay 3)),0,none⟩) 2 2,jV 1,jV 2,jV 100,jV 250,jV 1200,jV 0,.slice (some ⟨(bk (ay 27)),0,none⟩) 2 2]) Z (wAA dd (wAA de wAI)) Ya wMj Z Z) (lI _ _ _ [] (zL _) iA ⟨Z,Z⟩)
 intro ab ao eK jJ dV
 obtain ⟨dM,pH,_⟩:=jJ
 intro dW bF
 replace bF:ab 3=.slice (some ⟨(bk (ab 3)),0,none⟩) 2 2/\dW=[.row (some ⟨(bk (ab 3)),0,none⟩) 2 3 1 (hD KL.encI [0,1])]:=bF
 obtain ⟨bF,rfl⟩:=bF
 intro dX bG
 replace bG:ab 4=.agg #[.slice (some ⟨(bk (ab 3)),0,none⟩) 2 2,jV 1,jV 2,jV 100,jV 250,jV 1200]/\dX=[]:=bG
 obtain ⟨bG,rfl⟩:=bG
 intro dY bH
 replace bH:ab 5=.slice (some ⟨(bk (ab 5)),0,none⟩) 2 2/\dY=[.row (some ⟨(bk (ab 5)),0,none⟩) 2 3 1 (hD KL.encI [0,1])]:=bH
 obtain ⟨bH,rfl⟩:=bH
 intro dZ bI
 replace bI:ab 6=.slice (some ⟨(bk (ab 6)),0,none⟩) 2 2/\dZ=[.row (some ⟨(bk (ab 6)),0,none⟩) 2 3 1 (hD KL.encI [1000,1100])]:=bI
 obtain ⟨bI,rfl⟩:=bI
 intro d7 bX
 replace bX:ab 7=.slice O x5.length aa/\d7=[]:=bX
 obtain ⟨bX,rfl⟩:=bX
 intro d8 bY
 replace bY:ab 8=.slice (if aa=(0:Int).toNat then O else nA (·.add ((0:Int).toNat * 1)) O) ae.length (aa - (0:Int).toNat)/\d8=[]:=bY
 obtain ⟨bY,rfl⟩:=bY
 intro d9 bJ
 replace bJ:ab 9=.agg #[jV 0,.slice (some ⟨(bk (ab 6)),0,none⟩) 2 2,.slice (if aa=(0:Int).toNat then O else nA (·.add ((0:Int).toNat * 1)) O) ae.length (aa - (0:Int).toNat)]/\d9=[]:=bJ
 obtain ⟨bJ,rfl⟩:=bJ
 intro eh bK
 replace bK:ab 10=.slice (some ⟨(bk (ab 10)),0,none⟩) 2 2/\eh=[.row (some ⟨(bk (ab 10)),0,none⟩) 2 3 1 (hD KL.encI [900,950])]:=bK
 obtain ⟨bK,rfl⟩:=bK
 intro ej bZ
 replace bZ:ab 11=.slice O x5.length aa/\ej=[]:=bZ
 obtain ⟨bZ,rfl⟩:=bZ
 intro eo ca
 replace ca:ab 12=.slice (if aa=(2:Int).toNat then O else nA (·.add ((2:Int).toNat * 1)) O) af.length (aa - (2:Int).toNat)/\eo=[]:=ca
 obtain ⟨ca,rfl⟩:=ca
 intro ep bL
 replace bL:ab 13=.agg #[jV 1,.slice (some ⟨(bk (ab 10)),0,none⟩) 2 2,.slice (if aa=(2:Int).toNat then O else nA (·.add ((2:Int).toNat * 1)) O) af.length (aa - (2:Int).toNat)]/\ep=[]:=bL
 obtain ⟨bL,rfl⟩:=bL
 intro er ba
 replace ba:ab 14=.slice (some ⟨(bk (ab 14)),0,none⟩) 2 2/\er=[.row (some ⟨(bk (ab 14)),0,none⟩) 2 46 3 [jV 0,.slice (some ⟨(bk (ab 6)),0,none⟩) 2 2,.slice (if aa=(0:Int).toNat then O else nA (·.add ((0:Int).toNat * 1)) O) ae.length (aa - (0:Int).toNat),jV 1,.slice (some ⟨(bk (ab 10)),0,none⟩) 2 2,.slice (if aa=(2:Int).toNat then O else nA (·.add ((2:Int).toNat * 1)) O) af.length (aa - (2:Int).toNat)]]:=ba
 obtain ⟨ba,rfl⟩:=ba
 intro eu bn
 replace bn:ab 15=.agg #[jV 7,.slice (some ⟨(bk (ab 5)),0,none⟩) 2 2,.slice (some ⟨(bk (ab 14)),0,none⟩) 2 2]/\eu=[]:=bn
 obtain ⟨bn,rfl⟩:=bn
 intro ew bM
 replace bM:ab 16=.slice (some ⟨(bk (ab 16)),0,none⟩) 2 2/\ew=[.row (some ⟨(bk (ab 16)),0,none⟩) 2 3 1 (hD KL.encI [1,0])]:=bM
 obtain ⟨bM,rfl⟩:=bM
 intro ey bN
 replace bN:ab 17=.slice (some ⟨(bk (ab 17)),0,none⟩) 2 2/\ey=[.row (some ⟨(bk (ab 17)),0,none⟩) 2 3 1 (hD KL.encI [1000,1150])]:=bN
 obtain ⟨bN,rfl⟩:=bN
 intro ez bO
 replace bO:ab 18=.slice (some ⟨(bk (ab 18)),0,none⟩) 5 5/\ez=[.row (some ⟨(bk (ab 18)),0,none⟩) 5 4 1 (hD KL.encT [true,true,true,true,true])]:=bO
 obtain ⟨bO,rfl⟩:=bO
 intro eA bp
 replace bp:ab 19=.slice (some ⟨(bk (ab 19)),0,none⟩) 1 1/\eA=[.row (some ⟨(bk (ab 19)),0,none⟩) 1 47 1 [.slice (some ⟨(bk (ab 18)),0,none⟩) 5 5]]:=bp
 obtain ⟨bp,rfl⟩:=bp
 intro eB bq
 replace bq:ab 20=.agg #[jV 1,.slice (some ⟨(bk (ab 17)),0,none⟩) 2 2,.slice (some ⟨(bk (ab 19)),0,none⟩) 1 1]/\eB=[]:=bq
 obtain ⟨bq,rfl⟩:=bq
 intro eC bP
 replace bP:ab 21=.slice (some ⟨(bk (ab 21)),0,none⟩) 2 2/\eC=[.row (some ⟨(bk (ab 21)),0,none⟩) 2 3 1 (hD KL.encI [900,1500])]:=bP
 obtain ⟨bP,rfl⟩:=bP
 intro eD cc
 replace cc:ab 22=.slice O x5.length aa/\eD=[]:=cc
 obtain ⟨cc,rfl⟩:=cc
 intro eE cd
 replace cd:ab 23=.slice (if aa=(3:Int).toNat then O else nA (·.add ((3:Int).toNat * 1)) O) ac.length (aa - (3:Int).toNat)/\eE=[]:=cd
 obtain ⟨cd,rfl⟩:=cd
 intro eF bQ
 replace bQ:ab 24=.agg #[jV 0,.slice (some ⟨(bk (ab 21)),0,none⟩) 2 2,.slice (if aa=(3:Int).toNat then O else nA (·.add ((3:Int).toNat * 1)) O) ac.length (aa - (3:Int).toNat)]/\eF=[]:=bQ
 obtain ⟨bQ,rfl⟩:=bQ
 intro eG a7
 replace a7:ab 25=.slice (some ⟨(bk (ab 25)),0,none⟩) 2 2/\eG=[.row (some ⟨(bk (ab 25)),0,none⟩) 2 46 3 [jV 1,.slice (some ⟨(bk (ab 17)),0,none⟩) 2 2,.slice (some ⟨(bk (ab 19)),0,none⟩) 1 1,jV 0,.slice (some ⟨(bk (ab 21)),0,none⟩) 2 2,.slice (if aa=(3:Int).toNat then O else nA (·.add ((3:Int).toNat * 1)) O) ac.length (aa - (3:Int).toNat)]]:=a7
 obtain ⟨a7,rfl⟩:=a7
 intro eH br
 replace br:ab 26=.agg #[jV 3,.slice (some ⟨(bk (ab 16)),0,none⟩) 2 2,.slice (some ⟨(bk (ab 25)),0,none⟩) 2 2]/\eH=[]:=br
 obtain ⟨br,rfl⟩:=br
 intro eI aY
 replace aY:ab 27=.slice (some ⟨(bk (ab 27)),0,none⟩) 2 2/\eI=[.row (some ⟨(bk (ab 27)),0,none⟩) 2 43 3 [jV 7,.slice (some ⟨(bk (ab 5)),0,none⟩) 2 2,.slice (some ⟨(bk (ab 14)),0,none⟩) 2 2,jV 3,.slice (some ⟨(bk (ab 16)),0,none⟩) 2 2,.slice (some ⟨(bk (ab 25)),0,none⟩) 2 2]]:=aY
 obtain ⟨aY,rfl⟩:=aY
 intro eJ bb
 replace bb:ab 28=.agg #[.slice (some ⟨(bk (ab 3)),0,none⟩) 2 2,jV 1,jV 2,jV 100,jV 250,jV 1200,jV 0,.slice (some ⟨(bk (ab 27)),0,none⟩) 2 2]/\eJ=[]:=bb
 obtain ⟨bb,rfl⟩:=bb
 intro aj
 simp only [List.nil_append,List.append_nil,List.cons_append] at aj
 generalize bk (ab 3)=cE at bF bG bb aj
 generalize bk (ab 5)=bh at bH bn aY aj
 generalize bk (ab 6)=bx at bI bJ ba aj
 generalize bk (ab 10)=bz at bK bL ba aj
 generalize bk (ab 14)=bi at ba bn aY aj
 generalize bk (ab 16)=bj at bM br aY aj
 generalize bk (ab 17)=bA at bN bq a7 aj
 generalize bk (ab 18)=bV at bO bp aj
 generalize bk (ab 19)=bB at bp bq a7 aj
 generalize bk (ab 21)=bC at bP bQ a7 aj
 generalize bk (ab 25)=bm at a7 br aY aj
 generalize bk (ab 27)=cG at aY bb aj
 let B1:Res:=.row (some ⟨bi,0,none⟩) 2 46 3 [jV 0,.slice (some ⟨bx,0,none⟩) 2 2,.slice (if aa=(0:Int).toNat then O else nA (·.add ((0:Int).toNat * 1)) O) ae.length (aa - (0:Int).toNat),jV 1,.slice (some ⟨bz,0,none⟩) 2 2,.slice (if aa=(2:Int).toNat then O else nA (·.add ((2:Int).toNat * 1)) O) af.length (aa - (2:Int).toNat)]
 let B2:Res:=.row (some ⟨bm,0,none⟩) 2 46 3 [jV 1,.slice (some ⟨bA,0,none⟩) 2 2,.slice (some ⟨bB,0,none⟩) 1 1,jV 0,.slice (some ⟨bC,0,none⟩) 2 2,.slice (if aa=(3:Int).toNat then O else nA (·.add ((3:Int).toNat * 1)) O) ac.length (aa - (3:Int).toNat)]
 let B3:Res:=.row (some ⟨cG,0,none⟩) 2 43 3 [jV 7,.slice (some ⟨bh,0,none⟩) 2 2,.slice (some ⟨bi,0,none⟩) 2 2,jV 3,.slice (some ⟨bj,0,none⟩) 2 2,.slice (some ⟨bm,0,none⟩) 2 2]
 let B4:Res:=.row (some ⟨cE,0,none⟩) 2 3 1 (hD KL.encI [0,1])
 let B5:Res:=.row (some ⟨bj,0,none⟩) 2 3 1 (hD KL.encI [1,0])
 let B6:Res:=.row (some ⟨bh,0,none⟩) 2 3 1 (hD KL.encI [0,1])
 let B7:Res:=.row (some ⟨bC,0,none⟩) 2 3 1 (hD KL.encI [900,1500])
 let B8:Res:=.row (some ⟨bB,0,none⟩) 1 47 1 [.slice (some ⟨bV,0,none⟩) 5 5]
 let B9:Res:=.row (some ⟨bA,0,none⟩) 2 3 1 (hD KL.encI [1000,1150])
 let cD:Res:=.row (some ⟨bV,0,none⟩) 5 4 1 (hD KL.encT [true,true,true,true,true])
 let dz:Res:=.row (some ⟨bz,0,none⟩) 2 3 1 (hD KL.encI [900,950])
 have iB:sW w U eK [B4,B6,.row (some ⟨bx,0,none⟩) 2 3 1 (hD KL.encI [1000,1100]),dz,B1,B5,B9,cD,B8,B7,B2,B3,.blk b2 28 B0] ao:=aj
 have df:=cu.le dV
 have q:=SlR.cutM (R:=wHL) df dQ
 obtain ⟨lN,pI,pL,pO,qa⟩:=q
 have q:=SlR.cutM (R:=wHL) df dS
 obtain ⟨lO,pJ,pM,pP,qb⟩:=q
 have q:=iB.freezeR (k:=2) (n:=[1000,1100].length) rfl (wAB (f:=KL.encI) (sz:=1) (fun _=>rfl) [1000,1100]) (by decide)
 obtain ⟨eM,cw,jW,iC⟩:=q
 have iD:sW w U eM [B4,B6,dz,B1,B5,B9,cD,B8,B7,B2,B3,.blk b2 28 B0] ao:=iC
 have q:=iD.freezeR (k:=2) (n:=[900,950].length) rfl (wAB (f:=KL.encI) (sz:=1) (fun _=>rfl) [900,950]) (by decide)
 obtain ⟨dE,bR,jX,iE⟩:=q
 have iF:sW w U dE [B4,B6,B1,B5,B9,cD,B8,B7,B2,B3,.blk b2 28 B0] ao:=iE
 have fO:=lO.le cw
 have fP:=fO.le bR
 have fQ:=jW.le bR
 have fR:=lN.le cw
 have fS:=fR.le bR
 have jR:RlL dE wHD [(⟨0,[1000,1100],ae⟩:wAM),(⟨1,[900,950],af⟩:wAM)] [jV 0,.slice (some ⟨bx,0,none⟩) 2 2,.slice (if aa=(0:Int).toNat then O else nA (·.add ((0:Int).toNat * 1)) O) ae.length (aa - (0:Int).toNat),jV 1,.slice (some ⟨bz,0,none⟩) 2 2,.slice (if aa=(2:Int).toNat then O else nA (·.add ((2:Int).toNat * 1)) O) af.length (aa - (2:Int).toNat)]:=(RlL.cons (R:=wHD) (x:=(⟨0,[1000,1100],ae⟩:wAM)) (vs:=[jV 0,.slice (some ⟨bx,0,none⟩) 2 2,.slice (if aa=(0:Int).toNat then O else nA (·.add ((0:Int).toNat * 1)) O) ae.length (aa - (0:Int).toNat)]) ⟨(some ⟨bx,0,none⟩),2,(if aa=(0:Int).toNat then O else nA (·.add ((0:Int).toNat * 1)) O),(aa - (0:Int).toNat),rfl,fQ,fS⟩ (RlL.cons (R:=wHD) (x:=(⟨1,[900,950],af⟩:wAM)) (vs:=[jV 1,.slice (some ⟨bz,0,none⟩) 2 2,.slice (if aa=(2:Int).toNat then O else nA (·.add ((2:Int).toNat * 1)) O) af.length (aa - (2:Int).toNat)]) ⟨(some ⟨bz,0,none⟩),2,(if aa=(2:Int).toNat then O else nA (·.add ((2:Int).toNat * 1)) O),(aa - (2:Int).toNat),rfl,jX,fP⟩ RlL.nil))
 have q:=iF.freezeR (k:=5) (n:=[true,true,true,true,true].length) rfl (wAB (f:=KL.encT) (sz:=1) (fun _=>rfl) [true,true,true,true,true]) (by decide)
 obtain ⟨dF,dq,jY,iG⟩:=q
 have iH:sW w U dF [B4,B6,B1,B5,B9,B8,B7,B2,B3,.blk b2 28 B0] ao:=iG
 let dA:List Value:=[.slice (some ⟨bV,0,none⟩) 5 5]
 have jS:RlL dF wHL [[true,true,true,true,true]] dA:=(RlL.cons (R:=wHL) (x:=[true,true,true,true,true]) (vs:=dA) ⟨(some ⟨bV,0,none⟩),5,rfl,jY⟩ RlL.nil)
 have fT:=df.le cw
 have fU:=fT.le bR
 have fV:=fU.le dq
 have q:=SlR.cutM (R:=wHL) fV dN
 obtain ⟨lQ,pK,pN,pQ,qc⟩:=q
 have q:=iH.freezeR (k:=4) (n:=[1000,1150].length) rfl (wAB (f:=KL.encI) (sz:=1) (fun _=>rfl) [1000,1150]) (by decide)
 obtain ⟨eO,cy,jZ,iI⟩:=q
 have iJ:sW w U eO [B4,B6,B1,B5,B8,B7,B2,B3,.blk b2 28 B0] ao:=iI
 have fW:=jS.le cy
 have q:=iJ.freezeRR (R:=wHL) (k:=4) rfl fW rfl (by decide)
 obtain ⟨eQ,cz,j0,iK⟩:=q
 have iL:sW w U eQ [B4,B6,B1,B5,B7,B2,B3,.blk b2 28 B0] ao:=iK
 have q:=iL.freezeR (k:=4) (n:=[900,1500].length) rfl (wAB (f:=KL.encI) (sz:=1) (fun _=>rfl) [900,1500]) (by decide)
 obtain ⟨dG,bS,j5,iM⟩:=q
 have iN:sW w U dG [B4,B6,B1,B5,B2,B3,.blk b2 28 B0] ao:=iM
 have fY:=lQ.le cy
 have fZ:=fY.le cz
 have gb:=fZ.le bS
 have ge:=jZ.le cz
 have gf:=ge.le bS
 have gg:=j0.le bS
 have jT:RlL dG wHD [(⟨1,[1000,1150],[[true,true,true,true,true]]⟩:wAM),(⟨0,[900,1500],ac⟩:wAM)] [jV 1,.slice (some ⟨bA,0,none⟩) 2 2,.slice (some ⟨bB,0,none⟩) 1 1,jV 0,.slice (some ⟨bC,0,none⟩) 2 2,.slice (if aa=(3:Int).toNat then O else nA (·.add ((3:Int).toNat * 1)) O) ac.length (aa - (3:Int).toNat)]:=(RlL.cons (R:=wHD) (x:=(⟨1,[1000,1150],[[true,true,true,true,true]]⟩:wAM)) (vs:=[jV 1,.slice (some ⟨bA,0,none⟩) 2 2,.slice (some ⟨bB,0,none⟩) 1 1]) ⟨(some ⟨bA,0,none⟩),2,(some ⟨bB,0,none⟩),1,rfl,gf,gg⟩ (RlL.cons (R:=wHD) (x:=(⟨0,[900,1500],ac⟩:wAM)) (vs:=[jV 0,.slice (some ⟨bC,0,none⟩) 2 2,.slice (if aa=(3:Int).toNat then O else nA (·.add ((3:Int).toNat * 1)) O) ac.length (aa - (3:Int).toNat)]) ⟨(some ⟨bC,0,none⟩),2,(if aa=(3:Int).toNat then O else nA (·.add ((3:Int).toNat * 1)) O),(aa - (3:Int).toNat),rfl,j5,gb⟩ RlL.nil))
 have q:=iN.freezeR (k:=1) (n:=[0,1].length) rfl (wAB (f:=KL.encI) (sz:=1) (fun _=>rfl) [0,1]) (by decide)
 obtain ⟨eR,dr,j6,iO⟩:=q
 have iP:sW w U eR [B4,B1,B5,B2,B3,.blk b2 28 B0] ao:=iO
 have gh:=jR.le dq
 have gi:=gh.le cy
 have gj:=gi.le cz
 have gm:=gj.le bS
 have gq:=gm.le dr
 have q:=iP.freezeRR (R:=wHD) (k:=1) rfl gq rfl (by decide)
 obtain ⟨eS,dt,j7,iQ⟩:=q
 have iR:sW w U eS [B4,B5,B2,B3,.blk b2 28 B0] ao:=iQ
 have q:=iR.freezeR (k:=1) (n:=[1,0].length) rfl (wAB (f:=KL.encI) (sz:=1) (fun _=>rfl) [1,0]) (by decide)
 obtain ⟨eT,cA,j8,iS⟩:=q
 have iT:sW w U eT [B4,B2,B3,.blk b2 28 B0] ao:=iS
 have gu:=jT.le dr
 have gv:=gu.le dt
 have gw:=gv.le cA
 have q:=iT.freezeRR (R:=wHD) (k:=1) rfl gw rfl (by decide)
 obtain ⟨bU,cC,j9,iU⟩:=q
 have iV:sW w U bU [B4,B3,.blk b2 28 B0] ao:=iU
 have gx:=j8.le cC
 have gy:=j6.le dt
 have gz:=gy.le cA
 have gA:=gz.le cC
 have gB:=j7.le cA
 have gC:=gB.le cC
 have jU:RlL bU wHM [(⟨7,[0,1],[(⟨0,[1000,1100],ae⟩:wAM),(⟨1,[900,950],af⟩:wAM)]⟩:wAN),(⟨3,[1,0],[(⟨1,[1000,1150],[[true,true,true,true,true]]⟩:wAM),(⟨0,[900,1500],ac⟩:wAM)]⟩:wAN)] [jV 7,.slice (some ⟨bh,0,none⟩) 2 2,.slice (some ⟨bi,0,none⟩) 2 2,jV 3,.slice (some ⟨bj,0,none⟩) 2 2,.slice (some ⟨bm,0,none⟩) 2 2]:=(RlL.cons (R:=wHM) (x:=(⟨7,[0,1],[(⟨0,[1000,1100],ae⟩:wAM),(⟨1,[900,950],af⟩:wAM)]⟩:wAN)) (vs:=[jV 7,.slice (some ⟨bh,0,none⟩) 2 2,.slice (some ⟨bi,0,none⟩) 2 2]) ⟨(some ⟨bh,0,none⟩),2,(some ⟨bi,0,none⟩),2,rfl,gA,gC⟩ (RlL.cons (R:=wHM) (x:=(⟨3,[1,0],[(⟨1,[1000,1150],[[true,true,true,true,true]]⟩:wAM),(⟨0,[900,1500],ac⟩:wAM)]⟩:wAN)) (vs:=[jV 3,.slice (some ⟨bj,0,none⟩) 2 2,.slice (some ⟨bm,0,none⟩) 2 2]) ⟨(some ⟨bj,0,none⟩),2,(some ⟨bm,0,none⟩),2,rfl,gx,j9⟩ RlL.nil))
 show OKS _ _ _ _ _ _ (.fx 26 .nil .stop) ab ao
 let dB:List Value:=[.slice (some ⟨cE,0,none⟩) 2 2,jV 1,jV 2,jV 100,jV 250,jV 1200,jV 0,.slice (some ⟨cG,0,none⟩) 2 2]
 refine zh (j:=2) (vs:=dB) Z Z Z Z iV Z dM bb Z Zk (zA Z) Z Z Z ?_
 intro fG iW
 have iX:sW w U bU [B4,B3,.blk b2 28 dB] fG:=iW
 refine zg ?_
 cases jM
 exact zG ⟨Z,⟨bU,(some ⟨cE,0,none⟩),2,(some ⟨cG,0,none⟩),2,[jV 7,.slice (some ⟨bh,0,none⟩) 2 2,.slice (some ⟨bi,0,none⟩) 2 2,jV 3,.slice (some ⟨bj,0,none⟩) 2 2,.slice (some ⟨bm,0,none⟩) 2 2],dM,(((((((((((lJ.trans dV).trans cw).trans bR).trans dq).trans cy).trans cz).trans bS).trans dr).trans dt).trans cA).trans cC),iX,jU⟩⟩
 rintro qI od ⟨eU,bu,bD,bv,bE,bW,fL,qD,dT,gD⟩
 refine zP ?_
 cases dU
 let dC:List Value:=[.slice bu dn.length bD,jV 1,jV 2,jV 100,jV 250,jV 1200,jV 0,.slice bv dp.length bE]
 exact ⟨rfl,_,(wFz (v:=.agg dC.toArray) ⟨⟨_,fL,(wBL ya Zk (dT.blkAt (k:=2) rfl) (vs:=dC) rfl rfl)⟩,trivial⟩),eU,_,(dT.pick [0,1] _ (by decide) rfl),bu,bD,bv,bE,bW,rfl,rfl,gD⟩
set_option maxHeartbeats 4000000
theorem wIU (p0:Int) (p1:Int) (p2:Int) (w:World) (U:PHeap) (hS:St0 w U [])  {r:Bool} (hm:wGG p0 p1 p2=some r):Gv Tryz.prog 81 [jV p0,jV p1,jV p2] w (wBD w [] U (fun U_ L_ v=>v=.bool r/\L_=[])):=by
 unfold wGG at hm
 refine Gv.of Tryz.func81 Z Tryz.ntmps81 Tryz.results81 Z (sR fL1 Z (oA Z Z (eN (sR fL9 Z (oM Z Z (oM Z Z (oR Z (YJ Z Z Z) (oM Z Z ?_))))))))
 by_cases O:p1 <= p0
 have aa:=hm;rw [if_pos O] at aa;replace O:=zH O
 refine zj Z Z Z (wT Z O) Z Z (zj Z Z Z (wT Z O) Z Z (rU Z (wT Z O) (Runs.leq Z Z Z) (oR Z (zT Z (ZZ O.out) Z) (oA Z Z (eN (zP ?_))))))
 first | (obtain rfl:=nB aa) | cases aa
 exact ⟨Z,_,(zz Z),U,_,hS,Z,Z⟩
 have ae:=hm;rw [if_neg O] at ae;replace O:=zH O
 refine oF Z O (oF Z O (oF Z O (oR Z (za Z (zt O.out) Z) (oA Z Z (eN (zP ?_))))))
 have hE:=nB ae;first | subst r | cases hE
 exact ⟨Z,_,(zz Z),U,_,hS,Z,Z⟩
theorem wHX (p0:List Int) (ab:Option Addr) (ag:Nat) (O:wAk) (af:Nat) (ac:Option Addr) (ah:Nat) (ae:Option Addr) (ai:Nat) (w:World) (U:PHeap) (hS:St0 w U []) (ak:Sl U 1 ab ag p0.length (hD KL.encI p0)) (aj:Cl U af 0 [jV O.Laps,.slice ac O.Bibs.length ah,.slice ae O.Times.length ai]) (am:Sl U 1 ac ah O.Bibs.length (hD KL.encI O.Bibs)) (an:SlR U wDl ae ai O.Times) {r:Bool} (hm:wCj p0 O=some r):Gv Tryz.prog 83 [.slice ab p0.length ag,.pointer (some ⟨af,0,none⟩)] w (wBD w [] U (fun U_ L_ v=>v=.bool r/\L_=[])):=by
 unfold wCj at hm
 refine Gv.of Tryz.func83 Z Tryz.ntmps83 Tryz.results83 Z (sR fL1 Z (oA Z Z (eN (sR fL6 Z (oM Z Z (oR Z (ze Z Z zB) (oR Z (zF Z Z ZS Z zC) (oL Z (hS.ldC (f:=0) aj (v:=jV O.Laps) Z Z zJ Z) (oR Z (Runs.leq Z Z Z) (oA Z Z (eN (zP ?_))))))))))))
 first | (obtain rfl:=nB hm) | cases hm
 exact ⟨Z,_,(zz Z),U,_,hS,Z,Z⟩
theorem wGj (O:List (List Int)) (ak:Option Addr) (an:Nat) (p1:((List Int)->Option Bool)) (ap:Value) (w:World) (U:PHeap) (hS:St0 w U []) (bt:SlR U wDl ak an O) (bu:FnOK Tryz.prog U ap wJm wJn p1) {r:Bool} (hm:wEX O p1=some r):Gv Tryz.prog 82 [.slice ak O.length an,ap] w (wBD w [] U (fun U_ L_ v=>v=.bool r/\L_=[])):=by
 unfold wEX at hm
 refine Gv.of Tryz.func82 Z Tryz.ntmps82 Tryz.results82 Z (sR fL1 Z (oA Z Z (eN (zI (sR fL3 Z (oM Z Z (oR Z (ze Z Z zu) (oM Z Z (eN (zU ?_))))))))))
 have q:=wBJ hm
 obtain ⟨r3,ag⟩:=q
 have q:=wBI ag
 obtain ⟨ai,bx⟩:=q
 replace ai:=zH ai
 refine yB (fun k2 _ σ_ w_=>∃ (U_:PHeap),σ_ 9=jV (↑k2:Int)/\σ_ 1=ap/\σ_ 7=.slice ak O.length an/\σ_ 8=jV (↑O.length:Int)/\PHeap.Le U U_/\sW w U U_ [] w_) bx ?_ ?_ ?_
 exact ⟨U,Z,Z,Z,Z,(zL _),hS⟩
 rintro k2 ⟨⟩ bT bV W8 ah ⟨ba,ae,av,aw,ax,aj,az⟩ a7 bv
 try dsimp only at a7
 have au:Hid ((↑k2:Int) < (↑O.length:Int)):=zH (wAj ah)
 replace ah:=zH ah
 have bz:Hid (w64 ((↑k2:Int) + 1)=(↑(k2 + 1):Int)):=zH (by have h1:=ai.out;have h2:=au.out;rw [wAX] <;> omega)
 refine sR fL1 Z (oR Z (zW Z ae ax) (eN (zI (cT Z au (kN (zI (zU (sR fL3 Z (bnK a7 fun aq ay bA=>?_)))))))))
 have bj:=bt.le aj
 have q:=bj.el (wAV ay)
 obtain ⟨be,bH,bR,bq,af,bF⟩:=q
 obtain ⟨am,ao,rfl,bm⟩:=bF
 replace af:Cl ba be (bH + k2 * 1) [.slice am aq.length ao]:=af
 refine oR Z (ZE Z aw bq ae zu zS (wAq ay)) (oL Z (az.ldC (f:=0) af (v:=.slice am aq.length ao) Z Z zZ Z) (oA Z Z (eN (sR gBu Z (oM Z av (oM Z Z (bnK bA fun bS bn bB=>?_)))))))
 have bp:=bu.le aj
 refine yg (a:=aq) Z Z Z Z Z Z (zD Z zO) az bp ⟨am,ao,Z,bm⟩ bn ?_
 rintro ab bJ bQ bd bG br ⟨rfl,rfl⟩
 have aY:sW w U ab [] bd:=br
 refine oR Z (ZF Z Z) (eN (ifc bB ?_ ?_))
 intro ac bC
 refine zn (nC ac.out) (ZT (zf (zG (rR fL2 Z (oR Z (zr (zX Z ae Z) (congrArg (jV) bz.out)) (oM Z Z (zg ?_)))))))
 have q:=nB bC
 obtain rfl:=q
 exact zG ⟨Z,_,Z,⟨ab,Z,av,aw,ax,(aj.trans bG),aY⟩⟩
 intro ac bD
 refine zy (nF (ac.out)) (sR fL1 Z (oA Z Z (eN (zP (zc (zR ?_))))))
 have q:=wAb bD
 obtain ⟨bI,bE,bg⟩:=q
 have q:=wBC hm ag (bv bI bg)
 obtain rfl:=q
 refine zR (zc (zR ?_))
 have hE:=nB bE;first | subst r | cases hE
 exact ⟨Z,_,(zz Z),ab,_,aY,Z,Z⟩
 rintro ⟨⟩ bU bK ⟨bb,bi,bM,bN,bh,bO,bs⟩ bw
 have aZ:=wCI hm ag bw
 try dsimp only at aZ
 have bf:Hid (¬ ((↑(((↑O.length:Int):Int) - 0).toNat:Int) < (↑O.length:Int))):=zH (wAc)
 refine sR fL1 Z (oR Z (zW Z bi bh) (eN (zI (cF Z bf (ZJ (zd (zd (ZG (zG (sR fL1 Z (oA Z Z (eN (zP ?_)))))))))))))
 have hE:=nB aZ;first | subst r | cases hE
 exact ⟨Z,_,(zz Z),bb,_,bs,Z,Z⟩
theorem wFx (O:List Int) (aj:Option Addr) (ak:Nat) (p1:(Int->Option Bool)) (am:Value) (w:World) (U:PHeap) (hS:St0 w U []) (bn:Sl U 1 aj ak O.length (hD KL.encI O)) (bp:FnOK Tryz.prog U am wKm wLg p1) {r:Bool} (hm:wDj O p1=some r):Gv Tryz.prog 84 [.slice aj O.length ak,am] w (wBD w [] U (fun U_ L_ v=>v=.bool r/\L_=[])):=by
 unfold wDj at hm
 refine Gv.of Tryz.func84 Z Tryz.ntmps84 Tryz.results84 Z (sR fL1 Z (oA Z Z (eN (zI (sR fL3 Z (oM Z Z (oR Z (ze Z Z zB) (oM Z Z (eN (zU ?_))))))))))
 have q:=wBJ hm
 obtain ⟨r3,af⟩:=q
 have q:=wBI af
 obtain ⟨ah,bs⟩:=q
 replace ah:=zH ah
 refine yB (fun k2 _ σ_ w_=>∃ (U_:PHeap),σ_ 9=jV (↑k2:Int)/\σ_ 1=am/\σ_ 7=.slice aj O.length ak/\σ_ 8=jV (↑O.length:Int)/\PHeap.Le U U_/\sW w U U_ [] w_) bs ?_ ?_ ?_
 exact ⟨U,Z,Z,Z,Z,(zL _),hS⟩
 rintro k2 ⟨⟩ bO bQ W8 ag ⟨bD,ae,ao,ap,aq,ai,av⟩ ay bq
 try dsimp only at ay
 have an:Hid ((↑k2:Int) < (↑O.length:Int)):=zH (wAj ag)
 replace ag:=zH ag
 have bt:Hid (w64 ((↑k2:Int) + 1)=(↑(k2 + 1):Int)):=zH (by have h1:=ah.out;have h2:=an.out;rw [wAX] <;> omega)
 refine sR fL1 Z (oR Z (zW Z ae aq) (eN (zI (cT Z an (kN (zI (zU (sR fL3 Z (bnK ay fun aY au bu=>?_)))))))))
 have be:=bn.le ai
 have q:=be.el (fun _=>rfl) (wAV au)
 obtain ⟨bG,bK,bh,bi⟩:=q
 refine oR Z (ZE Z ap bh ae zB zC (wAq au)) (oL Z (av.ldC (f:=0) bi (v:=jV aY) Z Z zJ Z) (oA Z Z (eN (sR gBu Z (oM Z ao (oM Z Z (bnK bu fun bN bf bv=>?_)))))))
 have bg:=bp.le ai
 refine yg (a:=aY) Z Z Z Z Z Z (zD Z zO) av bg Z bf ?_
 rintro ab bC bM a7 bA bj ⟨rfl,rfl⟩
 have aw:sW w U ab [] a7:=bj
 refine oR Z (ZF Z Z) (eN (ifc bv ?_ ?_))
 intro ac bw
 refine zn (nC ac.out) (ZT (zf (zG (rR fL2 Z (oR Z (zr (zX Z ae Z) (congrArg (jV) bt.out)) (oM Z Z (zg ?_)))))))
 have q:=nB bw
 obtain rfl:=q
 exact zG ⟨Z,_,Z,⟨ab,Z,ao,ap,aq,(ai.trans bA),aw⟩⟩
 intro ac bx
 refine zy (nF (ac.out)) (sR fL1 Z (oA Z Z (eN (zP (zc (zR ?_))))))
 have q:=wAb bx
 obtain ⟨bB,bz,ba⟩:=q
 have q:=wBC hm af (bq bB ba)
 obtain rfl:=q
 refine zR (zc (zR ?_))
 have hE:=nB bz;first | subst r | cases hE
 exact ⟨Z,_,(zz Z),ab,_,aw,Z,Z⟩
 rintro ⟨⟩ bP bE ⟨aZ,bd,bH,bI,bb,bJ,bm⟩ br
 have ax:=wCI hm af br
 try dsimp only at ax
 have a8:Hid (¬ ((↑(((↑O.length:Int):Int) - 0).toNat:Int) < (↑O.length:Int))):=zH (wAc)
 refine sR fL1 Z (oR Z (zW Z bd bb) (eN (zI (cF Z a8 (ZJ (zd (zd (ZG (zG (sR fL1 Z (oA Z Z (eN (zP ?_)))))))))))))
 have hE:=nB ax;first | subst r | cases hE
 exact ⟨Z,_,(zz Z),aZ,_,bm,Z,Z⟩
theorem wHY (O:Int) (w:World) (U:PHeap) (hS:St0 w U [])  {r:Bool} (hm:wCk O=some r):Gv Tryz.prog 85 [jV O] w (wBD w [] U (fun U_ L_ v=>v=.bool r/\L_=[])):=by
 unfold wCk at hm
 refine Gv.of Tryz.func85 Z Tryz.ntmps85 Tryz.results85 Z (sR fL1 Z (oA Z Z (eN (sR gBr Z (oM Z Z (bnK hm fun x1 h2 ag=>zM 0 Z Z Z Z (zK Z Z Tryz.call81 (zD Z (zD Z (zD Z zO))) Z) hS (fun hs=>wIU O 1 999 w U hs h2) (.inr Z) ?_))))))
 rintro U4 L5 v6 W7 ai af ⟨rfl,rfl⟩
 have ae:sW w U U4 [] W7:=af
 refine oA Z Z (eN (zP ?_))
 have hE:=nB ag;first | subst r | cases hE
 exact ⟨Z,_,(zz Z),U4,_,ae,Z,Z⟩
theorem wGk (O:Int) (w:World) (U:PHeap) (hS:St0 w U [])  {r:Bool} (hm:wCO O=some r):Gv Tryz.prog 87 [jV O] w (wBD w [] U (fun U_ L_ v=>v=.bool r/\L_=[])):=by
 unfold wCO at hm
 refine Gv.of Tryz.func87 Z Tryz.ntmps87 Tryz.results87 Z (sR fL1 Z (oA Z Z (eN (sR gBr Z (oM Z Z (bnK hm fun x1 h2 ag=>zM 0 Z Z Z Z (zK Z Z Tryz.call81 (zD Z (zD Z (zD Z zO))) Z) hS (fun hs=>wIU O 0 360000 w U hs h2) (.inr Z) ?_))))))
 rintro U4 L5 v6 W7 ai af ⟨rfl,rfl⟩
 have ae:sW w U U4 [] W7:=af
 refine oA Z Z (eN (zP ?_))
 have hE:=nB ag;first | subst r | cases hE
 exact ⟨Z,_,(zz Z),U4,_,ae,Z,Z⟩
theorem wHZ (O:List Int) (aa:Option Addr) (ab:Nat) (w:World) (U:PHeap) (hS:St0 w U []) (ak:Sl U 1 aa ab O.length (hD KL.encI O)) {r:Bool} (hm:wCl O=some r):Gv Tryz.prog 86 [.slice aa O.length ab] w (wBD w [] U (fun U_ L_ v=>v=.bool r/\L_=[])):=by
 unfold wCl at hm
 refine Gv.of Tryz.func86 Z Tryz.ntmps86 Tryz.results86 Z (sR fL1 Z (oA Z Z (eN (sR gBr Z (oM Z Z ?_)))))
 have ah:FnOK Tryz.prog U (.func (.func 87) #[] #[]) wKm wLg wCO:=⟨87,[],[],rfl,Tryz.call87,fun U1 w1 x y vs le hs ha hm=>by obtain rfl:=ha;exact wGk x w1 U1 hs  hm⟩
 refine bnK hm fun x2 h3 am=>zM 0 Z Z Z Z (zK Z Z Tryz.call84 (zD Z (zD Z zO)) Z) hS (fun hs=>wFx O aa ab wCO (.func (.func 87) #[] #[]) w U hs ak ah h3) (.inr Z) ?_
 rintro U5 L6 v7 W8 ap ai ⟨rfl,rfl⟩
 have aj:sW w U U5 [] W8:=ai
 refine oA Z Z (eN (zP ?_))
 have hE:=nB am;first | subst r | cases hE
 exact ⟨Z,_,(zz Z),U5,_,aj,Z,Z⟩
theorem wKZ (O:List Int) (an:Option Addr) (ao:Nat) (w:World) (U:PHeap) (hS:St0 w U []) (bq:Sl U 1 an ao O.length (hD KL.encI O)) {r:Bool} (hm:wGQ O=some r):Gv Tryz.prog 88 [.slice an O.length ao] w (wBD w [] U (fun U_ L_ v=>v=.bool r/\L_=[])):=by
 unfold wGQ at hm
 refine Gv.of Tryz.func88 Z Tryz.ntmps88 Tryz.results88 Z (sR fL1 Z (oA Z Z (eN (sR gBk Z (OKS.makeMap Z Z Z Z Z hS ?_)))))
 intro W1 b2 bj
 have bB:=MpR.nil wIS wIn
 refine oA Z Z (eN (zI (sR fL3 Z (oM Z Z (oR Z (ze Z Z zB) (oM Z Z (eN (zU ?_))))))))
 have q:=wBJ hm
 obtain ⟨bQ,aj⟩:=q
 have q:=wBI aj
 obtain ⟨am,bt⟩:=q
 replace am:=zH am
 refine yB (fun aa aZ σ_ w_=>∃ (U_:PHeap) (ag:Array MapEntry) (au:Nat),σ_ 9=jV (↑aa:Int)/\σ_ 3=.map (some b2)/\σ_ 7=.slice an O.length ao/\σ_ 8=jV (↑O.length:Int)/\PHeap.Le U U_/\sW w U U_ [.obj b2 (.map ag au)] w_/\MpR ag wIS wIn aZ) bt ?_ ?_ ?_
 exact ⟨U,#[],0,Z,Z,Z,Z,(zL _),bj,bB⟩
 rintro aa aZ bR bT bG ak ⟨ac,ag,au,ai,ah,ax,ay,a7,ab,az⟩ bD br
 have aq:Hid ((↑aa:Int) < (↑O.length:Int)):=zH (wAj ak)
 replace ak:=zH ak
 have bu:Hid (w64 ((↑aa:Int) + 1)=(↑(aa + 1):Int)):=zH (by have h1:=am.out;have h2:=aq.out;rw [wAX] <;> omega)
 refine sR fL1 Z (oR Z (zW Z ai ay) (eN (zI (cT Z aq (kN (zI (zU (sR fL3 Z (bnK bD fun ap aY bv=>?_)))))))))
 have bg:=bq.le a7
 have q:=bg.el (fun _=>rfl) (wAV aY)
 obtain ⟨bI,bP,bh,bi⟩:=q
 refine oR Z (ZE Z ax bh ai zB zC (wAq aY)) (oL Z (ab.ldC (f:=0) bi (v:=jV ap) Z Z zJ Z) (oA Z Z (eN (zI (sR fL3 Z (oM Z ah (oM Z Z (oL Z (ab.lookup1 (j:=0) (mk:=wIS) (mv:=wIn) (a:=ap) (z:=false) Z Z Z Z (wBr YE) wJJ yt az) (eN (ifc bv ?_ ?_))))))))))
 intro af bw
 refine zy (congrArg nE af.out) (sR fL1 Z (oA Z Z (eN (zP (zR (zc (zR ?_)))))))
 have q:=wAb bw
 obtain ⟨bE,bx,bd⟩:=q
 have q:=wBC hm aj (br bE bd)
 obtain rfl:=q
 refine zR (zc (zR ?_))
 have hE:=nB bx;first | subst r | cases hE
 exact ⟨rfl,_,(zz rfl),ac,_,(ab.pick [] _ (by decide) rfl),rfl,rfl⟩
 intro af bz
 refine zn (congrArg nE (nH.2 af.out)) (kN (rR gBs rfl (zj rfl rfl rfl rfl rfl ah (zj rfl rfl rfl rfl rfl rfl (OKS.mapPut (x:=.tmp 16) (y:=.tmp 17) (j:=0) (mk:=wIS) (mv:=wIn) (a:=ap) (v:=true) rfl rfl rfl (by first | exact .inl rfl | exact .inr rfl) ab rfl rfl rfl rfl (wBr YE) wJJ az rfl ?_)))))
 intro aw av ba bC bm
 have bn:sW w U ac [.obj b2 (.map aw av)] ba:=bm
 refine zg (zf (zG (rR fL2 Z (oR Z (zr (zX Z ai Z) (congrArg (jV) bu.out)) (oM Z Z (zg ?_))))))
 have q:=nB bz
 obtain rfl:=q
 exact zG ⟨Z,_,Z,⟨ac,aw,av,Z,ah,ax,ay,a7,bn,bC⟩⟩
 rintro bS bU bH ⟨a8,bK,bJ,bf,bL,bM,be,bO,bp,bN⟩ bs
 have bA:=wCI hm aj bs
 have bb:Hid (¬ ((↑(((↑O.length:Int):Int) - 0).toNat:Int) < (↑O.length:Int))):=zH (wAc)
 refine sR fL1 Z (oR Z (zW Z bf be) (eN (zI (cF Z bb (ZJ (zd (zd (ZG (zG (sR fL1 Z (oA Z Z (eN (zP ?_)))))))))))))
 have hE:=nB bA;first | subst r | cases hE
 exact ⟨rfl,_,(zz rfl),a8,_,(bp.pick [] _ (by decide) rfl),rfl,rfl⟩
theorem wGJ (O:wAk) (ah:Option Addr) (ai:Nat) (ac:Option Addr) (ae:Nat) (w:World) (U:PHeap) (hS:St0 w U []) (dB:Sl U 1 ah ai O.Bibs.length (hD KL.encI O.Bibs)) (dC:SlR U wDl ac ae O.Times) {r:Int} (hm:wDy O=some r):Gv Tryz.prog 56 [.agg #[jV O.Laps,.slice ah O.Bibs.length ai,.slice ac O.Times.length ae]] w (wBD w [] U (fun U_ L_ v=>v=jV r/\L_=[])):=by
 unfold wDy at hm
 refine Gv.of Tryz.func56 Z Tryz.ntmps56 Tryz.results56 Z (sR gBk Z ?_)
 let B0:List Value:=[jV O.Laps,.slice ah O.Bibs.length ai,.slice ac O.Times.length ae]
 refine ZH (cs:=B0) rfl rfl rfl rfl rfl rfl (by rfl) hS ?_
 intro W1 b2 dv
 have q:=dv.freeze (k:=0) rfl
 obtain ⟨U5,cr,ap,dz⟩:=q
 replace ap:=Cl.of ap
 have cg:sW w U U5 [] W1:=dz
 replace ap:Cl U5 b2 0 B0:=ap
 refine oA Z Z (eN (zI (zU (sR (.fl 0 (.fl 1 (.fx 2 (wSG (.fx 23 (wRH (.nil)) .stop)) .stop))) Z (oR Z (zF Z Z ZS Z zC) (oL Z (cg.ldC (f:=0) ap (v:=jV O.Laps) Z Z zJ Z) (bnK hm fun ff cR dL=>zM 0 Z Z Z Z (zK Z Z Tryz.call81 (zD Z (zD Z (zD Z zO))) Z) cg (fun hs=>wIU O.Laps 1 20 W1 U5 hs cR) (.inr Z) ?_)))))))
 rintro am eF eZ bM bC dr ⟨rfl,rfl⟩
 have aj:sW w U am [] bM:=dr
 refine oR Z (ZF Z Z) (oM Z Z (ifc dL ?_ ?_))
 intro af dX
 refine zY Z Z Z (zN Z Z (nC af.out)) (fun _=>zF Z Z ZS Z zS) ?_
 have ao:=ap.le bC
 refine ZB Z Z Z (zN Z Z (nC af.out)) (aj.ldC (f:=1) ao (v:=.slice ah O.Bibs.length ai) Z Z zZ Z) Z (zY Z Z Z (zN Z Z (nC af.out)) (fun _=>ze Z Z zB) (zY Z Z Z (zN Z Z (nC af.out)) (fun _=>yT Z Z Z) (oR Z (za Z (nC af.out) Z) (oM Z Z (ifc dX ?_ ?_)))))
 intro aa dY
 refine oT Z aa (oT Z aa (oT Z aa (oT Z aa (oT Z aa (oT Z aa (oT Z aa (oR Z (zT Z (ZZ aa.out) Z) (oM Z Z (oN Z (oN Z (oN Z (ZI Z Z Z (zQ Z Z Z Z) (oN Z (oR Z (zT Z Z Z) (oA Z Z (eN (zy Z (sR fL1 Z (oA Z Z (eN (zP (zc (zR ?_)))))))))))))))))))))))
 cases dY
 exact ⟨Z,_,(zz Z),am,_,aj,Z,Z⟩
 intro aa dZ
 refine rU Z (wF Z aa) (zF Z Z ZS Z Zq) (ZB Z Z Z (wF Z aa) (aj.ldC (f:=2) ao (v:=.slice ac O.Times.length ae) Z Z yE Z) Z (rU Z (wF Z aa) (ze Z Z zu) (rU Z (wF Z aa) (zF Z Z ZS Z zS) (ZB Z Z Z (wF Z aa) (aj.ldC (f:=1) ao (v:=.slice ah O.Bibs.length ai) Z Z zZ Z) Z (rU Z (wF Z aa) (ze Z Z zB) (rU Z (wF Z aa) (ZX Z Z Z) (oR Z (za Z (zt aa.out) Z) (oM Z Z (ifc dZ ?_ ?_)))))))))
 intro ab d7
 refine zY Z Z Z (zN Z Z (zt (fun h=>h ab.out))) (fun _=>zF Z Z ZS Z Zq) (ZB Z Z Z (zN Z Z (zt (fun h=>h ab.out))) (aj.ldC (f:=2) ao (v:=.slice ac O.Times.length ae) Z Z yE Z) Z (zY Z Z Z (zN Z Z (zt (fun h=>h ab.out))) (fun _=>yn Z zO (zD Z zO)) ?_))
 have cX:=dC.le cr
 have bm:=cX.le bC
 have cY:=dB.le cr
 have bW:=cY.le bC
 have dm:FnOK Tryz.prog am (.func (.func 83) #[] #[.pointer (some ⟨b2,0,none⟩)]) wJm wJn (fun x=>wCj x O):=⟨83,[],[.pointer (some ⟨b2,0,none⟩)],rfl,Tryz.call83,fun U1 w1 x y vs le hs ha hm=>by obtain ⟨pA_0,pc_0,rfl,hq0_0⟩:=ha;exact wHX x pA_0 pc_0 O b2 ah ai ac ae w1 U1 hs hq0_0 (ao.le le) (bW.le le) (bm.le le) hm⟩
 refine bnK d7 fun fg cZ d8=>zM 0 Z Z Z (zN Z Z (zt (fun h=>h ab.out))) (zK Z Z Tryz.call82 (zD Z (zD Z zO)) Z) aj (fun hs=>wGj O.Times ac ae (fun x=>wCj x O) (.func (.func 83) #[] #[.pointer (some ⟨b2,0,none⟩)]) bM am hs bm dm cZ) (.inr Z) ?_
 rintro ay eG e8 bN bD dw ⟨rfl,rfl⟩
 have bp:sW w U ay [] bN:=dw
 refine zY Z Z Z (zN Z Z (zt (fun h=>h ab.out))) (fun _=>ZF Z Z) (oR Z (za Z (zt (fun h=>h ab.out)) Z) (oA Z Z (eN (ifc d8 ?_ ?_))))
 intro be d9
 refine zn (nC be.out) (sR (.fl 0 (.fl 1 (.fx 2 (wNe (.fx 7 (wKM (.nil)) .stop)) .stop))) Z (oR Z (zF Z Z ZS Z zS) ?_))
 have bX:=ao.le bD
 refine oL Z (bp.ldC (f:=1) bX (v:=.slice ah O.Bibs.length ai) Z Z zZ Z) ?_
 have bY:=bW.le bD
 have dn:FnOK Tryz.prog ay (.func (.func 85) #[] #[]) wKm wLg wCk:=⟨85,[],[],rfl,Tryz.call85,fun U1 w1 x y vs le hs ha hm=>by obtain rfl:=ha;exact wHY x w1 U1 hs  hm⟩
 refine bnK d9 fun fh c6 eh=>zM 0 Z Z Z Z (zK Z Z Tryz.call84 (zD Z (zD Z zO)) Z) bp (fun hs=>wFx O.Bibs ah ai wCk (.func (.func 85) #[] #[]) bN ay hs bY dn c6) (.inr Z) ?_
 rintro az eH e9 bO bE dx ⟨rfl,rfl⟩
 have bq:sW w U az [] bO:=dx
 refine oR Z (ZF Z Z) (oM Z Z (ifc eh ?_ ?_))
 intro ag ej
 refine zY Z Z Z (zN Z Z (nC ag.out)) (fun _=>zF Z Z ZS Z Zq) ?_
 have bZ:=bX.le bE
 refine ZB Z Z Z (zN Z Z (nC ag.out)) (bq.ldC (f:=2) bZ (v:=.slice ac O.Times.length ae) Z Z yE Z) Z ?_
 have c8:=bm.le bD
 have ca:=c8.le bE
 have dp:FnOK Tryz.prog az (.func (.func 86) #[] #[]) wJm wJn wCl:=⟨86,[],[],rfl,Tryz.call86,fun U1 w1 x y vs le hs ha hm=>by obtain ⟨pA_0,pc_0,rfl,hq0_0⟩:=ha;exact wHZ x pA_0 pc_0 w1 U1 hs hq0_0 hm⟩
 refine bnK ej fun fj c9 eo=>zM 0 Z Z Z (zN Z Z (nC ag.out)) (zK Z Z Tryz.call82 (zD Z (zD Z zO)) Z) bq (fun hs=>wGj O.Times ac ae wCl (.func (.func 86) #[] #[]) bO az hs ca dp c9) (.inr Z) ?_
 rintro bb eI fb bP bF dy ⟨rfl,rfl⟩
 have br:sW w U bb [] bP:=dy
 refine zY Z Z Z (zN Z Z (nC ag.out)) (fun _=>ZF Z Z) (oR Z (za Z (nC ag.out) Z) (oA Z Z (eN (ifc eo ?_ ?_))))
 intro bf ep
 refine zn (nC bf.out) (sR gBu Z (oR Z (zF Z Z ZS Z zS) ?_))
 have cc:=bZ.le bF
 refine oL Z (br.ldC (f:=1) cc (v:=.slice ah O.Bibs.length ai) Z Z zZ Z) ?_
 have da:=bY.le bE
 have db:=da.le bF
 refine bnK ep fun fk dd er=>zM 0 Z Z Z Z (zK Z Z Tryz.call88 (zD Z zO) Z) br (fun hs=>wKZ O.Bibs ah ai bP bb hs db dd) (.inr Z) ?_
 rintro aY eJ fc cy ct dA ⟨rfl,rfl⟩
 have bs:sW w U aY [] cy:=dA
 refine oA Z Z (eN (ifc er ?_ ?_))
 intro bg eu
 refine zy (congrArg nE bg.out) (sR fL1 Z (oA Z Z (eN (zP (zc (zR ?_))))))
 cases eu
 exact ⟨Z,_,(zz Z),aY,_,bs,Z,Z⟩
 intro bg bB
 refine zn (congrArg nE (nH.2 bg.out)) (ZT (zf (zG (zI (zI (yL fun eE co=>?_))))))
 have cO:eE 1=.pointer (some ⟨b2,0,none⟩):=(co 1).trans rfl
 clear co
 refine rR fL4 Z (oR Z (zF Z cO ZS Z Zq) ?_)
 have de:=cc.le ct
 refine oL Z (bs.ldC (f:=2) de (v:=.slice ac O.Times.length ae) Z Z yE Z) (oR Z (ze Z Z zu) (oM Z Z (eN (zU ?_))))
 have q:=wBJ bB
 obtain ⟨eY,bu⟩:=q
 have q:=wBI bu
 obtain ⟨bx,dH⟩:=q
 replace bx:=zH bx
 refine yB (fun ak _ σ_ w_=>∃ (U_:PHeap),σ_ 51=jV (↑ak:Int)/\σ_ 49=.slice ac O.Times.length ae/\σ_ 50=jV (↑O.Times.length:Int)/\PHeap.Le aY U_/\sW w U U_ [] w_) dH ?_ ?_ ?_
 exact ⟨aY,Z,Z,Z,(zL _),bs⟩
 rintro ak ⟨⟩ fm ft eK bv ⟨a8,bh,bS,bT,cp,cd⟩ cm dD
 try dsimp only at cm
 have bQ:Hid ((↑ak:Int) < (↑O.Times.length:Int)):=zH (wAj bv)
 replace bv:=zH bv
 have dJ:Hid (w64 ((↑ak:Int) + 1)=(↑(ak + 1):Int)):=zH (by have h1:=bx.out;have h2:=bQ.out;rw [wAX] <;> omega)
 refine sR fL1 Z (oR Z (zW Z bh bT) (eN (zI (cT Z bQ (kN (zI (zU (sR fL3 Z (bnK cm fun aq bU bA=>?_)))))))))
 have cS:=ca.le bF
 have cU:=cS.le ct
 have cV:=cU.le cp
 have q:=cV.el (wAV bU)
 obtain ⟨cz,ez,fd,df,bn,ew⟩:=q
 obtain ⟨bG,bH,rfl,cW⟩:=ew
 replace bn:Cl a8 cz (ez + ak * 1) [.slice bG aq.length bH]:=bn
 refine oR Z (ZE Z bS df bh zu zS (wAq bU)) (oL Z (cd.ldC (f:=0) bn (v:=.slice bG aq.length bH) Z Z zZ Z) (oA Z Z (eN (sR fL1 Z (oA Z Z (eN (zU ?_)))))))
 have q:=wBJ bA
 obtain ⟨eX,bt⟩:=q
 have q:=wBI bt
 obtain ⟨bz,dI⟩:=q
 replace bz:=zH bz
 refine yB (fun aw _ σ_ w_=>∃ (U_:PHeap),σ_ 5=jV (1 + ↑aw:Int)/\σ_ 4=.slice bG aq.length bH/\σ_ 49=.slice ac O.Times.length ae/\σ_ 50=jV (↑O.Times.length:Int)/\σ_ 51=jV (↑ak:Int)/\PHeap.Le a8 U_/\sW w U U_ [] w_) dI ?_ ?_ ?_
 exact ⟨a8,Z,Z,bS,bT,bh,(zL _),cd⟩
 rintro aw ⟨⟩ fq fu bL bw ⟨bJ,a7,aZ,cG,cH,cI,cq,dq⟩ cn dE
 try dsimp only at cn
 have bR:Hid ((1 + ↑aw:Int) < (↑aq.length:Int)):=zH (lp_lt bw)
 replace bw:=zH bw
 have dK:Hid (w64 ((1 + ↑aw:Int) + 1)=(1 + ↑(aw + 1):Int)):=zH (by have h1:=bz.out;have h2:=bR.out;rw [wAX] <;> omega)
 refine zI (sR fL4 rfl (zj rfl rfl rfl rfl rfl a7 (zj rfl rfl rfl rfl rfl aZ (zY rfl rfl rfl rfl (fun _=>ze rfl rfl zB) (zY rfl rfl rfl rfl (fun _=>zW rfl rfl rfl) (eN (cT Z bR (kN (zI (zU (zI (ZN ZD [3,3,3,1,3,3,3,3,1,3] wQB (by kernel_rfl) ?_))))))))))))
 have av:=dq.drew
 generalize hw_W154:({ bL with drawn:=bL.drawn + 1 }:World)=eM at av ⊢
 refine oM Z aZ (oM Z a7 (bnK cn fun eC bi dM=>?_))
 have bV:=cW.le cq
 have q:=bV.el (fun _=>rfl) (wAV bi)
 obtain ⟨eR,eV,dg,di⟩:=q
 refine oR Z (Za Z Z dg Z zB zC (wCh bi) (wCs bi)) (oL Z (av.ldC (f:=0) di (v:=jV eC) Z Z zJ Z) (oM Z aZ (oM Z a7 (oR Z (Zy Z Z Z) (bnK dM fun eD bj dN=>?_)))))
 have q:=bV.el (fun _=>rfl) (wAV bj)
 obtain ⟨eS,eW,dh,dl⟩:=q
 refine oR Z (Za Z Z dh Z zB zC (wCh bj) (wCs bj)) (oL Z (av.ldC (f:=0) dl (v:=jV eD) Z Z zJ Z) (oR Z (Runs.leq Z Z Z) (eN (ifc dN ?_ ?_))))
 intro bd dO
 refine cT Z bd (sR fL1 Z (oA Z Z (eN (zP (zc (zR ?_))))))
 have q:=wAb dO
 obtain ⟨eA,dP,cD⟩:=q
 have q:=wBC bA bt (dE eA cD)
 obtain rfl:=q
 refine zR (zc (zc (zR ?_)))
 have q:=wAb dP
 obtain ⟨eB,dQ,cE⟩:=q
 have q:=wBC bB bu (dD eB cE)
 obtain rfl:=q
 refine zR (zc (zR ?_))
 cases dQ
 exact ⟨Z,_,(zz Z),bJ,_,av,Z,Z⟩
 intro bd dR
 refine cF Z bd (ZT (zf (zG (rR fL3 Z (oM Z a7 (oR Z (zr (zX Z Z Z) (congrArg (jV) dK.out)) (oA Z Z (zg ?_))))))))
 have q:=nB dR
 obtain rfl:=q
 exact zG ⟨Z,_,Z,⟨bJ,Z,aZ,cG,cH,cI,cq,av⟩⟩
 rintro ⟨⟩ fw eO ⟨cu,cP,cJ,cK,cL,cM,ey,dt⟩ dF
 have ci:=wCI bA bt dF
 try dsimp only at ci
 have cA:Hid (¬ ((1 + ↑(((↑aq.length:Int):Int) - 1).toNat:Int) < (↑aq.length:Int))):=zH (wRW)
 refine zI (sR fL4 Z (oM Z cP (oM Z cJ (oR Z (ze Z Z zB) (oR Z (zW Z Z Z) (eN (cF Z cA (ZJ (zd (zd (ZG (zf (zG (rR fL2 Z (oR Z (zr (zX Z cM Z) (congrArg (jV) dJ.out)) (oM Z Z (zg ?_)))))))))))))))))
 have q:=nB ci
 obtain rfl:=q
 exact zG ⟨Z,_,Z,⟨cu,Z,cK,cL,(cp.trans ey),dt⟩⟩
 rintro ⟨⟩ fy eQ ⟨cw,cQ,eT,cN,eU,du⟩ dG
 have cj:=wCI bB bu dG
 try dsimp only at cj
 have cC:Hid (¬ ((↑(((↑O.Times.length:Int):Int) - 0).toNat:Int) < (↑O.Times.length:Int))):=zH (wAc)
 refine sR fL1 Z (oR Z (zW Z cQ cN) (eN (zI (cF Z cC (ZJ (zd (zd (ZG (zG (sR fL1 Z (oA Z Z (eN (zP ?_)))))))))))))
 cases cj
 exact ⟨Z,_,(zz Z),cw,_,du,Z,Z⟩
 intro bf dS
 refine zy (nF (bf.out)) (sR fL1 Z (oA Z Z (eN (zP (zc (zR ?_))))))
 cases dS
 exact ⟨Z,_,(zz Z),bb,_,br,Z,Z⟩
 intro ag dT
 refine zk Z Z Z (zQ Z Z (nF (ag.out)) Z) (zk Z Z Z (zQ Z Z (nF (ag.out)) Z) (ZI Z Z Z (zQ Z Z (nF (ag.out)) Z) (zk Z Z Z (zQ Z Z (nF (ag.out)) Z) (oR Z (zT Z (nF (ag.out)) Z) (oA Z Z (eN (zy Z (sR fL1 Z (oA Z Z (eN (zP (zc (zR ?_)))))))))))))
 cases dT
 exact ⟨Z,_,(zz Z),az,_,bq,Z,Z⟩
 intro be dU
 refine zy (nF (be.out)) (sR fL1 Z (oA Z Z (eN (zP (zc (zR ?_))))))
 cases dU
 exact ⟨Z,_,(zz Z),ay,_,bp,Z,Z⟩
 intro ab dV
 refine oT Z ab (oT Z ab (oT Z ab (ZI Z Z Z (zQ Z Z (ZZ ab.out) Z) (oT Z ab (oR Z (zT Z (ZZ ab.out) Z) (oA Z Z (eN (zy Z (sR fL1 Z (oA Z Z (eN (zP (zc (zR ?_))))))))))))))
 cases dV
 exact ⟨Z,_,(zz Z),am,_,aj,Z,Z⟩
 intro af dW
 refine zk Z Z Z (zQ Z Z (nF (af.out)) Z) (zk Z Z Z (zQ Z Z (nF (af.out)) Z) (zk Z Z Z (zQ Z Z (nF (af.out)) Z) (zk Z Z Z (zQ Z Z (nF (af.out)) Z) (oR Z (zT Z (nF (af.out)) Z) (oM Z Z (oN Z (oN Z (oN Z (oN Z (oN Z (oN Z (oN Z (oR Z (zT Z Z Z) (oM Z Z (oN Z (oN Z (oN Z (ZI Z Z Z (zQ Z Z Z Z) (oN Z (oR Z (zT Z Z Z) (oA Z Z (eN (zy Z (sR fL1 Z (oA Z Z (eN (zP (zc (zR ?_)))))))))))))))))))))))))))))
 cases dW
 exact ⟨Z,_,(zz Z),am,_,aj,Z,Z⟩
theorem wGl (p0:List Int) (p1:Int) (w:World) (U:PHeap) (hS:St0 w U [])  {r:(List Int)} (hm:wDp p0 p1=some r):Gv Tryz.prog 151 [.slice none 0 0,jV p1] w (wBD w [] U (fun U_ L_ v=>∃ (A0:Option Addr) (c0:Nat),v=.slice A0 r.length c0/\L_=[.row A0 c0 3 1 (hD KL.encI r)])):=by
 unfold wDp at hm
 refine Gv.of Tryz.func151 Z Tryz.ntmps151 Tryz.results151 Z (sR fL1 Z (oA Z Z (eN (zI (sR fL2 Z (oM Z Z (oR Z (zW Z Z Z) (eN ?_))))))))
 by_cases O:p1 < 0
 have ak:=hm;rw [if_pos O] at ak;replace O:=zH O
 refine cT Z O (rR gBl Z ?_)
 cases ak
 have am:=hm;rw [if_neg O] at am;replace O:=zH O
 refine cF Z O (kN (zI (sR fL8 rfl (zj rfl rfl rfl rfl rfl rfl (zj rfl rfl rfl rfl rfl rfl (zY rfl rfl rfl rfl (fun _=>Runs.capn rfl rfl zB) (zj rfl rfl rfl rfl rfl rfl (zY rfl rfl rfl rfl (fun _=>ze rfl rfl zB) (zY rfl rfl rfl rfl (fun _=>zr (Zy rfl rfl rfl) (congrArg (jV) (show w64 (0 - 0)=0 by decide))) (zY rfl rfl rfl rfl (fun _=>Zy rfl rfl rfl) (yU rfl rfl rfl rfl rfl rfl (eN (sR fL2 rfl (zj rfl rfl rfl rfl rfl rfl (zY rfl rfl rfl rfl (fun _=>yT rfl rfl rfl) (eN (ifc am ?_ ?_)))))))))))))))))
 intro c4 aw
 refine cT Z c4 (rR (wHg (.fx 5 (wSL (.nil)) .stop)) rfl (zj rfl rfl rfl rfl rfl rfl (zj rfl rfl rfl rfl rfl rfl (zY rfl rfl rfl rfl (fun _=>Runs.capn rfl rfl zB) (zY rfl rfl rfl rfl (fun _=>zr (Runs.slc (sz:=1) (a:=0) (b:=0) rfl rfl (.inr ⟨rfl,rfl⟩) (.inl ⟨_,rfl,rfl⟩) zB zC (by decide) (by decide) (by decide) (Nat.le_refl _)) rfl) (zj rfl rfl rfl rfl rfl rfl (bnK aw fun x6 h7 ax=>OKS.appendZ (enc:=KL.encI) (z:=(0:Int)) (xs:=x6) rfl rfl rfl rfl rfl Zn Tryz.underlying3 wFr rfl rfl rfl rfl rfl hS rfl rfl h7 rfl ?_)))))))
 intro W9 aa ab ao
 have aj:sW w U U [.row aa ab 3 1 (hD KL.encI x6)] W9:=ao
 refine oM Z Z (oR Z (ze Z Z zB) ?_)
 have ay:=aj.rowCap (j:=0) rfl (by decide) (wAB (f:=KL.encI) (sz:=1) (fun _=>rfl) x6)
 refine zY (v:=.slice aa 0 ab) Z Z Z Z (fun _=>zr (Runs.slc (sz:=1) (a:=0) (b:=0) Z Z (.inr ⟨Z,Z⟩) (.inl ⟨_,Z,Z⟩) zB zC (Int.le_refl _) (Int.le_refl _) (Int.natCast_nonneg _) ay) slc0) ?_
 have ap:=aj.cutRowM (enc:=KL.encI) (k:=0) (b:=0) rfl
 have aq:sW w U U [.row aa ab 3 1 (hD KL.encI ([]:List Int))] W9:=ap
 refine oA Z Z (eN (sR fL2 Z (oM Z Z (oA Z Z (eN (zP ?_))))))
 cases ax
 exact ⟨Z,_,(zz Z),U,_,aq,aa,ab,Z,Z⟩
 intro c4 av
 refine cF Z c4 (kN (sR fL2 Z (oM Z Z (oA Z Z (eN (zP ?_))))))
 have au:=hS.nilrow 3 1
 cases av
 exact ⟨Z,_,(zz Z),U,_,au,none,0,Z,Z⟩
theorem wGT (O:List (List Int)) (ac:Option Addr) (ae:Nat) (w:World) (U:PHeap) (hS:St0 w U []) (bp:SlR U wDl ac ae O) {r:(List Int)} (hm:wDQ O=some r):Gv Tryz.prog 126 [.slice ac O.length ae] w (wBD w [] U (fun U_ L_ v=>∃ (A0:Option Addr) (c0:Nat),v=.slice A0 r.length c0/\L_=[.row A0 c0 3 1 (hD KL.encI r)])):=by
 unfold wDQ at hm
 refine Gv.of Tryz.func126 Z Tryz.ntmps126 Tryz.results126 Z (sR fL1 Z (oA Z Z (eN (sR fL1 Z (oA Z Z (eN (zI (sR fL3 Z (oM Z Z (oR Z (ze Z Z zu) (oM Z Z (eN (zU (bnK hm fun cS ct cH=>?_))))))))))))))
 have q:=wAn ct
 obtain ⟨aw,cq⟩:=q
 replace aw:=zH aw
 refine CK.forN' (fun k7 x6 σ_ w_=>∃ (U_:PHeap),σ_ 11=jV (↑k7:Int)/\σ_ 0=.slice ac O.length ae/\σ_ 3=jV x6/\σ_ 9=.slice ac O.length ae/\σ_ 10=jV (↑O.length:Int)/\PHeap.Le U U_/\sW w U U_ [] w_) cq ?_ ?_ ?_
 exact ⟨U,Z,Z,Z,Z,Z,(zL _),hS⟩
 rintro k7 x6 dd dg cW au ⟨a7,am,bO,bP,bh,bi,br,bn⟩ cL
 have bd:Hid ((↑k7:Int) < (↑O.length:Int)):=zH (wAj au)
 replace au:=zH au
 have cy:Hid (w64 ((↑k7:Int) + 1)=(↑(k7 + 1):Int)):=zH (by have h1:=aw.out;have h2:=bd.out;rw [wAX] <;> omega)
 refine sR fL1 Z (oR Z (zW Z am bi) (eN (zI (cT Z bd (kN (zI (zU (sR fL3 Z (bnK cL fun bx bm cC=>?_)))))))))
 have ca:=bp.le br
 have q:=ca.el (wAV bm)
 obtain ⟨bH,cQ,db,cg,ap,cK⟩:=q
 obtain ⟨bt,bv,rfl,c6⟩:=cK
 replace ap:Cl a7 bH (cQ + k7 * 1) [.slice bt bx.length bv]:=ap
 refine oR Z (ZE Z bh cg am zu zS (wAq bm)) (oL Z (bn.ldC (f:=0) ap (v:=.slice bt bx.length bv) Z Z zZ Z) (oA Z Z (eN (sR fL5 Z (oM Z bP (oM Z Z (oR Z (ze Z Z zB) (oR Z (zX Z Z Z) (oA Z Z (eN (sR fL2 Z (oM Z Z (oR Z (zW Z Z Z) (eN (ifc cC ?_ ?_)))))))))))))))
 intro aj cD
 refine cT Z aj (rR gBl Z ?_)
 cases cD
 intro aj cE
 refine cF Z aj (ZT (zf (zG (rR fL2 Z (oR Z (zr (zX Z am Z) (congrArg (jV) cy.out)) (oM Z Z (zg ?_)))))))
 cases cE
 exact zG ⟨Z,⟨a7,Z,bO,Z,bh,bi,br,bn⟩⟩
 rintro di bE ⟨bC,bU,bQ,bR,cZ,bS,cN,cn⟩
 have bK:Hid (¬ ((↑(((↑O.length:Int):Int) - 0).toNat:Int) < (↑O.length:Int))):=zH (wAc)
 refine sR fL1 Z (oR Z (zW Z bU bS) (eN (zI (cF Z bK (ZJ (zd (zd (ZG (zG (sR gBr Z (oM Z bR (bnK cH fun cR cc cG=>zM 0 Z Z Z Z (zK Z Z Tryz.call151 (zD Z (zD Z zO)) Z) cn (fun hs=>wGl [] cS bE bC hs cc) (.inr Z) ?_))))))))))))
 rintro ah cU c9 bF cO co ⟨aZ,be,rfl,rfl⟩
 have cp:sW w U ah [.row aZ be 3 1 (hD KL.encI cR)] bF:=co
 refine oA Z Z (eN (zI (sR fL3 Z (oM Z bQ (oR Z (ze Z Z zu) (oM Z Z (eN (zU (bnK cG fun df cr cI=>?_)))))))))
 have q:=wAn cr
 obtain ⟨ax,cu⟩:=q
 replace ax:=zH ax
 refine CK.forN' (fun ab af σ_ w_=>∃ (U_:PHeap) (ag:Option Addr) (ak:Nat),σ_ 27=jV (↑ab:Int)/\σ_ 6=.slice ag af.length ak/\σ_ 25=.slice ac O.length ae/\σ_ 26=jV (↑O.length:Int)/\PHeap.Le ah U_/\sW w U U_ [.row ag ak 3 1 (hD KL.encI af)] w_) cu ?_ ?_ ?_
 exact ⟨ah,aZ,be,Z,Z,Z,Z,(zL _),cp⟩
 rintro ab af de dl cX av ⟨ai,ag,ak,an,bL,bf,bg,bq,aq⟩ cM
 have ba:Hid ((↑ab:Int) < (↑O.length:Int)):=zH (wAj av)
 replace av:=zH av
 have cw:Hid (w64 ((↑ab:Int) + 1)=(↑(ab + 1):Int)):=zH (by have h1:=ax.out;have h2:=ba.out;rw [wAX] <;> omega)
 refine sR fL1 Z (oR Z (zW Z an bg) (eN (zI (cT Z ba (kN (zI (zU (sR fL3 Z (bnK cM fun ay bj cz=>?_)))))))))
 have bV:=bp.le cN
 have bW:=bV.le cO
 have bX:=bW.le bq
 have q:=bX.el (wAV bj)
 obtain ⟨bG,cP,da,cd,ao,cJ⟩:=q
 obtain ⟨bs,bu,rfl,bY⟩:=cJ
 replace ao:Cl ai bG (cP + ab * 1) [.slice bs ay.length bu]:=ao
 refine oR Z (ZE Z bf cd an zu zS (wAq bj)) (oL Z (aq.ldC (f:=0) ao (v:=.slice bs ay.length bu) Z Z zZ Z) (oA Z Z (eN (rR gBu Z (oM Z bL (oM Z Z (bnK cz fun bw bZ cA=>Zr (j:=0) (enc:=KL.encI) (xs:=af) (ys:=ay) (zs:=bw) Z Z Z Z Z Zn wFr Z Z Z Z Z Z aq Z Z Z (aq.srcS bY) (fun _=>Z) (fun _=>Z) bZ Z ?_)))))))
 intro aY bb bD ci
 have cj:sW w U ai [.row aY bb 3 1 (hD KL.encI bw)] bD:=ci
 refine oA Z Z (zg (zf (zG (rR fL2 Z (oR Z (zr (zX Z an Z) (congrArg (jV) cw.out)) (oM Z Z (zg ?_)))))))
 cases cA
 exact zG ⟨Z,⟨ai,aY,bb,Z,Z,bf,bg,bq,cj⟩⟩
 rintro dh cV ⟨bB,bA,bI,bT,bM,cY,bN,c8,cm⟩
 have bJ:Hid (¬ ((↑(((↑O.length:Int):Int) - 0).toNat:Int) < (↑O.length:Int))):=zH (wAc)
 refine sR fL1 Z (oR Z (zW Z bT bN) (eN (zI (cF Z bJ (ZJ (zd (zd (ZG (zG (sR fL2 Z (oM Z bM (oA Z Z (eN (zP ?_))))))))))))))
 have hE:=nB cI;first | subst r | cases hE
 exact ⟨Z,_,(zz Z),bB,_,cm,bA,bI,Z,Z⟩
set_option maxHeartbeats 4000000
theorem wGm (O:List Int) (aa:Option Addr) (ab:Nat) (w:World) (U:PHeap) (hS:St ⟨w,[.row aa ab 3 1 (hD KL.encI O)],U⟩ U [.row aa ab 3 1 (hD KL.encI O)] w) {r:List Int} (hm:wFH O=some r):Gv Tryz.prog 127 [.slice aa O.length ab] w (wBD w [.row aa ab 3 1 (hD KL.encI O)] U (fun U_ L_ v=>v=.tuple #[]/\L_=[.row aa ab 3 1 (hD KL.encI r)]/\r.length=O.length)) :=
 wOy (fun b o c zs w h1 h2 h3=>Go.Proofs.Tryz.slices_Sort_int b o c zs w h1 h2 h3) (fun p c w=>Go.Proofs.Tryz.slices_Sort_int_none p c w) hS hm
theorem wGK (O:List Int) (aa:Option Addr) (ab:Nat) (w:World) (U:PHeap) (hS:St ⟨w,[.row aa ab 3 1 (hD KL.encI O)],U⟩ U [.row aa ab 3 1 (hD KL.encI O)] w) {r:List Int} (hm:wET O=some r):Gv Tryz.prog 129 [.slice aa O.length ab] w (wBD w [.row aa ab 3 1 (hD KL.encI O)] U (fun U_ L_ v=>∃ (A0:Option Addr) (c0:Nat),v=.slice A0 r.length c0/\L_=[.row A0 c0 3 1 (hD KL.encI r)])) :=
 wLt (fun b o c zs w h1 h2 h3=>Go.Proofs.Tryz.slices_Compact_int b o c zs w h1 h2 h3) (fun p c w=>Go.Proofs.Tryz.slices_Compact_int_empty p c w) hS hm
theorem wGE {S E:Type} (PY:S->PHeap->List Res->Prop) (PE:E->PHeap->List Res->Prop) (f:S->Int->Option (S ⊕ E)) (y:Nat) (s0:S) (O:List Int) (aY:Nat) (af:Option Addr) (ag:Nat) (w:World) (L:List Res) (U:PHeap) (hS:St ⟨w,L,U⟩ U L w) (hP:PY s0 U L) (hY:YOK Tryz.prog y wKm PY PE f U) (bs:Cl U aY 0 [.slice af O.length ag]) (bt:Sl U 1 af ag O.length (hD KL.encI O)) {r:S ⊕ E} (hm:wDC f s0 O=some r):Gv Tryz.prog 153 [.func (.yield y) #[] #[],.pointer (some ⟨aY,0,none⟩)] w (ItS w L U PY PE r):=by
 unfold wDC at hm
 refine Gv.of Tryz.func153 Z Tryz.ntmps153 Tryz.results153 Z (sR fL3 Z (oL Z (hS.ldC (f:=0) bs (v:=.slice af O.length ag) Z Z zZ Z) (oR Z (ze Z Z zB) (oM Z Z (eN (zU ?_))))))
 have q:=wBJ hm
 obtain ⟨bT,ak⟩:=q
 have q:=wBI ak
 obtain ⟨an,bw⟩:=q
 replace an:=zH an
 refine yB (fun aa a7 σ_ w_=>∃ (U_:PHeap) (ah:List Res),σ_ 7=jV (↑aa:Int)/\σ_ 0=.func (.yield y) #[] #[]/\σ_ 5=.slice af O.length ag/\σ_ 6=jV (↑O.length:Int)/\PHeap.Le U U_/\St ⟨w,L,U⟩ U_ ah w_/\PY a7 U_ ah) bw ?_ ?_ ?_
 exact ⟨U,L,Z,Z,Z,Z,(zL _),hS,hP⟩
 rintro aa a7 bU bW bL am ⟨bK,ah,aj,au,av,aw,ao,ay,bg⟩ bE bu
 have aq:Hid ((↑aa:Int) < (↑O.length:Int)):=zH (wAj am)
 replace am:=zH am
 have bx:Hid (w64 ((↑aa:Int) + 1)=(↑(aa + 1):Int)):=zH (by have h1:=an.out;have h2:=aq.out;rw [wAX] <;> omega)
 refine sR fL1 Z (oR Z (zW Z aj aw) (eN (zI (cT Z aq (kN (zI (zU (sR fL3 Z (bnK bE fun a8 ax bz=>?_)))))))))
 have bh:=bt.le ao
 have q:=bh.el (fun _=>rfl) (wAV ax)
 obtain ⟨bN,bS,bm,bn⟩:=q
 refine oR Z (ZE Z av bm aj zB zC (wAq ax)) (oL Z (ay.ldC (f:=0) bn (v:=jV a8) Z Z zJ Z) (oA Z Z (eN (sR gBu Z (oM Z au (oM Z Z (bnK bz fun bI bi ae=>OKS.yieldT 0 (a:=a8) Z Z Z Z Z Z (zD Z zO) ay hY ao bg Z bi Z ?_)))))))
 rintro ab ai bO ap bF az ac
 rcases bI with bG | bG
 try dsimp only at ae ac
 obtain ⟨rfl,bC⟩:=ac
 have bp:St ⟨w,L,U⟩ ab ai ap:=az
 refine oR Z (ZF Z Z) (eN (zn Z (ZT (zf (zG (rR fL2 Z (oR Z (zr (zX Z aj Z) (congrArg (jV) bx.out)) (oM Z Z (zg ?_)))))))))
 have q:=nB ae
 obtain rfl:=q
 exact zG ⟨Z,_,Z,⟨ab,ai,Z,au,av,aw,(ao.trans bF),bp,bC⟩⟩
 try dsimp only at ae ac
 obtain ⟨rfl,bD⟩:=ac
 have bq:St ⟨w,L,U⟩ ab ai ap:=az
 refine oR Z (ZF Z Z) (eN (zy Z (zP (zc (zR ?_)))))
 have q:=wAb ae
 obtain ⟨bH,bA,bd⟩:=q
 have q:=wBC hm ak (bu bH bd)
 obtain rfl:=q
 refine zR (zc ?_)
 cases bA
 exact ⟨Z,_,(wMc),ab,_,bq,bD⟩
 rintro bV bX bM ⟨ba,bJ,bf,bP,bQ,be,bR,br,bj⟩ bv
 have bB:=wCI hm ak bv
 have bb:Hid (¬ ((↑(((↑O.length:Int):Int) - 0).toNat:Int) < (↑O.length:Int))):=zH (wAc)
 refine sR fL1 Z (oR Z (zW Z bf be) (eN (zI (cF Z bb (ZJ (zd (zd (ZG ?_))))))))
 cases bB
 exact ⟨Z,_,(wMc),ba,_,br,bj⟩
theorem wGU (O:List Int) (ab:Option Addr) (ac:Nat) (w:World) (U:PHeap) (hS:St0 w U []) (am:Sl U 1 ab ac O.length (hD KL.encI O)) {r:Unit} (hm:wDR O=some r):Gv Tryz.prog 128 [.slice ab O.length ac] w (wBD w [] U (fun U_ L_ v=>∃ (b0:Nat),v=.func (.func 153) #[] #[.pointer (some ⟨b0,0,none⟩)]/\L_=[]/\Cl U_ b0 0 [.slice ab O.length ac])):=by
 unfold wDR at hm
 refine Gv.of Tryz.func128 rfl Tryz.ntmps128 Tryz.results128 rfl (sR gBk rfl (ZH (cs:=[.slice ab O.length ac]) rfl rfl rfl rfl rfl rfl (by rfl) hS ?_))
 intro W1 b2 ai
 have q:=ai.freeze (k:=0) rfl
 obtain ⟨U5,an,aa,aj⟩:=q
 replace aa:=Cl.of aa
 have ak:sW w U U5 [] W1:=aj
 replace aa:Cl U5 b2 0 [.slice ab O.length ac]:=aa
 refine oA Z Z (eN (sR fL2 Z (oR Z (yn Z zO (zD Z zO)) (oA Z Z (eN (zP ?_))))))
 cases hm
 exact ⟨Z,_,(zz Z),U5,_,ak,b2,Z,Z,aa⟩
theorem wIA (O:wAk) (am:Option Addr) (an:Nat) (af:Option Addr) (ag:Nat) (w:World) (U:PHeap) (hS:St0 w U []) (bK:Sl U 1 am an O.Bibs.length (hD KL.encI O.Bibs)) (bB:SlR U wDl af ag O.Times) {r:(List Int)} (hm:wEY O=some r):Gv Tryz.prog 89 [.agg #[jV O.Laps,.slice am O.Bibs.length an,.slice af O.Times.length ag]] w (wBD w [] U (fun U_ L_ v=>∃ (b0:Nat) (A0:Option Addr) (c0:Nat),v=.func (.func 153) #[] #[.pointer (some ⟨b0,0,none⟩)]/\L_=[]/\Cl U_ b0 0 [.slice A0 r.length c0]/\Sl U_ 1 A0 c0 r.length (hD KL.encI r))):=by
 unfold wEY at hm
 refine Gv.of Tryz.func89 Z Tryz.ntmps89 Tryz.results89 Z (sR gBk Z ?_)
 let B0:List Value:=[jV O.Laps,.slice am O.Bibs.length an,.slice af O.Times.length ag]
 refine ZH (cs:=B0) rfl rfl rfl rfl rfl rfl (by rfl) hS ?_
 intro W1 b2 a7
 refine oA Z Z (eN (sR gBu Z (oR Z (zF Z Z ZS Z Zq) (oL Z (a7.ldB (j:=0) Z Z Z yE (v:=.slice af O.Times.length ag) Z) (bnK hm fun x5 h6 bE=>zM 0 Z Z Z Z (zK Z Z Tryz.call126 (zD Z zO) Z) a7 (fun hs=>wGT O.Times af ag W1 U hs bB h6) (.inr Z) ?_)))))
 rintro U8 L9 bP ay bL bq ⟨aa,ac,rfl,rfl⟩
 have br:sW w U U8 [.row aa ac 3 1 (hD KL.encI x5),.blk b2 34 B0] ay:=bq
 refine oA Z Z (eN (sR gBm Z (oM Z Z (bnK bE fun ao bg bC=>zM 1 Z Z Z Z (zK Z Z Tryz.call127 (zD Z zO) Z) br (fun hs=>wGm x5 aa ac ay U8 hs bg) (.inl Z) ?_))))
 rintro au bG bQ az bM bs ⟨rfl,rfl,bh⟩
 have bt:sW w U au [.row aa ac 3 1 (hD KL.encI ao),.blk b2 34 B0] az:=bs
 refine eN (sR gBt rfl (zj rfl rfl rfl rfl rfl (nM (b:=(.slice aa x5.length ac:Value)) (c:=(.slice aa ao.length ac:Value)) rfl (by rw [bh])) (bnK bC fun ah bi bD=>zM 1 rfl rfl rfl rfl (zK rfl rfl Tryz.call129 (zD rfl zO) rfl) bt (fun hs=>wGK ao aa ac az au hs bi) (.inl rfl) ?_)))
 rintro bb bH bR aj bN bu ⟨ai,ak,rfl,rfl⟩
 have bv:sW w U bb [.row ai ak 3 1 (hD KL.encI ah),.blk b2 34 B0] aj:=bu
 have q:=bv.freezeR (k:=0) (n:=ah.length) rfl (wAB (f:=KL.encI) (sz:=1) (fun _=>rfl) ah) (by decide)
 obtain ⟨av,bO,ba,bw⟩:=q
 have bx:sW w U av [.blk b2 34 B0] aj:=bw
 have q:=bnd bD
 obtain ⟨⟨⟩,bj,a8⟩:=q
 try dsimp only at a8
 refine zM 0 Z Z Z Z (zK Z Z Tryz.call128 (zD Z zO) Z) bx (fun hs=>wGU ah ai ak aj av hs ba bj) (.inr Z) ?_
 rintro aw bI bS be bF bz ⟨bf,rfl,rfl,bm⟩
 have bA:sW w U aw [.blk b2 34 B0] be:=bz
 refine oA Z Z (eN (zP ?_))
 have bn:=ba.le bF
 have hE:=nB a8;first | subst r | cases hE
 exact ⟨rfl,_,(zz rfl),aw,_,(bA.pick [] _ (by decide) rfl),bf,ai,ak,rfl,rfl,bm,bn⟩
theorem wFk (p0:wAs) (a7:Nat) (ba:Option Addr) (bb:Nat) (bm:Option Addr) (bp:Nat) (ax:Option Addr) (ay:Nat) (bn:Option Addr) (bq:Nat) (p1:Int) (p2:Int) (p3:Int) (w:World) (U:PHeap) (hS:St0 w U []) (bA:Cl U a7 0 [jV p0.Race.Laps,.slice ba p0.Race.Bibs.length bb,.slice bm p0.Race.Times.length bp,.slice ax p0.done.length ay,.slice bn p0.out.length bq]) (cJ:Sl U 1 ba bb p0.Race.Bibs.length (hD KL.encI p0.Race.Bibs)) (cK:SlR U wDl bm bp p0.Race.Times) (cL:Sl U 1 ax ay p0.done.length (hD KL.encI p0.done)) (cM:Sl U 1 bn bq p0.out.length (hD KL.encT p0.out)) {r:Int} (hm:wDS p0 p1 p2 p3=some r):Gv Tryz.prog 91 [.pointer (some ⟨a7,0,none⟩),jV p1,jV p2,jV p3] w (wBD w [] U (fun U_ L_ v=>v=jV r/\L_=[])):=by
 unfold wDS at hm
 refine Gv.of Tryz.func91 Z Tryz.ntmps91 Tryz.results91 Z (sR fL1 Z (oA Z Z (eN (sR fL1 Z (oA Z Z (eN (zI (sR fL6 Z (oM Z Z (oR Z (ZR Z Z) (oR Z (zF Z Z Zi Z zS) (oL Z (hS.ldC (f:=3) bA (v:=.slice ax p0.done.length ay) Z Z zZ Z) (oR Z (ze Z Z zB) (oM Z Z (eN (zU (bnK hm fun dS cO db=>?_)))))))))))))))))
 have q:=wAn cO
 obtain ⟨bj,cN⟩:=q
 replace bj:=zH bj
 refine CK.forN' (fun k7 x6 σ_ w_=>∃ (U_:PHeap),σ_ 17=jV (↑k7:Int)/\σ_ 0=.pointer (some ⟨a7,0,none⟩)/\σ_ 2=jV p2/\σ_ 3=jV p3/\σ_ 9=jV x6/\σ_ 15=.slice ax p0.done.length ay/\σ_ 16=jV (↑p0.done.length:Int)/\PHeap.Le U U_/\sW w U U_ [] w_) cN ?_ ?_ ?_
 exact ⟨U,Z,Z,Z,Z,Z,Z,Z,(zL _),hS⟩
 rintro k7 x6 dR dT br bi ⟨am,ai,ah,aq,au,an,av,aw,az,bz⟩ di
 have bs:Hid ((↑k7:Int) < (↑p0.done.length:Int)):=zH (wAj bi)
 replace bi:=zH bi
 have cP:Hid (w64 ((↑k7:Int) + 1)=(↑(k7 + 1):Int)):=zH (by have h1:=bj.out;have h2:=bs.out;rw [wAX] <;> omega)
 refine sR fL1 Z (oR Z (zW Z ai aw) (eN (zI (cT Z bs (kN (bnK di fun dq dl cW=>yd (fun σ_ w_=>∃ (U_:PHeap),σ_ 0=.pointer (some ⟨a7,0,none⟩)/\σ_ 2=jV p2/\σ_ 3=jV p3/\σ_ 9=jV dq/\σ_ 15=.slice ax p0.done.length ay/\σ_ 16=jV (↑p0.done.length:Int)/\σ_ 17=jV (↑k7:Int)/\PHeap.Le am U_/\sW w U U_ [] w_) ?_ ?_))))))
 refine zU (sR fL5 Z (oM Z ai (bnK dl fun dr bt cX=>?_)))
 have cn:=cL.le az
 have q:=cn.el (fun _=>rfl) (wAV bt)
 obtain ⟨dB,dN,cu,cD⟩:=q
 refine zY rfl rfl rfl rfl (fun _=>ZE rfl av cu ai zB zC (wAq bt)) (ZB rfl rfl rfl rfl (bz.ldC (f:=0) cD (v:=jV dr) rfl rfl zJ rfl) rfl (yU rfl rfl rfl rfl rfl rfl (yU rfl rfl rfl rfl rfl rfl (eN (zI (ZN ZD [3,3,3,1,3,3,1,3,3,3,3,3,3,3,3,3,3,3,3,1,3,3,1,3,3,3,1,3,3,3,3,3,3,3,3,3,3,3,1,3,3,1,3,3,3,3,1,3,3,1,3,3,3] fL53 (by kernel_rfl) ?_))))))
 have ac:=bz.drew
 generalize hw_W44:({ br with drawn:=br.drawn + 1 }:World)=dy at ac ⊢
 refine oM Z ah (oR Z (ZR Z Z) (oR Z (zF Z Z Zi Z yM) ?_))
 have a8:=bA.le az
 refine oL Z (ac.ldC (f:=4) a8 (v:=.slice bn p0.out.length bq) Z Z YT Z) (oM Z Z (bnK cX fun dt bu cY=>?_))
 have co:=cM.le az
 have q:=co.el (fun _=>rfl) (wAV bu)
 obtain ⟨dC,dO,cw,cE⟩:=q
 refine oR Z (ZE Z Z cw Z Ze yN (wAq bu)) (oL Z (ac.ldC (f:=0) cE (v:=.bool dt) Z Z Tryz.isAgg4 Z) (oR Z (ZF Z Z) (oM Z Z (ifc cY ?_ ?_))))
 intro af cZ
 refine zk Z Z Z (zQ Z Z (nC af.out) Z) (zk Z Z Z (zQ Z Z (nC af.out) Z) (zk Z Z Z (zQ Z Z (nC af.out) Z) (zk Z Z Z (zQ Z Z (nC af.out) Z) (oR Z (za Z (nC af.out) Z) (oM Z Z (oN Z (oN Z (oN Z (oN Z (oN Z (oN Z (oN Z (oN Z (oN Z (oN Z (oN Z (oN Z (oN Z (oN Z (oR Z (za Z Z Z) (oM Z Z (oN Z (oN Z (oN Z (zk Z Z Z (wAd Z Z Z) (zk Z Z Z (wAd Z Z Z) (zk Z Z Z (wAd Z Z Z) (zk Z Z Z (wAd Z Z Z) (zk Z Z Z (wAd Z Z Z) (zk Z Z Z (wAd Z Z Z) (zk Z Z Z (wAd Z Z Z) (zk Z Z Z (wAd Z Z Z) (zk Z Z Z (wAd Z Z Z) (zk Z Z Z (wAd Z Z Z) (zk Z Z Z (wAd Z Z Z) (zk Z Z Z (wAd Z Z Z) (zk Z Z Z (wAd Z Z Z) (zk Z Z Z (wAd Z Z Z) (zk Z Z Z (wAd Z Z Z) (zk Z Z Z (wAd Z Z Z) (zk Z Z Z (wAd Z Z Z) (oN Z (oR Z (za Z Z Z) (eN (zn Z (ZT (zf ?_)))))))))))))))))))))))))))))))))))))))))))))))
 cases cZ
 exact zG ⟨Z,⟨am,ah,aq,au,an,av,aw,ai,(zL _),ac⟩⟩
 intro af c6
 refine zj Z Z Z (zN Z Z (nF (af.out))) Z Z (zj Z Z Z (zN Z Z (nF (af.out))) Z aq (zY Z Z Z (zN Z Z (nF (af.out))) (fun _=>zX Z Z Z) (zY Z Z Z (zN Z Z (nF (af.out))) (fun _=>YJ Z Z Z) (oR Z (zT Z (nF (af.out)) Z) (oM Z Z (ifc c6 ?_ ?_))))))
 intro aa c8
 refine zj Z Z Z (wT Z aa) Z ah (rU Z (wT Z aa) (ZR Z Z) (rU Z (wT Z aa) (zF Z Z Zi Z Zm) (rU Z (wT Z aa) (zF Z Z ZS Z Zq) (ZB Z Z Z (wT Z aa) (ac.ldC (f:=2) a8 (v:=.slice bm p0.Race.Times.length bp) Z Z yE Z) Z (zj Z Z Z (wT Z aa) Z Z (bnK c8 fun bE bv c9=>?_))))))
 have cp:=cK.le az
 have q:=cp.el (wAV bv)
 obtain ⟨bH,dn,dQ,cy,bh,dh⟩:=q
 obtain ⟨bC,bD,rfl,cq⟩:=dh
 replace bh:Cl am bH (dn + k7 * 1) [.slice bC bE.length bD]:=bh
 refine rU Z (wT Z aa) (ZE Z Z cy Z zu zS (wAq bv)) (ZB Z Z Z (wT Z aa) (ac.ldC (f:=0) bh (v:=.slice bC bE.length bD) Z Z zZ Z) Z (zj Z Z Z (wT Z aa) Z Z (rU Z (wT Z aa) (Zy Z Z Z) (bnK c9 fun du bg da=>?_))))
 have q:=cq.el (fun _=>rfl) (wAV bg)
 obtain ⟨dD,dP,cz,cG⟩:=q
 refine rU Z (wT Z aa) (Za Z Z cz Z zB zC (wCh bg) (wCs bg)) (ZB Z Z Z (wT Z aa) (ac.ldC (f:=0) cG (v:=jV du) Z Z zJ Z) Z (zj Z Z Z (wT Z aa) Z au (rU Z (wT Z aa) (yc Z Z Z) (oR Z (zT Z (ZZ aa.out) Z) (oM Z Z (ifc da ?_ ?_))))))
 intro ae dd
 refine zj Z Z Z (wT Z ae) Z an (rU Z (wT Z ae) (zW Z Z Z) (zj Z Z Z (wT Z ae) Z Z (ifc dd ?_ ?_)))
 intro O de
 refine oT Z O (oT Z O (oT Z O (oT Z O (oT Z O (oT Z O (oT Z O (oT Z O (oT Z O (oT Z O (oT Z O (oT Z O (oT Z O (oT Z O (oT Z O (oT Z O (oT Z O (rU Z (wT Z ae) (zT Z (ZZ O.out) Z) (oR Z (zT Z (ZZ ae.out) Z) (eN (zy Z (yL fun ap ak=>?_)))))))))))))))))))))
 have bZ:ap 0=.pointer (some ⟨a7,0,none⟩):=(ak 0).trans ah
 have ca:ap 2=jV p2:=(ak 2).trans aq
 have cc:ap 3=jV p3:=(ak 3).trans au
 have dJ:ap 9=jV x6:=(ak 9).trans an
 have cd:ap 10=jV (↑k7:Int):=(ak 10).trans rfl
 have cg:ap 15=.slice ax p0.done.length ay:=(ak 15).trans av
 have ci:ap 16=jV (↑p0.done.length:Int):=(ak 16).trans aw
 have cj:ap 17=jV (↑k7:Int):=(ak 17).trans ai
 clear ak
 refine rR fL2 Z (oM Z cd (oA Z Z (zg (zf ?_))))
 cases de
 exact zG ⟨Z,⟨am,bZ,ca,cc,Z,cg,ci,cj,(zL _),ac⟩⟩
 intro O df
 refine zj Z Z Z (wF Z O) Z ah (rU Z (wF Z O) (ZR Z Z) (rU Z (wF Z O) (zF Z Z Zi Z Zm) (rU Z (wF Z O) (zF Z Z ZS Z zS) (ZB Z Z Z (wF Z O) (ac.ldC (f:=1) a8 (v:=.slice ba p0.Race.Bibs.length bb) Z Z zZ Z) Z (zj Z Z Z (wF Z O) Z Z (bnK df fun dv bw dg=>?_))))))
 have bx:=cJ.le az
 have q:=bx.el (fun _=>rfl) (wAV bw)
 obtain ⟨dz,dL,cr,cA⟩:=q
 refine rU Z (wF Z O) (ZE Z Z cr Z zB zC (wAq bw)) (ZB Z Z Z (wF Z O) (ac.ldC (f:=0) cA (v:=jV dv) Z Z zJ Z) Z (zj Z Z Z (wF Z O) Z ah (rU Z (wF Z O) (ZR Z Z) (rU Z (wF Z O) (zF Z Z Zi Z Zm) (rU Z (wF Z O) (zF Z Z ZS Z zS) (ZB Z Z Z (wF Z O) (ac.ldC (f:=1) a8 (v:=.slice ba p0.Race.Bibs.length bb) Z Z zZ Z) Z (zj Z Z Z (wF Z O) Z an (bnK dg fun dp bf cQ=>?_))))))))
 have q:=bx.el (fun _=>rfl) (wAV bf)
 obtain ⟨dA,dM,ct,cC⟩:=q
 refine rU Z (wF Z O) (Za Z Z ct Z zB zC (wCh bf) (wCs bf)) (ZB Z Z Z (wF Z O) (ac.ldC (f:=0) cC (v:=jV dp) Z Z zJ Z) Z (rU Z (wF Z O) (zW Z Z Z) (rU Z (wT Z ae) (za Z (zt O.out) Z) (oR Z (zT Z (ZZ ae.out) Z) (eN (ifc cQ ?_ ?_))))))
 intro be cR
 refine cT Z be (yL fun ao aj=>?_)
 have bJ:ao 0=.pointer (some ⟨a7,0,none⟩):=(aj 0).trans ah
 have bK:ao 2=jV p2:=(aj 2).trans aq
 have bL:ao 3=jV p3:=(aj 3).trans au
 have dE:ao 9=jV x6:=(aj 9).trans an
 have bM:ao 10=jV (↑k7:Int):=(aj 10).trans rfl
 have bN:ao 15=.slice ax p0.done.length ay:=(aj 15).trans av
 have bO:ao 16=jV (↑p0.done.length:Int):=(aj 16).trans aw
 have bP:ao 17=jV (↑k7:Int):=(aj 17).trans ai
 clear aj
 refine rR fL2 Z (oM Z bM (oA Z Z (zg (zf ?_))))
 cases cR
 exact zG ⟨Z,⟨am,bJ,bK,bL,Z,bN,bO,bP,(zL _),ac⟩⟩
 intro be cS
 refine cF Z be (ZT (zf ?_))
 cases cS
 exact zG ⟨Z,⟨am,ah,aq,au,an,av,aw,ai,(zL _),ac⟩⟩
 intro ae cU
 refine oF Z ae (oF Z ae (oF Z ae (zk Z Z Z (wAd Z Z Z) (zk Z Z Z (wAd Z Z Z) (zk Z Z Z (wAd Z Z Z) (zk Z Z Z (wAd Z Z Z) (zk Z Z Z (wAd Z Z Z) (zk Z Z Z (wAd Z Z Z) (zk Z Z Z (wAd Z Z Z) (zk Z Z Z (wAd Z Z Z) (zk Z Z Z (wAd Z Z Z) (zk Z Z Z (wAd Z Z Z) (zk Z Z Z (wAd Z Z Z) (zk Z Z Z (wAd Z Z Z) (zk Z Z Z (wAd Z Z Z) (zk Z Z Z (wAd Z Z Z) (zk Z Z Z (wAd Z Z Z) (zk Z Z Z (wAd Z Z Z) (zk Z Z Z (wAd Z Z Z) (oF Z ae (oR Z (za Z (zt ae.out) Z) (eN (zn Z (ZT (zf ?_)))))))))))))))))))))))))
 cases cU
 exact zG ⟨Z,⟨am,ah,aq,au,an,av,aw,ai,(zL _),ac⟩⟩
 intro aa cV
 refine oF Z aa (oF Z aa (oF Z aa (oF Z aa (oF Z aa (oF Z aa (oF Z aa (oF Z aa (oF Z aa (oF Z aa (oF Z aa (oF Z aa (oF Z aa (oF Z aa (oR Z (za Z (zt aa.out) Z) (oM Z Z (oN Z (oN Z (oN Z (zk Z Z Z (wAd Z Z Z) (zk Z Z Z (wAd Z Z Z) (zk Z Z Z (wAd Z Z Z) (zk Z Z Z (wAd Z Z Z) (zk Z Z Z (wAd Z Z Z) (zk Z Z Z (wAd Z Z Z) (zk Z Z Z (wAd Z Z Z) (zk Z Z Z (wAd Z Z Z) (zk Z Z Z (wAd Z Z Z) (zk Z Z Z (wAd Z Z Z) (zk Z Z Z (wAd Z Z Z) (zk Z Z Z (wAd Z Z Z) (zk Z Z Z (wAd Z Z Z) (zk Z Z Z (wAd Z Z Z) (zk Z Z Z (wAd Z Z Z) (zk Z Z Z (wAd Z Z Z) (zk Z Z Z (wAd Z Z Z) (oN Z (oR Z (za Z Z Z) (eN (zn Z (ZT (zf ?_)))))))))))))))))))))))))))))))))))))))))
 cases cV
 exact zG ⟨Z,⟨am,ah,aq,au,an,av,aw,ai,(zL _),ac⟩⟩
 rintro dU dw ⟨bF,bQ,bR,bS,bT,bU,bV,bW,dm,cH⟩
 refine rR fL2 Z (oR Z (zr (zX Z bW Z) (congrArg (jV) cP.out)) (oM Z Z (zg ?_)))
 cases cW
 exact zG ⟨Z,⟨bF,Z,bQ,bR,bS,bT,bU,bV,(az.trans dm),cH⟩⟩
 rintro dV dx ⟨bG,cm,dF,dG,dH,bX,dI,bY,dK,cI⟩
 have bI:Hid (¬ ((↑(((↑p0.done.length:Int):Int) - 0).toNat:Int) < (↑p0.done.length:Int))):=zH (wAc)
 refine sR fL1 Z (oR Z (zW Z cm bY) (eN (zI (cF Z bI (ZJ (zd (zd (ZG (zG (sR fL2 Z (oM Z bX (oA Z Z (eN (zP ?_))))))))))))))
 have hE:=nB db;first | subst r | cases hE
 exact ⟨Z,_,(zz Z),bG,_,cI,Z,Z⟩
theorem wGn (O:wAs) (ab:Nat) (ax:Option Addr) (ay:Nat) (aq:Option Addr) (au:Nat) (ac:Option Addr) (ae:Nat) (an:Option Addr) (ao:Nat) (p1:Int) (w:World) (U:PHeap) (hS:St0 w U [.blk ab 165 [jV O.Race.Laps,.slice ax O.Race.Bibs.length ay,.slice aq O.Race.Times.length au,.slice ac O.done.length ae,.slice an O.out.length ao],.row ac ae 3 1 (hD KL.encI O.done),.row an ao 4 1 (hD KL.encT O.out)]) (cJ:Sl U 1 ax ay O.Race.Bibs.length (hD KL.encI O.Race.Bibs)) (bR:SlR U wDl aq au O.Race.Times) {r:(List Int) × wAs} (hm:wDq O p1=some r):Gv Tryz.prog 90 [.pointer (some ⟨ab,0,none⟩),jV p1] w (wBD w [.blk ab 165 [jV O.Race.Laps,.slice ax O.Race.Bibs.length ay,.slice aq O.Race.Times.length au,.slice ac O.done.length ae,.slice an O.out.length ao],.row ac ae 3 1 (hD KL.encI O.done),.row an ao 4 1 (hD KL.encT O.out)] U (fun U_ L_ v=>∃ (A0:Option Addr) (c0:Nat) (ca:Option Addr) (cr:Nat) (cc:Option Addr) (ct:Nat) (cd:Option Addr) (cu:Nat) (cg:Option Addr) (cw:Nat),v=.slice A0 r.1.length c0/\L_=[.row A0 c0 3 1 (hD KL.encI r.1),.row cd cu 3 1 (hD KL.encI r.2.done),.row cg cw 4 1 (hD KL.encT r.2.out),.blk ab 165 [jV r.2.Race.Laps,.slice ca r.2.Race.Bibs.length cr,.slice cc r.2.Race.Times.length ct,.slice cd r.2.done.length cu,.slice cg r.2.out.length cw]]/\Sl U_ 1 ca cr r.2.Race.Bibs.length (hD KL.encI r.2.Race.Bibs)/\SlR U_ wDl cc ct r.2.Race.Times)):=by
 unfold wDq at hm
 refine Gv.of Tryz.func90 Z Tryz.ntmps90 Tryz.results90 Z (sR fL1 Z (oA Z Z (eN (zI (sR fL7 Z (oM Z Z (oR Z (ZR Z Z) (oR Z (zF Z Z Zi Z Zm) (oR Z (zF Z Z ZS Z Zq) (oL Z (hS.ldB (j:=0) Z Z Z yE (v:=.slice aq O.Race.Times.length au) Z) (oR Z (ze Z Z zu) (oM Z Z (eN (zU (bnK hm fun ap eB eM=>?_)))))))))))))))
 have q:=wAn eB
 obtain ⟨bW,eE⟩:=q
 replace bW:=zH bW
 let B0:Res:=.blk ab 165 [jV O.Race.Laps,.slice ax O.Race.Bibs.length ay,.slice aq O.Race.Times.length au,.slice ac O.done.length ae,.slice an O.out.length ao]
 let B1:Res:=.row an ao 4 1 (hD KL.encT O.out)
 let B2:Res:=.row ac ae 3 1 (hD KL.encI O.done)
 refine CK.forN' (fun ai l9 σ_ w_=>∃ (U_:PHeap),σ_ 17=jV (↑ai:Int)/\σ_ 0=.pointer (some ⟨ab,0,none⟩)/\σ_ 1=jV p1/\σ_ 15=.slice aq O.Race.Times.length au/\σ_ 16=jV (↑O.Race.Times.length:Int)/\PHeap.Le U U_/\SW w [B0,B2,B1] U U_ [.row ac ae 3 1 (hD KL.encI l9),B1,.blk ab 165 [jV O.Race.Laps,.slice ax O.Race.Bibs.length ay,.slice aq O.Race.Times.length au,.slice ac l9.length ae,.slice an O.out.length ao]] w_/\l9.length=O.done.length) eE ?_ ?_ ?_
 exact ⟨U,rfl,rfl,rfl,rfl,rfl,(zL _),(hS.pick [1,2,0] _ (by decide) rfl),rfl⟩
 rintro ai l9 fZ gf fG bU ⟨a7,a8,bf,bp,bq,br,bv,am,bD⟩ ft
 have cq:Hid ((↑ai:Int) < (↑O.Race.Times.length:Int)):=zH (wAj bU)
 replace bU:=zH bU
 have bE:Hid (w64 ((↑ai:Int) + 1)=(↑(ai + 1):Int)):=zH (by have h1:=bW.out;have h2:=cq.out;rw [wAX] <;> omega)
 refine sR fL1 Z (oR Z (zW Z a8 br) (eN (zI (cT Z cq (kN (zI (zU (sR fL5 Z (oM Z a8 (bnK ft fun cQ cA eY=>?_))))))))))
 have dN:=bR.le bv
 have q:=dN.el (wAV cA)
 obtain ⟨da,fz,fV,dP,bQ,fj⟩:=q
 obtain ⟨cN,cO,rfl,dO⟩:=fj
 replace bQ:Cl a7 da (fz + ai * 1) [.slice cN cQ.length cO]:=bQ
 refine oR Z (ZE Z bq dP a8 zu zS (wAq cA)) (oL Z (am.ldC (f:=0) bQ (v:=.slice cN cQ.length cO) Z Z zZ Z) (oA Z Z (oA Z Z (eN (sR fL8 Z (oM Z bf (oR Z (ZR Z Z) (oR Z (zF Z Z Zi Z zS) (oL Z (am.ldB (j:=2) Z Z Z zZ (v:=.slice ac l9.length ae) Z) (oM Z Z (bnK eY fun _ aZ eZ=>?_)))))))))))
 have q:=am.rowSome (j:=0) rfl (by rw [wAB (f:=KL.encI) (sz:=1) (fun _=>rfl) l9];have hz:=wAS aZ;omega)
 obtain ⟨fL,bh⟩:=q
 refine oR Z (ZE Z Z bh Z zB zC (wAS aZ)) ?_
 have eH:=wBK (xs:=l9) (wAS aZ)
 refine ZB rfl rfl rfl rfl (am.ldR (j:=0) rfl bh rfl rfl zJ (wAW (sz:=1) (fun _=>rfl) _ _ 0 _ eH (by first | omega | rfl | simp) rfl)) rfl (yU rfl rfl rfl rfl rfl rfl (eN (sR wRy rfl (zj rfl rfl rfl rfl rfl bf (zY rfl rfl rfl rfl (fun _=>ZR rfl rfl) (zY rfl rfl rfl rfl (fun _=>zF rfl rfl Zi rfl yM) (ZB rfl rfl rfl rfl (am.ldB (j:=2) rfl rfl rfl YT (v:=.slice an O.out.length ao) rfl) rfl (zj rfl rfl rfl rfl rfl rfl (bnK eZ fun _ bO e8=>?_)))))))))
 have q:=am.rowSome (j:=1) rfl (by rw [wAB (f:=KL.encT) (sz:=1) (fun _=>rfl) O.out];have hz:=wAS bO;omega)
 obtain ⟨fM,cE⟩:=q
 refine oR Z (ZE Z Z cE Z Ze yN (wAS bO)) ?_
 have eI:=wBK (xs:=O.out) (wAS bO)
 refine ZB rfl rfl rfl rfl (am.ldR (j:=1) rfl cE rfl rfl Tryz.isAgg4 (wAW (sz:=1) (fun _=>rfl) _ _ 0 _ eI (by first | omega | rfl | simp) rfl)) rfl (zY rfl rfl rfl rfl (fun _=>ZF rfl rfl) (zj rfl rfl rfl rfl rfl rfl (ifc e8 ?_ ?_)))
 intro aw e9
 refine zk Z Z Z (zQ Z Z (nC aw.out) Z) (zk Z Z Z (zQ Z Z (nC aw.out) Z) (zk Z Z Z (zQ Z Z (nC aw.out) Z) (zk Z Z Z (zQ Z Z (nC aw.out) Z) (oR Z (za Z (nC aw.out) Z) (oM Z Z (oN Z (oN Z (oN Z (oN Z (oN Z (oN Z (oR Z (za Z Z Z) (eN (zn Z (ZT (zf (zG (rR fL2 Z (oR Z (zr (zX Z a8 Z) (congrArg (jV) bE.out)) (oM Z Z (zg ?_)))))))))))))))))))))
 cases e9
 exact zG ⟨Z,⟨a7,Z,bf,bp,bq,br,bv,am,bD⟩⟩
 intro aw fb
 refine zj Z Z Z (zN Z Z (nF (aw.out))) Z Z (zj Z Z Z (zN Z Z (nF (aw.out))) Z Z (zY Z Z Z (zN Z Z (nF (aw.out))) (fun _=>ze Z Z zB) (zY Z Z Z (zN Z Z (nF (aw.out))) (fun _=>zW Z Z Z) (oR Z (zT Z (nF (aw.out)) Z) (oM Z Z (ifc fb ?_ ?_))))))
 intro ah fc
 refine zj Z Z Z (wT Z ah) Z Z (zj Z Z Z (wT Z ah) Z Z (bnK fc fun fD bP fd=>?_))
 have q:=dO.el (fun _=>rfl) (wAV bP)
 obtain ⟨fN,fT,dQ,dR⟩:=q
 refine rU Z (wT Z ah) (Za Z Z dQ Z zB zC (wCh bP) (wCs bP)) (ZB Z Z Z (wT Z ah) (am.ldC (f:=0) dR (v:=jV fD) Z Z zJ Z) Z (zj Z Z Z (wT Z ah) Z bp (rU Z (wT Z ah) (yc Z Z Z) (oR Z (zT Z (ZZ ah.out) Z) (eN (ifc fd ?_ ?_))))))
 intro bK ff
 refine cT Z bK (yL fun bj bb=>?_)
 have cy:bj 0=.pointer (some ⟨ab,0,none⟩):=(bb 0).trans bf
 have di:bj 1=jV p1:=(bb 1).trans bp
 have dl:bj 5=jV (↑ai:Int):=(bb 5).trans rfl
 have dm:bj 15=.slice aq O.Race.Times.length au:=(bb 15).trans bq
 have dn:bj 16=jV (↑O.Race.Times.length:Int):=(bb 16).trans br
 have dp:bj 17=jV (↑ai:Int):=(bb 17).trans a8
 clear bb
 refine rR (wQw (.fx 9 .nil .stop)) Z (oM Z cy (oR Z (ZR Z Z) (oR Z (zF Z Z Zi Z zS) (oL Z (am.ldB (j:=2) Z Z Z zZ (v:=.slice ac l9.length ae) Z) (oM Z dl (oR Z (ZE Z Z bh Z zB zC (wAS aZ)) ?_))))))
 have eJ:=wBK (xs:=l9) (wAS aZ)
 refine ZB rfl rfl rfl rfl (am.ldR (j:=0) rfl bh rfl rfl zJ (wAW (sz:=1) (fun _=>rfl) _ _ 0 _ eJ (by first | omega | rfl | simp) rfl)) rfl (zY rfl rfl rfl rfl (fun _=>zX rfl rfl rfl) (zY rfl rfl rfl rfl (fun _=>ZE rfl rfl bh rfl zB zC (wAS aZ)) ?_))
 have eK:=wBK (xs:=l9) (wAS aZ)
 refine YO (j:=0) (vs:=[jV (w64 ((gd l9 ai) + 1))]) (cs':=hD KL.encI (nG l9 ai (w64 ((gd l9 ai) + 1)))) rfl rfl rfl rfl am rfl bh rfl rfl rfl zC (by rw [wAB (f:=KL.encI) (sz:=1) (fun _=>rfl)];have hz:=wAS aZ;show _ + 1 <= _;first | omega | (simp only [nL];omega) | (simp only [nK,nI,nJ];omega)) rfl (wDA (sz:=1) (fo:=0) (fun _=>rfl) _ _ _ _ eK (by first | omega | (simp only [nL];omega) | (simp only [nK,nI,nJ];omega)) (zA rfl) rfl) rfl ?_
 intro cm ey
 let B3:Res:=.row ac ae 3 1 (hD KL.encI (nG l9 ai (w64 ((gd l9 ai) + 1))))
 have ez:SW w [B0,B2,B1] U a7 [B3,B1,.blk ab 165 [jV O.Race.Laps,.slice ax O.Race.Bibs.length ay,.slice aq O.Race.Times.length au,.slice ac l9.length ae,.slice an O.out.length ao]] cm:=ey
 have eA:SW w [B0,B2,B1] U a7 [B3,B1,.blk ab 165 [jV O.Race.Laps,.slice ax O.Race.Bibs.length ay,.slice aq O.Race.Times.length au,.slice ac ((nG l9 ai (w64 ((gd l9 ai) + 1))).length) ae,.slice an O.out.length ao]] cm:=by simpa only [B0,B1,B2,B3,nD] using ez
 refine zg (zf (zG (rR fL2 Z (oR Z (zr (zX Z dp Z) (congrArg (jV) bE.out)) (oM Z Z (zg ?_))))))
 cases ff
 exact zG ⟨Z,⟨a7,Z,cy,di,dm,dn,bv,eA,(nD.trans bD)⟩⟩
 intro bK fg
 refine cF Z bK (ZT (zf (zG (rR fL2 Z (oR Z (zr (zX Z a8 Z) (congrArg (jV) bE.out)) (oM Z Z (zg ?_)))))))
 cases fg
 exact zG ⟨Z,⟨a7,Z,bf,bp,bq,br,bv,am,bD⟩⟩
 intro ah fh
 refine oF Z ah (oF Z ah (oF Z ah (oF Z ah (oF Z ah (oF Z ah (oR Z (za Z (zt ah.out) Z) (eN (zn Z (ZT (zf (zG (rR fL2 Z (oR Z (zr (zX Z a8 Z) (congrArg (jV) bE.out)) (oM Z Z (zg ?_)))))))))))))))
 cases fh
 exact zG ⟨Z,⟨a7,Z,bf,bp,bq,br,bv,am,bD⟩⟩
 rintro gh fI ⟨cj,dt,cz,dq,fO,df,bG,cI,fS⟩
 have db:Hid (¬ ((↑(((↑O.Race.Times.length:Int):Int) - 0).toNat:Int) < (↑O.Race.Times.length:Int))):=zH (wAc)
 refine sR fL1 Z (oR Z (zW Z dt df) (eN (zI (cF Z db (ZJ (zd (zd (ZG (zG (sR fL1 Z (oA Z Z (eN (zI (sR fL6 Z (oM Z cz (oR Z (ZR Z Z) (oR Z (zF Z Z Zi Z zS) (oL Z (cI.ldB (j:=2) Z Z Z zZ (v:=.slice ac ap.length ae) Z) (oR Z (ze Z Z zB) (oM Z Z (eN (zU (bnK eM fun gb eC eO=>?_)))))))))))))))))))))))
 have q:=wAn eC
 obtain ⟨bV,eD⟩:=q
 replace bV:=zH bV
 let B4:List Value:=[jV O.Race.Laps,.slice ax O.Race.Bibs.length ay,.slice aq O.Race.Times.length au,.slice ac ap.length ae,.slice an O.out.length ao]
 let B5:Res:=.row ac ae 3 1 (hD KL.encI ap)
 refine CK.forN' (fun av bt σ_ w_=>∃ (U_:PHeap) (bd:Option Addr) (be:Nat),σ_ 66=jV (↑av:Int)/\σ_ 0=.pointer (some ⟨ab,0,none⟩)/\σ_ 1=jV p1/\σ_ 8=.slice bd bt.length be/\σ_ 64=.slice ac ap.length ae/\σ_ 65=jV (↑ap.length:Int)/\PHeap.Le cj U_/\SW w [B0,B2,B1] U U_ [B5,B1,.blk ab 165 B4,.row bd be 3 1 (hD KL.encI bt)] w_) eD ?_ ?_ ?_
 have dS:=cI.nilrow 3 1
 exact ⟨cj,none,0,rfl,cz,dq,rfl,rfl,rfl,(zL _),(dS.pick [1,2,3,0] _ (by decide) rfl)⟩
 rintro av bt fY ge bx bT ⟨cS,bd,be,bg,bn,bA,bL,bB,bC,bu,ba⟩ fq
 have co:Hid ((↑av:Int) < (↑ap.length:Int)):=zH (wAj bT)
 replace bT:=zH bT
 have bS:Hid (w64 ((↑av:Int) + 1)=(↑(av + 1):Int)):=zH (by have h1:=bV.out;have h2:=co.out;rw [wAX] <;> omega)
 refine sR fL1 Z (oR Z (zW Z bg bC) (eN (zI (cT Z co (kN (zI (zU (sR fL5 Z (oM Z bg (bnK fq fun _ bM eQ=>?_))))))))))
 have q:=ba.rowSome (j:=0) rfl (by rw [wAB (f:=KL.encI) (sz:=1) (fun _=>rfl) ap];have hz:=wAS bM;omega)
 obtain ⟨fJ,cC⟩:=q
 refine oR Z (ZE Z bB cC bg zB zC (wAS bM)) ?_
 have eF:=wBK (xs:=ap) (wAS bM)
 refine ZB rfl rfl rfl rfl (ba.ldR (j:=0) rfl cC rfl rfl zJ (wAW (sz:=1) (fun _=>rfl) _ _ 0 _ eF (by first | omega | rfl | simp) rfl)) rfl (yU rfl rfl rfl rfl rfl rfl (yU rfl rfl rfl rfl rfl rfl (eN (sR (wSA (.fx 13 (.fl 14 (.fl 15 .nil)) .stop)) rfl (zj rfl rfl rfl rfl rfl bn (zY rfl rfl rfl rfl (fun _=>ZR rfl rfl) (zY rfl rfl rfl rfl (fun _=>zF rfl rfl Zi rfl yM) (ZB rfl rfl rfl rfl (ba.ldB (j:=2) rfl rfl rfl YT (v:=.slice an O.out.length ao) rfl) rfl (zj rfl rfl rfl rfl rfl rfl (bnK eQ fun _ bN eR=>?_))))))))))
 have q:=ba.rowSome (j:=1) rfl (by rw [wAB (f:=KL.encT) (sz:=1) (fun _=>rfl) O.out];have hz:=wAS bN;omega)
 obtain ⟨fK,cD⟩:=q
 refine oR Z (ZE Z Z cD Z Ze yN (wAS bN)) ?_
 have eG:=wBK (xs:=O.out) (wAS bN)
 refine ZB rfl rfl rfl rfl (ba.ldR (j:=1) rfl cD rfl rfl Tryz.isAgg4 (wAW (sz:=1) (fun _=>rfl) _ _ 0 _ eG (by first | omega | rfl | simp) rfl)) rfl (zY rfl rfl rfl rfl (fun _=>ZF rfl rfl) (zj rfl rfl rfl rfl rfl rfl (ifc eR ?_ ?_)))
 intro ag eS
 refine zk Z Z Z (zQ Z Z (nC ag.out) Z) (zk Z Z Z (zQ Z Z (nC ag.out) Z) (zk Z Z Z (zQ Z Z (nC ag.out) Z) (zk Z Z Z (zQ Z Z (nC ag.out) Z) (ZI Z Z Z (zQ Z Z (nC ag.out) Z) (zk Z Z Z (zQ Z Z (nC ag.out) Z) (oR Z (za Z (nC ag.out) Z) (eN (zn Z (ZT (zf (zG (rR fL2 Z (oR Z (zr (zX Z bg Z) (congrArg (jV) bS.out)) (oM Z Z (zg ?_)))))))))))))))
 cases eS
 exact zG ⟨Z,⟨cS,bd,be,Z,bn,bA,bL,bB,bC,bu,ba⟩⟩
 intro ag eT
 refine zj Z Z Z (zN Z Z (nF (ag.out))) Z bn (zj Z Z Z (zN Z Z (nF (ag.out))) Z Z (zj Z Z Z (zN Z Z (nF (ag.out))) Z Z (zj Z Z Z (zN Z Z (nF (ag.out))) Z bA ?_)))
 have q:=ba.freezeT (k:=0) (n:=ap.length) rfl (wAB (f:=KL.encI) (sz:=1) (fun _=>rfl) ap) (by decide)
 obtain ⟨cU,cK,fk,dT,fA⟩:=q
 let B6:Res:=.row bd be 3 1 (hD KL.encI bt)
 have dU:SW w [B0,B2,B1] U cU [B1,.blk ab 165 B4,B6] bx:=dT
 have q:=dU.freezeT (k:=0) (n:=O.out.length) rfl (wAB (f:=KL.encT) (sz:=1) (fun _=>rfl) O.out) (by decide)
 obtain ⟨cV,bX,fm,dV,fB⟩:=q
 have dW:SW w [B0,B2,B1] U cV [.blk ab 165 B4,B6] bx:=dV
 have q:=dW.freezeTB (k:=0) rfl
 obtain ⟨bI,bF,bs,dX,fC⟩:=q
 replace bs:=Cl.of bs
 have dY:SW w [B0,B2,B1] U bI [B6] bx:=dX
 replace bs:Cl bI ab 0 B4:=bs
 have du:=cJ.le bG
 have dv:=du.le bu
 have dw:=dv.le cK
 have dx:=dw.le bX
 have dy:=dx.le bF
 have dz:=bR.le bG
 have dA:=dz.le bu
 have dB:=dA.le cK
 have dC:=dB.le bX
 have dD:=dC.le bF
 have dE:=fk.le bX
 have dF:=dE.le bF
 have dG:=fm.le bF
 refine bnK eT fun fW dH eU=>zM 0 rfl rfl rfl (zN rfl rfl (nF (ag.out))) (zK rfl rfl Tryz.call91 (zD rfl (zD rfl (zD rfl (zD rfl zO)))) rfl) dY (fun hs=>wFk (⟨O.Race,ap,O.out⟩:wAs) ab ax ay aq au ac ae an ao (↑av:Int) (gd ap av) p1 bx bI hs bs dy dD dF dG dH) (.inr rfl) ?_
 rintro cW fE fU bz fu dZ ⟨rfl,rfl⟩
 have d7:SW w [B0,B2,B1] U cW [B6] bz:=dZ
 have q:=fC _ _ _ fu d7
 obtain ⟨cX,fw,d8⟩:=q
 have d9:SW w [B0,B2,B1] U cX [.blk ab 165 B4,B6] bz:=d8
 have q:=fB _ _ _ fw d9
 obtain ⟨cY,fy,eh⟩:=q
 have ej:SW w [B0,B2,B1] U cY [B1,.blk ab 165 B4,B6] bz:=eh
 have q:=fA _ _ _ fy ej
 obtain ⟨bm,cL,eo⟩:=q
 have cG:SW w [B0,B2,B1] U bm [B5,B1,.blk ab 165 B4,B6] bz:=eo
 refine zY Z Z Z (zN Z Z (nF (ag.out))) (fun _=>YJ Z Z Z) (oR Z (zT Z (nF (ag.out)) Z) (eN (ifc eU ?_ ?_)))
 intro bJ eV
 refine cT Z bJ (rR gBy Z (oM Z bL (oM Z Z (zb (pv:=[(0,jV (↑av:Int))]) (zs:=[jV 0]) (cs:=[jV (↑av:Int)]) Z Z Z Z Z (wAA Z wAI) zB zC zw Z Z Z Z Z cG ?_))))
 intro c6 c9 ep
 let B7:Res:=.row (some ⟨c9,0,none⟩) 1 3 1 (hD KL.encI [(↑av:Int)])
 have cH:SW w [B0,B2,B1] U bm [B7,B5,B1,.blk ab 165 B4,B6] c6:=ep
 refine bnK eV fun cP dI eW=>Zr (j:=4) (enc:=KL.encI) (xs:=bt) (ys:=[(↑av:Int)]) (zs:=cP) rfl rfl rfl rfl rfl Zn wFr rfl rfl rfl rfl rfl rfl cH rfl rfl rfl (cH.srcR (j:=0) rfl (by decide) (wAB (f:=KL.encI) (sz:=1) (fun _=>rfl) [(↑av:Int)])) (fun _=>rfl) (fun _=>rfl) dI rfl ?_
 intro bZ cp c8 er
 have eu:SW w [B0,B2,B1] U bm [B7,B5,B1,.blk ab 165 B4,.row bZ cp 3 1 (hD KL.encI cP)] c8:=er
 refine oA Z Z (zg (zf (zG (rR fL2 Z (oR Z (zr (zX Z bg Z) (congrArg (jV) bS.out)) (oM Z Z (zg ?_)))))))
 cases eW
 exact zG ⟨rfl,⟨bm,bZ,cp,rfl,bn,bA,rfl,bB,bC,(bu.trans cL),(eu.pick [1,2,3,4] _ (by decide) rfl)⟩⟩
 intro bJ eX
 refine cF Z bJ (ZT (zf (zG (rR fL2 Z (oR Z (zr (zX Z bg Z) (congrArg (jV) bS.out)) (oM Z Z (zg ?_)))))))
 cases eX
 exact zG ⟨Z,⟨bm,bd,be,Z,bn,bA,bL,bB,bC,(bu.trans cL),cG⟩⟩
 rintro gg fH ⟨cZ,cR,dd,dr,fP,fQ,dg,fR,dh,cM,ew⟩
 have de:Hid (¬ ((↑(((↑ap.length:Int):Int) - 0).toNat:Int) < (↑ap.length:Int))):=zH (wAc)
 refine sR fL1 Z (oR Z (zW Z dr dh) (eN (zI (cF Z de (ZJ (zd (zd (ZG (zG (sR fL2 Z (oM Z dg (oA Z Z (eN (zP ?_))))))))))))))
 have dJ:=cJ.le bG
 have dK:=dJ.le cM
 have dL:=bR.le bG
 have dM:=dL.le cM
 cases eO
 exact ⟨rfl,_,(zz rfl),cZ,_,(ew.pick [3,0,1,2] _ (by decide) rfl),cR,dd,ax,ay,aq,au,ac,ae,an,ao,rfl,rfl,dK,dM⟩
set_option maxHeartbeats 4000000
theorem wEF (O:List wAl) (aa:Option Addr) (ab:Nat) (p1:((wAl × wAl)->Option Int)) (ac:Value) (w:World) (U:PHeap) (hS:St ⟨w,[.row aa ab 65 4 (hD wAh O)],U⟩ U [.row aa ab 65 4 (hD wAh O)] w) (af:FnOK Tryz.prog U ac wRg wRh p1) (ag:∃ g cb,ac=.func (.func g) #[] cb) {r:List wAl} (hm:wCX O p1=some r):Gv Tryz.prog 92 [.slice aa O.length ab,ac] w (wBD w [.row aa ab 65 4 (hD wAh O)] U (fun U_ L_ v=>v=.tuple #[]/\L_=[.row aa ab 65 4 (hD wAh r)]/\r.length=O.length)) :=
 wLA (sz:=4) (fun _=>rfl) (fun x v h=>List.all_eq_true.1 (show (wAh x).all (·.oneCell')=true from rfl) v h) (fun _ _ _=>rfl) (fun _ _ _ _ h=>h.1) (fun enc a1 a2 cf b g cb k1 k2 k3 d w h1 h2 h3 h4 h5 h6=>Go.Proofs.Tryz.slices_SortFunc_total_f92 4 Tryz.isAgg65 Tryz.sizeOf65 enc a1 a2 cf b g cb k1 k2 k3 d w h1 h2 h3 h4 h5 h6) (fun p c v w=>Go.Proofs.Tryz.slices_SortFunc_none_f92 (α:=Int) p c v w) hS af (by decide) ag hm
theorem wGo (O:Int) (w:World) (U:PHeap) (hS:St0 w U [])  {r:Bool} (hm:wEZ O=some r):Gv Tryz.prog 80 [jV O] w (wBD w [] U (fun U_ L_ v=>v=.bool r/\L_=[])):=by
 unfold wEZ at hm
 refine Gv.of Tryz.func80 Z Tryz.ntmps80 Tryz.results80 Z (sR fL1 Z (oA Z Z (eN (sR fL4 Z (oM Z Z (oM Z Z (oR Z (ZX Z Z Z) (oA Z Z (eN (zP ?_))))))))))
 first | (obtain rfl:=nB hm) | cases hm
 exact ⟨Z,_,(zz Z),U,_,hS,Z,Z⟩
theorem wCg (p0:Int) (p1:Int) (w:World) (U:PHeap) (hS:St0 w U [])  {r:Int} (hm:wBh p0 p1=some r):Gv Tryz.prog 54 [jV p0,jV p1] w (wBD w [] U (fun U_ L_ v=>v=jV r/\L_=[])):=by
 unfold wBh at hm
 refine Gv.of Tryz.func54 Z Tryz.ntmps54 Tryz.results54 Z (sR fL1 Z (oA Z Z (eN (sR gBr Z (oM Z Z (bnK hm fun x1 h2 a7=>zM 0 Z Z Z Z (zK Z Z Tryz.call80 (zD Z zO) Z) hS (fun hs=>wGo p0 w U hs h2) (.inr Z) ?_))))))
 rintro U4 L5 v6 W7 bh au ⟨rfl,rfl⟩
 have ap:sW w U U4 [] W7:=au
 refine oA Z Z (eN (sR gBr Z (oM Z Z (bnK a7 fun bn an av=>zM 0 Z Z Z Z (zK Z Z Tryz.call80 (zD Z zO) Z) ap (fun hs=>wGo p1 W7 U4 hs an) (.inr Z) ?_))))
 rintro O be bi am bg aq ⟨rfl,rfl⟩
 have aa:sW w U O [] am:=aq
 refine oA Z Z (eN (zI (sR fL1 Z (oM Z Z (eN (ifc av ?_ ?_))))))
 intro ab aw
 refine zy (congrArg nE ab.out) (zI (sR fL1 Z (oM Z Z (eN (ifc aw ?_ ?_)))))
 intro ac ax
 refine zy (congrArg nE ac.out) (sR fL1 Z (oA Z Z (eN (zP (zR (zR ?_))))))
 cases ax
 exact ⟨Z,_,(zz Z),O,_,aa,Z,Z⟩
 intro ac ay
 refine zn (congrArg nE (nH.2 ac.out)) (kN (sR fL1 Z (oA Z Z (eN (zP (zR ?_))))))
 cases ay
 exact ⟨Z,_,(zz Z),O,_,aa,Z,Z⟩
 intro ab az
 refine zn (congrArg nE (nH.2 ab.out)) (kN (zI (sR fL1 Z (oM Z Z (eN (ifc az ?_ ?_))))))
 intro ae aY
 refine zy (congrArg nE ae.out) (sR fL1 Z (oA Z Z (eN (zP (zR ?_)))))
 cases aY
 exact ⟨Z,_,(zz Z),O,_,aa,Z,Z⟩
 intro ae aZ
 refine zn (congrArg nE (nH.2 ae.out)) (kN (zI (sR fL3 Z (oM Z Z (oM Z Z (oR Z (zW Z Z Z) (eN (ifc aZ ?_ ?_))))))))
 intro af a8
 refine cT Z af (sR fL1 Z (oA Z Z (eN (zP (zR ?_)))))
 cases a8
 exact ⟨Z,_,(zz Z),O,_,aa,Z,Z⟩
 intro af ba
 refine cF Z af (kN (zI (sR fL3 Z (oM Z Z (oM Z Z (oR Z (yT Z Z Z) (eN (ifc ba ?_ ?_))))))))
 intro ag bb
 refine cT Z ag (sR fL1 Z (oA Z Z (eN (zP (zR ?_)))))
 cases bb
 exact ⟨Z,_,(zz Z),O,_,aa,Z,Z⟩
 intro ag bd
 refine cF Z ag (kN (sR fL1 Z (oA Z Z (eN (zP ?_)))))
 cases bd
 exact ⟨Z,_,(zz Z),O,_,aa,Z,Z⟩
theorem wGp (O:List Int) (ai:Option Addr) (aj:Nat) (w:World) (U:PHeap) (hS:St0 w U []) (be:Sl U 1 ai aj O.length (hD KL.encI O)) {r:Int} (hm:wFI O=some r):Gv Tryz.prog 53 [.slice ai O.length aj] w (wBD w [] U (fun U_ L_ v=>v=jV r/\L_=[])):=by
 unfold wFI at hm
 refine Gv.of Tryz.func53 Z Tryz.ntmps53 Tryz.results53 Z (sR fL1 Z (oA Z Z (eN (sR fL1 Z (oA Z Z (eN (zI (sR fL3 Z (oM Z Z (oR Z (ze Z Z zB) (oM Z Z (eN (zU ?_)))))))))))))
 have q:=wBJ hm
 obtain ⟨r3,af⟩:=q
 have q:=wBI af
 obtain ⟨ah,bh⟩:=q
 replace ah:=zH ah
 refine yB (fun k2 _ σ_ w_=>∃ (U_:PHeap),σ_ 8=jV (↑k2:Int)/\σ_ 3=jV 0/\σ_ 6=.slice ai O.length aj/\σ_ 7=jV (↑O.length:Int)/\PHeap.Le U U_/\sW w U U_ [] w_) bh ?_ ?_ ?_
 exact ⟨U,Z,Z,Z,Z,(zL _),hS⟩
 rintro k2 ⟨⟩ bA bC W8 ag ⟨ak,ac,an,ao,ap,aw,ae⟩ av bf
 try dsimp only at av
 have am:Hid ((↑k2:Int) < (↑O.length:Int)):=zH (wAj ag)
 replace ag:=zH ag
 have bi:Hid (w64 ((↑k2:Int) + 1)=(↑(k2 + 1):Int)):=zH (by have h1:=ah.out;have h2:=am.out;rw [wAX] <;> omega)
 refine sR fL1 Z (oR Z (zW Z ac ap) (eN (zI (cT Z am (kN (zI (zU (sR fL3 Z (bnK av fun br aq bj=>?_)))))))))
 have a8:=be.le aw
 have q:=a8.el (fun _=>rfl) (wAV aq)
 obtain ⟨bu,bx,ba,bb⟩:=q
 refine oR Z (ZE Z ao ba ac zB zC (wAq aq)) (oL Z (ae.ldC (f:=0) bb (v:=jV br) Z Z zJ Z) (oA Z Z (eN (sR fL3 Z (oM Z Z (oM Z an (oR Z (ZX Z Z Z) (eN (ifc bj ?_ ?_)))))))))
 intro ab bm
 refine zn (zt (fun h=>h ab.out)) (ZT (zf (zG (rR fL2 Z (oR Z (zr (zX Z ac Z) (congrArg (jV) bi.out)) (oM Z Z (zg ?_)))))))
 have q:=nB bm
 obtain rfl:=q
 exact zG ⟨Z,_,Z,⟨ak,Z,an,ao,ap,aw,ae⟩⟩
 intro ab bn
 refine cT Z ab (sR fL2 Z (oM Z Z (oA Z Z (eN (zP (zc (zR ?_)))))))
 have q:=wAb bn
 obtain ⟨bq,bp,az⟩:=q
 have q:=wBC hm af (bf bq az)
 obtain rfl:=q
 refine zR (zc (zR ?_))
 have hE:=nB bp;first | subst r | cases hE
 exact ⟨Z,_,(zz Z),ak,_,ae,Z,Z⟩
 rintro ⟨⟩ bB bs ⟨ax,a7,aY,bv,aZ,bw,bd⟩ bg
 have au:=wCI hm af bg
 try dsimp only at au
 have ay:Hid (¬ ((↑(((↑O.length:Int):Int) - 0).toNat:Int) < (↑O.length:Int))):=zH (wAc)
 refine sR fL1 Z (oR Z (zW Z a7 aZ) (eN (zI (cF Z ay (ZJ (zd (zd (ZG (zG (sR fL2 Z (oM Z aY (oA Z Z (eN (zP ?_))))))))))))))
 cases au
 exact ⟨Z,_,(zz Z),ax,_,bd,Z,Z⟩
theorem wKa (O:wAl) (p1:wAl) (w:World) (U:PHeap) (hS:St0 w U [])  {r:Int} (hm:wEa O p1=some r):Gv Tryz.prog 93 [.agg #[jV O.Bib,jV O.Done,jV O.Time,jV O.By],.agg #[jV p1.Bib,jV p1.Done,jV p1.Time,jV p1.By]] w (wBD w [] U (fun U_ L_ v=>v=jV r/\L_=[])):=by
 unfold wEa at hm
 refine Gv.of Tryz.func93 Z Tryz.ntmps93 Tryz.results93 Z (sR gBo Z ?_)
 let B0:List Value:=[jV O.Bib,jV O.Done,jV O.Time,jV O.By]
 refine ZH (cs:=B0) rfl rfl rfl rfl rfl rfl (by rfl) hS ?_
 intro W1 b2 ba
 let B1:List Value:=[jV p1.Bib,jV p1.Done,jV p1.Time,jV p1.By]
 refine ZH (cs:=B1) rfl rfl rfl rfl rfl rfl (by rfl) ba ?_
 intro W5 b6 bj
 refine yU rfl rfl rfl rfl rfl rfl (eN (zI (ZN ZD [3,1,3,1,2,3,1,3,1,2,2,2,3] (wEL (wQy gBz)) (by kernel_rfl) ?_)))
 have ae:=bj.drew
 generalize hw_W10:({ W5 with drawn:=W5.drawn + 1 }:World)=av at ae ⊢
 refine oR Z (zF Z Z Tryz.runUnderlying65 Z zC) (oL Z (ae.ldB (j:=1) Z Z Z zJ (v:=jV O.Time) Z) (oR Z (zF Z Z Tryz.runUnderlying65 Z zC) (oL Z (ae.ldB (j:=0) Z Z Z zJ (v:=jV p1.Time) Z) (oR Z (zF Z Z Tryz.runUnderlying65 Z zC) (oL Z (ae.ldB (j:=1) Z Z Z zJ (v:=jV O.Bib) Z) (oR Z (zF Z Z Tryz.runUnderlying65 Z zC) (oL Z (ae.ldB (j:=0) Z Z Z zJ (v:=jV p1.Bib) Z) (bnK hm fun af ay bm=>zM 0 Z Z Z Z (zK Z Z Tryz.call54 (zD Z (zD Z zO)) Z) ae (fun hs=>wCg O.Time p1.Time av U hs ay) (.inr Z) ?_))))))))
 rintro ak br bA ap bv aZ ⟨rfl,rfl⟩
 have a7:sW w U ak [.blk b6 65 B1,.blk b2 65 B0] ap:=aZ
 refine bnK bm fun ag az bn=>zM 0 Z Z Z Z (zK Z Z Tryz.call54 (zD Z (zD Z zO)) Z) a7 (fun hs=>wCg O.Bib p1.Bib ap ak hs az) (.inr Z) ?_
 rintro am bs bB aw bw a8 ⟨rfl,rfl⟩
 have bb:sW w U am [.blk b6 65 B1,.blk b2 65 B0] aw:=a8
 refine zb (pv:=[(0,jV af),(1,jV ag)]) (zs:=[jV 0,jV 0]) (cs:=[jV af,jV ag]) Z Z Z Z Z (wAA Z (wAA Z wAI)) zB zC zw Z Z Z Z Z bb ?_
 intro aj au bd
 have be:sW w U am [.row (some ⟨au,0,none⟩) 2 3 1 (hD KL.encI [af,ag]),.blk b6 65 B1,.blk b2 65 B0] aj:=bd
 have q:=be.freezeR (k:=0) (n:=[af,ag].length) rfl (wAB (f:=KL.encI) (sz:=1) (fun _=>rfl) [af,ag]) (by decide)
 obtain ⟨an,bx,bq,bf⟩:=q
 have bg:sW w U an [.blk b6 65 B1,.blk b2 65 B0] aj:=bf
 refine bnK bn fun bD aY bp=>zM 0 Z Z Z Z (zK Z Z Tryz.call53 (zD Z zO) Z) bg (fun hs=>wGp [af,ag] (some ⟨au,0,none⟩) 2 aj an hs bq aY) (.inr Z) ?_
 rintro ao bt bC ax bz bh ⟨rfl,rfl⟩
 have bi:sW w U ao [.blk b6 65 B1,.blk b2 65 B0] ax:=bh
 refine oA Z Z (eN (zP ?_))
 have hE:=nB bp;first | subst r | cases hE
 exact ⟨rfl,_,(zz rfl),ao,_,(bi.pick [] _ (by decide) rfl),rfl,rfl⟩
theorem wJM (O:wAk) (au:Option Addr) (av:Nat) (ay:Option Addr) (az:Nat) (w:World) (U:PHeap) (hS:St0 w U []) (jI:Sl U 1 au av O.Bibs.length (hD KL.encI O.Bibs)) (jJ:SlR U wDl ay az O.Times) {r:wAs × (List wAl)} (hm:wGR O=some r):Gv Tryz.prog 57 [.agg #[jV O.Laps,.slice au O.Bibs.length av,.slice ay O.Times.length az]] w (wBD w [] U (fun U_ L_ v=>∃ (b0:Nat) (A0p01:Option Addr) (c0p01:Nat) (A0p02:Option Addr) (c0p02:Nat) (A0p1:Option Addr) (c0p1:Nat) (A0p2:Option Addr) (c0p2:Nat) (A1:Option Addr) (c1:Nat),v=.tuple #[.pointer (some ⟨b0,0,none⟩),.slice A1 r.2.length c1]/\L_=[.blk b0 165 [jV r.1.Race.Laps,.slice A0p01 r.1.Race.Bibs.length c0p01,.slice A0p02 r.1.Race.Times.length c0p02,.slice A0p1 r.1.done.length c0p1,.slice A0p2 r.1.out.length c0p2],.row A0p1 c0p1 3 1 (hD KL.encI r.1.done),.row A0p2 c0p2 4 1 (hD KL.encT r.1.out),.row A1 c1 65 4 (hD wAh r.2)]/\Sl U_ 1 A0p01 c0p01 r.1.Race.Bibs.length (hD KL.encI r.1.Race.Bibs)/\SlR U_ wDl A0p02 c0p02 r.1.Race.Times)):=by
 unfold wGR at hm
 refine Go.KX.Gv.ofM Tryz.func57 Z Tryz.ntmps57 Tryz.results57 (zA Z) (sR gBp Z ?_)
 let B0:List Value:=[jV O.Laps,.slice au O.Bibs.length av,.slice ay O.Times.length az]
 refine ZH (cs:=B0) rfl rfl rfl rfl rfl rfl (by rfl) hS ?_
 intro W1 b2 jx
 refine oA Z Z (oA Z Z (eN ?_))
 have q:=bnd hm
 obtain ⟨⟨l9,bZ⟩,lj,eJ⟩:=q
 try dsimp only at eJ
 refine yd (fun σ_ w_=>∃ (U_:PHeap) (b6:Nat) (b8:Nat) (bt:Option Addr) (bD:Nat) (bu:Option Addr) (bE:Nat),σ_ 1=.pointer (some ⟨b2,0,none⟩)/\σ_ 4=.pointer (some ⟨b6,0,none⟩)/\PHeap.Le U U_/\sW w U U_ [.blk b2 34 B0,.blk b6 136 [.pointer (some ⟨b8,0,none⟩)],.blk b8 165 [jV O.Laps,.slice au O.Bibs.length av,.slice ay O.Times.length az,.slice bt l9.length bD,.slice bu bZ.length bE],.row bt bD 3 1 (hD KL.encI l9),.row bu bE 4 1 (hD KL.encT bZ)] w_) ?_ ?_
 refine bnK lj fun ah gZ k5=>bnK k5 fun ai g8 k6=>CK.webp (U0:=U) (L0:=[.blk b2 34 B0]) ZD [pW 12 [] (.agg B0.toArray),pW 13 [] (.pointer (some ⟨b2,1,none⟩)),pW 14 [1] (.slice au O.Bibs.length av),pW 15 [2] (jV (↑O.Bibs.length:Int)),⟨some 16,[16],[3],false,[],true,[],fun σ R=>∃ aj,σ 16=.slice (some ⟨aj,0,none⟩) ah.length ah.length/\R=[.row (some ⟨aj,0,none⟩) ah.length 3 1 (hD KL.encI ah)]⟩,pW 17 [] (.pointer (some ⟨b2,1,none⟩)),pW 18 [5] (.slice au O.Bibs.length av),pW 19 [6] (jV (↑O.Bibs.length:Int)),⟨some 20,[20],[7],false,[],true,[],fun σ R=>∃ ak,σ 20=.slice (some ⟨ak,0,none⟩) ai.length ai.length/\R=[.row (some ⟨ak,0,none⟩) ai.length 4 1 (hD KL.encT ai)]⟩,⟨some 21,[21],[0],true,[4,8],true,[],fun σ R=>∃ aj ak,σ 21=.agg #[jV O.Laps,.slice au O.Bibs.length av,.slice ay O.Times.length az,.slice (some ⟨aj,0,none⟩) ah.length ah.length,.slice (some ⟨ak,0,none⟩) ai.length ai.length]/\R=[.row (some ⟨aj,0,none⟩) ah.length 3 1 (hD KL.encI ah),.row (some ⟨ak,0,none⟩) ai.length 4 1 (hD KL.encT ai)]⟩,⟨some 22,[22],[],false,[9],false,[],fun σ R=>∃ bB aj ak,σ 22=.pointer (some ⟨bB,0,none⟩)/\R=[.blk bB 165 [jV O.Laps,.slice au O.Bibs.length av,.slice ay O.Times.length az,.slice (some ⟨aj,0,none⟩) ah.length ah.length,.slice (some ⟨ak,0,none⟩) ai.length ai.length],.row (some ⟨aj,0,none⟩) ah.length 3 1 (hD KL.encI ah),.row (some ⟨ak,0,none⟩) ai.length 4 1 (hD KL.encT ai)]⟩,⟨some 4,[4],[],false,[],false,[],fun σ R=>∃ bC,σ 4=.pointer (some ⟨bC,0,none⟩)/\R=[.blk bC 136 [.pointer none]]⟩] [false] [(1,.pointer (some ⟨b2,0,none⟩))] (by kernel_rfl) ⟨rfl,trivial⟩ jx ⟨?_,?_,?_,?_,?_,?_,?_,?_,?_,?_,?_,?_,trivial⟩ ?_
 refine wpW ?_
 rintro _ _ _ _ _ ⟨gf,_⟩ _ _ jz lE
 exact oL Z (jz.ldBA (j:=0) Z Z gf yh Zm (vs:=B0) Z Z) lE
 refine wpW ?_
 rintro _ _ _ _ _ ⟨fO,_⟩ _ _ _ ll
 exact oR Z (zF Z fO ZS Z zS) ll
 refine wpW ?_
 rintro _ _ _ _ _ _ _ ⟨⟨_,⟨gm,_⟩⟩,_⟩ iS lm
 exact oL Z (iS.ldB (j:=0) Z Z gm zZ (v:=.slice au O.Bibs.length av) Z) lm
 refine wpW ?_
 rintro _ _ _ _ _ _ _ ⟨⟨_,⟨gq,_⟩⟩,_⟩ _ lq
 exact oR Z (ze Z gq zB) lq
 rintro _ _ _ fm fb _ _ _ ⟨⟨_,⟨ej,_⟩⟩,_⟩ rfl jd lu
 refine OKS.makeSlice (enc:=KL.encI) (z:=(0:Int)) (v:=jV 0) Z Z Z Z Z (wBr zB) wFr Z Z Z Z ej ej gZ jd ?_
 intro fA dP je
 have jf:sW w U fm (.row (some ⟨dP,0,none⟩) ah.length 3 1 (hD KL.encI ah) :: .blk b2 34 B0 :: fb) fA:=je
 exact lu _ _ _ _ (zL _) jf ⟨dP,Z,Z⟩
 refine wpW ?_
 rintro _ _ _ _ _ ⟨fV,_⟩ _ _ _ lw
 exact oR Z (zF Z fV ZS Z zS) lw
 refine wpW ?_
 rintro _ _ _ _ _ _ _ ⟨⟨_,⟨gu,_⟩⟩,_⟩ jg lx
 exact oL Z (jg.ldB (j:=0) Z Z gu zZ (v:=.slice au O.Bibs.length av) Z) lx
 refine wpW ?_
 rintro _ _ _ _ _ _ _ ⟨⟨_,⟨gv,_⟩⟩,_⟩ _ ly
 exact oR Z (ze Z gv zB) ly
 rintro _ _ _ fq fc _ _ _ ⟨⟨_,⟨eo,_⟩⟩,_⟩ rfl jh lz
 refine OKS.makeSlice (enc:=KL.encT) (z:=false) (v:=.bool false) Z Z Z Z Z (wBr Ze) wQW Z Z Z Z eo eo g8 jh ?_
 intro fB dQ ji
 have jj:sW w U fq (.row (some ⟨dQ,0,none⟩) ai.length 4 1 (hD KL.encT ai) :: .blk b2 34 B0 :: fc) fB:=ji
 exact lz _ _ _ _ (zL _) jj ⟨dQ,Z,Z⟩
 rintro _ _ _ _ _ _ _ _ ⟨⟨_,⟨gy,_⟩⟩,_⟩ ⟨_,_,⟨aj,gx,rfl⟩,⟨_,_,⟨ak,gw,rfl⟩,rfl,rfl⟩,rfl⟩ jk lB
 exact oR Z (zx (pv:=[(0,.agg B0.toArray),(1,.slice (some ⟨aj,0,none⟩) ah.length ah.length),(2,.slice (some ⟨ak,0,none⟩) ai.length ai.length)]) (z:=[jV 0,.slice none 0 0,.slice none 0 0,.slice none 0 0,.slice none 0 0]) (cs:=[jV O.Laps,.slice au O.Bibs.length av,.slice ay O.Times.length az,.slice (some ⟨aj,0,none⟩) ah.length ah.length,.slice (some ⟨ak,0,none⟩) ai.length ai.length]) Z (wAA gy (wAA gx (wAA gw wAI))) Tryz.zeroValue165 wOK Z Z) (lB _ _ _ _ (zL _) jk ⟨aj,ak,Z,Z⟩)
 rintro _ _ _ _ _ _ _ _ _ ⟨_,_,⟨aj,ak,gz,rfl⟩,rfl,rfl⟩ jl lC
 refine ZH (cs:=[jV O.Laps,.slice au O.Bibs.length av,.slice ay O.Times.length az,.slice (some ⟨aj,0,none⟩) ah.length ah.length,.slice (some ⟨ak,0,none⟩) ai.length ai.length]) rfl rfl rfl rfl rfl gz (by rfl) jl ?_
 intro me fI jm
 exact lC _ _ _ _ (zL _) jm ⟨fI,aj,ak,Z,Z⟩
 rintro _ _ _ _ _ _ _ _ _ rfl jo lD
 refine zm (cs:=[.pointer none]) Z Z Z Z Z Tryz.zeroValue136 Z jo ?_
 intro mf fJ jp
 exact lD _ _ _ _ (zL _) jp ⟨fJ,Z,Z⟩
 rintro lW dM cX ⟨fW,_⟩ lJ _ ⟨mw,rfl⟩ _ ⟨mx,rfl⟩ _ ⟨my,rfl⟩ _ ⟨mz,rfl⟩ _ _ _ ⟨mA,rfl⟩ _ ⟨mB,rfl⟩ _ ⟨mC,rfl⟩ _ _ _ _ _ ⟨bB,aj,ak,gA,rfl⟩ _ ⟨bC,ep,rfl⟩ jq
 let B1:Res:=.blk bB 165 [jV O.Laps,.slice au O.Bibs.length av,.slice ay O.Times.length az,.slice (some ⟨aj,0,none⟩) ah.length ah.length,.slice (some ⟨ak,0,none⟩) ai.length ai.length]
 let B2:Res:=.row (some ⟨aj,0,none⟩) ah.length 3 1 (hD KL.encI ah)
 let B3:Res:=.row (some ⟨ak,0,none⟩) ai.length 4 1 (hD KL.encT ai)
 have jr:sW w U cX [.blk bC 136 [.pointer none],B1,B2,B3,.blk b2 34 B0] dM:=jq
 show OKS _ _ _ _ _ _ (.fx 12 .nil .stop) lW dM
 let B4:List Value:=[.pointer (some ⟨bB,0,none⟩)]
 refine zh (j:=0) (vs:=B4) Z Z Z Z jr Z ep gA Z Tryz.sizeOf136 (zA Z) Z Z Z ?_
 intro fC jt
 have ju:sW w U cX [.blk bC 136 B4,B1,B2,B3,.blk b2 34 B0] fC:=jt
 refine zg ?_
 have eC:=nB k6
 simp only [Prod.mk.injEq] at eC
 obtain ⟨ir,it⟩:=eC
 subst ir
 subst it
 exact zG ⟨rfl,⟨cX,bC,bB,(some ⟨aj,0,none⟩),ah.length,(some ⟨ak,0,none⟩),ai.length,fW,ep,lJ,(ju.pick [4,0,1,2,3] _ (by decide) rfl)⟩⟩
 rintro mX mg ⟨ft,b6,b8,bt,bD,bu,bE,fY,fZ,eU,jv⟩
 refine sR (.fx 0 .nil .stop) Z (zm (cs:=[.slice none 0 0]) Z Z Z Z Z Tryz.zeroValue56 Z jv ?_)
 intro fD aw eG
 refine eN (zI (sR gBm Z (oL Z (eG.ldBA (j:=1) Z Z fY yh Zm (vs:=B0) Z Z) ?_)))
 have er:=jI.le eU
 have eu:=jJ.le eU
 refine bnK eJ fun lQ g9 j9=>zM 0 Z Z Z Z (zK Z Z Tryz.call89 (zD Z zO) Z) eG (fun hs=>wIA O au av ay az fD ft hs er eu g9) (.inr Z) ?_
 rintro dJ l3 mN fE eV jw ⟨dR,e8,fM,rfl,rfl,ib,ic⟩
 let B5:Res:=.blk b6 136 [.pointer (some ⟨b8,0,none⟩)]
 have jy:sW w U dJ [.blk aw 56 [.slice none 0 0],.blk b2 34 B0,B5,.blk b8 165 [jV O.Laps,.slice au O.Bibs.length av,.slice ay O.Times.length az,.slice bt l9.length bD,.slice bu bZ.length bE],.row bt bD 3 1 (hD KL.encI l9),.row bu bE 4 1 (hD KL.encT bZ)] fE:=jw
 refine eN (zU (yL fun cJ cA=>?_))
 have d7:cJ 4=.pointer (some ⟨b6,0,none⟩):=(cA 4).trans fZ
 have da:cJ 5=.pointer (some ⟨aw,0,none⟩):=(cA 5).trans rfl
 have gb:cJ 24=.func (.func 153) #[] #[.pointer (some ⟨dR,0,none⟩)]:=(cA 24).trans rfl
 clear cA
 have jA:=jy.nilrow 65 4
 have ie:=er.le eV
 have ig:=eu.le eV
 refine bnK j9 fun eW jX eK=>CK.rangeY (S:=(List wAl) × Int × (List Int) × (List (List Int)) × (List Int) × (List Bool)) (E:=Empty) (ar:=wKm) (PY:=(fun (s_:(List wAl) × Int × (List Int) × (List (List Int)) × (List Int) × (List Bool)) (U_:PHeap) (L_:List Res)=>match s_ with | (l849,x853,l854,l857,l860,l863)=>∃ (bv:Option Addr) (bF:Nat) (bP:Option Addr) (bV:Nat) (bQ:Option Addr) (bW:Nat) (bw:Option Addr) (bG:Nat) (bx:Option Addr) (bH:Nat),L_=[.row bv bF 65 4 (hD wAh l849),.blk aw 56 [.slice bv l849.length bF],.blk b2 34 B0,B5,.row bw bG 3 1 (hD KL.encI l860),.row bx bH 4 1 (hD KL.encT l863),.blk b8 165 [jV x853,.slice bP l854.length bV,.slice bQ l857.length bW,.slice bw l860.length bG,.slice bx l863.length bH]]/\Sl U_ 1 bP bV l854.length (hD KL.encI l854)/\SlR U_ wDl bQ bW l857)) (PE:=(fun (_:Empty) _ _=>False)) (exO:=Empty.elim) (s0:=([],O.Laps,O.Bibs,O.Times,l9,bZ)) (rr:=eW) gb Tryz.call153 (jA.pick [0,1,2,3,5,6,4] _ (by decide) rfl) (by decide) (fun _ _ _ h=>by obtain rfl:=h;rfl) (fun e=>nomatch e) ⟨none,0,au,av,ay,az,bt,bD,bu,bE,rfl,ie,ig⟩ (fun l w1 L1 PY' PE' iy iv jH=>wGE PY' PE' _ l _ lQ dR e8 fM w1 L1 dJ iy iv jH ib ic jX) ?_ ?_
 rintro an mK mu ⟨l849,x853,l854,l857,l860,l863⟩ bb mP mJ cD l4 lO lK am mF jB iw jK eI cG bM
 obtain ⟨bv,bF,bP,bV,bQ,bW,bw,bG,bx,bH,rfl,ii,ij⟩:=iw
 obtain rfl:=jK
 replace bM:∀ t,cG t=upd cJ 25 (jV bb) t:=bM
 have ge:cG 25=jV bb:=(bM 25).trans (wDv _ _ _)
 have d8:cG 4=.pointer (some ⟨b6,0,none⟩):=(bM 4).trans ((wDN _ _ (by decide)).trans d7)
 have gg:cG 5=.pointer (some ⟨aw,0,none⟩):=(bM 5).trans ((wDN _ _ (by decide)).trans da)
 clear bM
 let B6:Res:=.blk b8 165 [jV x853,.slice bP l854.length bV,.slice bQ l857.length bW,.slice bw l860.length bG,.slice bx l863.length bH]
 let B7:Res:=.row bv bF 65 4 (hD wAh l849)
 let B8:Res:=.blk aw 56 [.slice bv l849.length bF]
 let B9:Res:=.row bw bG 3 1 (hD KL.encI l860)
 let cN:Res:=.row bx bH 4 1 (hD KL.encT l863)
 have jC:St am cD [.obj an lK,B7,B8,.blk b2 34 B0,B5,B9,cN,B6] lO:=jB
 try dsimp only at eI
 refine rR fL1 Z (oA Z ge (zg ⟨Z,Z,_,_,jC,fun cZ ao jD=>?_⟩))
 have eH:St am cD [.obj an ao,B7,B8,.blk b2 34 B0,B5,B9,cN,B6] cZ:=jD
 refine zU (sR gBu Z (oL Z (eH.ldB (j:=4) Z Z d8 YV (v:=.pointer (some ⟨b8,0,none⟩)) Z) (oM Z Z ?_)))
 have q:=bnd eI
 obtain ⟨⟨ag,aa⟩,il,eM⟩:=q
 try dsimp only at eM
 have jE:St am cD [B6,B9,cN,.obj an ao,B7,B8,.blk b2 34 B0,B5] cZ:=eH.pick [7,5,6,0,1,2,3,4] _ (by decide) rfl
 refine zM 3 Z Z Z Z (zK Z Z Tryz.call90 (zD Z (zD Z zO)) Z) jE (fun hs=>wGn (⟨(⟨x853,l854,l857⟩:wAk),l860,l863⟩:wAs) b8 bP bV bQ bW bw bG bx bH bb cZ cD hs ii ij il) (.inl Z) ?_
 rintro cY l5 mO fG mG jF ⟨cd,cw,bh,bp,bz,bI,bd,bf,a7,ba,rfl,rfl,ew,ey⟩
 let aY:List Value:=[jV aa.Race.Laps,.slice bh aa.Race.Bibs.length bp,.slice bz aa.Race.Times.length bI,.slice bd aa.done.length bf,.slice a7 aa.out.length ba]
 let ap:Res:=.row cd cw 3 1 (hD KL.encI ag)
 let a8:Res:=.row bd bf 3 1 (hD KL.encI aa.done)
 let bi:Res:=.row a7 ba 4 1 (hD KL.encT aa.out)
 have jG:St am cY [ap,a8,bi,.blk b8 165 aY,.obj an ao,B7,B8,.blk b2 34 B0,B5] fG:=jF
 refine oA Z Z (eN (zI (sR fL3 Z (oM Z Z (oR Z (ze Z Z zB) (oM Z Z (eN (zU (bnK eM fun eZ jN k8=>?_)))))))))
 have q:=wAn jN
 obtain ⟨dt,jO⟩:=q
 replace dt:=zH dt
 refine CK.forN' (fun ax bs σ_ w_=>∃ (U_:PHeap) (bA:Option Addr) (bJ:Nat),σ_ 31=jV (↑ax:Int)/\σ_ 4=.pointer (some ⟨b6,0,none⟩)/\σ_ 5=.pointer (some ⟨aw,0,none⟩)/\σ_ 6=jV bb/\σ_ 7=.slice cd ag.length cw/\σ_ 29=.slice cd ag.length cw/\σ_ 30=jV (↑ag.length:Int)/\PHeap.Le cY U_/\St am U_ [a8,bi,.blk b8 165 aY,.obj an ao,.row bA bJ 65 4 (hD wAh bs),.blk aw 56 [.slice bA bs.length bJ],.blk b2 34 B0,B5,ap] w_) jO ?_ ?_ ?_
 exact ⟨cY,bv,bF,rfl,d8,gg,rfl,rfl,rfl,rfl,(zL _),(jG.pick [1,2,3,4,5,6,7,8,0] _ (by decide) rfl)⟩
 rintro ax bs mS mY dN dq ⟨l7,bA,bJ,df,bK,db,dd,gh,d9,eh,dv,dn⟩ lk
 have dW:Hid ((↑ax:Int) < (↑ag.length:Int)):=zH (wAj dq)
 replace dq:=zH dq
 have jW:Hid (w64 ((↑ax:Int) + 1)=(↑(ax + 1):Int)):=zH (by have h1:=dt.out;have h2:=dW.out;rw [wAX] <;> omega)
 refine sR fL1 Z (oR Z (zW Z df eh) (eN (zI (cT Z dW (kN (zI (zU (sR fL3 Z (bnK lk fun _ di k9=>?_)))))))))
 have q:=dn.rowSome (j:=8) rfl (by rw [wAB (f:=KL.encI) (sz:=1) (fun _=>rfl) ag];have hz:=wAS di;omega)
 obtain ⟨mm,eB⟩:=q
 refine oR Z (ZE Z d9 eB df zB zC (wAS di)) ?_
 have jT:=wBK (xs:=ag) (wAS di)
 refine ZB rfl rfl rfl rfl (dn.ldR (j:=8) rfl eB rfl rfl zJ (wAW (sz:=1) (fun _=>rfl) _ _ 0 _ jT (by first | omega | rfl | simp) rfl)) rfl (yU rfl rfl rfl rfl rfl rfl (eN (ZN ZD [1,1,3,3,3,1,3,3,1,1,3,3,1,3,3,1,3,1,3,3,3,1,1,3,1,3,3,1,3,3,1,3,2,3,1,3,2,0,0] (wSE (.fx 32 (wRJ (.fx 36 (.fx 37 (.fx 38 .nil .stop) .stop) .stop)) .stop)) (by kernel_rfl) ?_)))
 have aq:=dn.drew
 generalize hw_W989:({ dN with drawn:=dN.drawn + 1 }:World)=ct at aq ⊢
 refine oL Z (aq.ldB (j:=5) Z Z db Tryz.isAgg56 (v:=.slice bA bs.length bJ) Z) (oL Z (aq.ldB (j:=7) Z Z bK YV (v:=.pointer (some ⟨b8,0,none⟩)) Z) (oR Z (ZR Z Z) (oR Z (zF Z Z Zi Z Zm) (oR Z (zF Z Z ZS Z zS) (oL Z (aq.ldB (j:=2) Z Z Z zZ (v:=.slice bh aa.Race.Bibs.length bp) Z) (oM Z Z (bnK k9 fun bO dl lb=>?_)))))))
 have dm:=ew.le dv
 have q:=dm.el (fun _=>rfl) (wAV dl)
 obtain ⟨mn,mI,io,iq⟩:=q
 refine oR Z (Za Z Z io Z zB zC (wCh dl) (wCs dl)) (oL Z (aq.ldC (f:=0) iq (v:=jV bO) Z Z zJ Z) (oL Z (aq.ldB (j:=7) Z Z bK YV (v:=.pointer (some ⟨b8,0,none⟩)) Z) (oR Z (ZR Z Z) (oR Z (zF Z Z Zi Z zS) (oL Z (aq.ldB (j:=2) Z Z Z zZ (v:=.slice bd aa.done.length bf) Z) (oM Z Z (bnK lb fun _ br lc=>?_)))))))
 have q:=aq.rowSome (j:=0) rfl (by rw [wAB (f:=KL.encI) (sz:=1) (fun _=>rfl) aa.done];have hz:=wAS br;omega)
 obtain ⟨mh,cy⟩:=q
 refine oR Z (Za Z Z cy Z zB zC (wBa br) (wBb br)) ?_
 have jP:=wBK (xs:=aa.done) (wAS br)
 refine ZB rfl rfl rfl rfl (aq.ldR (j:=0) rfl cy rfl rfl zJ (wAW (sz:=1) (fun _=>rfl) _ _ 0 _ jP (by first | omega | rfl | simp) rfl)) rfl (zj rfl rfl rfl rfl rfl dd (ZB rfl rfl rfl rfl (aq.ldB (j:=7) rfl rfl bK YV (v:=.pointer (some ⟨b8,0,none⟩)) rfl) rfl (zY rfl rfl rfl rfl (fun _=>ZR rfl rfl) (zY rfl rfl rfl rfl (fun _=>zF rfl rfl Zi rfl Zm) (zY rfl rfl rfl rfl (fun _=>zF rfl rfl ZS rfl zS) (ZB rfl rfl rfl rfl (aq.ldB (j:=2) rfl rfl rfl zZ (v:=.slice bh aa.Race.Bibs.length bp) rfl) rfl (ZB rfl rfl rfl rfl (aq.ldB (j:=7) rfl rfl bK YV (v:=.pointer (some ⟨b8,0,none⟩)) rfl) rfl (zj rfl rfl rfl rfl rfl rfl (ZB rfl rfl rfl rfl (aq.ldB (j:=7) rfl rfl bK YV (v:=.pointer (some ⟨b8,0,none⟩)) rfl) rfl (zY rfl rfl rfl rfl (fun _=>ZR rfl rfl) (zY rfl rfl rfl rfl (fun _=>zF rfl rfl Zi rfl zS) (ZB rfl rfl rfl rfl (aq.ldB (j:=2) rfl rfl rfl zZ (v:=.slice bd aa.done.length bf) rfl) rfl (zj rfl rfl rfl rfl rfl rfl (zY rfl rfl rfl rfl (fun _=>Za rfl rfl cy rfl zB zC (wBa br) (wBb br)) ?_))))))))))))))
 have jQ:=wBK (xs:=aa.done) (wAS br)
 refine ZB rfl rfl rfl rfl (aq.ldR (j:=0) rfl cy rfl rfl zJ (wAW (sz:=1) (fun _=>rfl) _ _ 0 _ jQ (by first | omega | rfl | simp) rfl)) rfl (zj rfl rfl rfl rfl rfl dd ?_)
 have q:=aq.freezeT (k:=0) (n:=aa.done.length) rfl (wAB (f:=KL.encI) (sz:=1) (fun _=>rfl) aa.done) (by decide)
 obtain ⟨ff,eO,lf,iz,lL⟩:=q
 let bj:Res:=.row bA bJ 65 4 (hD wAh bs)
 let be:Res:=.blk aw 56 [.slice bA bs.length bJ]
 have iA:St am ff [bi,.blk b8 165 aY,.obj an ao,bj,be,.blk b2 34 B0,B5,ap] ct:=iz
 have q:=iA.freezeT (k:=0) (n:=aa.out.length) rfl (wAB (f:=KL.encT) (sz:=1) (fun _=>rfl) aa.out) (by decide)
 obtain ⟨fg,du,lh,iB,lM⟩:=q
 have iC:St am fg [.blk b8 165 aY,.obj an ao,bj,be,.blk b2 34 B0,B5,ap] ct:=iB
 have q:=iC.freezeTB (k:=0) rfl
 obtain ⟨cU,cC,bY,iD,lN⟩:=q
 replace bY:=Cl.of bY
 have iE:St am cU [.obj an ao,bj,be,.blk b2 34 B0,B5,ap] ct:=iD
 replace bY:Cl cU b8 0 aY:=bY
 have gB:=dm.le eO
 have gC:=gB.le du
 have gD:=gC.le cC
 have gE:=ey.le dv
 have gF:=gE.le eO
 have gG:=gF.le du
 have gH:=gG.le cC
 have gI:=lf.le du
 have gJ:=gI.le cC
 have gK:=lh.le cC
 refine bnK lc fun mQ gL jY=>zM 0 rfl rfl rfl rfl (zK rfl rfl Tryz.call91 (zD rfl (zD rfl (zD rfl (zD rfl zO)))) rfl) iE (fun hs=>wFk aa b8 bh bp bz bI bd bf a7 ba (gd ag ax) (gd aa.done (gd ag ax).toNat) bb ct cU hs bY gD gH gJ gK gL) (.inr rfl) ?_
 rintro fh lY mL cq lF iF ⟨rfl,rfl⟩
 have iG:St am fh [.obj an ao,bj,be,.blk b2 34 B0,B5,ap] cq:=iF
 have q:=lN _ _ _ lF iG
 obtain ⟨fj,lG,iH⟩:=q
 have iI:St am fj [.blk b8 165 aY,.obj an ao,bj,be,.blk b2 34 B0,B5,ap] cq:=iH
 have q:=lM _ _ _ lG iI
 obtain ⟨fk,lH,iJ⟩:=q
 have iK:St am fk [bi,.blk b8 165 aY,.obj an ao,bj,be,.blk b2 34 B0,B5,ap] cq:=iJ
 have q:=lL _ _ _ lH iK
 obtain ⟨bU,eQ,iL⟩:=q
 have eD:St am bU [a8,bi,.blk b8 165 aY,.obj an ao,bj,be,.blk b2 34 B0,B5,ap] cq:=iL
 refine bnK jY fun bN dg jZ=>?_
 have gM:=dm.le eQ
 have q:=gM.el (fun _=>rfl) (wAV dg)
 obtain ⟨mi,mH,im,ip⟩:=q
 refine oR Z (Za Z Z im Z zB zC (wCh dg) (wCs dg)) (oL Z (eD.ldC (f:=0) ip (v:=jV bN) Z Z zJ Z) ?_)
 let cO:List Value:=[jV bO,jV (gd aa.done (gd ag ax).toNat),jV bb,jV bN]
 let dC:List Value:=[jV 0,jV 0,jV 0,jV 0]
 refine oR Z (zx (pv:=[(0,jV bO),(1,jV (gd aa.done (gd ag ax).toNat)),(2,jV bb),(3,jV bN)]) (z:=dC) (cs:=cO) Z (wAA Z (wAA Z (wAA Z (wAA Z wAI)))) Tryz.zeroValue65 wPC Z Z) (zb (pv:=[(0,.agg cO.toArray)]) (zs:=dC) (cs:=cO) Z Z Z Z Z (wAA Z wAI) Tryz.runUnderlying56 Tryz.sizeOf65 Tryz.zeroValue65 Z Z Z Z Z eD ?_)
 intro fu fH iM
 let cP:Res:=.row (some ⟨fH,0,none⟩) 1 65 4 (hD wAh [(⟨bO,(gd aa.done (gd ag ax).toNat),bb,bN⟩:wAl)])
 have eE:St am bU [cP,a8,bi,.blk b8 165 aY,.obj an ao,bj,be,.blk b2 34 B0,B5,ap] fu:=iM
 refine bnK jZ fun cH gN j0=>Zr (j:=5) (enc:=wAh) (xs:=bs) (ys:=[(⟨bO,(gd aa.done (gd ag ax).toNat),bb,bN⟩:wAl)]) (zs:=cH) rfl rfl rfl rfl rfl Tryz.underlying56 wRl rfl rfl rfl rfl rfl rfl eE rfl rfl rfl (eE.srcR (j:=0) rfl (by decide) (wAB (f:=wAh) (sz:=4) (fun _=>rfl) [(⟨bO,(gd aa.done (gd ag ax).toNat),bb,bN⟩:wAl)])) (fun _=>rfl) (fun _=>rfl) gN rfl ?_
 intro cc cu fw iN
 let dE:Res:=.row cc cu 65 4 (hD wAh cH)
 have iO:St am bU [cP,a8,bi,.blk b8 165 aY,.obj an ao,dE,be,.blk b2 34 B0,B5,ap] fw:=iN
 refine zh (j:=6) (vs:=[.slice cc cH.length cu]) Z Z Z Z iO Z db Z Z Tryz.sizeOf56 (zA Z) Z Z Z ?_
 intro fy iP
 have iQ:St am bU [cP,a8,bi,.blk b8 165 aY,.obj an ao,dE,.blk aw 56 [.slice cc cH.length cu],.blk b2 34 B0,B5,ap] fy:=iP
 refine zg (zf (zG (rR fL2 Z (oR Z (zr (zX Z df Z) (congrArg (jV) jW.out)) (oM Z Z (zg ?_))))))
 cases j0
 exact zG ⟨rfl,⟨bU,cc,cu,rfl,bK,db,dd,gh,d9,eh,(dv.trans eQ),(iQ.pick [1,2,3,4,5,6,7,8,9] _ (by decide) rfl)⟩⟩
 rintro mU ma ⟨dI,cK,c6,gi,fP,fQ,mo,fR,mp,fS,eR,iR⟩
 have fK:Hid (¬ ((↑(((↑ag.length:Int):Int) - 0).toNat:Int) < (↑ag.length:Int))):=zH (wAc)
 refine sR fL1 Z (oR Z (zW Z gi fS) (eN (zI (cF Z fK (ZJ (zd (zd (ZG (zG (sR fL3 Z (oM Z fR (oR Z (ze Z Z zB) (oM Z Z (eN (zU (bnK k8 fun mT jL j5=>?_))))))))))))))))
 have q:=wAn jL
 obtain ⟨dr,jM⟩:=q
 replace dr:=zH dr
 let cg:Res:=.row cK c6 65 4 (hD wAh eZ)
 let ci:Res:=.blk aw 56 [.slice cK eZ.length c6]
 refine CK.forN' (fun bq aZ σ_ w_=>∃ (U_:PHeap),σ_ 76=jV (↑bq:Int)/\σ_ 4=.pointer (some ⟨b6,0,none⟩)/\σ_ 5=.pointer (some ⟨aw,0,none⟩)/\σ_ 74=.slice cd ag.length cw/\σ_ 75=jV (↑ag.length:Int)/\PHeap.Le dI U_/\St am U_ [a8,.row a7 ba 4 1 (hD KL.encT aZ),.blk b8 165 [jV aa.Race.Laps,.slice bh aa.Race.Bibs.length bp,.slice bz aa.Race.Times.length bI,.slice bd aa.done.length bf,.slice a7 aZ.length ba],.obj an ao,cg,ci,.blk b2 34 B0,B5,ap] w_/\aZ.length=aa.out.length) jM ?_ ?_ ?_
 exact ⟨dI,Z,fP,fQ,Z,Z,(zL _),iR,Z⟩
 rintro bq aZ mR mV mb dp ⟨cV,de,dX,fT,dY,dZ,lI,bL,gO⟩ li
 have dT:Hid ((↑bq:Int) < (↑ag.length:Int)):=zH (wAj dp)
 replace dp:=zH dp
 have jU:Hid (w64 ((↑bq:Int) + 1)=(↑(bq + 1):Int)):=zH (by have h1:=dr.out;have h2:=dT.out;rw [wAX] <;> omega)
 refine sR fL1 Z (oR Z (zW Z de dZ) (eN (zI (cT Z dT (kN (zI (zU (sR fL3 Z (bnK li fun _ dh j6=>?_)))))))))
 have q:=bL.rowSome (j:=8) rfl (by rw [wAB (f:=KL.encI) (sz:=1) (fun _=>rfl) ag];have hz:=wAS dh;omega)
 obtain ⟨mj,ez⟩:=q
 refine oR Z (ZE Z dY ez de zB zC (wAS dh)) ?_
 have jR:=wBK (xs:=ag) (wAS dh)
 refine ZB rfl rfl rfl rfl (bL.ldR (j:=8) rfl ez rfl rfl zJ (wAW (sz:=1) (fun _=>rfl) _ _ 0 _ jR (by first | omega | rfl | simp) rfl)) rfl (yU rfl rfl rfl rfl rfl rfl (eN (rR (wGx (.fx 6 .nil .stop)) rfl (ZB rfl rfl rfl rfl (bL.ldB (j:=7) rfl rfl dX YV (v:=.pointer (some ⟨b8,0,none⟩)) rfl) rfl (zY rfl rfl rfl rfl (fun _=>ZR rfl rfl) (zY rfl rfl rfl rfl (fun _=>zF rfl rfl Zi rfl yM) (ZB rfl rfl rfl rfl (bL.ldB (j:=2) rfl rfl rfl YT (v:=.slice a7 aZ.length ba) rfl) rfl (zj rfl rfl rfl rfl rfl rfl (bnK j6 fun _ bX j7=>?_)))))))))
 have q:=bL.rowSome (j:=1) rfl (by rw [wAB (f:=KL.encT) (sz:=1) (fun _=>rfl) aZ];have hz:=wAS bX;omega)
 obtain ⟨ml,eA⟩:=q
 refine oR Z (Za Z Z eA Z Ze yN (wBa bX) (wBb bX)) ?_
 have jS:=wBK (xs:=aZ) (wAS bX)
 refine YO (j:=1) (vs:=[.bool true]) (cs':=hD KL.encT (nG aZ (gd ag bq).toNat true)) rfl rfl rfl rfl bL rfl eA rfl rfl rfl yN (by rw [wAB (f:=KL.encT) (sz:=1) (fun _=>rfl)];have hz:=wAS bX;show _ + 1 <= _;first | omega | (simp only [nL];omega) | (simp only [nK,nI,nJ];omega)) rfl (wDA (sz:=1) (fo:=0) (fun _=>rfl) _ _ _ _ jS (by first | omega | (simp only [nL];omega) | (simp only [nK,nI,nJ];omega)) (zA rfl) rfl) rfl ?_
 intro dK iT
 let cQ:Res:=.row a7 ba 4 1 (hD KL.encT (nG aZ (gd ag bq).toNat true))
 have iU:St am cV [a8,cQ,.blk b8 165 [jV aa.Race.Laps,.slice bh aa.Race.Bibs.length bp,.slice bz aa.Race.Times.length bI,.slice bd aa.done.length bf,.slice a7 aZ.length ba],.obj an ao,cg,ci,.blk b2 34 B0,B5,ap] dK:=iT
 have iV:St am cV [a8,cQ,.blk b8 165 [jV aa.Race.Laps,.slice bh aa.Race.Bibs.length bp,.slice bz aa.Race.Times.length bI,.slice bd aa.done.length bf,.slice a7 ((nG aZ (gd ag bq).toNat true).length) ba],.obj an ao,cg,ci,.blk b2 34 B0,B5,ap] dK:=by simpa only [B0,ap,a8,cg,ci,cQ,B5,nD] using iU
 refine zg (zf (zG (rR fL2 Z (oR Z (zr (zX Z de Z) (congrArg (jV) jU.out)) (oM Z Z (zg ?_))))))
 cases j7
 exact zG ⟨Z,⟨cV,Z,dX,fT,dY,dZ,lI,iV,(nD.trans gO)⟩⟩
 rintro mW mc ⟨l6,gj,mq,mr,ms,fU,eS,iW,mD⟩
 have fL:Hid (¬ ((↑(((↑ag.length:Int):Int) - 0).toNat:Int) < (↑ag.length:Int))):=zH (wAc)
 refine sR fL1 Z (oR Z (zW Z gj fU) (eN (zI (cF Z fL (ZJ (zd (zd (ZG (zf ?_)))))))))
 have gP:=ew.le eR
 have gQ:=gP.le eS
 have gR:=ey.le eR
 have gS:=gR.le eS
 have q:=nB j5
 obtain rfl:=q
 exact ⟨_,_,(iW.pick [3,4,5,6,7,0,1,2] _ (by decide) rfl),rfl,⟨cK,c6,bh,bp,bz,bI,bd,bf,a7,ba,rfl,gQ,gS⟩⟩
 rintro cE cW lZ dL mE iX
 rcases eW with ⟨cI,lR,lU,lV,eX,eY⟩ | fN
 try dsimp only at eK
 rintro ⟨bg,bn,dz,dU,dA,dV,cL,c8,cM,c9,rfl,gT,gU⟩
 let bR:Res:=.blk b8 165 [jV lR,.slice dz lU.length dU,.slice dA lV.length dV,.slice cL eX.length c8,.slice cM eY.length c9]
 let bS:Res:=.row cL c8 3 1 (hD KL.encI eX)
 let bT:Res:=.row cM c9 4 1 (hD KL.encT eY)
 let dF:Res:=.blk aw 56 [.slice bg cI.length bn]
 have eF:sW w U cW [.row bg bn 65 4 (hD wAh cI),dF,.blk b2 34 B0,B5,bS,bT,bR,.obj cE (.deferred (some []))] dL:=iX
 refine zf (zG (sR gBm Z (oL Z (eF.ldB (j:=1) Z Z da Tryz.isAgg56 (v:=.slice bg cI.length bn) Z) ?_)))
 have iu:FnOK Tryz.prog cW (.func (.func 93) #[] #[]) wRg wRh (fun x=>wEa x.1 x.2):=⟨93,[],[],rfl,Tryz.call93,fun U1 w1 x y vs le hs ha hm=>by obtain rfl:=ha;exact wKa x.1 x.2 w1 U1 hs  hm⟩
 refine bnK eK fun dx gV j8=>zM 1 Z Z Z Z (zK Z Z Tryz.call92 (zD Z (zD Z zO)) Z) eF (fun hs=>wEF cI bg bn (fun x=>wEa x.1 x.2) (.func (.func 93) #[] #[]) dL cW hs iu ⟨_,_,Z⟩ gV) (.inl Z) ?_
 rintro cp l0 mM cr eT iY ⟨rfl,rfl,gW⟩
 let cj:Res:=.row bg bn 65 4 (hD wAh dx)
 have iZ:sW w U cp [cj,dF,.blk b2 34 B0,B5,bS,bT,bR,.obj cE (.deferred (some []))] cr:=iY
 let cm:Res:=.blk aw 56 [.slice bg dx.length bn]
 have ja:sW w U cp [cj,cm,.blk b2 34 B0,B5,bS,bT,bR,.obj cE (.deferred (some []))] cr:=by simp only [cm,gW];exact iZ
 refine eN (zI (ZN ZD [1,1,3,3] fL4 (by kernel_rfl) ?_))
 have cz:=ja.drew
 generalize hw_W1219:({ cr with drawn:=cr.drawn + 1 }:World)=md at cz ⊢
 refine oL Z (cz.ldB (j:=3) Z Z d7 YV (v:=.pointer (some ⟨b8,0,none⟩)) Z) (oL Z (cz.ldB (j:=1) Z Z da Tryz.isAgg56 (v:=.slice bg dx.length bn) Z) (oA Z Z (oA Z Z (eN (zP ?_)))))
 have gX:=gT.le eT
 have gY:=gU.le eT
 refine wFQ (by first | exact .inl rfl | exact .inr rfl) (rbs:=[cE]) (L:=[cj,cm,.blk b2 34 B0,B5,bS,bT,bR]) cz fun fz jb=>?_
 have jc:sW w U cp [cj,cm,.blk b2 34 B0,B5,bS,bT,bR] fz:=jb
 cases j8
 exact ⟨_,(wEr rfl rfl),cp,_,(jc.pick [6,4,5,0] _ (by decide) rfl),b8,dz,dU,dA,dV,cL,c8,cM,c9,bg,bn,rfl,rfl,gX,gY⟩
 exact fN.elim
set_option maxHeartbeats 4000000
theorem wJq (O:wAk) (ac:Option Addr) (af:Nat) (ae:Option Addr) (ag:Nat) (w:World) (U:PHeap) (hS:St0 w U []) (aZ:Sl U 1 ac af O.Bibs.length (hD KL.encI O.Bibs)) (a7:SlR U wDl ae ag O.Times) {r:(List wAl) × Int} (hm:wGA O=some r):Gv Tryz.prog 15 [.agg #[jV O.Laps,.slice ac O.Bibs.length af,.slice ae O.Times.length ag]] w (wBD w [] U (fun U_ L_ v=>∃ (A0:Option Addr) (c0:Nat),v=.tuple #[.slice A0 r.1.length c0,jV r.2]/\L_=[.row A0 c0 65 4 (hD wAh r.1)])):=by
 unfold wGA at hm
 refine Gv.of Tryz.func15 Z Tryz.ntmps15 Tryz.results15 Z (sR gBp Z ?_)
 let B0:List Value:=[jV O.Laps,.slice ac O.Bibs.length af,.slice ae O.Times.length ag]
 refine ZH (cs:=B0) rfl rfl rfl rfl rfl rfl (by rfl) hS ?_
 intro W1 b2 aY
 refine oA Z Z (oA Z Z (eN (zI (sR gBr Z (oL Z (aY.ldBA (j:=0) Z Z Z yh Zm (vs:=B0) Z Z) (bnK hm fun x5 h6 bw=>zM 0 Z Z Z Z (zK Z Z Tryz.call56 (zD Z zO) Z) aY (fun hs=>wGJ O ac af ae ag W1 U hs aZ a7 h6) (.inr Z) ?_))))))
 rintro U8 L9 bD au ba bq ⟨rfl,rfl⟩
 have am:sW w U U8 [.blk b2 34 B0] au:=bq
 refine oA Z Z (eN (sR fL2 Z (oM Z Z (oR Z (ZX Z Z Z) (eN (ifc bw ?_ ?_))))))
 intro aj bu
 refine zn (zt (fun h=>h aj.out)) (kN (sR (.fl 0 (.fx 1 (wIK (.nil)) .stop)) Z (oL Z (am.ldBA (j:=0) Z Z Z yh Zm (vs:=B0) Z Z) ?_)))
 have bj:=aZ.le ba
 have bm:=a7.le ba
 have q:=bnd bu
 obtain ⟨⟨aa,bb⟩,bn,a8⟩:=q
 try dsimp only at a8
 refine zM 0 Z Z Z Z (zK Z Z Tryz.call57 (zD Z zO) Z) am (fun hs=>wJM O ac af ae ag au U8 hs bj bm bn) (.inr Z) ?_
 rintro aq bx bE bg bC br ⟨aw,bd,bh,be,bi,ao,ay,ap,az,ah,ak,rfl,rfl,bA,bB⟩
 have bs:sW w U aq [.blk aw 165 [jV aa.Race.Laps,.slice bd aa.Race.Bibs.length bh,.slice be aa.Race.Times.length bi,.slice ao aa.done.length ay,.slice ap aa.out.length az],.row ao ay 3 1 (hD KL.encI aa.done),.row ap az 4 1 (hD KL.encT aa.out),.row ah ak 65 4 (hD wAh bb),.blk b2 34 B0] bg:=br
 refine oM Z Z (oR Z (zi Z Z (v:=.pointer (some ⟨aw,0,none⟩)) Z) (oR Z (zi Z Z (v:=.slice ah bb.length ak) Z) (oA Z Z (oA Z Z (eN (sR fL3 Z (oM Z Z (oA Z Z (oA Z Z (eN (zP ?_)))))))))))
 cases a8
 exact ⟨rfl,_,(wEr rfl rfl),aq,_,(bs.pick [3] _ (by decide) rfl),ah,ak,rfl,rfl⟩
 intro aj bv
 refine cT Z aj (sR fL3 Z (oM Z Z (oA Z Z (oA Z Z (eN (zP (zR ?_)))))))
 have bt:=am.nilrow 65 4
 cases bv
 exact ⟨rfl,_,(wEr rfl rfl),U8,_,(bt.pick [0] _ (by decide) rfl),none,0,rfl,rfl⟩
theorem wJN (O:wAk) (ac:Option Addr) (af:Nat) (ae:Option Addr) (ag:Nat) (w:World) (U:PHeap) (hS:St0 w U []) (a7:Sl U 1 ac af O.Bibs.length (hD KL.encI O.Bibs)) (a8:SlR U wDl ae ag O.Times) {r:(List Int) × Int} (hm:wFe O=some r):Gv Tryz.prog 49 [.agg #[jV O.Laps,.slice ac O.Bibs.length af,.slice ae O.Times.length ag]] w (wBD w [] U (fun U_ L_ v=>∃ (A0:Option Addr) (c0:Nat),v=.tuple #[.slice A0 r.1.length c0,jV r.2]/\L_=[.row A0 c0 3 1 (hD KL.encI r.1)])):=by
 unfold wFe at hm
 refine Gv.of Tryz.func49 Z Tryz.ntmps49 Tryz.results49 Z (sR gBp Z ?_)
 let B0:List Value:=[jV O.Laps,.slice ac O.Bibs.length af,.slice ae O.Times.length ag]
 refine ZH (cs:=B0) rfl rfl rfl rfl rfl rfl (by rfl) hS ?_
 intro W1 b2 aY
 refine oA Z Z (oA Z Z (eN (zI (sR gBr Z (oL Z (aY.ldBA (j:=0) Z Z Z yh Zm (vs:=B0) Z Z) (bnK hm fun x5 h6 bw=>zM 0 Z Z Z Z (zK Z Z Tryz.call56 (zD Z zO) Z) aY (fun hs=>wGJ O ac af ae ag W1 U hs a7 a8 h6) (.inr Z) ?_))))))
 rintro U8 L9 bD au bb br ⟨rfl,rfl⟩
 have am:sW w U U8 [.blk b2 34 B0] au:=br
 refine oA Z Z (eN (sR fL2 Z (oM Z Z (oR Z (ZX Z Z Z) (eN (ifc bw ?_ ?_))))))
 intro ak bu
 refine zn (zt (fun h=>h ak.out)) (kN (sR (.fl 0 (.fx 1 (wIK (.nil)) .stop)) Z (oL Z (am.ldBA (j:=0) Z Z Z yh Zm (vs:=B0) Z Z) ?_)))
 have bm:=a7.le bb
 have bn:=a8.le bb
 have q:=bnd bu
 obtain ⟨⟨aa,bd⟩,bp,ba⟩:=q
 try dsimp only at ba
 refine zM 0 Z Z Z Z (zK Z Z Tryz.call57 (zD Z zO) Z) am (fun hs=>wJM O ac af ae ag au U8 hs bm bn bp) (.inr Z) ?_
 rintro aq bx bE bh bC bs ⟨aw,be,bi,bf,bj,ah,ai,ao,ay,ap,az,rfl,rfl,bA,bB⟩
 have aZ:sW w U aq [.blk aw 165 [jV aa.Race.Laps,.slice be aa.Race.Bibs.length bi,.slice bf aa.Race.Times.length bj,.slice ah aa.done.length ai,.slice ao aa.out.length ay],.row ah ai 3 1 (hD KL.encI aa.done),.row ao ay 4 1 (hD KL.encT aa.out),.row ap az 65 4 (hD wAh bd),.blk b2 34 B0] bh:=bs
 refine oM Z Z (oR Z (zi Z Z (v:=.pointer (some ⟨aw,0,none⟩)) Z) (oR Z (zi Z Z (v:=.slice ap bd.length az) Z) (oA Z Z (oA Z Z (eN (sR fL6 Z (oM Z Z (oR Z (ZR Z Z) (oR Z (zF Z Z Zi Z zS) (oL Z (aZ.ldB (j:=0) Z Z Z zZ (v:=.slice ah aa.done.length ai) Z) (oA Z Z (oA Z Z (eN (zP ?_))))))))))))))
 cases ba
 exact ⟨rfl,_,(wEr rfl rfl),aq,_,(aZ.pick [1] _ (by decide) rfl),ah,ai,rfl,rfl⟩
 intro ak bv
 refine cT Z ak (sR fL3 Z (oM Z Z (oA Z Z (oA Z Z (eN (zP (zR ?_)))))))
 have bt:=am.nilrow 3 1
 cases bv
 exact ⟨rfl,_,(wEr rfl rfl),U8,_,(bt.pick [0] _ (by decide) rfl),none,0,rfl,rfl⟩
theorem wHa (O:wAN) (bh:Option Addr) (bm:Nat) (aj:Option Addr) (ak:Nat) (w:World) (U:PHeap) (hS:St0 w U []) (dx:Sl U 1 bh bm O.Classes.length (hD KL.encI O.Classes)) (cO:SlR U wHD aj ak O.Legs) {r:Int} (hm:wEN O=some r):Gv Tryz.prog 50 [.agg #[jV O.Bib,.slice bh O.Classes.length bm,.slice aj O.Legs.length ak]] w (wBD w [] U (fun U_ L_ v=>v=jV r/\L_=[])):=by
 unfold wEN at hm
 refine Gv.of Tryz.func50 Z Tryz.ntmps50 Tryz.results50 Z (sR gBk Z ?_)
 let B0:List Value:=[jV O.Bib,.slice bh O.Classes.length bm,.slice aj O.Legs.length ak]
 refine ZH (cs:=B0) rfl rfl rfl rfl rfl rfl (by rfl) hS ?_
 intro W1 b2 cK
 refine oA Z Z (eN (sR (.fl 0 (.fx 1 (.fx 2 .nil .stop) .stop)) Z ?_))
 let B1:List Value:=[jV 0,jV 0,jV 0]
 refine oR Z (zx (pv:=[]) (z:=B1) (cs:=B1) Z wAI yH wGz Z Z) (zm (cs:=B1) Z Z Z Z Z yH Z cK ?_)
 intro W5 b6 cN
 refine zh (j:=0) (vs:=B1) Z Z Z Z cN Z Z Z Z Zx (zA Z) Z Z Z ?_
 intro W9 cC
 have bD:sW w U U [.blk b6 49 B1,.blk b2 43 B0] W9:=cC
 refine eN (sR fL1 Z (oA Z Z (eN (zI (sR fL4 Z (oR Z (zF Z Z ZL Z yD) (oL Z (bD.ldB (j:=1) Z Z Z yv (v:=.slice aj O.Legs.length ak) Z) (oR Z (ze Z Z Zh) (oM Z Z (eN (zU (bnK hm fun dE cP cX=>?_))))))))))))
 have q:=wAn cP
 obtain ⟨be,cQ⟩:=q
 replace be:=zH be
 refine CK.forN' (fun ag bL σ_ w_=>∃ (U_:PHeap),σ_ 15=jV (↑ag:Int)/\σ_ 3=.pointer (some ⟨b6,0,none⟩)/\σ_ 4=jV bL/\σ_ 13=.slice aj O.Legs.length ak/\σ_ 14=jV (↑O.Legs.length:Int)/\PHeap.Le U U_/\sW w U U_ [.blk b6 49 B1,.blk b2 43 B0] w_) cQ ?_ ?_ ?_
 exact ⟨U,Z,Z,Z,Z,Z,(zL _),bD⟩
 rintro ag bL dC dI dp bb ⟨au,a7,cn,co,bu,bv,bK,bE⟩ da
 have bs:Hid ((↑ag:Int) < (↑O.Legs.length:Int)):=zH (wAj bb)
 replace bb:=zH bb
 have cU:Hid (w64 ((↑ag:Int) + 1)=(↑(ag + 1):Int)):=zH (by have h1:=be.out;have h2:=bs.out;rw [wAX] <;> omega)
 refine sR fL1 Z (oR Z (zW Z a7 bv) (eN (zI (cT Z bs (kN (zI (zU (sR gBw Z (bnK da fun aa bB cY=>?_)))))))))
 have cu:=cO.le bK
 have q:=cu.el (wAV bB)
 obtain ⟨bV,de,dB,cA,ba,c9⟩:=q
 obtain ⟨bj,bp,ao,ap,rfl,dw,cw⟩:=c9
 replace ba:Cl au bV (de + ag * 3) [jV aa.Skier,.slice bj aa.Loops.length bp,.slice ao aa.Bouts.length ap]:=ba
 refine oR Z (ZE Z bu cA a7 Zh Zb (wAq bB)) (oL Z (bE.ldCA (f:=0) ba Z Z YI Zb (us:=[jV aa.Skier,.slice bj aa.Loops.length bp,.slice ao aa.Bouts.length ap]) Z Z) (zm (cs:=[jV 0,.slice none 0 0,.slice none 0 0]) Z Z Z Z Z Zj Z bE ?_))
 intro dr av cL
 let B2:List Value:=[jV aa.Skier,.slice bj aa.Loops.length bp,.slice ao aa.Bouts.length ap]
 refine zh (j:=0) (vs:=B2) Z Z Z Z cL Z Z Z Z Zb (zA Z) Z Z Z ?_
 intro bR cM
 have bF:sW w U au [.blk av 46 B2,.blk b6 49 B1,.blk b2 43 B0] bR:=cM
 refine eN (sR fL4 Z (oR Z (zF Z Z ZU Z yr) (oL Z (bF.ldB (j:=0) Z Z Z Tryz.isAgg44 (v:=.slice ao aa.Bouts.length ap) Z) (oR Z (ze Z Z Zo) (oM Z Z (eN (zU (bnK cY fun dF cR cZ=>?_))))))))
 have q:=wAn cR
 obtain ⟨bf,cS⟩:=q
 replace bf:=zH bf
 refine CK.forN' (fun ai bM σ_ w_=>∃ (U_:PHeap),σ_ 22=jV (↑ai:Int)/\σ_ 3=.pointer (some ⟨b6,0,none⟩)/\σ_ 4=jV bM/\σ_ 13=.slice aj O.Legs.length ak/\σ_ 14=jV (↑O.Legs.length:Int)/\σ_ 15=jV (↑ag:Int)/\σ_ 20=.slice ao aa.Bouts.length ap/\σ_ 21=jV (↑aa.Bouts.length:Int)/\PHeap.Le au U_/\sW w U U_ [.blk av 46 B2,.blk b6 49 B1,.blk b2 43 B0] w_) cS ?_ ?_ ?_
 exact ⟨au,Z,cn,co,bu,bv,a7,Z,Z,(zL _),bF⟩
 rintro ai bM dD dJ bS bd ⟨br,aw,az,bw,bx,bz,bA,aY,aZ,bg,bG⟩ db
 have bt:Hid ((↑ai:Int) < (↑aa.Bouts.length:Int)):=zH (wAj bd)
 replace bd:=zH bd
 have bH:Hid (w64 ((↑ai:Int) + 1)=(↑(ai + 1):Int)):=zH (by have h1:=bf.out;have h2:=bt.out;rw [wAX] <;> omega)
 refine sR fL1 Z (oR Z (zW Z aw aZ) (eN (zI (cT Z bt (kN (zI (zU (sR fL3 Z (bnK db fun bq bC c6=>?_)))))))))
 have cy:=cw.le bg
 have q:=cy.el (wAV bC)
 obtain ⟨bW,df,dA,cz,a8,c8⟩:=q
 obtain ⟨bi,bn,rfl,cr⟩:=c8
 replace a8:Cl br bW (df + ai * 1) [.slice bi bq.length bn]:=a8
 refine oR Z (ZE Z aY cz aw Zo yM (wAq bC)) (oL Z (bG.ldC (f:=0) a8 (v:=.slice bi bq.length bn) Z Z YT Z) (oA Z Z (eN (sR (.fl 0 (.fx 1 (wOp (.fx 5 (.fx 6 (.fl 7 .nil) .stop) .stop)) .stop)) Z (oM Z Z ?_)))))
 have q:=bnd c6
 obtain ⟨⟨ae,dg⟩,ct,bI⟩:=q
 try dsimp only at bI
 refine zM 0 Z Z Z Z (zK Z Z Tryz.call11 (zD Z zO) Z) bG (fun hs=>wFK bq bi bn bS br hs cr ct) (.inr Z) ?_
 rintro aq dh dz bP bJ cD ⟨rfl,rfl⟩
 have cE:sW w U aq [.blk av 46 B2,.blk b6 49 B1,.blk b2 43 B0] bP:=cD
 refine oM Z Z (oR Z (zi Z Z (v:=.agg #[jV ae.Spares,jV ae.Loops,jV ae.Unused]) Z) (oR Z (zi Z Z (v:=jV dg) Z) (zm (cs:=B1) Z Z Z Z Z yH Z cE ?_)))
 intro dl bU cG
 let B3:List Value:=[jV ae.Spares,jV ae.Loops,jV ae.Unused]
 refine zh (j:=0) (vs:=B3) Z Z Z Z cG Z Z Z Z Zx (zA Z) Z Z Z ?_
 intro bQ cH
 have an:sW w U aq [.blk bU 49 B3,.blk av 46 B2,.blk b6 49 B1,.blk b2 43 B0] bQ:=cH
 refine oA Z Z (eN (sR fL3 Z (oL Z (an.ldBA (j:=0) Z Z Z YK Zx (vs:=B3) Z Z) (oL Z (an.ldBA (j:=2) Z Z az YK Zx (vs:=B1) Z Z) (oR Z (zr (Runs.neS (enc:=wBe) (a:=ae) (b:=(⟨0,0,0⟩:wAi)) Z Z Z wQZ wQY) (congrArg nE (decide_not).symm)) (eN (ifc bI ?_ ?_)))))))
 intro ay cV
 refine zn (zt (fun h=>h ay.out)) (ZT (zf (zG (rR fL2 Z (oR Z (zr (zX Z aw Z) (congrArg (jV) bH.out)) (oM Z Z (zg ?_)))))))
 cases cV
 exact zG ⟨rfl,⟨aq,rfl,az,bw,bx,bz,bA,aY,aZ,(bg.trans bJ),(an.pick [1,2,3] _ (by decide) rfl)⟩⟩
 intro ay cW
 refine cT Z ay (rR fL5 Z (oM Z bw (oR Z (zF Z Z Tryz.runUnderlying49 Z zC) (oL Z (an.ldB (j:=0) Z Z Z zJ (v:=jV ae.Unused) Z) (oR Z (zX Z Z Z) (oA Z Z (zg (zf (zG (rR fL2 Z (oR Z (zr (zX Z aw Z) (congrArg (jV) bH.out)) (oM Z Z (zg ?_)))))))))))))
 cases cW
 exact zG ⟨rfl,⟨aq,rfl,az,rfl,bx,bz,bA,aY,aZ,(bg.trans bJ),(an.pick [1,2,3] _ (by decide) rfl)⟩⟩
 rintro dG dm ⟨bN,cp,bZ,ca,cc,cd,cg,dt,ci,dd,cI⟩
 have bX:Hid (¬ ((↑(((↑aa.Bouts.length:Int):Int) - 0).toNat:Int) < (↑aa.Bouts.length:Int))):=zH (wAc)
 refine sR fL1 Z (oR Z (zW Z cp ci) (eN (zI (cF Z bX (ZJ (zd (zd (ZG (zf (zG (rR fL2 Z (oR Z (zr (zX Z cg Z) (congrArg (jV) cU.out)) (oM Z Z (zg ?_))))))))))))))
 cases cZ
 exact zG ⟨rfl,⟨bN,rfl,bZ,ca,cc,cd,(bK.trans dd),(cI.pick [1,2] _ (by decide) rfl)⟩⟩
 rintro dH dn ⟨bO,cq,du,cj,dv,cm,dy,cJ⟩
 have bY:Hid (¬ ((↑(((↑O.Legs.length:Int):Int) - 0).toNat:Int) < (↑O.Legs.length:Int))):=zH (wAc)
 refine sR fL1 Z (oR Z (zW Z cq cm) (eN (zI (cF Z bY (ZJ (zd (zd (ZG (zG (sR fL2 Z (oM Z cj (oA Z Z (eN (zP ?_))))))))))))))
 have hE:=nB cX;first | subst r | cases hE
 exact ⟨rfl,_,(zz rfl),bO,_,(cJ.pick [] _ (by decide) rfl),rfl,rfl⟩
theorem wBm (O:List wAE) (aa:Option Addr) (ab:Nat) (p1:((wAE × wAE)->Option Int)) (ac:Value) (w:World) (U:PHeap) (hS:St ⟨w,[.row aa ab 70 3 (hD wAJ O)],U⟩ U [.row aa ab 70 3 (hD wAJ O)] w) (af:FnOK Tryz.prog U ac wQQ wQR p1) (ag:∃ g cb,ac=.func (.func g) #[] cb) {r:List wAE} (hm:wBB O p1=some r):Gv Tryz.prog 51 [.slice aa O.length ab,ac] w (wBD w [.row aa ab 70 3 (hD wAJ O)] U (fun U_ L_ v=>v=.tuple #[]/\L_=[.row aa ab 70 3 (hD wAJ r)]/\r.length=O.length)) :=
 wLA (sz:=3) (fun _=>rfl) (fun x v h=>List.all_eq_true.1 (show (wAJ x).all (·.oneCell')=true from rfl) v h) (fun _ _ _=>rfl) (fun _ _ _ _ h=>h.1) (fun enc a1 a2 cf b g cb k1 k2 k3 d w h1 h2 h3 h4 h5 h6=>Go.Proofs.Tryz.slices_SortFunc_total_f51 3 Tryz.isAgg70 Tryz.sizeOf70 enc a1 a2 cf b g cb k1 k2 k3 d w h1 h2 h3 h4 h5 h6) (fun p c v w=>Go.Proofs.Tryz.slices_SortFunc_none_f51 (α:=Int) p c v w) hS af (by decide) ag hm
theorem wIV (O:wAE) (p1:wAE) (w:World) (U:PHeap) (hS:St0 w U [])  {r:Int} (hm:wDH O p1=some r):Gv Tryz.prog 52 [.agg #[jV O.Bib,jV O.Place,jV O.Time],.agg #[jV p1.Bib,jV p1.Place,jV p1.Time]] w (wBD w [] U (fun U_ L_ v=>v=jV r/\L_=[])):=by
 unfold wDH at hm
 refine Gv.of Tryz.func52 Z Tryz.ntmps52 Tryz.results52 Z (sR gBo Z ?_)
 let B0:List Value:=[jV O.Bib,jV O.Place,jV O.Time]
 refine ZH (cs:=B0) rfl rfl rfl rfl rfl rfl (by rfl) hS ?_
 intro W1 b2 ba
 let B1:List Value:=[jV p1.Bib,jV p1.Place,jV p1.Time]
 refine ZH (cs:=B1) rfl rfl rfl rfl rfl rfl (by rfl) ba ?_
 intro W5 b6 bj
 refine yU rfl rfl rfl rfl rfl rfl (eN (zI (ZN ZD [3,1,3,1,2,3,1,3,1,2,2,2,3] (wEL (wQy gBz)) (by kernel_rfl) ?_)))
 have ae:=bj.drew
 generalize hw_W10:({ W5 with drawn:=W5.drawn + 1 }:World)=av at ae ⊢
 refine oR Z (zF Z Z Zz Z zC) (oL Z (ae.ldB (j:=1) Z Z Z zJ (v:=jV O.Time) Z) (oR Z (zF Z Z Zz Z zC) (oL Z (ae.ldB (j:=0) Z Z Z zJ (v:=jV p1.Time) Z) (oR Z (zF Z Z Zz Z zC) (oL Z (ae.ldB (j:=1) Z Z Z zJ (v:=jV O.Bib) Z) (oR Z (zF Z Z Zz Z zC) (oL Z (ae.ldB (j:=0) Z Z Z zJ (v:=jV p1.Bib) Z) (bnK hm fun af ay bm=>zM 0 Z Z Z Z (zK Z Z Tryz.call54 (zD Z (zD Z zO)) Z) ae (fun hs=>wCg O.Time p1.Time av U hs ay) (.inr Z) ?_))))))))
 rintro ak br bA ap bv aZ ⟨rfl,rfl⟩
 have a7:sW w U ak [.blk b6 70 B1,.blk b2 70 B0] ap:=aZ
 refine bnK bm fun ag az bn=>zM 0 Z Z Z Z (zK Z Z Tryz.call54 (zD Z (zD Z zO)) Z) a7 (fun hs=>wCg O.Bib p1.Bib ap ak hs az) (.inr Z) ?_
 rintro am bs bB aw bw a8 ⟨rfl,rfl⟩
 have bb:sW w U am [.blk b6 70 B1,.blk b2 70 B0] aw:=a8
 refine zb (pv:=[(0,jV af),(1,jV ag)]) (zs:=[jV 0,jV 0]) (cs:=[jV af,jV ag]) Z Z Z Z Z (wAA Z (wAA Z wAI)) zB zC zw Z Z Z Z Z bb ?_
 intro aj au bd
 have be:sW w U am [.row (some ⟨au,0,none⟩) 2 3 1 (hD KL.encI [af,ag]),.blk b6 70 B1,.blk b2 70 B0] aj:=bd
 have q:=be.freezeR (k:=0) (n:=[af,ag].length) rfl (wAB (f:=KL.encI) (sz:=1) (fun _=>rfl) [af,ag]) (by decide)
 obtain ⟨an,bx,bq,bf⟩:=q
 have bg:sW w U an [.blk b6 70 B1,.blk b2 70 B0] aj:=bf
 refine bnK bn fun bD aY bp=>zM 0 Z Z Z Z (zK Z Z Tryz.call53 (zD Z zO) Z) bg (fun hs=>wGp [af,ag] (some ⟨au,0,none⟩) 2 aj an hs bq aY) (.inr Z) ?_
 rintro ao bt bC ax bz bh ⟨rfl,rfl⟩
 have bi:sW w U ao [.blk b6 70 B1,.blk b2 70 B0] ax:=bh
 refine oA Z Z (eN (zP ?_))
 have hE:=nB bp;first | subst r | cases hE
 exact ⟨rfl,_,(zz rfl),ao,_,(bi.pick [] _ (by decide) rfl),rfl,rfl⟩
theorem wIW (O:wAE) (p1:wAE) (p2:List (Int × Int)) (az:Nat) (ak:Nat) (bw:Array MapEntry) (bx:Nat) (w:World) (U:PHeap) (hS:St0 w U []) (ax:Cl U az 0 [.map (some ak)]) (ay:MpF U ak bw bx wLy wNS p2) {r:Int} (hm:wDI O p1 p2=some r):Gv Tryz.prog 55 [.agg #[jV O.Bib,jV O.Place,jV O.Time],.agg #[jV p1.Bib,jV p1.Place,jV p1.Time],.pointer (some ⟨az,0,none⟩)] w (wBD w [] U (fun U_ L_ v=>v=jV r/\L_=[])):=by
 unfold wDI at hm
 refine Gv.of Tryz.func55 Z Tryz.ntmps55 Tryz.results55 Z (sR gBo Z ?_)
 let B0:List Value:=[jV O.Bib,jV O.Place,jV O.Time]
 refine ZH (cs:=B0) rfl rfl rfl rfl rfl rfl (by rfl) hS ?_
 intro W1 b2 bg
 let B1:List Value:=[jV p1.Bib,jV p1.Place,jV p1.Time]
 refine ZH (cs:=B1) rfl rfl rfl rfl rfl rfl (by rfl) bg ?_
 intro W5 b6 br
 refine yU rfl rfl rfl rfl rfl rfl (eN (zI (ZN ZD [1,3,1,1,1,3,1,1,2,3,1,3,1,2,2,2,3] (wQv (wSP (.fx 8 (.fx 13 (.fx 14 (.fx 15 (.fl 16 .nil) .stop) .stop) .stop) .stop))) (by kernel_rfl) ?_)))
 have ab:=br.drew
 generalize hw_W10:({ W5 with drawn:=W5.drawn + 1 }:World)=aY at ab ⊢
 refine oL Z (ab.ldC (f:=0) ax (v:=.map (some ak)) Z Z Tryz.isAgg128 Z) (oR Z (zF Z Z Zz Z zC) (oL Z (ab.ldB (j:=0) Z Z Z zJ (v:=jV p1.Bib) Z) (oL Z (ab.lookupF1 (mk:=wLy) (mv:=wNS) (a:=p1.Bib) (z:=0) ay Z Z Z (wBr Tryz.runUnderlying128) wLz zw) (oL Z (ab.ldC (f:=0) ax (v:=.map (some ak)) Z Z Tryz.isAgg128 Z) (oR Z (zF Z Z Zz Z zC) (oL Z (ab.ldB (j:=1) Z Z Z zJ (v:=jV O.Bib) Z) (oL Z (ab.lookupF1 (mk:=wLy) (mv:=wNS) (a:=O.Bib) (z:=0) ay Z Z Z (wBr Tryz.runUnderlying128) wLz zw) (oR Z (zF Z Z Zz Z zC) (oL Z (ab.ldB (j:=1) Z Z Z zJ (v:=jV O.Bib) Z) (oR Z (zF Z Z Zz Z zC) (oL Z (ab.ldB (j:=0) Z Z Z zJ (v:=jV p1.Bib) Z) (bnK hm fun af a8 bs=>zM 0 Z Z Z Z (zK Z Z Tryz.call54 (zD Z (zD Z zO)) Z) ab (fun hs=>wCg (wBE p2 p1.Bib 0) (wBE p2 O.Bib 0) aY U hs a8) (.inr Z) ?_))))))))))))
 rintro an bz bH au bD bd ⟨rfl,rfl⟩
 have be:sW w U an [.blk b6 70 B1,.blk b2 70 B0] au:=bd
 refine bnK bs fun ag ba bt=>zM 0 Z Z Z Z (zK Z Z Tryz.call54 (zD Z (zD Z zO)) Z) be (fun hs=>wCg O.Bib p1.Bib au an hs ba) (.inr Z) ?_
 rintro ao bA bI aZ bE bf ⟨rfl,rfl⟩
 have bh:sW w U ao [.blk b6 70 B1,.blk b2 70 B0] aZ:=bf
 refine zb (pv:=[(0,jV af),(1,jV ag)]) (zs:=[jV 0,jV 0]) (cs:=[jV af,jV ag]) Z Z Z Z Z (wAA Z (wAA Z wAI)) zB zC zw Z Z Z Z Z bh ?_
 intro am aw bi
 have bj:sW w U ao [.row (some ⟨aw,0,none⟩) 2 3 1 (hD KL.encI [af,ag]),.blk b6 70 B1,.blk b2 70 B0] am:=bi
 have q:=bj.freezeR (k:=0) (n:=[af,ag].length) rfl (wAB (f:=KL.encI) (sz:=1) (fun _=>rfl) [af,ag]) (by decide)
 obtain ⟨ap,bF,bv,bm⟩:=q
 have bn:sW w U ap [.blk b6 70 B1,.blk b2 70 B0] am:=bm
 refine bnK bt fun bK bb bu=>zM 0 Z Z Z Z (zK Z Z Tryz.call53 (zD Z zO) Z) bn (fun hs=>wGp [af,ag] (some ⟨aw,0,none⟩) 2 am ap hs bv bb) (.inr Z) ?_
 rintro aq bB bJ a7 bG bp ⟨rfl,rfl⟩
 have bq:sW w U aq [.blk b6 70 B1,.blk b2 70 B0] a7:=bp
 refine oA Z Z (eN (zP ?_))
 have hE:=nB bu;first | subst r | cases hE
 exact ⟨rfl,_,(zz rfl),aq,_,(bq.pick [] _ (by decide) rfl),rfl,rfl⟩
theorem wJO (p0:wAZ) (cL:Option Addr) (cO:Nat) (bx:Option Addr) (bz:Nat) (w:World) (U:PHeap) (hS:St0 w U []) (lO:Sl U 1 cL cO p0.Rules.Classes.length (hD KL.encI p0.Rules.Classes)) (fI:SlR U wHM bx bz p0.Teams) {r:(List wAE) × Int} (hm:wFf p0=some r):Gv Tryz.prog 14 [.agg #[.slice cL p0.Rules.Classes.length cO,jV p0.Rules.Each,jV p0.Rules.Laps,jV p0.Rules.Spare,jV p0.Rules.Loop,jV p0.Rules.Unused,jV p0.Start,.slice bx p0.Teams.length bz]] w (wBD w [] U (fun U_ L_ v=>∃ (A0:Option Addr) (c0:Nat),v=.tuple #[.slice A0 r.1.length c0,jV r.2]/\L_=[.row A0 c0 70 3 (hD wAJ r.1)])):=by
 unfold wFf at hm
 refine Gv.of Tryz.func14 Z Tryz.ntmps14 Tryz.results14 Z (sR gBp Z ?_)
 let B0:List Value:=[.slice cL p0.Rules.Classes.length cO,jV p0.Rules.Each,jV p0.Rules.Laps,jV p0.Rules.Spare,jV p0.Rules.Loop,jV p0.Rules.Unused,jV p0.Start,.slice bx p0.Teams.length bz]
 refine ZH (cs:=B0) rfl rfl rfl rfl rfl rfl (by rfl) hS ?_
 intro W1 b2 fy
 refine oA Z Z (oA Z Z (eN (sR (.fl 0 (.fx 1 (wIK (.nil)) .stop)) Z (oL Z (fy.ldBA (j:=0) Z Z Z ya Zk (vs:=B0) Z Z) ?_))))
 have q:=bnd hm
 obtain ⟨⟨x5,x6⟩,h7,bX⟩:=q
 try dsimp only at bX
 refine zM 0 Z Z Z Z (zK Z Z Tryz.call30 (zD Z zO) Z) fy (fun hs=>wGS p0 cL cO bx bz W1 U hs lO fI h7) (.inr Z) ?_
 rintro U9 m6 oQ co mR fq fm
 rcases x5 with _ | a7
 try dsimp only at bX
 obtain ⟨rfl,rfl⟩:=fm
 have jO:sW w U U9 [.blk b2 28 B0] co:=fq
 refine oM Z Z (oR Z (zi Z Z (v:=.pointer none) Z) (oR Z (zi Z Z (v:=jV x6) Z) (oA Z Z (oA Z Z (eN (zI (sR fL2 Z (oM Z Z (oR Z (ZX Z Z Z) (eN (ifc bX ?_ ?_)))))))))))
 intro dd md
 refine zn (zt (fun h=>h dd.out)) (kN (sR gBx Z (oM Z Z ?_)))
 cases md
 intro dd me
 refine cT Z dd (sR fL3 Z (oM Z Z (oA Z Z (oA Z Z (eN (zP (zR ?_)))))))
 have jR:=jO.nilrow 70 3
 cases me
 exact ⟨rfl,_,(wEr rfl rfl),U9,_,(jR.pick [0] _ (by decide) rfl),none,0,rfl,rfl⟩
 try dsimp only at bX
 obtain ⟨bE,dV,eJ,dW,eK,bM,bU,gQ,rfl,rfl,iR,iS,iU⟩:=fm
 let B1:Res:=.blk bE 130 [.slice dV a7.Race.Rules.Classes.length eJ,jV a7.Race.Rules.Each,jV a7.Race.Rules.Laps,jV a7.Race.Rules.Spare,jV a7.Race.Rules.Loop,jV a7.Race.Rules.Unused,jV a7.Race.Start,.slice dW a7.Race.Teams.length eK,.slice bM a7.after.length bU]
 have fA:sW w U U9 [B1,.row bM bU 23 1 gQ,.blk b2 28 B0] co:=fq
 refine oM Z Z (oR Z (zi Z Z (v:=.pointer (some ⟨bE,0,none⟩)) Z) (oR Z (zi Z Z (v:=jV x6) Z) (oA Z Z (oA Z Z (eN (zI (sR fL2 Z (oM Z Z (oR Z (ZX Z Z Z) (eN (ifc bX ?_ ?_)))))))))))
 intro de mm
 refine zn (zt (fun h=>h de.out)) (kN (sR gBx Z (oM Z Z ?_)))
 have q:=fA.freezeRR (R:=wDl) (k:=1) rfl iU rfl (by decide)
 obtain ⟨ey,dN,fM,j8⟩:=q
 have j9:sW w U ey [B1,.blk b2 28 B0] co:=j8
 have jd:=iR.le dN
 have jf:=iS.le dN
 refine bnK mm fun bi jh mu=>zM 1 Z Z Z Z (zK Z Z Tryz.call31 (zD Z zO) Z) j9 (fun hs=>wGI a7 bE dV eJ dW eK bM bU co ey hs jd jf fM jh) (.inl Z) ?_
 rintro ez m9 oU gF fT lu ⟨cd,cq,cg,cr,gS,rfl,rfl,jp⟩
 let B2:Res:=.row cd cq 3 1 (hD KL.encI bi.Bibs)
 let B3:Res:=.row cg cr 23 1 gS
 have lG:sW w U ez [B2,B3,B1,.blk b2 28 B0] gF:=lu
 let B4:List Value:=[jV 0,.slice none 0 0,.slice none 0 0]
 refine zm (cs:=B4) Z Z Z Z Z YB Z lG ?_
 intro om ah lH
 let B5:List Value:=[jV bi.Laps,.slice cd bi.Bibs.length cq,.slice cg bi.Times.length cr]
 refine zh (j:=0) (vs:=B5) Z Z Z Z lH Z Z Z Z Zm (zA Z) Z Z Z ?_
 intro cp lI
 have fG:sW w U ez [.blk ah 34 B5,B2,B3,B1,.blk b2 28 B0] cp:=lI
 refine eN (sR (.fl 0 (.fx 1 (wIK (.nil)) .stop)) Z (oL Z (fG.ldBA (j:=0) Z Z Z yh Zm (vs:=B5) Z Z) ?_))
 have q:=fG.freezeR (k:=1) (n:=bi.Bibs.length) rfl (wAB (f:=KL.encI) (sz:=1) (fun _=>rfl) bi.Bibs) (by decide)
 obtain ⟨gj,dP,mO,lJ⟩:=q
 have lK:sW w U gj [.blk ah 34 B5,B3,B1,.blk b2 28 B0] cp:=lJ
 have jr:=jp.le dP
 have q:=lK.freezeRR (R:=wDl) (k:=1) rfl jr rfl (by decide)
 obtain ⟨eB,dQ,fN,lL⟩:=q
 have lM:sW w U eB [.blk ah 34 B5,B1,.blk b2 28 B0] cp:=lL
 have fh:=mO.le dQ
 have q:=bnd mu
 obtain ⟨⟨ay,m4⟩,jt,fL⟩:=q
 try dsimp only at fL
 refine zM 0 Z Z Z Z (zK Z Z Tryz.call15 (zD Z zO) Z) lM (fun hs=>wJq bi cd cq cg cr cp eB hs fh fN jt) (.inr Z) ?_
 rintro eC n5 oX eF cK lN ⟨cS,di,rfl,rfl⟩
 let B6:Res:=.row cS di 65 4 (hD wAh ay)
 have fH:sW w U eC [B6,.blk ah 34 B5,B1,.blk b2 28 B0] eF:=lN
 refine oM Z Z (oR Z (zi Z Z (v:=.slice cS ay.length di) Z) (oR Z (zi Z Z (v:=jV m4) Z) (oA Z Z (oA Z Z (eN (sR (.fl 0 (.fx 1 (wIK (.nil)) .stop)) Z (oL Z (fH.ldBA (j:=1) Z Z Z yh Zm (vs:=B5) Z Z) ?_)))))))
 have ju:=fh.le cK
 have jv:=fN.le cK
 have q:=bnd fL
 obtain ⟨⟨bq,mY⟩,iC,fJ⟩:=q
 try dsimp only at fJ
 refine zM 0 Z Z Z Z (zK Z Z Tryz.call49 (zD Z zO) Z) fH (fun hs=>wJN bi cd cq cg cr eF eC hs ju jv iC) (.inr Z) ?_
 rintro cj m7 oP gq fR jD ⟨bL,bT,rfl,rfl⟩
 let B7:Res:=.row bL bT 3 1 (hD KL.encI bq)
 have jE:sW w U cj [B7,B6,.blk ah 34 B5,B1,.blk b2 28 B0] gq:=jD
 refine oM Z Z (oR Z (zi Z Z (v:=.slice bL bq.length bT) Z) (oR Z (zi Z Z (v:=jV mY) Z) (oA Z Z (oA Z Z (eN (sR (.fx 0 (.fx 1 (.fx 2 (.fl 3 (.fx 4 .nil .stop)) .stop) .stop) .stop) Z (OKS.makeMap Z Z Z Z Z jE ?_)))))))
 intro n7 ak jF
 have mI:=MpR.nil wIS wIn
 refine OKS.makeMap Z Z Z Z Z jF ?_
 intro n8 ax jG
 have mJ:=MpR.nil wLy wNS
 refine zm (cs:=[.map none]) Z Z Z Z Z Tryz.zeroValue128 Z jG ?_
 intro n9 ao jH
 refine oA Z Z ?_
 let B8:List Value:=[.map (some ax)]
 refine zh (j:=0) (vs:=B8) Z Z Z Z jH Z Z Z Z Tryz.sizeOf128 (zA Z) Z Z Z ?_
 intro gu jI
 have jJ:sW w U cj [.blk ao 128 B8,.obj ax (.map #[] 0),.obj ak (.map #[] 0),B7,B6,.blk ah 34 B5,B1,.blk b2 28 B0] gu:=jI
 refine eN (zI (sR fL3 Z (oM Z Z (oR Z (ze Z Z Tryz.runUnderlying56) (oM Z Z (eN (zU (bnK fJ fun o7 lQ mb=>?_))))))))
 have q:=wAn lQ
 obtain ⟨dJ,lR⟩:=q
 replace dJ:=zH dJ
 refine CK.forN' (fun be fP σ_ w_=>∃ (U_:PHeap) (ct:Array MapEntry) (dl:Nat),σ_ 44=jV (↑be:Int)/\σ_ 1=.pointer (some ⟨b2,0,none⟩)/\σ_ 4=.pointer (some ⟨bE,0,none⟩)/\σ_ 6=.pointer (some ⟨ah,0,none⟩)/\σ_ 9=.slice bL bq.length bT/\σ_ 11=.map (some ak)/\σ_ 12=.pointer (some ⟨ao,0,none⟩)/\σ_ 42=.slice cS ay.length di/\σ_ 43=jV (↑ay.length:Int)/\PHeap.Le cj U_/\sW w U U_ [.blk ao 128 B8,.obj ax (.map #[] 0),.obj ak (.map ct dl),.blk ah 34 B5,B1,.blk b2 28 B0,B7,B6] w_/\MpR ct wIS wIn fP) lR ?_ ?_ ?_
 exact ⟨cj,#[],0,rfl,rfl,rfl,rfl,rfl,rfl,rfl,rfl,rfl,(zL _),(jJ.pick [0,1,2,5,6,7,3,4] _ (by decide) rfl),mI⟩
 rintro be fP o3 o8 oa dG ⟨cZ,ct,dl,dv,gU,gV,gW,gX,eW,gY,eX,eY,mS,dE,iD⟩ mP
 have eI:Hid ((↑be:Int) < (↑ay.length:Int)):=zH (wAj dG)
 replace dG:=zH dG
 have ma:Hid (w64 ((↑be:Int) + 1)=(↑(be + 1):Int)):=zH (by have h1:=dJ.out;have h2:=eI.out;rw [wAX] <;> omega)
 refine sR fL1 Z (oR Z (zW Z dv eY) (eN (zI (cT Z eI (kN (zI (zU (sR gBw Z (bnK mP fun _ dw mc=>?_)))))))))
 have q:=dE.rowSome (j:=7) rfl (by rw [wAB (f:=wAh) (sz:=4) (fun _=>rfl) ay];have hz:=wAS dw;omega)
 obtain ⟨oo,fj⟩:=q
 refine oR Z (ZE Z eX fj dv Tryz.runUnderlying56 Tryz.sizeOf65 (wAS dw)) ?_
 have l0:=wBK (xs:=ay) (wAS dw)
 let B9:List Value:=[jV ((gd ay be).Bib),jV ((gd ay be).Done),jV ((gd ay be).Time),jV ((gd ay be).By)]
 refine ZB rfl rfl rfl rfl (dE.ldRA (j:=7) rfl fj rfl rfl Tryz.isAgg65 Tryz.sizeOf65 (vs:=B9) (wHT (sz:=4) (fun _=>rfl) _ _ _ l0 (by first | omega | rfl | simp) rfl) rfl) rfl (zm (cs:=[jV 0,jV 0,jV 0,jV 0]) rfl rfl rfl rfl rfl Tryz.zeroValue65 rfl dE ?_)
 intro oc eG jK
 refine zh (j:=0) (vs:=B9) Z Z Z Z jK Z Z Z Z Tryz.sizeOf65 (zA Z) Z Z Z ?_
 intro gv jL
 have ft:sW w U cZ [.blk eG 65 B9,.blk ao 128 B8,.obj ax (.map #[] 0),.obj ak (.map ct dl),.blk ah 34 B5,B1,.blk b2 28 B0,B7,B6] gv:=jL
 refine eN (rR (wCK (.fx 3 .nil .stop)) rfl (zj rfl rfl rfl rfl rfl eW (zY rfl rfl rfl rfl (fun _=>zF rfl rfl Tryz.runUnderlying65 rfl zC) (ZB rfl rfl rfl rfl (ft.ldB (j:=0) rfl rfl rfl zJ (v:=jV ((gd ay be).Bib)) rfl) rfl (OKS.mapPut (x:=.tmp 48) (y:=.tmp 50) (j:=3) (mk:=wIS) (mv:=wIn) (a:=(gd ay be).Bib) (v:=true) rfl rfl rfl (by first | exact .inl rfl | exact .inr rfl) ft rfl rfl rfl rfl (wBr YE) wJJ iD rfl ?_)))))
 intro eV eU gw mK jM
 have jN:sW w U cZ [.blk eG 65 B9,.blk ao 128 B8,.obj ax (.map #[] 0),.obj ak (.map eV eU),.blk ah 34 B5,B1,.blk b2 28 B0,B7,B6] gw:=jM
 refine zg (zf (zG (rR fL2 Z (oR Z (zr (zX Z dv Z) (congrArg (jV) ma.out)) (oM Z Z (zg ?_))))))
 cases mc
 exact zG ⟨rfl,⟨cZ,eV,eU,rfl,gU,gV,gW,gX,eW,gY,eX,eY,mS,(jN.pick [1,2,3,4,5,6,7,8] _ (by decide) rfl),mK⟩⟩
 rintro o9 od ⟨ew,av,au,iz,eZ,gZ,g8,g9,ib,ic,ov,ie,fS,fu,iE⟩
 have gP:Hid (¬ ((↑(((↑ay.length:Int):Int) - 0).toNat:Int) < (↑ay.length:Int))):=zH (wAc)
 refine sR fL1 Z (oR Z (zW Z iz ie) (eN (zI (cF Z gP (ZJ (zd (zd (ZG (zG (sR fL2 Z (oA Z Z (oA Z Z (eN (zI (sR fL4 Z (oR Z (zF Z eZ zo Z Zw) (oL Z (fu.ldB (j:=5) Z Z Z yO (v:=.slice bx p0.Teams.length bz) Z) (oR Z (ze Z Z ZW) (oM Z Z (eN (zU ?_)))))))))))))))))))))
 have q:=bnd mb
 obtain ⟨⟨dS,cc,dT⟩,lU,fK⟩:=q
 try dsimp only at fK
 have q:=wAn lU
 obtain ⟨dK,lV⟩:=q
 replace dK:=zH dK
 refine CK.forN' (fun bf (fQ,bJ,bw) σ_ w_=>∃ (U_:PHeap) (cu:Array MapEntry) (dm:Nat) (br:Option Addr) (bt:Nat) (bB:Option Addr) (bF:Nat),σ_ 55=jV (↑bf:Int)/\σ_ 1=.pointer (some ⟨b2,0,none⟩)/\σ_ 4=.pointer (some ⟨bE,0,none⟩)/\σ_ 6=.pointer (some ⟨ah,0,none⟩)/\σ_ 9=.slice bL bq.length bT/\σ_ 11=.map (some ak)/\σ_ 12=.pointer (some ⟨ao,0,none⟩)/\σ_ 15=.slice br bJ.length bt/\σ_ 16=.slice bB bw.length bF/\σ_ 53=.slice bx p0.Teams.length bz/\σ_ 54=jV (↑p0.Teams.length:Int)/\PHeap.Le ew U_/\sW w U U_ [.blk ao 128 B8,.obj ax (.map cu dm),.obj ak (.map av au),.blk ah 34 B5,B1,.blk b2 28 B0,B7,.row br bt 70 3 (hD wAJ bJ),.row bB bF 70 3 (hD wAJ bw)] w_/\MpR cu wLy wNS fQ) lV ?_ ?_ ?_
 have jP:=fu.nilrow 70 3
 have jQ:=jP.nilrow 70 3
 exact ⟨ew,#[],0,none,0,none,0,rfl,eZ,gZ,g8,g9,ib,ic,rfl,rfl,rfl,rfl,(zL _),(jQ.pick [2,3,4,5,6,7,8,1,0] _ (by decide) rfl),mJ⟩
 rintro bf ⟨fQ,bJ,bw⟩ o5 pd oe dH ⟨aZ,cu,dm,br,bt,bB,bF,bH,dp,cw,cy,cz,cA,cC,dq,dr,cD,cE,bY,fw,iF⟩ fO
 try dsimp only at fO
 have eM:Hid ((↑bf:Int) < (↑p0.Teams.length:Int)):=zH (wAj dH)
 replace dH:=zH dH
 have dF:Hid (w64 ((↑bf:Int) + 1)=(↑(bf + 1):Int)):=zH (by have h1:=dK.out;have h2:=eM.out;rw [wAX] <;> omega)
 refine sR fL1 Z (oR Z (zW Z bH cE) (eN (zI (cT Z eM (kN (zI (zU (sR (wCK (.fx 3 (.fl 4 (.fx 5 .nil .stop)) .stop)) Z (oM Z bH (bnK fO fun ai ff mf=>?_))))))))))
 have iG:=fI.le mR
 have iH:=iG.le dN
 have iI:=iH.le fT
 have iJ:=iI.le dP
 have iK:=iJ.le dQ
 have iL:=iK.le cK
 have iM:=iL.le fR
 have iN:=iM.le fS
 have iO:=iN.le bY
 have q:=iO.el (wAV ff)
 obtain ⟨gJ,mV,oY,jw,dB,mL⟩:=q
 obtain ⟨cM,cP,cN,cQ,rfl,iP,iQ⟩:=mL
 replace dB:Cl aZ gJ (mV + bf * 3) [jV ai.Bib,.slice cM ai.Classes.length cP,.slice cN ai.Legs.length cQ]:=dB
 refine oR Z (ZE Z cD jw bH ZW Zd (wAq ff)) (oL Z (fw.ldCA (f:=0) dB Z Z ym Zd (us:=[jV ai.Bib,.slice cM ai.Classes.length cP,.slice cN ai.Legs.length cQ]) Z Z) (zm (cs:=B4) Z Z Z Z Z yG Z fw ?_))
 intro og bg jS
 refine oA Z Z ?_
 let a8:List Value:=[jV ai.Bib,.slice cM ai.Classes.length cP,.slice cN ai.Legs.length cQ]
 refine zh (j:=0) (vs:=a8) Z Z Z Z jS Z Z Z Z Zd (zA Z) Z Z Z ?_
 intro c9 jT
 let bm:Res:=.row br bt 70 3 (hD wAJ bJ)
 let bs:Res:=.row bB bF 70 3 (hD wAJ bw)
 have jU:sW w U aZ [.blk bg 43 a8,.blk ao 128 B8,.obj ax (.map cu dm),.obj ak (.map av au),.blk ah 34 B5,B1,.blk b2 28 B0,B7,bm,bs] c9:=jT
 refine eN (zI (ZN ZD [1,3,1,3,3,3,1,0] (wNd (.fx 7 .nil .stop)) (by kernel_rfl) ?_))
 have bI:=jU.drew
 generalize hw_W325:({ c9 with drawn:=c9.drawn + 1 }:World)=oh at bI ⊢
 refine oL Z (bI.ldB (j:=1) Z Z cC Tryz.isAgg128 (v:=.map (some ax)) Z) (oR Z (zF Z Z ZL Z zC) (oL Z (bI.ldB (j:=0) Z Z Z zJ (v:=jV ai.Bib) Z) (oM Z cz (oM Z Z (bnK mf fun _ dx mg=>?_)))))
 have q:=bI.rowSome (j:=7) rfl (by rw [wAB (f:=KL.encI) (sz:=1) (fun _=>rfl) bq];have hz:=wAS dx;omega)
 obtain ⟨oq,fk⟩:=q
 refine oR Z (ZE Z Z fk Z zB zC (wAS dx)) ?_
 have l3:=wBK (xs:=bq) (wAS dx)
 refine ZB rfl rfl rfl rfl (bI.ldR (j:=7) rfl fk rfl rfl zJ (wAW (sz:=1) (fun _=>rfl) _ _ 0 _ l3 (by first | omega | rfl | simp) rfl)) rfl (OKS.mapPut (x:=.tmp 60) (y:=.tmp 62) (z:=.tmp 66) (j:=2) (mk:=wLy) (mv:=wNS) (a:=ai.Bib) (v:=(gd bq bf)) rfl rfl rfl (by first | exact .inl rfl | exact .inr rfl) bI rfl rfl rfl rfl (wBr Tryz.runUnderlying128) wLz iF rfl ?_)
 intro bb ba da dM jW
 have jX:sW w U aZ [.blk bg 43 a8,.blk ao 128 B8,.obj ax (.map bb ba),.obj ak (.map av au),.blk ah 34 B5,B1,.blk b2 28 B0,B7,bm,bs] da:=jW
 refine eN (zI (zI (ZN ZD [3,3,1,1,3,3,3,3,1,3,3,1,3,3,1,3,3] fL17 (by kernel_rfl) ?_)))
 have bd:=jX.drew
 generalize hw_W338:({ da with drawn:=da.drawn + 1 }:World)=eD at bd ⊢
 refine oM Z cA (oR Z (zF Z Z ZL Z zC) (oL Z (bd.ldB (j:=0) Z Z Z zJ (v:=jV ai.Bib) Z) (oL Z (bd.lookup1 (j:=3) (mk:=wIS) (mv:=wIn) (a:=ai.Bib) (z:=false) Z Z Z Z (wBr YE) wJJ yt iE) (oM Z Z (ifc mg ?_ ?_)))))
 intro ap mh
 refine zk Z Z Z (zQ Z Z (congrArg nE ap.out) Z) (zk Z Z Z (zQ Z Z (congrArg nE ap.out) Z) (zk Z Z Z (zQ Z Z (congrArg nE ap.out) Z) (zk Z Z Z (zQ Z Z (congrArg nE ap.out) Z) (zk Z Z Z (zQ Z Z (congrArg nE ap.out) Z) (zk Z Z Z (zQ Z Z (congrArg nE ap.out) Z) (zk Z Z Z (zQ Z Z (congrArg nE ap.out) Z) (zk Z Z Z (zQ Z Z (congrArg nE ap.out) Z) (zk Z Z Z (zQ Z Z (congrArg nE ap.out) Z) (zk Z Z Z (zQ Z Z (congrArg nE ap.out) Z) (zk Z Z Z (zQ Z Z (congrArg nE ap.out) Z) (oR Z (zT Z (congrArg nE ap.out) Z) (eN (zy Z (sR (wEL gBq) Z (oM Z dr (oR Z (zF Z Z ZL Z zC) (oL Z (bd.ldB (j:=0) Z Z Z zJ (v:=jV ai.Bib) Z) ?_)))))))))))))))))
 let cU:List Value:=[jV ai.Bib,jV 0,jV 0]
 let d8:List Value:=[jV 0,jV 0,jV 0]
 refine oR Z (zx (pv:=[(0,jV ai.Bib)]) (z:=d8) (cs:=cU) Z (wAA Z wAI) yo wHt Z Z) (zb (pv:=[(0,.agg cU.toArray)]) (zs:=d8) (cs:=cU) Z Z Z Z Z (wAA Z wAI) Zs yX yo Z Z Z Z Z bd ?_)
 intro gx gK jY
 let d9:Res:=.row (some ⟨gK,0,none⟩) 1 70 3 (hD wAJ [(⟨ai.Bib,0,0⟩:wAE)])
 have fz:sW w U aZ [d9,.blk bg 43 a8,.blk ao 128 B8,.obj ax (.map bb ba),.obj ak (.map av au),.blk ah 34 B5,B1,.blk b2 28 B0,B7,bm,bs] gx:=jY
 refine bnK mh fun fZ iT mi=>Zr (j:=10) (enc:=wAJ) (xs:=bw) (ys:=[(⟨ai.Bib,0,0⟩:wAE)]) (zs:=fZ) rfl rfl rfl rfl rfl Tryz.underlying59 wMo rfl rfl rfl rfl rfl rfl fz rfl rfl rfl (fz.srcR (j:=0) rfl (by decide) (wAB (f:=wAJ) (sz:=3) (fun _=>rfl) [(⟨ai.Bib,0,0⟩:wAE)])) (fun _=>rfl) (fun _=>rfl) iT rfl ?_
 intro dX eO gy jZ
 have j0:sW w U aZ [d9,.blk bg 43 a8,.blk ao 128 B8,.obj ax (.map bb ba),.obj ak (.map av au),.blk ah 34 B5,B1,.blk b2 28 B0,B7,bm,.row dX eO 70 3 (hD wAJ fZ)] gy:=jZ
 refine oA Z Z (eN (ZJ (zd (ZG (zG (rR fL2 Z (oR Z (zr (zX Z bH Z) (congrArg (jV) dF.out)) (oM Z Z (zg ?_)))))))))
 cases mi
 exact zG ⟨rfl,⟨aZ,bb,ba,br,bt,dX,eO,rfl,dp,cw,cy,cz,cA,cC,dq,rfl,cD,cE,bY,(j0.pick [2,3,4,5,6,7,8,9,10] _ (by decide) rfl),dM⟩⟩
 intro ap mj
 refine zj Z Z Z (zN Z Z (congrArg nE (nH.2 ap.out))) Z cw (zY Z Z Z (zN Z Z (congrArg nE (nH.2 ap.out))) (fun _=>ZR Z Z) (zY Z Z Z (zN Z Z (congrArg nE (nH.2 ap.out))) (fun _=>zF Z Z Zu Z Zq) (ZB Z Z Z (zN Z Z (congrArg nE (nH.2 ap.out))) (bd.ldB (j:=5) Z Z Z yE (v:=.slice bM a7.after.length bU) Z) Z (zj Z Z Z (zN Z Z (congrArg nE (nH.2 ap.out))) Z Z (bnK mj fun cR cH ml=>?_)))))
 have iV:=fM.le fT
 have iW:=iV.le dP
 have iX:=iW.le dQ
 have iY:=iX.le cK
 have iZ:=iY.le fR
 have ja:=iZ.le fS
 have fg:=ja.le bY
 have q:=fg.el (wAV cH)
 obtain ⟨gL,mW,oZ,jx,dC,mM⟩:=q
 obtain ⟨fU,fW,rfl,oD⟩:=mM
 replace dC:Cl aZ gL (mW + bf * 1) [.slice fU cR.length fW]:=dC
 refine zY Z Z Z (zN Z Z (congrArg nE (nH.2 ap.out))) (fun _=>ZE Z Z jx Z zu zS (wAq cH)) (ZB Z Z Z (zN Z Z (congrArg nE (nH.2 ap.out))) (bd.ldC (f:=0) dC (v:=.slice fU cR.length fW) Z Z zZ Z) Z (zY Z Z Z (zN Z Z (congrArg nE (nH.2 ap.out))) (fun _=>ze Z Z zB) (zY Z Z Z (zN Z Z (congrArg nE (nH.2 ap.out))) (fun _=>zF Z cy ZS Z zC) (ZB Z Z Z (zN Z Z (congrArg nE (nH.2 ap.out))) (bd.ldB (j:=4) Z Z Z zJ (v:=jV bi.Laps) Z) Z (zY Z Z Z (zN Z Z (congrArg nE (nH.2 ap.out))) (fun _=>zW Z Z Z) (oR Z (za Z (congrArg nE (nH.2 ap.out)) Z) (eN (ifc ml ?_ ?_))))))))
 intro df mn
 refine cT Z df (sR (wEL gBq) Z (oM Z dr (oR Z (zF Z Z ZL Z zC) (oL Z (bd.ldB (j:=0) Z Z Z zJ (v:=jV ai.Bib) Z) ?_))))
 let cV:List Value:=[jV ai.Bib,jV 0,jV 0]
 let eh:List Value:=[jV 0,jV 0,jV 0]
 refine oR Z (zx (pv:=[(0,jV ai.Bib)]) (z:=eh) (cs:=cV) Z (wAA Z wAI) yo wHt Z Z) (zb (pv:=[(0,.agg cV.toArray)]) (zs:=eh) (cs:=cV) Z Z Z Z Z (wAA Z wAI) Zs yX yo Z Z Z Z Z bd ?_)
 intro gz gM j5
 let ej:Res:=.row (some ⟨gM,0,none⟩) 1 70 3 (hD wAJ [(⟨ai.Bib,0,0⟩:wAE)])
 have fB:sW w U aZ [ej,.blk bg 43 a8,.blk ao 128 B8,.obj ax (.map bb ba),.obj ak (.map av au),.blk ah 34 B5,B1,.blk b2 28 B0,B7,bm,bs] gz:=j5
 refine bnK mn fun gb jb mo=>Zr (j:=10) (enc:=wAJ) (xs:=bw) (ys:=[(⟨ai.Bib,0,0⟩:wAE)]) (zs:=gb) rfl rfl rfl rfl rfl Tryz.underlying59 wMo rfl rfl rfl rfl rfl rfl fB rfl rfl rfl (fB.srcR (j:=0) rfl (by decide) (wAB (f:=wAJ) (sz:=3) (fun _=>rfl) [(⟨ai.Bib,0,0⟩:wAE)])) (fun _=>rfl) (fun _=>rfl) jb rfl ?_
 intro dY eQ gA j6
 have j7:sW w U aZ [ej,.blk bg 43 a8,.blk ao 128 B8,.obj ax (.map bb ba),.obj ak (.map av au),.blk ah 34 B5,B1,.blk b2 28 B0,B7,bm,.row dY eQ 70 3 (hD wAJ gb)] gA:=j6
 refine oA Z Z (eN (ZJ (zd (ZG (zG (rR fL2 Z (oR Z (zr (zX Z bH Z) (congrArg (jV) dF.out)) (oM Z Z (zg ?_)))))))))
 cases mo
 exact zG ⟨rfl,⟨aZ,bb,ba,br,bt,dY,eQ,rfl,dp,cw,cy,cz,cA,cC,dq,rfl,cD,cE,bY,(j7.pick [2,3,4,5,6,7,8,9,10] _ (by decide) rfl),dM⟩⟩
 intro df mp
 refine cF Z df (kN (yL fun aY az=>?_))
 have e8:aY 1=.pointer (some ⟨b2,0,none⟩):=(az 1).trans dp
 have e9:aY 4=.pointer (some ⟨bE,0,none⟩):=(az 4).trans cw
 have fb:aY 6=.pointer (some ⟨ah,0,none⟩):=(az 6).trans cy
 have ig:aY 9=.slice bL bq.length bT:=(az 9).trans cz
 have ii:aY 11=.map (some ak):=(az 11).trans cA
 have ij:aY 12=.pointer (some ⟨ao,0,none⟩):=(az 12).trans cC
 have il:aY 15=.slice br bJ.length bt:=(az 15).trans dq
 have im:aY 16=.slice bB bw.length bF:=(az 16).trans dr
 have io:aY 17=jV (↑bf:Int):=(az 17).trans rfl
 have fc:aY 18=.pointer (some ⟨bg,0,none⟩):=(az 18).trans rfl
 have ip:aY 53=.slice bx p0.Teams.length bz:=(az 53).trans cD
 have iq:aY 54=jV (↑p0.Teams.length:Int):=(az 54).trans cE
 have ir:aY 55=jV (↑bf:Int):=(az 55).trans bH
 clear az
 refine ZN ZD [3,3,1,3,3,3,1,3,3,1,3,1,3,3,1,1,2,3,3,1,3,3,3,2,0,3] (wOo (wRD (.fx 16 (wRG (.fx 23 (.fx 24 (.fl 25 .nil) .stop) .stop)) .stop))) (by kernel_rfl) ?_
 have bj:=bd.drew
 generalize hw_W424:({ eD with drawn:=eD.drawn + 1 }:World)=gB at bj ⊢
 refine oM Z il (oR Z (zF Z fc ZL Z zC) (oL Z (bj.ldB (j:=0) Z Z Z zJ (v:=jV ai.Bib) Z) (oM Z e9 (oR Z (ZR Z Z) (oR Z (zF Z Z Zu Z Zq) (oL Z (bj.ldB (j:=5) Z Z Z yE (v:=.slice bM a7.after.length bU) Z) (oM Z io ?_)))))))
 have q:=fg.el (wAV cH)
 obtain ⟨gN,mX,o0,jy,dD,mN⟩:=q
 obtain ⟨fV,fY,rfl,jc⟩:=mN
 replace dD:Cl aZ gN (mX + bf * 1) [.slice fV cR.length fY]:=dD
 refine oR Z (ZE Z Z jy Z zu zS (wAq cH)) (oL Z (bj.ldC (f:=0) dD (v:=.slice fV cR.length fY) Z Z zZ Z) (oR Z (zF Z fb ZS Z zC) (oL Z (bj.ldB (j:=4) Z Z Z zJ (v:=jV bi.Laps) Z) (oR Z (Zy Z Z Z) (bnK mp fun bK dy mq=>?_)))))
 have q:=jc.el (fun _=>rfl) (wAV dy)
 obtain ⟨ot,oO,jz,jA⟩:=q
 refine oR Z (Za Z Z jz Z zB zC (wCh dy) (wCs dy)) (oL Z (bj.ldC (f:=0) jA (v:=jV bK) Z Z zJ Z) (oL Z (bj.ldBA (j:=0) Z Z fc ym Zd (vs:=a8) Z Z) (oR Z (zF Z e8 zo Z ZO) (oR Z (zF Z Z ZA Z zC) (oL Z (bj.ldB (j:=6) Z Z Z zJ (v:=jV p0.Rules.Unused) Z) (bnK mq fun bZ je mr=>zM 0 Z Z Z Z (zK Z Z Tryz.call50 (zD Z zO) Z) bj (fun hs=>wHa ai cM cP cN cQ gB aZ hs iP iQ je) (.inr Z) ?_))))))
 rintro cm m8 oS gC mT k5 ⟨rfl,rfl⟩
 have k6:sW w U cm [.blk bg 43 a8,.blk ao 128 B8,.obj ax (.map bb ba),.obj ak (.map av au),.blk ah 34 B5,B1,.blk b2 28 B0,B7,bm,bs] gC:=k5
 refine oR Z (Runs.mulw Z Z Z) (oR Z (zX Z Z Z) ?_)
 let cW:List Value:=[jV ai.Bib,jV 0,jV (w64 (bK + (w64 (bZ * p0.Rules.Unused))))]
 let ep:List Value:=[jV 0,jV 0,jV 0]
 refine oR Z (zx (pv:=[(0,jV ai.Bib),(2,jV (w64 (bK + (w64 (bZ * p0.Rules.Unused)))))]) (z:=ep) (cs:=cW) Z (wAA Z (wAA Z wAI)) yo wHt Z Z) (zb (pv:=[(0,.agg cW.toArray)]) (zs:=ep) (cs:=cW) Z Z Z Z Z (wAA Z wAI) Zs yX yo Z Z Z Z Z k6 ?_)
 intro gD gO k8
 let er:Res:=.row (some ⟨gO,0,none⟩) 1 70 3 (hD wAJ [(⟨ai.Bib,0,w64 (bK + (w64 (bZ * p0.Rules.Unused)))⟩:wAE)])
 have fC:sW w U cm [er,.blk bg 43 a8,.blk ao 128 B8,.obj ax (.map bb ba),.obj ak (.map av au),.blk ah 34 B5,B1,.blk b2 28 B0,B7,bm,bs] gD:=k8
 refine bnK mr fun ge jg ms=>Zr (j:=9) (enc:=wAJ) (xs:=bJ) (ys:=[(⟨ai.Bib,0,w64 (bK + (w64 (bZ * p0.Rules.Unused)))⟩:wAE)]) (zs:=ge) rfl rfl rfl rfl rfl Tryz.underlying59 wMo rfl rfl rfl rfl rfl rfl fC rfl rfl rfl (fC.srcR (j:=0) rfl (by decide) (wAB (f:=wAJ) (sz:=3) (fun _=>rfl) [(⟨ai.Bib,0,w64 (bK + (w64 (bZ * p0.Rules.Unused)))⟩:wAE)])) (fun _=>rfl) (fun _=>rfl) jg rfl ?_
 intro dZ eR gE k9
 have lb:sW w U cm [er,.blk bg 43 a8,.blk ao 128 B8,.obj ax (.map bb ba),.obj ak (.map av au),.blk ah 34 B5,B1,.blk b2 28 B0,B7,.row dZ eR 70 3 (hD wAJ ge),bs] gE:=k9
 refine oA Z Z (zg (zf (zG (rR fL2 Z (oR Z (zr (zX Z ir Z) (congrArg (jV) dF.out)) (oM Z Z (zg ?_)))))))
 cases ms
 exact zG ⟨rfl,⟨cm,bb,ba,dZ,eR,bB,bF,rfl,e8,e9,fb,ig,ii,ij,rfl,im,ip,iq,(bY.trans mT),(lb.pick [2,3,4,5,6,7,8,9,10] _ (by decide) rfl),dM⟩⟩
 rintro pe eE ⟨c6,dn,dg,aj,am,bC,bG,iA,ow,ox,oy,oz,oB,it,dt,fd,oC,iu,oG,lc,ji⟩
 have gR:Hid (¬ ((↑(((↑p0.Teams.length:Int):Int) - 0).toNat:Int) < (↑p0.Teams.length:Int))):=zH (wAc)
 refine sR fL1 Z (oR Z (zW Z iA iu) (eN (zI (cF Z gR (ZJ (zd (zd (ZG (zG (sR gBm Z (oM Z dt ?_)))))))))))
 have jB:FnOK Tryz.prog c6 (.func (.func 52) #[] #[]) wQQ wQR (fun x=>wDH x.1 x.2):=⟨52,[],[],rfl,Tryz.call52,fun U1 w1 x y vs le hs ha hm=>by obtain rfl:=ha;exact wIV x.1 x.2 w1 U1 hs  hm⟩
 refine bnK fK fun bA jj mw=>?_
 let bN:Res:=.row bC bG 70 3 (hD wAJ dT)
 have lf:sW w U c6 [.row aj am 70 3 (hD wAJ cc),.blk ao 128 B8,.obj ax (.map dn dg),.obj ak (.map av au),.blk ah 34 B5,B1,.blk b2 28 B0,B7,bN] eE:=lc.pick [7,0,1,2,3,4,5,6,8] _ (by decide) rfl
 refine zM 1 Z Z Z Z (zK Z Z Tryz.call51 (zD Z (zD Z zO)) Z) lf (fun hs=>wBm cc aj am (fun x=>wDH x.1 x.2) (.func (.func 52) #[] #[]) eE c6 hs jB ⟨_,_,Z⟩ jj) (.inl Z) ?_
 rintro gh n3 oV bS oH lh ⟨rfl,rfl,dz⟩
 let bO:Res:=.row aj am 70 3 (hD wAJ bA)
 have li:sW w U gh [bO,.blk ao 128 B8,.obj ax (.map dn dg),.obj ak (.map av au),.blk ah 34 B5,B1,.blk b2 28 B0,B7,bN] bS:=lh
 refine eN (sR gBs Z (oM Z fd ?_))
 have q:=li.freezeM (k:=2) rfl ji
 obtain ⟨gi,oI,lW,lk⟩:=q
 have ll:sW w U gi [bO,.blk ao 128 B8,.obj ak (.map av au),.blk ah 34 B5,B1,.blk b2 28 B0,B7,bN] bS:=lk
 have q:=ll.freeze (k:=1) rfl
 obtain ⟨bQ,mU,bW,lj⟩:=q
 replace bW:=Cl.of bW
 have lm:sW w U bQ [bO,.obj ak (.map av au),.blk ah 34 B5,B1,.blk b2 28 B0,B7,bN] bS:=lj
 replace bW:Cl bQ ao 0 B8:=bW
 refine oR Z (yn Z zO (zD it zO)) ?_
 have jk:=lW.le mU
 have jC:FnOK Tryz.prog bQ (.func (.func 55) #[] #[.pointer (some ⟨ao,0,none⟩)]) wQQ wQR (fun x=>wDI x.1 x.2 dS):=⟨55,[],[.pointer (some ⟨ao,0,none⟩)],rfl,Tryz.call55,fun U1 w1 x y vs le hs ha hm=>by obtain rfl:=ha;exact wIW x.1 x.2 dS ao ax dn dg w1 U1 hs (bW.le le) (jk.le le) hm⟩
 refine bnK mw fun ca jl mx=>?_
 have lq:sW w U bQ [bN,bO,.obj ak (.map av au),.blk ah 34 B5,B1,.blk b2 28 B0,B7] bS:=lm.pick [6,0,1,2,3,4,5] _ (by decide) rfl
 refine zM 1 Z Z Z Z (zK Z Z Tryz.call51 (zD Z (zD Z zO)) Z) lq (fun hs=>wBm dT bC bG (fun x=>wDI x.1 x.2 dS) (.func (.func 55) #[] #[.pointer (some ⟨ao,0,none⟩)]) bS bQ hs jC ⟨_,_,Z⟩ jl) (.inl Z) ?_
 rintro c8 n4 oW gG oJ lw ⟨rfl,rfl,jm⟩
 let bP:Res:=.row bC bG 70 3 (hD wAJ ca)
 have lx:sW w U c8 [bP,bO,.obj ak (.map av au),.blk ah 34 B5,B1,.blk b2 28 B0,B7] gG:=lw
 refine eN (zI (sR fL3 rfl (zj rfl rfl rfl rfl rfl (nM (b:=(.slice aj cc.length am:Value)) (c:=(.slice aj bA.length am:Value)) dt (by rw [dz])) (zY rfl rfl rfl rfl (fun _=>ze rfl rfl Zs) (zj rfl rfl rfl rfl rfl rfl (eN (zU (bnK mx fun m5 lY my=>?_))))))))
 have q:=wAn lY
 obtain ⟨dL,lZ⟩:=q
 replace dL:=zH dL
 refine CK.forN' (fun O aa σ_ w_=>∃ (U_:PHeap),σ_ 123=jV (↑O:Int)/\σ_ 15=.slice aj aa.length am/\σ_ 16=.slice bC ca.length bG/\σ_ 122=jV (↑bA.length:Int)/\PHeap.Le c8 U_/\sW w U U_ [.obj ak (.map av au),.blk ah 34 B5,B1,.blk b2 28 B0,.row aj am 70 3 (hD wAJ aa),bP] w_/\aa.length=cc.length) lZ ?_ ?_ ?_
 exact ⟨c8,rfl,(nM (b:=(.slice aj cc.length am:Value)) (c:=(.slice aj bA.length am:Value)) dt (by rw [dz])),(nM (b:=(.slice bC dT.length bG:Value)) (c:=(.slice bC ca.length bG:Value)) fd (by rw [jm])),rfl,(zL _),(lx.pick [2,3,4,5,1,0] _ (by decide) rfl),dz⟩
 rintro O aa o6 pf oi dI ⟨bR,bV,bn,du,cG,dO,fD,dA⟩ mQ
 have eS:Hid ((↑O:Int) < (↑bA.length:Int)):=zH (wAj dI)
 replace dI:=zH dI
 have cJ:Hid (w64 ((↑O:Int) + 1)=(↑(O + 1):Int)):=zH (by have h1:=dL.out;have h2:=eS.out;rw [wAX] <;> omega)
 refine sR fL1 Z (oR Z (zW Z bV cG) (eN (zI (cT Z eS (kN (zI (zU (sR fL2 Z (oM Z bV (oA Z Z (eN (sR (wGx (.fx 6 .nil .stop)) Z (oM Z bn (oM Z Z (oM Z Z (oR Z (zr (zX Z Z Z) (congrArg (jV) cJ.out)) (bnK mQ fun _ cI mz=>?_)))))))))))))))))
 have q:=fD.rowSome (j:=4) rfl (by rw [wAB (f:=wAJ) (sz:=3) (fun _=>rfl) aa];have hz:=wAS cI;omega)
 obtain ⟨ou,bh⟩:=q
 refine oR Z (ZE Z Z bh Z Zs yX (wAS cI)) (oR Z (zF Z Z Zz Z zC) ?_)
 have l4:=wBK (xs:=aa) (wAS cI)
 refine YO (j:=4) (vs:=[jV (↑(O + 1):Int)]) (cs':=hD wAJ (nG aa O (⟨(gd aa O).Bib,(↑(O + 1):Int),(gd aa O).Time⟩:wAE))) rfl rfl rfl rfl fD rfl bh rfl rfl rfl zC (by rw [wAB (f:=wAJ) (sz:=3) (fun _=>rfl)];have hz:=wAS cI;show _ + 1 <= _;first | omega | (simp only [nL];omega) | (simp only [nK,nI,nJ];omega)) rfl (wDA (sz:=3) (fo:=1) (fun _=>rfl) _ _ _ _ l4 (by first | omega | (simp only [nL];omega) | (simp only [nK,nI,nJ];omega)) (zA rfl) rfl) rfl ?_
 intro db ly
 have lz:sW w U bR [.obj ak (.map av au),.blk ah 34 B5,B1,.blk b2 28 B0,.row aj am 70 3 (hD wAJ (nG aa O (⟨(gd aa O).Bib,(↑(O + 1):Int),(gd aa O).Time⟩:wAE))),bP] db:=ly
 refine eN (zI (ZN ZD [3,3,3,3,3,3,3,1,3,3,3,3,3,1,3,3] fL16 (by kernel_rfl) ?_))
 have bv:=lz.drew
 generalize hw_W581:({ db with drawn:=db.drawn + 1 }:World)=oj at bv ⊢
 refine oM Z Z (oR Z (yT Z Z Z) (oM Z Z (ifc mz ?_ ?_)))
 intro an mA
 refine zj rfl rfl rfl (zN rfl rfl (ZZ an.out)) rfl (nM (b:=(.slice aj aa.length am:Value)) (c:=(.slice aj ((nG aa O (⟨(gd aa O).Bib,(↑(O + 1):Int),(gd aa O).Time⟩:wAE)).length) am:Value)) bn (by simp only [nD])) (zj rfl rfl rfl (zN rfl rfl (ZZ an.out)) rfl rfl (bnK mA fun _ bu mB=>zY rfl rfl rfl (zN rfl rfl (ZZ an.out)) (fun _=>ZE rfl rfl bh rfl Zs yX (wAS bu)) (zY rfl rfl rfl (zN rfl rfl (ZZ an.out)) (fun _=>zF rfl rfl Zz rfl zC) ?_)))
 have l5:=wBK (xs:=(nG aa O (⟨(gd aa O).Bib,(↑(O + 1):Int),(gd aa O).Time⟩:wAE))) (by first | exact wAS bu | (have hz:=wAS bu;simpa only [nD] using hz))
 refine ZB rfl rfl rfl (zN rfl rfl (ZZ an.out)) (bv.ldR (j:=4) rfl bh rfl rfl zJ (wAW (sz:=3) (fun _=>rfl) _ _ 2 _ l5 (by first | omega | rfl | simp) rfl)) rfl (zj rfl rfl rfl (zN rfl rfl (ZZ an.out)) rfl (nM (b:=(.slice aj aa.length am:Value)) (c:=(.slice aj ((nG aa O (⟨(gd aa O).Bib,(↑(O + 1):Int),(gd aa O).Time⟩:wAE)).length) am:Value)) bn (by simp only [nD])) (zj rfl rfl rfl (zN rfl rfl (ZZ an.out)) rfl rfl (zY rfl rfl rfl (zN rfl rfl (ZZ an.out)) (fun _=>Zy rfl rfl rfl) (bnK mB fun _ bp mC=>zY rfl rfl rfl (zN rfl rfl (ZZ an.out)) (fun _=>Za rfl rfl bh rfl Zs yX (wBa bp) (wBb bp)) (zY rfl rfl rfl (zN rfl rfl (ZZ an.out)) (fun _=>zF rfl rfl Zz rfl zC) ?_)))))
 have l6:=wBK (xs:=(nG aa O (⟨(gd aa O).Bib,(↑(O + 1):Int),(gd aa O).Time⟩:wAE))) (by first | exact wAS bp | (have hz:=wAS bp;simpa only [nD] using hz))
 refine ZB rfl rfl rfl (zN rfl rfl (ZZ an.out)) (bv.ldR (j:=4) rfl bh rfl rfl zJ (wAW (sz:=3) (fun _=>rfl) _ _ 2 _ l6 (by first | omega | rfl | simp) rfl)) rfl (zY rfl rfl rfl (zN rfl rfl (ZZ an.out)) (fun _=>yc rfl rfl rfl) (zY rfl rfl rfl rfl (fun _=>zT rfl (ZZ an.out) rfl) (eN (ifc mC ?_ ?_))))
 intro dh mD
 refine cT Z dh (rR (wQx (.fx 10 .nil .stop)) rfl (zj rfl rfl rfl rfl rfl (nM (b:=(.slice aj aa.length am:Value)) (c:=(.slice aj ((nG aa O (⟨(gd aa O).Bib,(↑(O + 1):Int),(gd aa O).Time⟩:wAE)).length) am:Value)) bn (by simp only [nD])) (zj rfl rfl rfl rfl rfl rfl (zj rfl rfl rfl rfl rfl (nM (b:=(.slice aj aa.length am:Value)) (c:=(.slice aj ((nG aa O (⟨(gd aa O).Bib,(↑(O + 1):Int),(gd aa O).Time⟩:wAE)).length) am:Value)) bn (by simp only [nD])) (zj rfl rfl rfl rfl rfl rfl (zY rfl rfl rfl rfl (fun _=>Zy rfl rfl rfl) (zY rfl rfl rfl rfl (fun _=>Za rfl rfl bh rfl Zs yX (wBa bp) (wBb bp)) (zY rfl rfl rfl rfl (fun _=>zF rfl rfl Zz rfl zC) ?_))))))))
 have l7:=wBK (xs:=(nG aa O (⟨(gd aa O).Bib,(↑(O + 1):Int),(gd aa O).Time⟩:wAE))) (by first | exact wAS bp | (have hz:=wAS bp;simpa only [nD] using hz))
 refine ZB rfl rfl rfl rfl (bv.ldR (j:=4) rfl bh rfl rfl zJ (wAW (sz:=3) (fun _=>rfl) _ _ 1 _ l7 (by first | omega | rfl | simp) rfl)) rfl (zY rfl rfl rfl rfl (fun _=>ZE rfl rfl bh rfl Zs yX (wAS bu)) (zY rfl rfl rfl rfl (fun _=>zF rfl rfl Zz rfl zC) ?_))
 have l8:=wBK (xs:=(nG aa O (⟨(gd aa O).Bib,(↑(O + 1):Int),(gd aa O).Time⟩:wAE))) (by first | exact wAS bu | (have hz:=wAS bu;simpa only [nD] using hz))
 refine YO (j:=4) (vs:=[jV ((gd (nG aa O (⟨(gd aa O).Bib,(↑(O + 1):Int),(gd aa O).Time⟩:wAE)) (w64 ((↑O:Int) - 1)).toNat).Place)]) (cs':=hD wAJ (nG (nG aa O (⟨(gd aa O).Bib,(↑(O + 1):Int),(gd aa O).Time⟩:wAE)) O (⟨(gd (nG aa O (⟨(gd aa O).Bib,(↑(O + 1):Int),(gd aa O).Time⟩:wAE)) O).Bib,(gd (nG aa O (⟨(gd aa O).Bib,(↑(O + 1):Int),(gd aa O).Time⟩:wAE)) (w64 ((↑O:Int) - 1)).toNat).Place,(gd (nG aa O (⟨(gd aa O).Bib,(↑(O + 1):Int),(gd aa O).Time⟩:wAE)) O).Time⟩:wAE))) rfl rfl rfl rfl bv rfl bh rfl rfl rfl zC (by rw [wAB (f:=wAJ) (sz:=3) (fun _=>rfl)];have hz:=wAS bu;show _ + 1 <= _;first | omega | (simp only [nD];omega) | (simp only [nK,nI,nJ,nD];omega) | (simp only [nL];omega) | (simp only [nK,nI,nJ];omega)) rfl (wDA (sz:=3) (fo:=1) (fun _=>rfl) _ _ _ _ l8 (by first | omega | (simp only [nL];omega) | (simp only [nK,nI,nJ];omega)) (zA rfl) rfl) rfl ?_
 intro gH lB
 have lC:sW w U bR [.obj ak (.map av au),.blk ah 34 B5,B1,.blk b2 28 B0,.row aj am 70 3 (hD wAJ (nG (nG aa O (⟨(gd aa O).Bib,(↑(O + 1):Int),(gd aa O).Time⟩:wAE)) O (⟨(gd (nG aa O (⟨(gd aa O).Bib,(↑(O + 1):Int),(gd aa O).Time⟩:wAE)) O).Bib,(gd (nG aa O (⟨(gd aa O).Bib,(↑(O + 1):Int),(gd aa O).Time⟩:wAE)) (w64 ((↑O:Int) - 1)).toNat).Place,(gd (nG aa O (⟨(gd aa O).Bib,(↑(O + 1):Int),(gd aa O).Time⟩:wAE)) O).Time⟩:wAE))),bP] gH:=lB
 refine zg (zf (zG (rR fL2 Z (oR Z (zr (zX Z bV Z) (congrArg (jV) cJ.out)) (oM Z Z (zg ?_))))))
 cases mD
 exact zG ⟨rfl,⟨bR,rfl,(nM (b:=(.slice aj ((nG aa O (⟨(gd aa O).Bib,(↑(O + 1):Int),(gd aa O).Time⟩:wAE)).length) am:Value)) (c:=(.slice aj ((nG (nG aa O (⟨(gd aa O).Bib,(↑(O + 1):Int),(gd aa O).Time⟩:wAE)) O (⟨(gd (nG aa O (⟨(gd aa O).Bib,(↑(O + 1):Int),(gd aa O).Time⟩:wAE)) O).Bib,(gd (nG aa O (⟨(gd aa O).Bib,(↑(O + 1):Int),(gd aa O).Time⟩:wAE)) (w64 ((↑O:Int) - 1)).toNat).Place,(gd (nG aa O (⟨(gd aa O).Bib,(↑(O + 1):Int),(gd aa O).Time⟩:wAE)) O).Time⟩:wAE)).length) am:Value)) (nM (b:=(.slice aj aa.length am:Value)) (c:=(.slice aj ((nG aa O (⟨(gd aa O).Bib,(↑(O + 1):Int),(gd aa O).Time⟩:wAE)).length) am:Value)) bn (by simp only [nD])) (by simp only [nD])),du,cG,dO,lC,((nD.trans nD).trans dA)⟩⟩
 intro dh mE
 refine cF Z dh (ZT (zf (zG (rR fL2 Z (oR Z (zr (zX Z bV Z) (congrArg (jV) cJ.out)) (oM Z Z (zg ?_)))))))
 cases mE
 exact zG ⟨rfl,⟨bR,rfl,(nM (b:=(.slice aj aa.length am:Value)) (c:=(.slice aj ((nG aa O (⟨(gd aa O).Bib,(↑(O + 1):Int),(gd aa O).Time⟩:wAE)).length) am:Value)) bn (by simp only [nD])),du,cG,dO,bv,(nD.trans dA)⟩⟩
 intro an mF
 refine oF Z an (oF Z an (oF Z an (oF Z an (oF Z an (oF Z an (oF Z an (oF Z an (oF Z an (oF Z an (oF Z an (oF Z an (oR Z (za Z (zt an.out) Z) (eN (zn Z (ZT (zf (zG (rR fL2 Z (oR Z (zr (zX Z bV Z) (congrArg (jV) cJ.out)) (oM Z Z (zg ?_)))))))))))))))))))))
 cases mF
 exact zG ⟨rfl,⟨bR,rfl,(nM (b:=(.slice aj aa.length am:Value)) (c:=(.slice aj ((nG aa O (⟨(gd aa O).Bib,(↑(O + 1):Int),(gd aa O).Time⟩:wAE)).length) am:Value)) bn (by simp only [nD])),du,cG,dO,bv,(nD.trans dA)⟩⟩
 rintro pg ol ⟨eA,iB,iv,iw,iy,oK,fE,oE⟩
 have gT:Hid (¬ ((↑(((↑bA.length:Int):Int) - 0).toNat:Int) < (↑bA.length:Int))):=zH (wAc)
 refine sR fL1 rfl (zY rfl rfl rfl rfl (fun _=>zW rfl iB iy) (eN (zI (cF Z gT (ZJ (zd (zd (ZG (zG (sR (.fl 0 (.fl 1 (.fx 2 (.fl 3 (.fl 4 .nil)) .stop))) rfl (zj rfl rfl rfl rfl rfl iv (zj rfl rfl rfl rfl rfl iw (bnK my fun gg jo mG=>Zr (j:=4) (enc:=wAJ) (xs:=m5) (ys:=ca) (zs:=gg) rfl rfl rfl rfl rfl Tryz.underlying59 wMo rfl rfl rfl rfl rfl rfl fE rfl rfl rfl (fE.srcR (j:=5) rfl (by decide) (wAB (f:=wAJ) (sz:=3) (fun _=>rfl) ca)) (fun _=>rfl) (fun _=>rfl) jo rfl ?_)))))))))))))
 intro d7 eT gI lD
 have lE:sW w U eA [.obj ak (.map av au),.blk ah 34 B5,B1,.blk b2 28 B0,.row d7 eT 70 3 (hD wAJ gg),bP] gI:=lD
 refine oA Z Z (oA Z Z (eN (zP ?_)))
 cases mG
 exact ⟨rfl,_,(wEr rfl rfl),eA,_,(lE.pick [4] _ (by decide) rfl),d7,eT,rfl,rfl⟩
 intro de mH
 refine cT Z de (sR fL3 Z (oM Z Z (oA Z Z (oA Z Z (eN (zP (zR ?_)))))))
 have lF:=fA.nilrow 70 3
 cases mH
 exact ⟨rfl,_,(wEr rfl rfl),U9,_,(lF.pick [0] _ (by decide) rfl),none,0,rfl,rfl⟩
end Go.Proofs.YtnbcoenjobdplaaGreat
