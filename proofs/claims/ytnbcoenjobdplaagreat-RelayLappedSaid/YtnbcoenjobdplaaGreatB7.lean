import Derived.Test.YtnbcoenjobdplaaGreatB6
import Derived.Test.YtnbcoenjobdplaaGreatB5
set_option linter.all false
open List renaming flatMap->hM,length_set->nD,set->nG,getElem_cons_succ->nH,getElem_cons_zero->nI,getElem_toArray->nJ,count_append->nM,count_nil->nN
open Option.some renaming inj->nA
open Go.Value renaming bool->nB
open Bool renaming eq_false_iff->nE
open Int renaming toNat_natCast->nK
open Eq renaming trans->nL
namespace Go.Proofs.YtnbcoenjobdplaaGreat
open Go.KL
def gBa:Sch:=.fx 1 (.fl 2 .nil) .stop
def gBb:Sch:=.fx 2 (.fl 3 .nil) .stop
def gBc:Sch:=.fx 0 (.fl 1 .nil) .stop
def gBd:Sch:=.fx 0 (.fx 1 .nil .stop) .stop
def gBe:Sch:=.fl 0 (.fx 1 .nil .stop)
def gBf:Sch:=.fx 11 (.fx 12 .nil .stop) .stop
def gBg:Sch:=.fx 10 (.fx 12 .nil .stop) .stop
def gBh:Sch:=.fx 2 (.fx 3 .nil .stop) .stop
def gBi:Sch:=.fl 5 (.fx 7 .nil .stop)
def gBj:Sch:=.fx 0 gBa .stop
def gBk:Sch:=.fl 0 gBa
def gBl:Sch:=.fl 0 (.fl 1 (.fx 2 .nil .stop))
def gBm:Sch:=.fx 0 (.fl 1 (.fl 2 .nil)) .stop
def gBn:Sch:=.fx 2 (.fl 3 (.fx 4 .nil .stop)) .stop
def gBo:Sch:=.fx 4 (.fx 5 (.fl 6 .nil) .stop) .stop
def gBp:Sch:=.fl 5 (.fx 6 (.fx 7 .nil .stop) .stop)
def gBq:Sch:=.fl 0 (.fx 1 gBb .stop)
def gBr:Sch:=.fl 0 (.fl 1 gBb)
def gBs:Sch:=.fx 8 (.fl 9 gBg) .stop
def gBt:Sch:=.fx 4 (.fl 9 gBg) .stop
def gBu:Sch:=.fl 0 (.fl 1 gBh)
def gBv:Sch:=.fl 0 (.fx 1 gBh .stop)
def gBw:Sch:=.fx 4 (.fx 9 (.fx 10 (.fx 11 (.fl 12 .nil) .stop) .stop) .stop) .stop
def gBx:Sch:=.fl 9 (.fx 10 gBf (.fx 11 gBg .stop))
set_option maxHeartbeats 4000000
theorem wJM (p0:wAI) (av:Option Addr) (ax:Nat) (aw:Option Addr) (ay:Nat) (w:World) (U:PHeap) (hS:St0 w U []) (ca:Sl U 1 av ax p0.Rules.Classes.length (hM KL.encI p0.Rules.Classes)) (cc:SlR U wFF aw ay p0.Teams) {r:wAP × Int} (hm:wDs p0=some r):Gv Tryz.prog 8 [.agg #[.slice av p0.Rules.Classes.length ax,jV p0.Rules.Each,jV p0.Rules.Laps,jV p0.Rules.Spare,jV p0.Rules.Loop,jV p0.Rules.Unused,jV p0.Start,.slice aw p0.Teams.length ay]] w (wBU w [] U (fun U_ L_ v=>∃ (be:Option Addr) (bl:Nat) (bf:Option Addr) (bm:Nat) (br:List Value),v=.tuple #[.agg #[jV r.1.Laps,.slice be r.1.Bibs.length bl,.slice bf r.1.Times.length bm],jV r.2]/\L_=[.row be bl 3 1 (hM KL.encI r.1.Bibs),.row bf bm 23 1 br]/\RlL U_ wDT r.1.Times br)):=by
 unfold wDs at hm
 refine Gv.of Tryz.func8 Z Tryz.ntmps8 Tryz.results8 Z (sR gBj Z ?_)
 let B0:List Value:=[.slice av p0.Rules.Classes.length ax,jV p0.Rules.Each,jV p0.Rules.Laps,jV p0.Rules.Spare,jV p0.Rules.Loop,jV p0.Rules.Unused,jV p0.Start,.slice aw p0.Teams.length ay]
 refine ZS (cs:=B0) rfl rfl rfl rfl rfl rfl (by rfl) hS ?_
 intro W1 b2 bP
 let B1:List Value:=[jV 0,.slice none 0 0,.slice none 0 0]
 refine zz (cs:=B1) Z Z Z Z Z yX Z bP ?_
 intro W5 b6 bw
 refine oA Z Z (eN (sR (.fl 0 (.fx 1 (wFz (.nil)) .stop)) Z (oL Z (bw.ldBA (j:=1) Z Z Z Zq ZL (vs:=B0) Z Z) ?_)))
 have q:=bnd hm
 obtain ⟨⟨x9,az⟩,bG,ak⟩:=q
 try dsimp only at ak
 refine zL 0 Z Z Z Z (zK Z Z Tryz.call30 (zB Z zM) Z) bw (fun hs=>wEY p0 av ax aw ay W5 U hs ca cc bG) (.inr Z) ?_
 rintro ai cp cw ap ct bt bs
 rcases x9 with _ | ae
 try dsimp only at ak
 obtain ⟨rfl,rfl⟩:=bs
 have bO:sW w U ai [.blk b6 34 B1,.blk b2 28 B0] ap:=bt
 refine oM Z Z (oR Z (zx Z Z (v:=.pointer none) Z) (oR Z (zx Z Z (v:=jV az) Z) (oA Z Z (oA Z Z (eN (zG (sR fL2 Z (oM Z Z (oR Z (ZW Z Z Z) (eN (ifc ak ?_ ?_)))))))))))
 intro a7 cd
 refine zm (zw (fun h=>h a7.out)) (kN (sR gBq Z (oM Z Z ?_)))
 cases cd
 intro a7 cg
 refine cT Z a7 (sR gBr Z (oR Z (ZH (pv:=[]) (z:=B1) (cs:=B1) Z wAM yX wIl Z Z) (oM Z Z (zu (j:=0) (vs:=B1) Z Z Z Z bO Z Z Z Z Zc (zC Z) Z Z Z ?_))))
 intro bB bQ
 have bR:sW w U ai [.blk b6 34 B1,.blk b2 28 B0] bB:=bQ
 refine oA Z Z (eN (zO (zR ?_)))
 have bS:=bR.nilrow 3 1
 have bu:=bS.nilrow 23 1
 cases cg
 exact ⟨rfl,_,(wJm (rs:=[.cell 2 34,.tmp 3]) (vs:=[.agg B1.toArray,jV az]) ⟨⟨_,rfl,(wEv yH Zc (bu.blkAt (k:=2) rfl) (vs:=B1) rfl rfl)⟩,⟨rfl,trivial⟩⟩ rfl),ai,_,(bu.pick [1,0] _ (by decide) rfl),none,0,none,0,[],rfl,rfl,RlL.nil⟩
 try dsimp only at ak
 obtain ⟨aZ,bg,bn,bh,bp,am,aq,bq,rfl,rfl,bH,bI,bJ⟩:=bs
 let B2:Res:=.blk aZ 130 [.slice bg ae.Race.Rules.Classes.length bn,jV ae.Race.Rules.Each,jV ae.Race.Rules.Laps,jV ae.Race.Rules.Spare,jV ae.Race.Rules.Loop,jV ae.Race.Rules.Unused,jV ae.Race.Start,.slice bh ae.Race.Teams.length bp,.slice am ae.after.length aq]
 have bv:sW w U ai [B2,.row am aq 23 1 bq,.blk b6 34 B1,.blk b2 28 B0] ap:=bt
 refine oM Z Z (oR Z (zx Z Z (v:=.pointer (some ⟨aZ,0,none⟩)) Z) (oR Z (zx Z Z (v:=jV az) Z) (oA Z Z (oA Z Z (eN (zG (sR fL2 Z (oM Z Z (oR Z (ZW Z Z Z) (eN (ifc ak ?_ ?_)))))))))))
 intro a8 ch
 refine zm (zw (fun h=>h a8.out)) (kN (sR gBq Z (oM Z Z ?_)))
 have q:=bv.freezeRR (R:=wDT) (k:=1) rfl bJ rfl (by decide)
 obtain ⟨bj,bA,cm,bT⟩:=q
 have bU:sW w U bj [B2,.blk b6 34 B1,.blk b2 28 B0] ap:=bT
 have bK:=bH.le bA
 have bL:=bI.le bA
 refine bnK ch fun aW bM ci=>zL 1 Z Z Z Z (zK Z Z Tryz.call31 (zB Z zM) Z) bU (fun hs=>wEG ae aZ bg bn bh bp am aq ap bj hs bK bL cm bM) (.inl Z) ?_
 rintro aY cq cy bD cu bV ⟨aX,ba,an,au,bb,rfl,rfl,bN⟩
 let B3:Res:=.row aX ba 3 1 (hM KL.encI aW.Bibs)
 have bW:sW w U aY [B3,.row an au 23 1 bb,B2,.blk b6 34 B1,.blk b2 28 B0] bD:=bV
 let B4:List Value:=[jV aW.Laps,.slice aX aW.Bibs.length ba,.slice an aW.Times.length au]
 refine zu (j:=3) (vs:=B4) Z Z Z Z bW Z Z Z Z Zc (zC Z) Z Z Z ?_
 intro bE bX
 have bx:sW w U aY [B3,.row an au 23 1 bb,B2,.blk b6 34 B4,.blk b2 28 B0] bE:=bX
 refine oA Z Z (eN (zO ?_))
 cases ci
 exact ⟨rfl,_,(wJm (rs:=[.cell 2 34,.tmp 3]) (vs:=[.agg B4.toArray,jV 0]) ⟨⟨_,rfl,(wEv yH Zc (bx.blkAt (k:=3) rfl) (vs:=B4) rfl rfl)⟩,⟨rfl,trivial⟩⟩ rfl),aY,_,(bx.pick [0,1] _ (by decide) rfl),aX,ba,an,au,bb,rfl,rfl,bN⟩
 intro a8 cj
 refine cT Z a8 (sR gBr Z (oR Z (ZH (pv:=[]) (z:=B1) (cs:=B1) Z wAM yX wIl Z Z) (oM Z Z (zu (j:=2) (vs:=B1) Z Z Z Z bv Z Z Z Z Zc (zC Z) Z Z Z ?_))))
 intro bF bY
 have bZ:sW w U ai [B2,.row am aq 23 1 bq,.blk b6 34 B1,.blk b2 28 B0] bF:=bY
 refine oA Z Z (eN (zO (zR ?_)))
 have b4:=bZ.nilrow 3 1
 have bz:=b4.nilrow 23 1
 cases cj
 exact ⟨rfl,_,(wJm (rs:=[.cell 2 34,.tmp 3]) (vs:=[.agg B1.toArray,jV az]) ⟨⟨_,rfl,(wEv yH Zc (bz.blkAt (k:=4) rfl) (vs:=B1) rfl rfl)⟩,⟨rfl,trivial⟩⟩ rfl),ai,_,(bz.pick [1,0] _ (by decide) rfl),none,0,none,0,[],rfl,rfl,RlL.nil⟩
theorem wHJ (p0:Int) (p1:Int) (p2:Int) (w:World) (U:PHeap) (hS:St0 w U [])  {r:Bool} (hm:wEE p0 p1 p2=some r):Gv Tryz.prog 81 [jV p0,jV p1,jV p2] w (wBU w [] U (fun U_ L_ v=>v=.bool r/\L_=[])):=by
 unfold wEE at hm
 refine Gv.of Tryz.func81 Z Tryz.ntmps81 Tryz.results81 Z (sR fL1 Z (oA Z Z (eN (sR fL9 Z (oM Z Z (oM Z Z (oR Z (yo Z Z Z) (oM Z Z ?_))))))))
 by_cases c1:p1 <= p0
 have ac:=hm;rw [if_pos c1] at ac;replace c1:=zF c1
 refine zj Z Z Z (wT Z c1) Z Z (zj Z Z Z (wT Z c1) Z Z (rU Z (wT Z c1) (Runs.leq Z Z Z) (oR Z (zV Z (Zj c1.out) Z) (oA Z Z (eN (zO ?_))))))
 first | (obtain rfl:=nA ac) | cases ac
 exact ⟨Z,_,(zr Z),U,_,hS,Z,Z⟩
 have ag:=hm;rw [if_neg c1] at ag;replace c1:=zF c1
 refine oF Z c1 (oF Z c1 (oF Z c1 (oR Z (zZ Z (zw c1.out) Z) (oA Z Z (eN (zO ?_))))))
 have hE:=nA ag;first | subst r | cases hE
 exact ⟨Z,_,(zr Z),U,_,hS,Z,Z⟩
theorem wGV (p0:List Int) (ae:Option Addr) (ai:Nat) (p1:wAP) (ah:Nat) (af:Option Addr) (aj:Nat) (ag:Option Addr) (ak:Nat) (w:World) (U:PHeap) (hS:St0 w U []) (an:Sl U 1 ae ai p0.length (hM KL.encI p0)) (am:Cl U ah 0 [jV p1.Laps,.slice af p1.Bibs.length aj,.slice ag p1.Times.length ak]) (ao:Sl U 1 af aj p1.Bibs.length (hM KL.encI p1.Bibs)) (ap:SlR U wDT ag ak p1.Times) {r:Bool} (hm:wCB p0 p1=some r):Gv Tryz.prog 83 [.slice ae p0.length ai,.pointer (some ⟨ah,0,none⟩)] w (wBU w [] U (fun U_ L_ v=>v=.bool r/\L_=[])):=by
 unfold wCB at hm
 refine Gv.of Tryz.func83 Z Tryz.ntmps83 Tryz.results83 Z (sR fL1 Z (oA Z Z (eN (sR fL6 Z (oM Z Z (oR Z (za Z Z zA) (oR Z (zJ Z Z ZK Z zD) (oL Z (hS.ldC (f:=0) am (v:=jV p1.Laps) Z Z zP Z) (oR Z (Runs.leq Z Z Z) (oA Z Z (eN (zO ?_))))))))))))
 first | (obtain rfl:=nA hm) | cases hm
 exact ⟨Z,_,(zr Z),U,_,hS,Z,Z⟩
theorem wFo (p0:List (List Int)) (an:Option Addr) (ap:Nat) (p1:((List Int)->Option Bool)) (au:Value) (w:World) (U:PHeap) (hS:St0 w U []) (bt:SlR U wDT an ap p0) (bu:FnOK Tryz.prog U au wIO wIP p1) {r:Bool} (hm:wCy p0 p1=some r):Gv Tryz.prog 82 [.slice an p0.length ap,au] w (wBU w [] U (fun U_ L_ v=>v=.bool r/\L_=[])):=by
 unfold wCy at hm
 refine Gv.of Tryz.func82 Z Tryz.ntmps82 Tryz.results82 Z (sR fL1 Z (oA Z Z (eN (zG (sR fL3 Z (oM Z Z (oR Z (za Z Z zq) (oM Z Z (eN (zT ?_))))))))))
 have q:=wBe hm
 obtain ⟨r3,ai⟩:=q
 have q:=wBd ai
 obtain ⟨ak,bx⟩:=q
 replace ak:=zF ak
 refine yA (fun k2 _ σ_ w_=>∃ (U_:PHeap),σ_ 9=jV (↑k2:Int)/\σ_ 1=au/\σ_ 7=.slice an p0.length ap/\σ_ 8=jV (↑p0.length:Int)/\PHeap.Le U U_/\sW w U U_ [] w_) bx ?_ ?_ ?_
 exact ⟨U,Z,Z,Z,Z,(zH _),hS⟩
 rintro k2 ⟨⟩ bT bV W8 aj ⟨ba,ag,ax,ay,az,am,aX⟩ a7 bv
 try dsimp only at a7
 have aw:Hid ((↑k2:Int) < (↑p0.length:Int)):=zF (wAo aj)
 replace aj:=zF aj
 have bz:Hid (w64 ((↑k2:Int) + 1)=(↑(k2 + 1):Int)):=zF (by have h1:=ak.out;have h2:=aw.out;rw [wAT] <;> omega)
 refine sR fL1 Z (oR Z (zU Z ag az) (eN (zG (cT Z aw (kN (zG (zT (sR fL3 Z (bnK a7 fun av aW bA=>?_)))))))))
 have bl:=bt.le am
 have q:=bl.el (wAR aW)
 obtain ⟨bf,bH,bR,bq,ah,bF⟩:=q
 obtain ⟨ao,aq,rfl,bm⟩:=bF
 replace ah:Cl ba bf (bH + k2 * 1) [.slice ao av.length aq]:=ah
 refine oR Z (zo Z ay bq ag zq zS (wAj aW)) (oL Z (aX.ldC (f:=0) ah (v:=.slice ao av.length aq) Z Z zc Z) (oA Z Z (eN (sR gBr Z (oM Z ax (oM Z Z (bnK bA fun bS bn bB=>?_)))))))
 have bp:=bu.le am
 refine yT (a:=av) Z Z Z Z Z Z (zB Z zM) aX bp ⟨ao,aq,Z,bm⟩ bn ?_
 rintro ae bJ bQ be bG br ⟨rfl,rfl⟩
 have aY:sW w U ae [] be:=br
 refine oR Z (ZN Z Z) (eN (ifc bB ?_ ?_))
 intro af bC
 refine zm (nC af.out) (ZV (zb (zI (rR fL2 Z (oR Z (zn (zX Z ag Z) (congrArg (jV) bz.out)) (oM Z Z (zg ?_)))))))
 have q:=nA bC
 obtain rfl:=q
 exact zI ⟨Z,_,Z,⟨ae,Z,ax,ay,az,(am.trans bG),aY⟩⟩
 intro af bD
 refine ZF (nF (af.out)) (sR fL1 Z (oA Z Z (eN (zO (zf (zR ?_))))))
 have q:=wAf bD
 obtain ⟨bI,bE,bh⟩:=q
 have q:=wCI hm ai (bv bI bh)
 obtain rfl:=q
 refine zR (zf (zR ?_))
 have hE:=nA bE;first | subst r | cases hE
 exact ⟨Z,_,(zr Z),ae,_,aY,Z,Z⟩
 rintro ⟨⟩ bU bK ⟨bb,bj,bM,bN,bi,bO,bs⟩ bw
 have aZ:=wCm hm ai bw
 try dsimp only at aZ
 have bg:Hid (¬ ((↑(((↑p0.length:Int):Int) - 0).toNat:Int) < (↑p0.length:Int))):=zF (wAa)
 refine sR fL1 Z (oR Z (zU Z bj bi) (eN (zG (cF Z bg (ZI (zY (zY (ZD (zI (sR fL1 Z (oA Z Z (eN (zO ?_)))))))))))))
 have hE:=nA aZ;first | subst r | cases hE
 exact ⟨Z,_,(zr Z),bb,_,bs,Z,Z⟩
theorem wEx (p0:List Int) (am:Option Addr) (an:Nat) (p1:(Int->Option Bool)) (ao:Value) (w:World) (U:PHeap) (hS:St0 w U []) (bn:Sl U 1 am an p0.length (hM KL.encI p0)) (bp:FnOK Tryz.prog U ao wJg wKY p1) {r:Bool} (hm:wCO p0 p1=some r):Gv Tryz.prog 84 [.slice am p0.length an,ao] w (wBU w [] U (fun U_ L_ v=>v=.bool r/\L_=[])):=by
 unfold wCO at hm
 refine Gv.of Tryz.func84 Z Tryz.ntmps84 Tryz.results84 Z (sR fL1 Z (oA Z Z (eN (zG (sR fL3 Z (oM Z Z (oR Z (za Z Z zA) (oM Z Z (eN (zT ?_))))))))))
 have q:=wBe hm
 obtain ⟨r3,ah⟩:=q
 have q:=wBd ah
 obtain ⟨aj,bs⟩:=q
 replace aj:=zF aj
 refine yA (fun k2 _ σ_ w_=>∃ (U_:PHeap),σ_ 9=jV (↑k2:Int)/\σ_ 1=ao/\σ_ 7=.slice am p0.length an/\σ_ 8=jV (↑p0.length:Int)/\PHeap.Le U U_/\sW w U U_ [] w_) bs ?_ ?_ ?_
 exact ⟨U,Z,Z,Z,Z,(zH _),hS⟩
 rintro k2 ⟨⟩ bO bQ W8 ai ⟨bD,ag,aq,au,av,ak,ax⟩ aW bq
 try dsimp only at aW
 have ap:Hid ((↑k2:Int) < (↑p0.length:Int)):=zF (wAo ai)
 replace ai:=zF ai
 have bt:Hid (w64 ((↑k2:Int) + 1)=(↑(k2 + 1):Int)):=zF (by have h1:=aj.out;have h2:=ap.out;rw [wAT] <;> omega)
 refine sR fL1 Z (oR Z (zU Z ag av) (eN (zG (cT Z ap (kN (zG (zT (sR fL3 Z (bnK aW fun aY aw bu=>?_)))))))))
 have bf:=bn.le ak
 have q:=bf.el (fun _=>rfl) (wAR aw)
 obtain ⟨bG,bK,bi,bj⟩:=q
 refine oR Z (zo Z au bi ag zA zD (wAj aw)) (oL Z (ax.ldC (f:=0) bj (v:=jV aY) Z Z zP Z) (oA Z Z (eN (sR gBr Z (oM Z aq (oM Z Z (bnK bu fun bN bg bv=>?_)))))))
 have bh:=bp.le ak
 refine yT (a:=aY) Z Z Z Z Z Z (zB Z zM) ax bh Z bg ?_
 rintro ae bC bM a7 bA bl ⟨rfl,rfl⟩
 have ay:sW w U ae [] a7:=bl
 refine oR Z (ZN Z Z) (eN (ifc bv ?_ ?_))
 intro af bw
 refine zm (nC af.out) (ZV (zb (zI (rR fL2 Z (oR Z (zn (zX Z ag Z) (congrArg (jV) bt.out)) (oM Z Z (zg ?_)))))))
 have q:=nA bw
 obtain rfl:=q
 exact zI ⟨Z,_,Z,⟨ae,Z,aq,au,av,(ak.trans bA),ay⟩⟩
 intro af bx
 refine ZF (nF (af.out)) (sR fL1 Z (oA Z Z (eN (zO (zf (zR ?_))))))
 have q:=wAf bx
 obtain ⟨bB,bz,ba⟩:=q
 have q:=wCI hm ah (bq bB ba)
 obtain rfl:=q
 refine zR (zf (zR ?_))
 have hE:=nA bz;first | subst r | cases hE
 exact ⟨Z,_,(zr Z),ae,_,ay,Z,Z⟩
 rintro ⟨⟩ bP bE ⟨aZ,be,bH,bI,bb,bJ,bm⟩ br
 have az:=wCm hm ah br
 try dsimp only at az
 have a8:Hid (¬ ((↑(((↑p0.length:Int):Int) - 0).toNat:Int) < (↑p0.length:Int))):=zF (wAa)
 refine sR fL1 Z (oR Z (zU Z be bb) (eN (zG (cF Z a8 (ZI (zY (zY (ZD (zI (sR fL1 Z (oA Z Z (eN (zO ?_)))))))))))))
 have hE:=nA az;first | subst r | cases hE
 exact ⟨Z,_,(zr Z),aZ,_,bm,Z,Z⟩
theorem wGW (p0:Int) (w:World) (U:PHeap) (hS:St0 w U [])  {r:Bool} (hm:wCC p0=some r):Gv Tryz.prog 85 [jV p0] w (wBU w [] U (fun U_ L_ v=>v=.bool r/\L_=[])):=by
 unfold wCC at hm
 refine Gv.of Tryz.func85 Z Tryz.ntmps85 Tryz.results85 Z (sR fL1 Z (oA Z Z (eN (sR gBk Z (oM Z Z (bnK hm fun x1 h2 ai=>zL 0 Z Z Z Z (zK Z Z Tryz.call81 (zB Z (zB Z (zB Z zM))) Z) hS (fun hs=>wHJ p0 1 999 w U hs h2) (.inr Z) ?_))))))
 rintro U4 L5 v6 W7 ak ah ⟨rfl,rfl⟩
 have ag:sW w U U4 [] W7:=ah
 refine oA Z Z (eN (zO ?_))
 have hE:=nA ai;first | subst r | cases hE
 exact ⟨Z,_,(zr Z),U4,_,ag,Z,Z⟩
theorem wFp (p0:Int) (w:World) (U:PHeap) (hS:St0 w U [])  {r:Bool} (hm:wBb p0=some r):Gv Tryz.prog 87 [jV p0] w (wBU w [] U (fun U_ L_ v=>v=.bool r/\L_=[])):=by
 unfold wBb at hm
 refine Gv.of Tryz.func87 Z Tryz.ntmps87 Tryz.results87 Z (sR fL1 Z (oA Z Z (eN (sR gBk Z (oM Z Z (bnK hm fun x1 h2 ai=>zL 0 Z Z Z Z (zK Z Z Tryz.call81 (zB Z (zB Z (zB Z zM))) Z) hS (fun hs=>wHJ p0 0 360000 w U hs h2) (.inr Z) ?_))))))
 rintro U4 L5 v6 W7 ak ah ⟨rfl,rfl⟩
 have ag:sW w U U4 [] W7:=ah
 refine oA Z Z (eN (zO ?_))
 have hE:=nA ai;first | subst r | cases hE
 exact ⟨Z,_,(zr Z),U4,_,ag,Z,Z⟩
theorem wGX (p0:List Int) (ac:Option Addr) (ae:Nat) (w:World) (U:PHeap) (hS:St0 w U []) (an:Sl U 1 ac ae p0.length (hM KL.encI p0)) {r:Bool} (hm:wCD p0=some r):Gv Tryz.prog 86 [.slice ac p0.length ae] w (wBU w [] U (fun U_ L_ v=>v=.bool r/\L_=[])):=by
 unfold wCD at hm
 refine Gv.of Tryz.func86 Z Tryz.ntmps86 Tryz.results86 Z (sR fL1 Z (oA Z Z (eN (sR gBk Z (oM Z Z ?_)))))
 have aj:FnOK Tryz.prog U (.func (.func 87) #[] #[]) wJg wKY wBb:=⟨87,[],[],rfl,Tryz.call87,fun U1 w1 x y vs le hs ha hm=>by obtain rfl:=ha;exact wFp x w1 U1 hs  hm⟩
 refine bnK hm fun x2 h3 ao=>zL 0 Z Z Z Z (zK Z Z Tryz.call84 (zB Z (zB Z zM)) Z) hS (fun hs=>wEx p0 ac ae wBb (.func (.func 87) #[] #[]) w U hs an aj h3) (.inr Z) ?_
 rintro U5 L6 v7 W8 au ak ⟨rfl,rfl⟩
 have am:sW w U U5 [] W8:=ak
 refine oA Z Z (eN (zO ?_))
 have hE:=nA ao;first | subst r | cases hE
 exact ⟨Z,_,(zr Z),U5,_,am,Z,Z⟩
theorem wIm (p0:List Int) (ap:Option Addr) (aq:Nat) (w:World) (U:PHeap) (hS:St0 w U []) (bq:Sl U 1 ap aq p0.length (hM KL.encI p0)) {r:Bool} (hm:wDu p0=some r):Gv Tryz.prog 88 [.slice ap p0.length aq] w (wBU w [] U (fun U_ L_ v=>v=.bool r/\L_=[])):=by
 unfold wDu at hm
 refine Gv.of Tryz.func88 Z Tryz.ntmps88 Tryz.results88 Z (sR fL1 Z (oA Z Z (eN (sR gBc Z (OKS.makeMap Z Z Z Z Z hS ?_)))))
 intro W1 b2 bl
 have bB:=MpR.nil wHG wHV
 refine oA Z Z (eN (zG (sR fL3 Z (oM Z Z (oR Z (za Z Z zA) (oM Z Z (eN (zT ?_))))))))
 have q:=wBe hm
 obtain ⟨bQ,am⟩:=q
 have q:=wBd am
 obtain ⟨ao,bt⟩:=q
 replace ao:=zF ao
 refine yA (fun ac aZ σ_ w_=>∃ (U_:PHeap) (ai:Array MapEntry) (aw:Nat),σ_ 9=jV (↑ac:Int)/\σ_ 3=.map (some b2)/\σ_ 7=.slice ap p0.length aq/\σ_ 8=jV (↑p0.length:Int)/\PHeap.Le U U_/\sW w U U_ [.obj b2 (.map ai aw)] w_/\MpR ai wHG wHV aZ) bt ?_ ?_ ?_
 exact ⟨U,#[],0,Z,Z,Z,Z,(zH _),bl,bB⟩
 rintro ac aZ bR bT bG an ⟨af,ai,aw,ak,aj,az,aW,a7,ae,aX⟩ bD br
 have av:Hid ((↑ac:Int) < (↑p0.length:Int)):=zF (wAo an)
 replace an:=zF an
 have bu:Hid (w64 ((↑ac:Int) + 1)=(↑(ac + 1):Int)):=zF (by have h1:=ao.out;have h2:=av.out;rw [wAT] <;> omega)
 refine sR fL1 Z (oR Z (zU Z ak aW) (eN (zG (cT Z av (kN (zG (zT (sR fL3 Z (bnK bD fun au aY bv=>?_)))))))))
 have bh:=bq.le a7
 have q:=bh.el (fun _=>rfl) (wAR aY)
 obtain ⟨bI,bP,bi,bj⟩:=q
 refine oR Z (zo Z az bi ak zA zD (wAj aY)) (oL Z (ae.ldC (f:=0) bj (v:=jV au) Z Z zP Z) (oA Z Z (eN (zG (sR fL3 Z (oM Z aj (oM Z Z (oL Z (ae.lookup1 (j:=0) (mk:=wHG) (mv:=wHV) (a:=au) (z:=false) Z Z Z Z (wDF yY) wHv yS aX) (eN (ifc bv ?_ ?_))))))))))
 intro ah bw
 refine ZF (congrArg nB ah.out) (sR fL1 Z (oA Z Z (eN (zO (zR (zf (zR ?_)))))))
 have q:=wAf bw
 obtain ⟨bE,bx,be⟩:=q
 have q:=wCI hm am (br bE be)
 obtain rfl:=q
 refine zR (zf (zR ?_))
 have hE:=nA bx;first | subst r | cases hE
 exact ⟨rfl,_,(zr rfl),af,_,(ae.pick [] _ (by decide) rfl),rfl,rfl⟩
 intro ah bz
 refine zm (congrArg nB (nE.2 ah.out)) (kN (rR gBl rfl (zj rfl rfl rfl rfl rfl aj (zj rfl rfl rfl rfl rfl rfl (OKS.mapPut (x:=.tmp 16) (y:=.tmp 17) (j:=0) (mk:=wHG) (mv:=wHV) (a:=au) (v:=true) rfl rfl rfl (by first | exact .inl rfl | exact .inr rfl) ae rfl rfl rfl rfl (wDF yY) wHv aX rfl ?_)))))
 intro ay ax ba bC bm
 have bn:sW w U af [.obj b2 (.map ay ax)] ba:=bm
 refine zg (zb (zI (rR fL2 Z (oR Z (zn (zX Z ak Z) (congrArg (jV) bu.out)) (oM Z Z (zg ?_))))))
 have q:=nA bz
 obtain rfl:=q
 exact zI ⟨Z,_,Z,⟨af,ay,ax,Z,aj,az,aW,a7,bn,bC⟩⟩
 rintro bS bU bH ⟨a8,bK,bJ,bg,bL,bM,bf,bO,bp,bN⟩ bs
 have bA:=wCm hm am bs
 have bb:Hid (¬ ((↑(((↑p0.length:Int):Int) - 0).toNat:Int) < (↑p0.length:Int))):=zF (wAa)
 refine sR fL1 Z (oR Z (zU Z bg bf) (eN (zG (cF Z bb (ZI (zY (zY (ZD (zI (sR fL1 Z (oA Z Z (eN (zO ?_)))))))))))))
 have hE:=nA bA;first | subst r | cases hE
 exact ⟨rfl,_,(zr rfl),a8,_,(bp.pick [] _ (by decide) rfl),rfl,rfl⟩
theorem wFK (p0:wAP) (aj:Option Addr) (ak:Nat) (af:Option Addr) (ag:Nat) (w:World) (U:PHeap) (hS:St0 w U []) (dB:Sl U 1 aj ak p0.Bibs.length (hM KL.encI p0.Bibs)) (dC:SlR U wDT af ag p0.Times) {r:Int} (hm:wCb p0=some r):Gv Tryz.prog 56 [.agg #[jV p0.Laps,.slice aj p0.Bibs.length ak,.slice af p0.Times.length ag]] w (wBU w [] U (fun U_ L_ v=>v=jV r/\L_=[])):=by
 unfold wCb at hm
 refine Gv.of Tryz.func56 Z Tryz.ntmps56 Tryz.results56 Z (sR gBc Z ?_)
 let B0:List Value:=[jV p0.Laps,.slice aj p0.Bibs.length ak,.slice af p0.Times.length ag]
 refine ZS (cs:=B0) rfl rfl rfl rfl rfl rfl (by rfl) hS ?_
 intro W1 b2 dv
 have q:=dv.freeze (k:=0) rfl
 obtain ⟨U5,cq,au,dz⟩:=q
 replace au:=Cl.of au
 have cd:sW w U U5 [] W1:=dz
 replace au:Cl U5 b2 0 B0:=au
 refine oA Z Z (eN (zG (zT (sR (.fl 0 (.fl 1 (.fx 2 (wPK (.fx 23 (wOR (.nil)) .stop)) .stop))) Z (oR Z (zJ Z Z ZK Z zD) (oL Z (cd.ldC (f:=0) au (v:=jV p0.Laps) Z Z zP Z) (bnK hm fun fk cQ dL=>zL 0 Z Z Z Z (zK Z Z Tryz.call81 (zB Z (zB Z (zB Z zM))) Z) cd (fun hs=>wHJ p0.Laps 1 20 W1 U5 hs cQ) (.inr Z) ?_)))))))
 rintro ao eK fd bM bC dr ⟨rfl,rfl⟩
 have am:sW w U ao [] bM:=dr
 refine oR Z (ZN Z Z) (oM Z Z (ifc dL ?_ ?_))
 intro ah dX
 refine zh Z Z Z (zQ Z Z (nC ah.out)) (fun _=>zJ Z Z ZK Z zS) ?_
 have aq:=au.le bC
 refine ZO Z Z Z (zQ Z Z (nC ah.out)) (am.ldC (f:=1) aq (v:=.slice aj p0.Bibs.length ak) Z Z zc Z) Z (zh Z Z Z (zQ Z Z (nC ah.out)) (fun _=>za Z Z zA) (zh Z Z Z (zQ Z Z (nC ah.out)) (fun _=>yN Z Z Z) (oR Z (zZ Z (nC ah.out) Z) (oM Z Z (ifc dX ?_ ?_)))))
 intro ac dY
 refine oT Z ac (oT Z ac (oT Z ac (oT Z ac (oT Z ac (oT Z ac (oT Z ac (oR Z (zV Z (Zj ac.out) Z) (oM Z Z (oN Z (oN Z (oN Z (ZA Z Z Z (zN Z Z Z Z) (oN Z (oR Z (zV Z Z Z) (oA Z Z (eN (ZF Z (sR fL1 Z (oA Z Z (eN (zO (zf (zR ?_)))))))))))))))))))))))
 cases dY
 exact ⟨Z,_,(zr Z),ao,_,am,Z,Z⟩
 intro ac dZ
 refine rU Z (wF Z ac) (zJ Z Z ZK Z Zk) (ZO Z Z Z (wF Z ac) (am.ldC (f:=2) aq (v:=.slice af p0.Times.length ag) Z Z Zy Z) Z (rU Z (wF Z ac) (za Z Z zq) (rU Z (wF Z ac) (zJ Z Z ZK Z zS) (ZO Z Z Z (wF Z ac) (am.ldC (f:=1) aq (v:=.slice aj p0.Bibs.length ak) Z Z zc Z) Z (rU Z (wF Z ac) (za Z Z zA) (rU Z (wF Z ac) (ZW Z Z Z) (oR Z (zZ Z (zw ac.out) Z) (oM Z Z (ifc dZ ?_ ?_)))))))))
 intro ae d7
 refine zh Z Z Z (zQ Z Z (zw (fun h=>h ae.out))) (fun _=>zJ Z Z ZK Z Zk) (ZO Z Z Z (zQ Z Z (zw (fun h=>h ae.out))) (am.ldC (f:=2) aq (v:=.slice af p0.Times.length ag) Z Z Zy Z) Z (zh Z Z Z (zQ Z Z (zw (fun h=>h ae.out))) (fun _=>yW Z zM (zB Z zM)) ?_))
 have cW:=dC.le cq
 have bm:=cW.le bC
 have cX:=dB.le cq
 have bW:=cX.le bC
 have dm:FnOK Tryz.prog ao (.func (.func 83) #[] #[.pointer (some ⟨b2,0,none⟩)]) wIO wIP (fun x=>wCB x p0):=⟨83,[],[.pointer (some ⟨b2,0,none⟩)],rfl,Tryz.call83,fun U1 w1 x y vs le hs ha hm=>by obtain ⟨pA_0,pc_0,rfl,hq0_0⟩:=ha;exact wGV x pA_0 pc_0 p0 b2 aj ak af ag w1 U1 hs hq0_0 (aq.le le) (bW.le le) (bm.le le) hm⟩
 refine bnK d7 fun fm cY d8=>zL 0 Z Z Z (zQ Z Z (zw (fun h=>h ae.out))) (zK Z Z Tryz.call82 (zB Z (zB Z zM)) Z) am (fun hs=>wFo p0.Times af ag (fun x=>wCB x p0) (.func (.func 83) #[] #[.pointer (some ⟨b2,0,none⟩)]) bM ao hs bm dm cY) (.inr Z) ?_
 rintro aW eM fe bN bD dw ⟨rfl,rfl⟩
 have bp:sW w U aW [] bN:=dw
 refine zh Z Z Z (zQ Z Z (zw (fun h=>h ae.out))) (fun _=>ZN Z Z) (oR Z (zZ Z (zw (fun h=>h ae.out)) Z) (oA Z Z (eN (ifc d8 ?_ ?_))))
 intro bf d9
 refine zm (nC bf.out) (sR (.fl 0 (.fl 1 (.fx 2 (wLf (.fx 7 (wJf (.nil)) .stop)) .stop))) Z (oR Z (zJ Z Z ZK Z zS) ?_))
 have bX:=aq.le bD
 refine oL Z (bp.ldC (f:=1) bX (v:=.slice aj p0.Bibs.length ak) Z Z zc Z) ?_
 have bY:=bW.le bD
 have dn:FnOK Tryz.prog aW (.func (.func 85) #[] #[]) wJg wKY wCC:=⟨85,[],[],rfl,Tryz.call85,fun U1 w1 x y vs le hs ha hm=>by obtain rfl:=ha;exact wGW x w1 U1 hs  hm⟩
 refine bnK d9 fun fq cZ ea=>zL 0 Z Z Z Z (zK Z Z Tryz.call84 (zB Z (zB Z zM)) Z) bp (fun hs=>wEx p0.Bibs aj ak wCC (.func (.func 85) #[] #[]) bN aW hs bY dn cZ) (.inr Z) ?_
 rintro aX eP ff bO bE dx ⟨rfl,rfl⟩
 have bq:sW w U aX [] bO:=dx
 refine oR Z (ZN Z Z) (oM Z Z (ifc ea ?_ ?_))
 intro ai eb
 refine zh Z Z Z (zQ Z Z (nC ai.out)) (fun _=>zJ Z Z ZK Z Zk) ?_
 have bZ:=bX.le bE
 refine ZO Z Z Z (zQ Z Z (nC ai.out)) (bq.ldC (f:=2) bZ (v:=.slice af p0.Times.length ag) Z Z Zy Z) Z ?_
 have c6:=bm.le bD
 have b4:=c6.le bE
 have dp:FnOK Tryz.prog aX (.func (.func 86) #[] #[]) wIO wIP wCD:=⟨86,[],[],rfl,Tryz.call86,fun U1 w1 x y vs le hs ha hm=>by obtain ⟨pA_0,pc_0,rfl,hq0_0⟩:=ha;exact wGX x pA_0 pc_0 w1 U1 hs hq0_0 hm⟩
 refine bnK eb fun ft c7 ee=>zL 0 Z Z Z (zQ Z Z (nC ai.out)) (zK Z Z Tryz.call82 (zB Z (zB Z zM)) Z) bq (fun hs=>wFo p0.Times af ag wCD (.func (.func 86) #[] #[]) bO aX hs b4 dp c7) (.inr Z) ?_
 rintro bb eQ fg bP bF dy ⟨rfl,rfl⟩
 have br:sW w U bb [] bP:=dy
 refine zh Z Z Z (zQ Z Z (nC ai.out)) (fun _=>ZN Z Z) (oR Z (zZ Z (nC ai.out) Z) (oA Z Z (eN (ifc ee ?_ ?_))))
 intro bg eh
 refine zm (nC bg.out) (sR gBr Z (oR Z (zJ Z Z ZK Z zS) ?_))
 have ca:=bZ.le bF
 refine oL Z (br.ldC (f:=1) ca (v:=.slice aj p0.Bibs.length ak) Z Z zc Z) ?_
 have c9:=bY.le bE
 have da:=c9.le bF
 refine bnK eh fun fu db ep=>zL 0 Z Z Z Z (zK Z Z Tryz.call88 (zB Z zM) Z) br (fun hs=>wIm p0.Bibs aj ak bP bb hs da db) (.inr Z) ?_
 rintro aY eR fh cw cr dA ⟨rfl,rfl⟩
 have bs:sW w U aY [] cw:=dA
 refine oA Z Z (eN (ifc ep ?_ ?_))
 intro bh ew
 refine ZF (congrArg nB bh.out) (sR fL1 Z (oA Z Z (eN (zO (zf (zR ?_))))))
 cases ew
 exact ⟨Z,_,(zr Z),aY,_,bs,Z,Z⟩
 intro bh bB
 refine zm (congrArg nB (nE.2 bh.out)) (ZV (zb (zI (zG (zG (ya fun eJ cm=>?_))))))
 have cN:eJ 1=.pointer (some ⟨b2,0,none⟩):=(cm 1).trans rfl
 clear cm
 refine rR fL4 Z (oR Z (zJ Z cN ZK Z Zk) ?_)
 have dd:=ca.le cr
 refine oL Z (bs.ldC (f:=2) dd (v:=.slice af p0.Times.length ag) Z Z Zy Z) (oR Z (za Z Z zq) (oM Z Z (eN (zT ?_))))
 have q:=wBe bB
 obtain ⟨fc,bu⟩:=q
 have q:=wBd bu
 obtain ⟨bx,dH⟩:=q
 replace bx:=zF bx
 refine yA (fun an _ σ_ w_=>∃ (U_:PHeap),σ_ 51=jV (↑an:Int)/\σ_ 49=.slice af p0.Times.length ag/\σ_ 50=jV (↑p0.Times.length:Int)/\PHeap.Le aY U_/\sW w U U_ [] w_) dH ?_ ?_ ?_
 exact ⟨aY,Z,Z,Z,(zH _),bs⟩
 rintro an ⟨⟩ fw fz eS bv ⟨a8,bi,bS,bT,co,cc⟩ ci dD
 try dsimp only at ci
 have bQ:Hid ((↑an:Int) < (↑p0.Times.length:Int)):=zF (wAo bv)
 replace bv:=zF bv
 have dJ:Hid (w64 ((↑an:Int) + 1)=(↑(an + 1):Int)):=zF (by have h1:=bx.out;have h2:=bQ.out;rw [wAT] <;> omega)
 refine sR fL1 Z (oR Z (zU Z bi bT) (eN (zG (cT Z bQ (kN (zG (zT (sR fL3 Z (bnK ci fun av bU bA=>?_)))))))))
 have cR:=b4.le bF
 have cS:=cR.le cr
 have cU:=cS.le co
 have q:=cU.el (wAR bU)
 obtain ⟨cy,eC,fj,de,bn,ey⟩:=q
 obtain ⟨bG,bH,rfl,cV⟩:=ey
 replace bn:Cl a8 cy (eC + an * 1) [.slice bG av.length bH]:=bn
 refine oR Z (zo Z bS de bi zq zS (wAj bU)) (oL Z (cc.ldC (f:=0) bn (v:=.slice bG av.length bH) Z Z zc Z) (oA Z Z (eN (sR fL1 Z (oA Z Z (eN (zT ?_)))))))
 have q:=wBe bA
 obtain ⟨fb,bt⟩:=q
 have q:=wBd bt
 obtain ⟨bz,dI⟩:=q
 replace bz:=zF bz
 refine yA (fun ay _ σ_ w_=>∃ (U_:PHeap),σ_ 5=jV (1 + ↑ay:Int)/\σ_ 4=.slice bG av.length bH/\σ_ 49=.slice af p0.Times.length ag/\σ_ 50=jV (↑p0.Times.length:Int)/\σ_ 51=jV (↑an:Int)/\PHeap.Le a8 U_/\sW w U U_ [] w_) dI ?_ ?_ ?_
 exact ⟨a8,Z,Z,bS,bT,bi,(zH _),cc⟩
 rintro ay ⟨⟩ fy fA bL bw ⟨bJ,a7,aZ,cE,cG,cH,cp,dq⟩ cj dE
 try dsimp only at cj
 have bR:Hid ((1 + ↑ay:Int) < (↑av.length:Int)):=zF (lp_lt bw)
 replace bw:=zF bw
 have dK:Hid (w64 ((1 + ↑ay:Int) + 1)=(1 + ↑(ay + 1):Int)):=zF (by have h1:=bz.out;have h2:=bR.out;rw [wAT] <;> omega)
 refine zG (sR fL4 rfl (zj rfl rfl rfl rfl rfl a7 (zj rfl rfl rfl rfl rfl aZ (zh rfl rfl rfl rfl (fun _=>za rfl rfl zA) (zh rfl rfl rfl rfl (fun _=>zU rfl rfl rfl) (eN (cT Z bR (kN (zG (zT (zG (ZY ZP [3,3,3,1,3,3,3,3,1,3] wMj (by kernel_rfl) ?_))))))))))))
 have ax:=dq.drew
 generalize hw_W154:({ bL with drawn:=bL.drawn + 1 }:World)=eT at ax ⊢
 refine oM Z aZ (oM Z a7 (bnK cj fun eH bj dM=>?_))
 have bV:=cV.le cp
 have q:=bV.el (fun _=>rfl) (wAR bj)
 obtain ⟨eW,e8,df,dh⟩:=q
 refine oR Z (yG Z Z df Z zA zD (wEK bj) (wET bj)) (oL Z (ax.ldC (f:=0) dh (v:=jV eH) Z Z zP Z) (oM Z aZ (oM Z a7 (oR Z (Zx Z Z Z) (bnK dM fun eI bl dN=>?_)))))
 have q:=bV.el (fun _=>rfl) (wAR bl)
 obtain ⟨eX,e9,dg,di⟩:=q
 refine oR Z (yG Z Z dg Z zA zD (wEK bl) (wET bl)) (oL Z (ax.ldC (f:=0) di (v:=jV eI) Z Z zP Z) (oR Z (Runs.leq Z Z Z) (eN (ifc dN ?_ ?_))))
 intro be dO
 refine cT Z be (sR fL1 Z (oA Z Z (eN (zO (zf (zR ?_))))))
 have q:=wAf dO
 obtain ⟨eD,dP,cC⟩:=q
 have q:=wCI bA bt (dE eD cC)
 obtain rfl:=q
 refine zR (zf (zf (zR ?_)))
 have q:=wAf dP
 obtain ⟨eG,dQ,cD⟩:=q
 have q:=wCI bB bu (dD eG cD)
 obtain rfl:=q
 refine zR (zf (zR ?_))
 cases dQ
 exact ⟨Z,_,(zr Z),bJ,_,ax,Z,Z⟩
 intro be dR
 refine cF Z be (ZV (zb (zI (rR fL3 Z (oM Z a7 (oR Z (zn (zX Z Z Z) (congrArg (jV) dK.out)) (oA Z Z (zg ?_))))))))
 have q:=nA dR
 obtain rfl:=q
 exact zI ⟨Z,_,Z,⟨bJ,Z,aZ,cE,cG,cH,cp,ax⟩⟩
 rintro ⟨⟩ fB eU ⟨ct,cO,cI,cJ,cK,cL,eB,dt⟩ dF
 have cg:=wCm bA bt dF
 try dsimp only at cg
 have cz:Hid (¬ ((1 + ↑(((↑av.length:Int):Int) - 1).toNat:Int) < (↑av.length:Int))):=zF (wOh)
 refine zG (sR fL4 Z (oM Z cO (oM Z cI (oR Z (za Z Z zA) (oR Z (zU Z Z Z) (eN (cF Z cz (ZI (zY (zY (ZD (zb (zI (rR fL2 Z (oR Z (zn (zX Z cL Z) (congrArg (jV) dJ.out)) (oM Z Z (zg ?_)))))))))))))))))
 have q:=nA cg
 obtain rfl:=q
 exact zI ⟨Z,_,Z,⟨ct,Z,cJ,cK,(co.trans eB),dt⟩⟩
 rintro ⟨⟩ fC eV ⟨cu,cP,eY,cM,eZ,du⟩ dG
 have ch:=wCm bB bu dG
 try dsimp only at ch
 have cA:Hid (¬ ((↑(((↑p0.Times.length:Int):Int) - 0).toNat:Int) < (↑p0.Times.length:Int))):=zF (wAa)
 refine sR fL1 Z (oR Z (zU Z cP cM) (eN (zG (cF Z cA (ZI (zY (zY (ZD (zI (sR fL1 Z (oA Z Z (eN (zO ?_)))))))))))))
 cases ch
 exact ⟨Z,_,(zr Z),cu,_,du,Z,Z⟩
 intro bg dS
 refine ZF (nF (bg.out)) (sR fL1 Z (oA Z Z (eN (zO (zf (zR ?_))))))
 cases dS
 exact ⟨Z,_,(zr Z),bb,_,br,Z,Z⟩
 intro ai dT
 refine zd Z Z Z (zN Z Z (nF (ai.out)) Z) (zd Z Z Z (zN Z Z (nF (ai.out)) Z) (ZA Z Z Z (zN Z Z (nF (ai.out)) Z) (zd Z Z Z (zN Z Z (nF (ai.out)) Z) (oR Z (zV Z (nF (ai.out)) Z) (oA Z Z (eN (ZF Z (sR fL1 Z (oA Z Z (eN (zO (zf (zR ?_)))))))))))))
 cases dT
 exact ⟨Z,_,(zr Z),aX,_,bq,Z,Z⟩
 intro bf dU
 refine ZF (nF (bf.out)) (sR fL1 Z (oA Z Z (eN (zO (zf (zR ?_))))))
 cases dU
 exact ⟨Z,_,(zr Z),aW,_,bp,Z,Z⟩
 intro ae dV
 refine oT Z ae (oT Z ae (oT Z ae (ZA Z Z Z (zN Z Z (Zj ae.out) Z) (oT Z ae (oR Z (zV Z (Zj ae.out) Z) (oA Z Z (eN (ZF Z (sR fL1 Z (oA Z Z (eN (zO (zf (zR ?_))))))))))))))
 cases dV
 exact ⟨Z,_,(zr Z),ao,_,am,Z,Z⟩
 intro ah dW
 refine zd Z Z Z (zN Z Z (nF (ah.out)) Z) (zd Z Z Z (zN Z Z (nF (ah.out)) Z) (zd Z Z Z (zN Z Z (nF (ah.out)) Z) (zd Z Z Z (zN Z Z (nF (ah.out)) Z) (oR Z (zV Z (nF (ah.out)) Z) (oM Z Z (oN Z (oN Z (oN Z (oN Z (oN Z (oN Z (oN Z (oR Z (zV Z Z Z) (oM Z Z (oN Z (oN Z (oN Z (ZA Z Z Z (zN Z Z Z Z) (oN Z (oR Z (zV Z Z Z) (oA Z Z (eN (ZF Z (sR fL1 Z (oA Z Z (eN (zO (zf (zR ?_)))))))))))))))))))))))))))))
 cases dW
 exact ⟨Z,_,(zr Z),ao,_,am,Z,Z⟩
end Go.Proofs.YtnbcoenjobdplaaGreat
namespace Go.Proofs.YtnbcoenjobdplaaGreat
open Go.KL
set_option maxHeartbeats 4000000
theorem wFq (p0:List Int) (p1:Int) (w:World) (U:PHeap) (hS:St0 w U [])  {r:(List Int)} (hm:wCK p0 p1=some r):Gv Tryz.prog 151 [.slice none 0 0,jV p1] w (wBU w [] U (fun U_ L_ v=>∃ (A0:Option Addr) (c0:Nat),v=.slice A0 r.length c0/\L_=[.row A0 c0 3 1 (hM KL.encI r)])):=by
 unfold wCK at hm
 refine Gv.of Tryz.func151 Z Tryz.ntmps151 Tryz.results151 Z (sR fL1 Z (oA Z Z (eN (zG (sR fL2 Z (oM Z Z (oR Z (zU Z Z Z) (eN ?_))))))))
 by_cases c1:p1 < 0
 have an:=hm;rw [if_pos c1] at an;replace c1:=zF c1
 refine cT Z c1 (rR gBd Z ?_)
 cases an
 have ao:=hm;rw [if_neg c1] at ao;replace c1:=zF c1
 refine cF Z c1 (kN (zG (sR fL8 rfl (zj rfl rfl rfl rfl rfl rfl (zj rfl rfl rfl rfl rfl rfl (zh rfl rfl rfl rfl (fun _=>Runs.capn rfl rfl zA) (zj rfl rfl rfl rfl rfl rfl (zh rfl rfl rfl rfl (fun _=>za rfl rfl zA) (zh rfl rfl rfl rfl (fun _=>zn (Zx rfl rfl rfl) (congrArg (jV) (show w64 (0 - 0)=0 by decide))) (zh rfl rfl rfl rfl (fun _=>Zx rfl rfl rfl) (yg rfl rfl rfl rfl rfl rfl (eN (sR fL2 rfl (zj rfl rfl rfl rfl rfl rfl (zh rfl rfl rfl rfl (fun _=>yN rfl rfl rfl) (eN (ifc ao ?_ ?_)))))))))))))))))
 intro c4 ay
 refine cT Z c4 (rR (wHS (.fx 5 (wPO (.nil)) .stop)) rfl (zj rfl rfl rfl rfl rfl rfl (zj rfl rfl rfl rfl rfl rfl (zh rfl rfl rfl rfl (fun _=>Runs.capn rfl rfl zA) (zh rfl rfl rfl rfl (fun _=>zn (Runs.slc (sz:=1) (a:=0) (b:=0) rfl rfl (.inr ⟨rfl,rfl⟩) (.inl ⟨_,rfl,rfl⟩) zA zD (by decide) (by decide) (by decide) (Nat.le_refl _)) rfl) (zj rfl rfl rfl rfl rfl rfl (bnK ay fun x6 h7 az=>OKS.appendZ (enc:=KL.encI) (z:=(0:Int)) (xs:=x6) rfl rfl rfl rfl rfl Zi Tryz.underlying3 wFA rfl rfl rfl rfl rfl hS rfl rfl h7 rfl ?_)))))))
 intro W9 ac ae aq
 have am:sW w U U [.row ac ae 3 1 (hM KL.encI x6)] W9:=aq
 refine oM Z Z (oR Z (za Z Z zA) ?_)
 have aW:=am.rowCap (j:=0) rfl (by decide) (wAF (f:=KL.encI) (sz:=1) (fun _=>rfl) x6)
 refine zh (v:=.slice ac 0 ae) Z Z Z Z (fun _=>zn (Runs.slc (sz:=1) (a:=0) (b:=0) Z Z (.inr ⟨Z,Z⟩) (.inl ⟨_,Z,Z⟩) zA zD (Int.le_refl _) (Int.le_refl _) (Int.natCast_nonneg _) aW) slc0) ?_
 have au:=am.cutRowM (enc:=KL.encI) (k:=0) (b:=0) rfl
 have av:sW w U U [.row ac ae 3 1 (hM KL.encI ([]:List Int))] W9:=au
 refine oA Z Z (eN (sR fL2 Z (oM Z Z (oA Z Z (eN (zO ?_))))))
 cases az
 exact ⟨Z,_,(zr Z),U,_,av,ac,ae,Z,Z⟩
 intro c4 ax
 refine cF Z c4 (kN (sR fL2 Z (oM Z Z (oA Z Z (eN (zO ?_))))))
 have aw:=hS.nilrow 3 1
 cases ax
 exact ⟨Z,_,(zr Z),U,_,aw,none,0,Z,Z⟩
theorem wFU (p0:List (List Int)) (af:Option Addr) (ag:Nat) (w:World) (U:PHeap) (hS:St0 w U []) (bp:SlR U wDT af ag p0) {r:(List Int)} (hm:wBf p0=some r):Gv Tryz.prog 126 [.slice af p0.length ag] w (wBU w [] U (fun U_ L_ v=>∃ (A0:Option Addr) (c0:Nat),v=.slice A0 r.length c0/\L_=[.row A0 c0 3 1 (hM KL.encI r)])):=by
 unfold wBf at hm
 refine Gv.of Tryz.func126 Z Tryz.ntmps126 Tryz.results126 Z (sR fL1 Z (oA Z Z (eN (sR fL1 Z (oA Z Z (eN (zG (sR fL3 Z (oM Z Z (oR Z (za Z Z zq) (oM Z Z (eN (zT (bnK hm fun cR cr cG=>?_))))))))))))))
 have q:=wAs cr
 obtain ⟨ay,cp⟩:=q
 replace ay:=zF ay
 refine CK.forN' (fun k7 x6 σ_ w_=>∃ (U_:PHeap),σ_ 11=jV (↑k7:Int)/\σ_ 0=.slice af p0.length ag/\σ_ 3=jV x6/\σ_ 9=.slice af p0.length ag/\σ_ 10=jV (↑p0.length:Int)/\PHeap.Le U U_/\sW w U U_ [] w_) cp ?_ ?_ ?_
 exact ⟨U,Z,Z,Z,Z,Z,(zH _),hS⟩
 rintro k7 x6 db df cV aw ⟨a7,ao,bO,bP,bi,bj,br,bn⟩ cK
 have be:Hid ((↑k7:Int) < (↑p0.length:Int)):=zF (wAo aw)
 replace aw:=zF aw
 have cw:Hid (w64 ((↑k7:Int) + 1)=(↑(k7 + 1):Int)):=zF (by have h1:=ay.out;have h2:=be.out;rw [wAT] <;> omega)
 refine sR fL1 Z (oR Z (zU Z ao bj) (eN (zG (cT Z be (kN (zG (zT (sR fL3 Z (bnK cK fun bx bm cA=>?_)))))))))
 have b4:=bp.le br
 have q:=b4.el (wAR bm)
 obtain ⟨bH,cP,da,cd,au,cJ⟩:=q
 obtain ⟨bt,bv,rfl,cZ⟩:=cJ
 replace au:Cl a7 bH (cP + k7 * 1) [.slice bt bx.length bv]:=au
 refine oR Z (zo Z bi cd ao zq zS (wAj bm)) (oL Z (bn.ldC (f:=0) au (v:=.slice bt bx.length bv) Z Z zc Z) (oA Z Z (eN (sR fL5 Z (oM Z bP (oM Z Z (oR Z (za Z Z zA) (oR Z (zX Z Z Z) (oA Z Z (eN (sR fL2 Z (oM Z Z (oR Z (zU Z Z Z) (eN (ifc cA ?_ ?_)))))))))))))))
 intro am cC
 refine cT Z am (rR gBd Z ?_)
 cases cC
 intro am cD
 refine cF Z am (ZV (zb (zI (rR fL2 Z (oR Z (zn (zX Z ao Z) (congrArg (jV) cw.out)) (oM Z Z (zg ?_)))))))
 cases cD
 exact zI ⟨Z,⟨a7,Z,bO,Z,bi,bj,br,bn⟩⟩
 rintro dh bE ⟨bC,bU,bQ,bR,cY,bS,cM,cj⟩
 have bK:Hid (¬ ((↑(((↑p0.length:Int):Int) - 0).toNat:Int) < (↑p0.length:Int))):=zF (wAa)
 refine sR fL1 Z (oR Z (zU Z bU bS) (eN (zG (cF Z bK (ZI (zY (zY (ZD (zI (sR gBk Z (oM Z bR (bnK cG fun cQ ca cE=>zL 0 Z Z Z Z (zK Z Z Tryz.call151 (zB Z (zB Z zM)) Z) cj (fun hs=>wFq [] cR bE bC hs ca) (.inr Z) ?_))))))))))))
 rintro aj cS c7 bF cN cm ⟨aZ,bf,rfl,rfl⟩
 have co:sW w U aj [.row aZ bf 3 1 (hM KL.encI cQ)] bF:=cm
 refine oA Z Z (eN (zG (sR fL3 Z (oM Z bQ (oR Z (za Z Z zq) (oM Z Z (eN (zT (bnK cE fun de cq cH=>?_)))))))))
 have q:=wAs cq
 obtain ⟨az,ct⟩:=q
 replace az:=zF az
 refine CK.forN' (fun ae ah σ_ w_=>∃ (U_:PHeap) (ai:Option Addr) (an:Nat),σ_ 27=jV (↑ae:Int)/\σ_ 6=.slice ai ah.length an/\σ_ 25=.slice af p0.length ag/\σ_ 26=jV (↑p0.length:Int)/\PHeap.Le aj U_/\sW w U U_ [.row ai an 3 1 (hM KL.encI ah)] w_) ct ?_ ?_ ?_
 exact ⟨aj,aZ,bf,Z,Z,Z,Z,(zH _),co⟩
 rintro ae ah dd di cW ax ⟨ak,ai,an,ap,bL,bg,bh,bq,av⟩ cL
 have ba:Hid ((↑ae:Int) < (↑p0.length:Int)):=zF (wAo ax)
 replace ax:=zF ax
 have cu:Hid (w64 ((↑ae:Int) + 1)=(↑(ae + 1):Int)):=zF (by have h1:=az.out;have h2:=ba.out;rw [wAT] <;> omega)
 refine sR fL1 Z (oR Z (zU Z ap bh) (eN (zG (cT Z ba (kN (zG (zT (sR fL3 Z (bnK cL fun aW bl cy=>?_)))))))))
 have bV:=bp.le cM
 have bW:=bV.le cN
 have bX:=bW.le bq
 have q:=bX.el (wAR bl)
 obtain ⟨bG,cO,c9,cc,aq,cI⟩:=q
 obtain ⟨bs,bu,rfl,bY⟩:=cI
 replace aq:Cl ak bG (cO + ae * 1) [.slice bs aW.length bu]:=aq
 refine oR Z (zo Z bg cc ap zq zS (wAj bl)) (oL Z (av.ldC (f:=0) aq (v:=.slice bs aW.length bu) Z Z zc Z) (oA Z Z (eN (rR gBr Z (oM Z bL (oM Z Z (bnK cy fun bw bZ cz=>Zs (j:=0) (enc:=KL.encI) (xs:=ah) (ys:=aW) (zs:=bw) Z Z Z Z Z Zi wFA Z Z Z Z Z Z av Z Z Z (av.srcS bY) (fun _=>Z) (fun _=>Z) bZ Z ?_)))))))
 intro aY bb bD cg
 have ch:sW w U ak [.row aY bb 3 1 (hM KL.encI bw)] bD:=cg
 refine oA Z Z (zg (zb (zI (rR fL2 Z (oR Z (zn (zX Z ap Z) (congrArg (jV) cu.out)) (oM Z Z (zg ?_)))))))
 cases cz
 exact zI ⟨Z,⟨ak,aY,bb,Z,Z,bg,bh,bq,ch⟩⟩
 rintro dg cU ⟨bB,bA,bI,bT,bM,cX,bN,c6,ci⟩
 have bJ:Hid (¬ ((↑(((↑p0.length:Int):Int) - 0).toNat:Int) < (↑p0.length:Int))):=zF (wAa)
 refine sR fL1 Z (oR Z (zU Z bT bN) (eN (zG (cF Z bJ (ZI (zY (zY (ZD (zI (sR fL2 Z (oM Z bM (oA Z Z (eN (zO ?_))))))))))))))
 have hE:=nA cH;first | subst r | cases hE
 exact ⟨Z,_,(zr Z),bB,_,ci,bA,bI,Z,Z⟩
theorem wFr (p0:List Int) (ac:Option Addr) (ae:Nat) (w:World) (U:PHeap) (hS:St ⟨w,[.row ac ae 3 1 (hM KL.encI p0)],U⟩ U [.row ac ae 3 1 (hM KL.encI p0)] w) {r:List Int} (hm:wCp p0=some r):Gv Tryz.prog 127 [.slice ac p0.length ae] w (wBU w [.row ac ae 3 1 (hM KL.encI p0)] U (fun U_ L_ v=>v=.tuple #[]/\L_=[.row ac ae 3 1 (hM KL.encI r)]/\r.length=p0.length)) :=
 wMp (fun b o c zs w h1 h2 h3=>Go.Proofs.Tryz.slices_Sort_int b o c zs w h1 h2 h3) (fun p c w=>Go.Proofs.Tryz.slices_Sort_int_none p c w) hS hm
theorem wFL (p0:List Int) (ac:Option Addr) (ae:Nat) (w:World) (U:PHeap) (hS:St ⟨w,[.row ac ae 3 1 (hM KL.encI p0)],U⟩ U [.row ac ae 3 1 (hM KL.encI p0)] w) {r:List Int} (hm:wCP p0=some r):Gv Tryz.prog 129 [.slice ac p0.length ae] w (wBU w [.row ac ae 3 1 (hM KL.encI p0)] U (fun U_ L_ v=>∃ (A0:Option Addr) (c0:Nat),v=.slice A0 r.length c0/\L_=[.row A0 c0 3 1 (hM KL.encI r)])) :=
 wJt (fun b o c zs w h1 h2 h3=>Go.Proofs.Tryz.slices_Compact_int b o c zs w h1 h2 h3) (fun p c w=>Go.Proofs.Tryz.slices_Compact_int_empty p c w) hS hm
theorem wFC {S E:Type} (PY:S->PHeap->List Res->Prop) (PE:E->PHeap->List Res->Prop) (f:S->Int->Option (S ⊕ E)) (y:Nat) (s0:S) (p1:List Int) (aY:Nat) (ah:Option Addr) (ai:Nat) (w:World) (L:List Res) (U:PHeap) (hS:St ⟨w,L,U⟩ U L w) (hP:PY s0 U L) (hY:YOK Tryz.prog y wJg PY PE f U) (bs:Cl U aY 0 [.slice ah p1.length ai]) (bt:Sl U 1 ah ai p1.length (hM KL.encI p1)) {r:S ⊕ E} (hm:wBA f s0 p1=some r):Gv Tryz.prog 153 [.func (.yield y) #[] #[],.pointer (some ⟨aY,0,none⟩)] w (ItS w L U PY PE r):=by
 unfold wBA at hm
 refine Gv.of Tryz.func153 Z Tryz.ntmps153 Tryz.results153 Z (sR fL3 Z (oL Z (hS.ldC (f:=0) bs (v:=.slice ah p1.length ai) Z Z zc Z) (oR Z (za Z Z zA) (oM Z Z (eN (zT ?_))))))
 have q:=wBe hm
 obtain ⟨bT,an⟩:=q
 have q:=wBd an
 obtain ⟨ap,bw⟩:=q
 replace ap:=zF ap
 refine yA (fun ac a7 σ_ w_=>∃ (U_:PHeap) (aj:List Res),σ_ 7=jV (↑ac:Int)/\σ_ 0=.func (.yield y) #[] #[]/\σ_ 5=.slice ah p1.length ai/\σ_ 6=jV (↑p1.length:Int)/\PHeap.Le U U_/\St ⟨w,L,U⟩ U_ aj w_/\PY a7 U_ aj) bw ?_ ?_ ?_
 exact ⟨U,L,Z,Z,Z,Z,(zH _),hS,hP⟩
 rintro ac a7 bU bW bL ao ⟨bK,aj,am,aw,ax,ay,aq,aW,bh⟩ bE bu
 have av:Hid ((↑ac:Int) < (↑p1.length:Int)):=zF (wAo ao)
 replace ao:=zF ao
 have bx:Hid (w64 ((↑ac:Int) + 1)=(↑(ac + 1):Int)):=zF (by have h1:=ap.out;have h2:=av.out;rw [wAT] <;> omega)
 refine sR fL1 Z (oR Z (zU Z am ay) (eN (zG (cT Z av (kN (zG (zT (sR fL3 Z (bnK bE fun a8 az bz=>?_)))))))))
 have bi:=bt.le aq
 have q:=bi.el (fun _=>rfl) (wAR az)
 obtain ⟨bN,bS,bm,bn⟩:=q
 refine oR Z (zo Z ax bm am zA zD (wAj az)) (oL Z (aW.ldC (f:=0) bn (v:=jV a8) Z Z zP Z) (oA Z Z (eN (sR gBr Z (oM Z aw (oM Z Z (bnK bz fun bI bj ag=>OKS.yieldT 0 (a:=a8) Z Z Z Z Z Z (zB Z zM) aW hY aq bh Z bj Z ?_)))))))
 rintro ae ak bO au bF aX af
 rcases bI with bG | bG
 try dsimp only at ag af
 obtain ⟨rfl,bC⟩:=af
 have bp:St ⟨w,L,U⟩ ae ak au:=aX
 refine oR Z (ZN Z Z) (eN (zm Z (ZV (zb (zI (rR fL2 Z (oR Z (zn (zX Z am Z) (congrArg (jV) bx.out)) (oM Z Z (zg ?_)))))))))
 have q:=nA ag
 obtain rfl:=q
 exact zI ⟨Z,_,Z,⟨ae,ak,Z,aw,ax,ay,(aq.trans bF),bp,bC⟩⟩
 try dsimp only at ag af
 obtain ⟨rfl,bD⟩:=af
 have bq:St ⟨w,L,U⟩ ae ak au:=aX
 refine oR Z (ZN Z Z) (eN (ZF Z (zO (zf (zR ?_)))))
 have q:=wAf ag
 obtain ⟨bH,bA,be⟩:=q
 have q:=wCI hm an (bu bH be)
 obtain rfl:=q
 refine zR (zf ?_)
 cases bA
 exact ⟨Z,_,(wMk),ae,_,bq,bD⟩
 rintro bV bX bM ⟨ba,bJ,bg,bP,bQ,bf,bR,br,bl⟩ bv
 have bB:=wCm hm an bv
 have bb:Hid (¬ ((↑(((↑p1.length:Int):Int) - 0).toNat:Int) < (↑p1.length:Int))):=zF (wAa)
 refine sR fL1 Z (oR Z (zU Z bg bf) (eN (zG (cF Z bb (ZI (zY (zY (ZD ?_))))))))
 cases bB
 exact ⟨Z,_,(wMk),ba,_,br,bl⟩
theorem wFV (p0:List Int) (ae:Option Addr) (af:Nat) (w:World) (U:PHeap) (hS:St0 w U []) (ao:Sl U 1 ae af p0.length (hM KL.encI p0)) {r:Unit} (hm:wCY p0=some r):Gv Tryz.prog 128 [.slice ae p0.length af] w (wBU w [] U (fun U_ L_ v=>∃ (b0:Nat),v=.func (.func 153) #[] #[.pointer (some ⟨b0,0,none⟩)]/\L_=[]/\Cl U_ b0 0 [.slice ae p0.length af])):=by
 unfold wCY at hm
 refine Gv.of Tryz.func128 rfl Tryz.ntmps128 Tryz.results128 rfl (sR gBc rfl (ZS (cs:=[.slice ae p0.length af]) rfl rfl rfl rfl rfl rfl (by rfl) hS ?_))
 intro W1 b2 ak
 have q:=ak.freeze (k:=0) rfl
 obtain ⟨U5,ap,ac,am⟩:=q
 replace ac:=Cl.of ac
 have an:sW w U U5 [] W1:=am
 replace ac:Cl U5 b2 0 [.slice ae p0.length af]:=ac
 refine oA Z Z (eN (sR fL2 Z (oR Z (yW Z zM (zB Z zM)) (oA Z Z (eN (zO ?_))))))
 cases hm
 exact ⟨Z,_,(zr Z),U5,_,an,b2,Z,Z,ac⟩
theorem wGr (p0:wAP) (ao:Option Addr) (ap:Nat) (ah:Option Addr) (ai:Nat) (w:World) (U:PHeap) (hS:St0 w U []) (bK:Sl U 1 ao ap p0.Bibs.length (hM KL.encI p0.Bibs)) (bB:SlR U wDT ah ai p0.Times) {r:(List Int)} (hm:wCQ p0=some r):Gv Tryz.prog 89 [.agg #[jV p0.Laps,.slice ao p0.Bibs.length ap,.slice ah p0.Times.length ai]] w (wBU w [] U (fun U_ L_ v=>∃ (b0:Nat) (A0:Option Addr) (c0:Nat),v=.func (.func 153) #[] #[.pointer (some ⟨b0,0,none⟩)]/\L_=[]/\Cl U_ b0 0 [.slice A0 r.length c0]/\Sl U_ 1 A0 c0 r.length (hM KL.encI r))):=by
 unfold wCQ at hm
 refine Gv.of Tryz.func89 Z Tryz.ntmps89 Tryz.results89 Z (sR gBc Z ?_)
 let B0:List Value:=[jV p0.Laps,.slice ao p0.Bibs.length ap,.slice ah p0.Times.length ai]
 refine ZS (cs:=B0) rfl rfl rfl rfl rfl rfl (by rfl) hS ?_
 intro W1 b2 a7
 refine oA Z Z (eN (sR gBr Z (oR Z (zJ Z Z ZK Z Zk) (oL Z (a7.ldB (j:=0) Z Z Z Zy (v:=.slice ah p0.Times.length ai) Z) (bnK hm fun x5 h6 bE=>zL 0 Z Z Z Z (zK Z Z Tryz.call126 (zB Z zM) Z) a7 (fun hs=>wFU p0.Times ah ai W1 U hs bB h6) (.inr Z) ?_)))))
 rintro U8 L9 bP aW bL bq ⟨ac,af,rfl,rfl⟩
 have br:sW w U U8 [.row ac af 3 1 (hM KL.encI x5),.blk b2 34 B0] aW:=bq
 refine oA Z Z (eN (sR gBe Z (oM Z Z (bnK bE fun aq bh bC=>zL 1 Z Z Z Z (zK Z Z Tryz.call127 (zB Z zM) Z) br (fun hs=>wFr x5 ac af aW U8 hs bh) (.inl Z) ?_))))
 rintro aw bG bQ aX bM bs ⟨rfl,rfl,bi⟩
 have bt:sW w U aw [.row ac af 3 1 (hM KL.encI aq),.blk b2 34 B0] aX:=bs
 refine eN (sR gBq rfl (zj rfl rfl rfl rfl rfl (nL (b:=(.slice ac x5.length af:Value)) (c:=(.slice ac aq.length af:Value)) rfl (by rw [bi])) (bnK bC fun aj bj bD=>zL 1 rfl rfl rfl rfl (zK rfl rfl Tryz.call129 (zB rfl zM) rfl) bt (fun hs=>wFL aq ac af aX aw hs bj) (.inl rfl) ?_)))
 rintro bb bH bR am bN bu ⟨ak,an,rfl,rfl⟩
 have bv:sW w U bb [.row ak an 3 1 (hM KL.encI aj),.blk b2 34 B0] am:=bu
 have q:=bv.freezeR (k:=0) (n:=aj.length) rfl (wAF (f:=KL.encI) (sz:=1) (fun _=>rfl) aj) (by decide)
 obtain ⟨ax,bO,ba,bw⟩:=q
 have bx:sW w U ax [.blk b2 34 B0] am:=bw
 have q:=bnd bD
 obtain ⟨⟨⟩,bl,a8⟩:=q
 try dsimp only at a8
 refine zL 0 Z Z Z Z (zK Z Z Tryz.call128 (zB Z zM) Z) bx (fun hs=>wFV aj ak an am ax hs ba bl) (.inr Z) ?_
 rintro ay bI bS bf bF bz ⟨bg,rfl,rfl,bm⟩
 have bA:sW w U ay [.blk b2 34 B0] bf:=bz
 refine oA Z Z (eN (zO ?_))
 have bn:=ba.le bF
 have hE:=nA a8;first | subst r | cases hE
 exact ⟨rfl,_,(zr rfl),ay,_,(bA.pick [] _ (by decide) rfl),bg,ak,an,rfl,rfl,bm,bn⟩
theorem wEk (p0:wAL) (a7:Nat) (ba:Option Addr) (bb:Nat) (bm:Option Addr) (bp:Nat) (az:Option Addr) (aW:Nat) (bn:Option Addr) (bq:Nat) (p1:Int) (p2:Int) (p3:Int) (w:World) (U:PHeap) (hS:St0 w U []) (bA:Cl U a7 0 [jV p0.Race.Laps,.slice ba p0.Race.Bibs.length bb,.slice bm p0.Race.Times.length bp,.slice az p0.done.length aW,.slice bn p0.out.length bq]) (cI:Sl U 1 ba bb p0.Race.Bibs.length (hM KL.encI p0.Race.Bibs)) (cJ:SlR U wDT bm bp p0.Race.Times) (cK:Sl U 1 az aW p0.done.length (hM KL.encI p0.done)) (cL:Sl U 1 bn bq p0.out.length (hM KL.encT p0.out)) {r:Int} (hm:wBG p0 p1 p2 p3=some r):Gv Tryz.prog 91 [.pointer (some ⟨a7,0,none⟩),jV p1,jV p2,jV p3] w (wBU w [] U (fun U_ L_ v=>v=jV r/\L_=[])):=by
 unfold wBG at hm
 refine Gv.of Tryz.func91 Z Tryz.ntmps91 Tryz.results91 Z (sR fL1 Z (oA Z Z (eN (sR fL1 Z (oA Z Z (eN (zG (sR fL6 Z (oM Z Z (oR Z (ZX Z Z) (oR Z (zJ Z Z Za Z zS) (oL Z (hS.ldC (f:=3) bA (v:=.slice az p0.done.length aW) Z Z zc Z) (oR Z (za Z Z zA) (oM Z Z (eN (zT (bnK hm fun dS cN da=>?_)))))))))))))))))
 have q:=wAs cN
 obtain ⟨bl,cM⟩:=q
 replace bl:=zF bl
 refine CK.forN' (fun k7 x6 σ_ w_=>∃ (U_:PHeap),σ_ 17=jV (↑k7:Int)/\σ_ 0=.pointer (some ⟨a7,0,none⟩)/\σ_ 2=jV p2/\σ_ 3=jV p3/\σ_ 9=jV x6/\σ_ 15=.slice az p0.done.length aW/\σ_ 16=jV (↑p0.done.length:Int)/\PHeap.Le U U_/\sW w U U_ [] w_) cM ?_ ?_ ?_
 exact ⟨U,Z,Z,Z,Z,Z,Z,Z,(zH _),hS⟩
 rintro k7 x6 dR dT br bj ⟨ao,ak,aj,av,aw,ap,ax,ay,aX,bz⟩ dh
 have bs:Hid ((↑k7:Int) < (↑p0.done.length:Int)):=zF (wAo bj)
 replace bj:=zF bj
 have cO:Hid (w64 ((↑k7:Int) + 1)=(↑(k7 + 1):Int)):=zF (by have h1:=bl.out;have h2:=bs.out;rw [wAT] <;> omega)
 refine sR fL1 Z (oR Z (zU Z ak ay) (eN (zG (cT Z bs (kN (bnK dh fun dq di cV=>CK.cut (fun σ_ w_=>∃ (U_:PHeap),σ_ 0=.pointer (some ⟨a7,0,none⟩)/\σ_ 2=jV p2/\σ_ 3=jV p3/\σ_ 9=jV dq/\σ_ 15=.slice az p0.done.length aW/\σ_ 16=jV (↑p0.done.length:Int)/\σ_ 17=jV (↑k7:Int)/\PHeap.Le ao U_/\sW w U U_ [] w_) ?_ ?_))))))
 refine zT (sR fL5 Z (oM Z ak (bnK di fun dr bt cW=>?_)))
 have cj:=cK.le aX
 have q:=cj.el (fun _=>rfl) (wAR bt)
 obtain ⟨dB,dN,ct,cC⟩:=q
 refine zh rfl rfl rfl rfl (fun _=>zo rfl ax ct ak zA zD (wAj bt)) (ZO rfl rfl rfl rfl (bz.ldC (f:=0) cC (v:=jV dr) rfl rfl zP rfl) rfl (yg rfl rfl rfl rfl rfl rfl (yg rfl rfl rfl rfl rfl rfl (eN (zG (ZY ZP [3,3,3,1,3,3,1,3,3,3,3,3,3,3,3,3,3,3,3,1,3,3,1,3,3,3,1,3,3,3,3,3,3,3,3,3,3,3,1,3,3,1,3,3,3,3,1,3,3,1,3,3,3] fL53 (by kernel_rfl) ?_))))))
 have af:=bz.drew
 generalize hw_W44:({ br with drawn:=br.drawn + 1 }:World)=dy at af ⊢
 refine oM Z aj (oR Z (ZX Z Z) (oR Z (zJ Z Z Za Z Zt) ?_))
 have a8:=bA.le aX
 refine oL Z (af.ldC (f:=4) a8 (v:=.slice bn p0.out.length bq) Z Z yc Z) (oM Z Z (bnK cW fun dt bu cX=>?_))
 have cm:=cL.le aX
 have q:=cm.el (fun _=>rfl) (wAR bu)
 obtain ⟨dC,dO,cu,cD⟩:=q
 refine oR Z (zo Z Z cu Z ZQ yJ (wAj bu)) (oL Z (af.ldC (f:=0) cD (v:=.bool dt) Z Z Tryz.isAgg4 Z) (oR Z (ZN Z Z) (oM Z Z (ifc cX ?_ ?_))))
 intro ah cY
 refine zd Z Z Z (zN Z Z (nC ah.out) Z) (zd Z Z Z (zN Z Z (nC ah.out) Z) (zd Z Z Z (zN Z Z (nC ah.out) Z) (zd Z Z Z (zN Z Z (nC ah.out) Z) (oR Z (zZ Z (nC ah.out) Z) (oM Z Z (oN Z (oN Z (oN Z (oN Z (oN Z (oN Z (oN Z (oN Z (oN Z (oN Z (oN Z (oN Z (oN Z (oN Z (oR Z (zZ Z Z Z) (oM Z Z (oN Z (oN Z (oN Z (zd Z Z Z (wAU Z Z Z) (zd Z Z Z (wAU Z Z Z) (zd Z Z Z (wAU Z Z Z) (zd Z Z Z (wAU Z Z Z) (zd Z Z Z (wAU Z Z Z) (zd Z Z Z (wAU Z Z Z) (zd Z Z Z (wAU Z Z Z) (zd Z Z Z (wAU Z Z Z) (zd Z Z Z (wAU Z Z Z) (zd Z Z Z (wAU Z Z Z) (zd Z Z Z (wAU Z Z Z) (zd Z Z Z (wAU Z Z Z) (zd Z Z Z (wAU Z Z Z) (zd Z Z Z (wAU Z Z Z) (zd Z Z Z (wAU Z Z Z) (zd Z Z Z (wAU Z Z Z) (zd Z Z Z (wAU Z Z Z) (oN Z (oR Z (zZ Z Z Z) (eN (zm Z (ZV (zb ?_)))))))))))))))))))))))))))))))))))))))))))))))
 cases cY
 exact zI ⟨Z,⟨ao,aj,av,aw,ap,ax,ay,ak,(zH _),af⟩⟩
 intro ah cZ
 refine zj Z Z Z (zQ Z Z (nF (ah.out))) Z Z (zj Z Z Z (zQ Z Z (nF (ah.out))) Z av (zh Z Z Z (zQ Z Z (nF (ah.out))) (fun _=>zX Z Z Z) (zh Z Z Z (zQ Z Z (nF (ah.out))) (fun _=>yo Z Z Z) (oR Z (zV Z (nF (ah.out)) Z) (oM Z Z (ifc cZ ?_ ?_))))))
 intro ac c6
 refine zj Z Z Z (wT Z ac) Z aj (rU Z (wT Z ac) (ZX Z Z) (rU Z (wT Z ac) (zJ Z Z Za Z Zc) (rU Z (wT Z ac) (zJ Z Z ZK Z Zk) (ZO Z Z Z (wT Z ac) (af.ldC (f:=2) a8 (v:=.slice bm p0.Race.Times.length bp) Z Z Zy Z) Z (zj Z Z Z (wT Z ac) Z Z (bnK c6 fun bE bv c7=>?_))))))
 have co:=cJ.le aX
 have q:=co.el (wAR bv)
 obtain ⟨bH,dn,dQ,cw,bi,dg⟩:=q
 obtain ⟨bC,bD,rfl,cp⟩:=dg
 replace bi:Cl ao bH (dn + k7 * 1) [.slice bC bE.length bD]:=bi
 refine rU Z (wT Z ac) (zo Z Z cw Z zq zS (wAj bv)) (ZO Z Z Z (wT Z ac) (af.ldC (f:=0) bi (v:=.slice bC bE.length bD) Z Z zc Z) Z (zj Z Z Z (wT Z ac) Z Z (rU Z (wT Z ac) (Zx Z Z Z) (bnK c7 fun du bh c9=>?_))))
 have q:=cp.el (fun _=>rfl) (wAR bh)
 obtain ⟨dD,dP,cy,cE⟩:=q
 refine rU Z (wT Z ac) (yG Z Z cy Z zA zD (wEK bh) (wET bh)) (ZO Z Z Z (wT Z ac) (af.ldC (f:=0) cE (v:=jV du) Z Z zP Z) Z (zj Z Z Z (wT Z ac) Z aw (rU Z (wT Z ac) (yF Z Z Z) (oR Z (zV Z (Zj ac.out) Z) (oM Z Z (ifc c9 ?_ ?_))))))
 intro ag db
 refine zj Z Z Z (wT Z ag) Z ap (rU Z (wT Z ag) (zU Z Z Z) (zj Z Z Z (wT Z ag) Z Z (ifc db ?_ ?_)))
 intro aa dd
 refine oT Z aa (oT Z aa (oT Z aa (oT Z aa (oT Z aa (oT Z aa (oT Z aa (oT Z aa (oT Z aa (oT Z aa (oT Z aa (oT Z aa (oT Z aa (oT Z aa (oT Z aa (oT Z aa (oT Z aa (rU Z (wT Z ag) (zV Z (Zj aa.out) Z) (oR Z (zV Z (Zj ag.out) Z) (eN (ZF Z (ya fun au an=>?_)))))))))))))))))))))
 have bZ:au 0=.pointer (some ⟨a7,0,none⟩):=(an 0).trans aj
 have b4:au 2=jV p2:=(an 2).trans av
 have ca:au 3=jV p3:=(an 3).trans aw
 have dJ:au 9=jV x6:=(an 9).trans ap
 have cc:au 10=jV (↑k7:Int):=(an 10).trans rfl
 have cd:au 15=.slice az p0.done.length aW:=(an 15).trans ax
 have cg:au 16=jV (↑p0.done.length:Int):=(an 16).trans ay
 have ch:au 17=jV (↑k7:Int):=(an 17).trans ak
 clear an
 refine rR fL2 Z (oM Z cc (oA Z Z (zg (zb ?_))))
 cases dd
 exact zI ⟨Z,⟨ao,bZ,b4,ca,Z,cd,cg,ch,(zH _),af⟩⟩
 intro aa de
 refine zj Z Z Z (wF Z aa) Z aj (rU Z (wF Z aa) (ZX Z Z) (rU Z (wF Z aa) (zJ Z Z Za Z Zc) (rU Z (wF Z aa) (zJ Z Z ZK Z zS) (ZO Z Z Z (wF Z aa) (af.ldC (f:=1) a8 (v:=.slice ba p0.Race.Bibs.length bb) Z Z zc Z) Z (zj Z Z Z (wF Z aa) Z Z (bnK de fun dv bw df=>?_))))))
 have bx:=cI.le aX
 have q:=bx.el (fun _=>rfl) (wAR bw)
 obtain ⟨dz,dL,cq,cz⟩:=q
 refine rU Z (wF Z aa) (zo Z Z cq Z zA zD (wAj bw)) (ZO Z Z Z (wF Z aa) (af.ldC (f:=0) cz (v:=jV dv) Z Z zP Z) Z (zj Z Z Z (wF Z aa) Z aj (rU Z (wF Z aa) (ZX Z Z) (rU Z (wF Z aa) (zJ Z Z Za Z Zc) (rU Z (wF Z aa) (zJ Z Z ZK Z zS) (ZO Z Z Z (wF Z aa) (af.ldC (f:=1) a8 (v:=.slice ba p0.Race.Bibs.length bb) Z Z zc Z) Z (zj Z Z Z (wF Z aa) Z ap (bnK df fun dp bg cP=>?_))))))))
 have q:=bx.el (fun _=>rfl) (wAR bg)
 obtain ⟨dA,dM,cr,cA⟩:=q
 refine rU Z (wF Z aa) (yG Z Z cr Z zA zD (wEK bg) (wET bg)) (ZO Z Z Z (wF Z aa) (af.ldC (f:=0) cA (v:=jV dp) Z Z zP Z) Z (rU Z (wF Z aa) (zU Z Z Z) (rU Z (wT Z ag) (zZ Z (zw aa.out) Z) (oR Z (zV Z (Zj ag.out) Z) (eN (ifc cP ?_ ?_))))))
 intro bf cQ
 refine cT Z bf (ya fun aq am=>?_)
 have bJ:aq 0=.pointer (some ⟨a7,0,none⟩):=(am 0).trans aj
 have bK:aq 2=jV p2:=(am 2).trans av
 have bL:aq 3=jV p3:=(am 3).trans aw
 have dE:aq 9=jV x6:=(am 9).trans ap
 have bM:aq 10=jV (↑k7:Int):=(am 10).trans rfl
 have bN:aq 15=.slice az p0.done.length aW:=(am 15).trans ax
 have bO:aq 16=jV (↑p0.done.length:Int):=(am 16).trans ay
 have bP:aq 17=jV (↑k7:Int):=(am 17).trans ak
 clear am
 refine rR fL2 Z (oM Z bM (oA Z Z (zg (zb ?_))))
 cases cQ
 exact zI ⟨Z,⟨ao,bJ,bK,bL,Z,bN,bO,bP,(zH _),af⟩⟩
 intro bf cR
 refine cF Z bf (ZV (zb ?_))
 cases cR
 exact zI ⟨Z,⟨ao,aj,av,aw,ap,ax,ay,ak,(zH _),af⟩⟩
 intro ag cS
 refine oF Z ag (oF Z ag (oF Z ag (zd Z Z Z (wAU Z Z Z) (zd Z Z Z (wAU Z Z Z) (zd Z Z Z (wAU Z Z Z) (zd Z Z Z (wAU Z Z Z) (zd Z Z Z (wAU Z Z Z) (zd Z Z Z (wAU Z Z Z) (zd Z Z Z (wAU Z Z Z) (zd Z Z Z (wAU Z Z Z) (zd Z Z Z (wAU Z Z Z) (zd Z Z Z (wAU Z Z Z) (zd Z Z Z (wAU Z Z Z) (zd Z Z Z (wAU Z Z Z) (zd Z Z Z (wAU Z Z Z) (zd Z Z Z (wAU Z Z Z) (zd Z Z Z (wAU Z Z Z) (zd Z Z Z (wAU Z Z Z) (zd Z Z Z (wAU Z Z Z) (oF Z ag (oR Z (zZ Z (zw ag.out) Z) (eN (zm Z (ZV (zb ?_)))))))))))))))))))))))))
 cases cS
 exact zI ⟨Z,⟨ao,aj,av,aw,ap,ax,ay,ak,(zH _),af⟩⟩
 intro ac cU
 refine oF Z ac (oF Z ac (oF Z ac (oF Z ac (oF Z ac (oF Z ac (oF Z ac (oF Z ac (oF Z ac (oF Z ac (oF Z ac (oF Z ac (oF Z ac (oF Z ac (oR Z (zZ Z (zw ac.out) Z) (oM Z Z (oN Z (oN Z (oN Z (zd Z Z Z (wAU Z Z Z) (zd Z Z Z (wAU Z Z Z) (zd Z Z Z (wAU Z Z Z) (zd Z Z Z (wAU Z Z Z) (zd Z Z Z (wAU Z Z Z) (zd Z Z Z (wAU Z Z Z) (zd Z Z Z (wAU Z Z Z) (zd Z Z Z (wAU Z Z Z) (zd Z Z Z (wAU Z Z Z) (zd Z Z Z (wAU Z Z Z) (zd Z Z Z (wAU Z Z Z) (zd Z Z Z (wAU Z Z Z) (zd Z Z Z (wAU Z Z Z) (zd Z Z Z (wAU Z Z Z) (zd Z Z Z (wAU Z Z Z) (zd Z Z Z (wAU Z Z Z) (zd Z Z Z (wAU Z Z Z) (oN Z (oR Z (zZ Z Z Z) (eN (zm Z (ZV (zb ?_)))))))))))))))))))))))))))))))))))))))))
 cases cU
 exact zI ⟨Z,⟨ao,aj,av,aw,ap,ax,ay,ak,(zH _),af⟩⟩
 rintro dU dw ⟨bF,bQ,bR,bS,bT,bU,bV,bW,dm,cG⟩
 refine rR fL2 Z (oR Z (zn (zX Z bW Z) (congrArg (jV) cO.out)) (oM Z Z (zg ?_)))
 cases cV
 exact zI ⟨Z,⟨bF,Z,bQ,bR,bS,bT,bU,bV,(aX.trans dm),cG⟩⟩
 rintro dV dx ⟨bG,ci,dF,dG,dH,bX,dI,bY,dK,cH⟩
 have bI:Hid (¬ ((↑(((↑p0.done.length:Int):Int) - 0).toNat:Int) < (↑p0.done.length:Int))):=zF (wAa)
 refine sR fL1 Z (oR Z (zU Z ci bY) (eN (zG (cF Z bI (ZI (zY (zY (ZD (zI (sR fL2 Z (oM Z bX (oA Z Z (eN (zO ?_))))))))))))))
 have hE:=nA da;first | subst r | cases hE
 exact ⟨Z,_,(zr Z),bG,_,cH,Z,Z⟩
theorem wFs (p0:wAL) (ae:Nat) (az:Option Addr) (aW:Nat) (av:Option Addr) (aw:Nat) (af:Option Addr) (ag:Nat) (ap:Option Addr) (aq:Nat) (p1:Int) (w:World) (U:PHeap) (hS:St0 w U [.blk ae 165 [jV p0.Race.Laps,.slice az p0.Race.Bibs.length aW,.slice av p0.Race.Times.length aw,.slice af p0.done.length ag,.slice ap p0.out.length aq],.row af ag 3 1 (hM KL.encI p0.done),.row ap aq 4 1 (hM KL.encT p0.out)]) (cI:Sl U 1 az aW p0.Race.Bibs.length (hM KL.encI p0.Race.Bibs)) (bR:SlR U wDT av aw p0.Race.Times) {r:(List Int) × wAL} (hm:wBH p0 p1=some r):Gv Tryz.prog 90 [.pointer (some ⟨ae,0,none⟩),jV p1] w (wBU w [.blk ae 165 [jV p0.Race.Laps,.slice az p0.Race.Bibs.length aW,.slice av p0.Race.Times.length aw,.slice af p0.done.length ag,.slice ap p0.out.length aq],.row af ag 3 1 (hM KL.encI p0.done),.row ap aq 4 1 (hM KL.encT p0.out)] U (fun U_ L_ v=>∃ (A0:Option Addr) (c0:Nat) (b4:Option Addr) (cq:Nat) (ca:Option Addr) (cr:Nat) (cc:Option Addr) (ct:Nat) (cd:Option Addr) (cu:Nat),v=.slice A0 r.1.length c0/\L_=[.row A0 c0 3 1 (hM KL.encI r.1),.row cc ct 3 1 (hM KL.encI r.2.done),.row cd cu 4 1 (hM KL.encT r.2.out),.blk ae 165 [jV r.2.Race.Laps,.slice b4 r.2.Race.Bibs.length cq,.slice ca r.2.Race.Times.length cr,.slice cc r.2.done.length ct,.slice cd r.2.out.length cu]]/\Sl U_ 1 b4 cq r.2.Race.Bibs.length (hM KL.encI r.2.Race.Bibs)/\SlR U_ wDT ca cr r.2.Race.Times)):=by
 unfold wBH at hm
 refine Gv.of Tryz.func90 Z Tryz.ntmps90 Tryz.results90 Z (sR fL1 Z (oA Z Z (eN (zG (sR fL7 Z (oM Z Z (oR Z (ZX Z Z) (oR Z (zJ Z Z Za Z Zc) (oR Z (zJ Z Z ZK Z Zk) (oL Z (hS.ldB (j:=0) Z Z Z Zy (v:=.slice av p0.Race.Times.length aw) Z) (oR Z (za Z Z zq) (oM Z Z (eN (zT (bnK hm fun au eG eT=>?_)))))))))))))))
 have q:=wAs eG
 obtain ⟨bW,eJ⟩:=q
 replace bW:=zF bW
 let B0:Res:=.blk ae 165 [jV p0.Race.Laps,.slice az p0.Race.Bibs.length aW,.slice av p0.Race.Times.length aw,.slice af p0.done.length ag,.slice ap p0.out.length aq]
 let B1:Res:=.row ap aq 4 1 (hM KL.encT p0.out)
 let B2:Res:=.row af ag 3 1 (hM KL.encI p0.done)
 refine CK.forN' (fun ak l9 σ_ w_=>∃ (U_:PHeap),σ_ 17=jV (↑ak:Int)/\σ_ 0=.pointer (some ⟨ae,0,none⟩)/\σ_ 1=jV p1/\σ_ 15=.slice av p0.Race.Times.length aw/\σ_ 16=jV (↑p0.Race.Times.length:Int)/\PHeap.Le U U_/\SW w [B0,B2,B1] U U_ [.row af ag 3 1 (hM KL.encI l9),B1,.blk ae 165 [jV p0.Race.Laps,.slice az p0.Race.Bibs.length aW,.slice av p0.Race.Times.length aw,.slice af l9.length ag,.slice ap p0.out.length aq]] w_/\l9.length=p0.done.length) eJ ?_ ?_ ?_
 exact ⟨U,rfl,rfl,rfl,rfl,rfl,(zH _),(hS.pick [1,2,0] _ (by decide) rfl),rfl⟩
 rintro ak l9 gf gi fK bU ⟨a7,a8,bg,bp,bq,br,bv,ao,bD⟩ fz
 have cp:Hid ((↑ak:Int) < (↑p0.Race.Times.length:Int)):=zF (wAo bU)
 replace bU:=zF bU
 have bE:Hid (w64 ((↑ak:Int) + 1)=(↑(ak + 1):Int)):=zF (by have h1:=bW.out;have h2:=cp.out;rw [wAT] <;> omega)
 refine sR fL1 Z (oR Z (zU Z a8 br) (eN (zG (cT Z cp (kN (zG (zT (sR fL5 Z (oM Z a8 (bnK fz fun cP cz fc=>?_))))))))))
 have dN:=bR.le bv
 have q:=dN.el (wAR cz)
 obtain ⟨c9,fD,gb,dP,bQ,ft⟩:=q
 obtain ⟨cM,cN,rfl,dO⟩:=ft
 replace bQ:Cl a7 c9 (fD + ak * 1) [.slice cM cP.length cN]:=bQ
 refine oR Z (zo Z bq dP a8 zq zS (wAj cz)) (oL Z (ao.ldC (f:=0) bQ (v:=.slice cM cP.length cN) Z Z zc Z) (oA Z Z (oA Z Z (eN (sR fL8 Z (oM Z bg (oR Z (ZX Z Z) (oR Z (zJ Z Z Za Z zS) (oL Z (ao.ldB (j:=2) Z Z Z zc (v:=.slice af l9.length ag) Z) (oM Z Z (bnK fc fun _ aZ fd=>?_)))))))))))
 obtain ⟨fP,bi⟩:=ao.rowSome (j:=0) rfl (by rw [wAF (f:=KL.encI) (sz:=1) (fun _=>rfl) l9];have hz:=wAd aZ;omega)
 refine oR Z (zo Z Z bi Z zA zD (wAd aZ)) ?_
 have eP:=wCX (xs:=l9) (wAd aZ)
 refine ZO rfl rfl rfl rfl (ao.ldR (j:=0) rfl bi rfl rfl zP (wAp (sz:=1) (fun _=>rfl) _ _ 0 _ eP (by first | omega | rfl | simp) rfl)) rfl (yg rfl rfl rfl rfl rfl rfl (eN (sR fL22 rfl (zj rfl rfl rfl rfl rfl bg (zh rfl rfl rfl rfl (fun _=>ZX rfl rfl) (zh rfl rfl rfl rfl (fun _=>zJ rfl rfl Za rfl Zt) (ZO rfl rfl rfl rfl (ao.ldB (j:=2) rfl rfl rfl yc (v:=.slice ap p0.out.length aq) rfl) rfl (zj rfl rfl rfl rfl rfl rfl (bnK fd fun _ bO fe=>?_)))))))))
 obtain ⟨fQ,cD⟩:=ao.rowSome (j:=1) rfl (by rw [wAF (f:=KL.encT) (sz:=1) (fun _=>rfl) p0.out];have hz:=wAd bO;omega)
 refine oR Z (zo Z Z cD Z ZQ yJ (wAd bO)) ?_
 have eQ:=wCX (xs:=p0.out) (wAd bO)
 refine ZO rfl rfl rfl rfl (ao.ldR (j:=1) rfl cD rfl rfl Tryz.isAgg4 (wAp (sz:=1) (fun _=>rfl) _ _ 0 _ eQ (by first | omega | rfl | simp) rfl)) rfl (zh rfl rfl rfl rfl (fun _=>ZN rfl rfl) (zj rfl rfl rfl rfl rfl rfl (ifc fe ?_ ?_)))
 intro ay ff
 refine zd Z Z Z (zN Z Z (nC ay.out) Z) (zd Z Z Z (zN Z Z (nC ay.out) Z) (zd Z Z Z (zN Z Z (nC ay.out) Z) (zd Z Z Z (zN Z Z (nC ay.out) Z) (oR Z (zZ Z (nC ay.out) Z) (oM Z Z (oN Z (oN Z (oN Z (oN Z (oN Z (oN Z (oR Z (zZ Z Z Z) (eN (zm Z (ZV (zb (zI (rR fL2 Z (oR Z (zn (zX Z a8 Z) (congrArg (jV) bE.out)) (oM Z Z (zg ?_)))))))))))))))))))))
 cases ff
 exact zI ⟨Z,⟨a7,Z,bg,bp,bq,br,bv,ao,bD⟩⟩
 intro ay fg
 refine zj Z Z Z (zQ Z Z (nF (ay.out))) Z Z (zj Z Z Z (zQ Z Z (nF (ay.out))) Z Z (zh Z Z Z (zQ Z Z (nF (ay.out))) (fun _=>za Z Z zA) (zh Z Z Z (zQ Z Z (nF (ay.out))) (fun _=>zU Z Z Z) (oR Z (zV Z (nF (ay.out)) Z) (oM Z Z (ifc fg ?_ ?_))))))
 intro aj fh
 refine zj Z Z Z (wT Z aj) Z Z (zj Z Z Z (wT Z aj) Z Z (bnK fh fun fI bP fj=>?_))
 have q:=dO.el (fun _=>rfl) (wAR bP)
 obtain ⟨fR,fY,dQ,dR⟩:=q
 refine rU Z (wT Z aj) (yG Z Z dQ Z zA zD (wEK bP) (wET bP)) (ZO Z Z Z (wT Z aj) (ao.ldC (f:=0) dR (v:=jV fI) Z Z zP Z) Z (zj Z Z Z (wT Z aj) Z bp (rU Z (wT Z aj) (yF Z Z Z) (oR Z (zV Z (Zj aj.out) Z) (eN (ifc fj ?_ ?_))))))
 intro bK fk
 refine cT Z bK (ya fun bl bb=>?_)
 have cw:bl 0=.pointer (some ⟨ae,0,none⟩):=(bb 0).trans bg
 have dh:bl 1=jV p1:=(bb 1).trans bp
 have di:bl 5=jV (↑ak:Int):=(bb 5).trans rfl
 have dm:bl 15=.slice av p0.Race.Times.length aw:=(bb 15).trans bq
 have dn:bl 16=jV (↑p0.Race.Times.length:Int):=(bb 16).trans br
 have dp:bl 17=jV (↑ak:Int):=(bb 17).trans a8
 clear bb
 refine rR (wPE (.fx 9 .nil .stop)) Z (oM Z cw (oR Z (ZX Z Z) (oR Z (zJ Z Z Za Z zS) (oL Z (ao.ldB (j:=2) Z Z Z zc (v:=.slice af l9.length ag) Z) (oM Z di (oR Z (zo Z Z bi Z zA zD (wAd aZ)) ?_))))))
 have eR:=wCX (xs:=l9) (wAd aZ)
 refine ZO rfl rfl rfl rfl (ao.ldR (j:=0) rfl bi rfl rfl zP (wAp (sz:=1) (fun _=>rfl) _ _ 0 _ eR (by first | omega | rfl | simp) rfl)) rfl (zh rfl rfl rfl rfl (fun _=>zX rfl rfl rfl) (zh rfl rfl rfl rfl (fun _=>zo rfl rfl bi rfl zA zD (wAd aZ)) ?_))
 have eS:=wCX (xs:=l9) (wAd aZ)
 refine OKS.stR (j:=0) (vs:=[jV (w64 ((gd l9 ak) + 1))]) (cs':=hM KL.encI (nG l9 ak (w64 ((gd l9 ak) + 1)))) rfl rfl rfl rfl ao rfl bi rfl rfl rfl zD (by rw [wAF (f:=KL.encI) (sz:=1) (fun _=>rfl)];have hz:=wAd aZ;show _ + 1 <= _;first | omega | (simp only [nK];omega) | (simp only [nJ,nH,nI];omega)) rfl (wFP (sz:=1) (fo:=0) (fun _=>rfl) _ _ _ _ eS (by first | omega | (simp only [nK];omega) | (simp only [nJ,nH,nI];omega)) (zC rfl) rfl) rfl ?_
 intro ci eB
 let B3:Res:=.row af ag 3 1 (hM KL.encI (nG l9 ak (w64 ((gd l9 ak) + 1))))
 have eC:SW w [B0,B2,B1] U a7 [B3,B1,.blk ae 165 [jV p0.Race.Laps,.slice az p0.Race.Bibs.length aW,.slice av p0.Race.Times.length aw,.slice af l9.length ag,.slice ap p0.out.length aq]] ci:=eB
 have eD:SW w [B0,B2,B1] U a7 [B3,B1,.blk ae 165 [jV p0.Race.Laps,.slice az p0.Race.Bibs.length aW,.slice av p0.Race.Times.length aw,.slice af ((nG l9 ak (w64 ((gd l9 ak) + 1))).length) ag,.slice ap p0.out.length aq]] ci:=by simpa only [B0,B1,B2,B3,nD] using eC
 refine zg (zb (zI (rR fL2 Z (oR Z (zn (zX Z dp Z) (congrArg (jV) bE.out)) (oM Z Z (zg ?_))))))
 cases fk
 exact zI ⟨Z,⟨a7,Z,cw,dh,dm,dn,bv,eD,(nD.trans bD)⟩⟩
 intro bK fm
 refine cF Z bK (ZV (zb (zI (rR fL2 Z (oR Z (zn (zX Z a8 Z) (congrArg (jV) bE.out)) (oM Z Z (zg ?_)))))))
 cases fm
 exact zI ⟨Z,⟨a7,Z,bg,bp,bq,br,bv,ao,bD⟩⟩
 intro aj fq
 refine oF Z aj (oF Z aj (oF Z aj (oF Z aj (oF Z aj (oF Z aj (oR Z (zZ Z (zw aj.out) Z) (eN (zm Z (ZV (zb (zI (rR fL2 Z (oR Z (zn (zX Z a8 Z) (congrArg (jV) bE.out)) (oM Z Z (zg ?_)))))))))))))))
 cases fq
 exact zI ⟨Z,⟨a7,Z,bg,bp,bq,br,bv,ao,bD⟩⟩
 rintro gm fM ⟨ch,dt,cy,dq,fS,de,bG,cH,fW⟩
 have da:Hid (¬ ((↑(((↑p0.Race.Times.length:Int):Int) - 0).toNat:Int) < (↑p0.Race.Times.length:Int))):=zF (wAa)
 refine sR fL1 Z (oR Z (zU Z dt de) (eN (zG (cF Z da (ZI (zY (zY (ZD (zI (sR fL1 Z (oA Z Z (eN (zG (sR fL6 Z (oM Z cy (oR Z (ZX Z Z) (oR Z (zJ Z Z Za Z zS) (oL Z (cH.ldB (j:=2) Z Z Z zc (v:=.slice af au.length ag) Z) (oR Z (za Z Z zA) (oM Z Z (eN (zT (bnK eT fun gg eH eU=>?_)))))))))))))))))))))))
 have q:=wAs eH
 obtain ⟨bV,eI⟩:=q
 replace bV:=zF bV
 let B4:List Value:=[jV p0.Race.Laps,.slice az p0.Race.Bibs.length aW,.slice av p0.Race.Times.length aw,.slice af au.length ag,.slice ap p0.out.length aq]
 let B5:Res:=.row af ag 3 1 (hM KL.encI au)
 refine CK.forN' (fun ax bt σ_ w_=>∃ (U_:PHeap) (be:Option Addr) (bf:Nat),σ_ 66=jV (↑ax:Int)/\σ_ 0=.pointer (some ⟨ae,0,none⟩)/\σ_ 1=jV p1/\σ_ 8=.slice be bt.length bf/\σ_ 64=.slice af au.length ag/\σ_ 65=jV (↑au.length:Int)/\PHeap.Le ch U_/\SW w [B0,B2,B1] U U_ [B5,B1,.blk ae 165 B4,.row be bf 3 1 (hM KL.encI bt)] w_) eI ?_ ?_ ?_
 have dS:=cH.nilrow 3 1
 exact ⟨ch,none,0,rfl,cy,dq,rfl,rfl,rfl,(zH _),(dS.pick [1,2,3,0] _ (by decide) rfl)⟩
 rintro ax bt ge gh bx bT ⟨cR,be,bf,bh,bn,bA,bL,bB,bC,bu,ba⟩ fy
 have cm:Hid ((↑ax:Int) < (↑au.length:Int)):=zF (wAo bT)
 replace bT:=zF bT
 have bS:Hid (w64 ((↑ax:Int) + 1)=(↑(ax + 1):Int)):=zF (by have h1:=bV.out;have h2:=cm.out;rw [wAT] <;> omega)
 refine sR fL1 Z (oR Z (zU Z bh bC) (eN (zG (cT Z cm (kN (zG (zT (sR fL5 Z (oM Z bh (bnK fy fun _ bM eV=>?_))))))))))
 obtain ⟨fN,cA⟩:=ba.rowSome (j:=0) rfl (by rw [wAF (f:=KL.encI) (sz:=1) (fun _=>rfl) au];have hz:=wAd bM;omega)
 refine oR Z (zo Z bB cA bh zA zD (wAd bM)) ?_
 have eK:=wCX (xs:=au) (wAd bM)
 refine ZO rfl rfl rfl rfl (ba.ldR (j:=0) rfl cA rfl rfl zP (wAp (sz:=1) (fun _=>rfl) _ _ 0 _ eK (by first | omega | rfl | simp) rfl)) rfl (yg rfl rfl rfl rfl rfl rfl (yg rfl rfl rfl rfl rfl rfl (eN (sR (wPH (.fx 13 (.fl 14 (.fl 15 .nil)) .stop)) rfl (zj rfl rfl rfl rfl rfl bn (zh rfl rfl rfl rfl (fun _=>ZX rfl rfl) (zh rfl rfl rfl rfl (fun _=>zJ rfl rfl Za rfl Zt) (ZO rfl rfl rfl rfl (ba.ldB (j:=2) rfl rfl rfl yc (v:=.slice ap p0.out.length aq) rfl) rfl (zj rfl rfl rfl rfl rfl rfl (bnK eV fun _ bN eW=>?_))))))))))
 obtain ⟨fO,cC⟩:=ba.rowSome (j:=1) rfl (by rw [wAF (f:=KL.encT) (sz:=1) (fun _=>rfl) p0.out];have hz:=wAd bN;omega)
 refine oR Z (zo Z Z cC Z ZQ yJ (wAd bN)) ?_
 have eM:=wCX (xs:=p0.out) (wAd bN)
 refine ZO rfl rfl rfl rfl (ba.ldR (j:=1) rfl cC rfl rfl Tryz.isAgg4 (wAp (sz:=1) (fun _=>rfl) _ _ 0 _ eM (by first | omega | rfl | simp) rfl)) rfl (zh rfl rfl rfl rfl (fun _=>ZN rfl rfl) (zj rfl rfl rfl rfl rfl rfl (ifc eW ?_ ?_)))
 intro ai eX
 refine zd Z Z Z (zN Z Z (nC ai.out) Z) (zd Z Z Z (zN Z Z (nC ai.out) Z) (zd Z Z Z (zN Z Z (nC ai.out) Z) (zd Z Z Z (zN Z Z (nC ai.out) Z) (ZA Z Z Z (zN Z Z (nC ai.out) Z) (zd Z Z Z (zN Z Z (nC ai.out) Z) (oR Z (zZ Z (nC ai.out) Z) (eN (zm Z (ZV (zb (zI (rR fL2 Z (oR Z (zn (zX Z bh Z) (congrArg (jV) bS.out)) (oM Z Z (zg ?_)))))))))))))))
 cases eX
 exact zI ⟨Z,⟨cR,be,bf,Z,bn,bA,bL,bB,bC,bu,ba⟩⟩
 intro ai eY
 refine zj Z Z Z (zQ Z Z (nF (ai.out))) Z bn (zj Z Z Z (zQ Z Z (nF (ai.out))) Z Z (zj Z Z Z (zQ Z Z (nF (ai.out))) Z Z (zj Z Z Z (zQ Z Z (nF (ai.out))) Z bA ?_)))
 have q:=ba.freezeT (k:=0) (n:=au.length) rfl (wAF (f:=KL.encI) (sz:=1) (fun _=>rfl) au) (by decide)
 obtain ⟨cS,cJ,fu,dT,fE⟩:=q
 let B6:Res:=.row be bf 3 1 (hM KL.encI bt)
 have dU:SW w [B0,B2,B1] U cS [B1,.blk ae 165 B4,B6] bx:=dT
 have q:=dU.freezeT (k:=0) (n:=p0.out.length) rfl (wAF (f:=KL.encT) (sz:=1) (fun _=>rfl) p0.out) (by decide)
 obtain ⟨cU,bX,fw,dV,fG⟩:=q
 have dW:SW w [B0,B2,B1] U cU [.blk ae 165 B4,B6] bx:=dV
 have q:=dW.freezeTB (k:=0) rfl
 obtain ⟨bI,bF,bs,dX,fH⟩:=q
 replace bs:=Cl.of bs
 have dY:SW w [B0,B2,B1] U bI [B6] bx:=dX
 replace bs:Cl bI ae 0 B4:=bs
 have du:=cI.le bG
 have dv:=du.le bu
 have dw:=dv.le cJ
 have dx:=dw.le bX
 have dy:=dx.le bF
 have dz:=bR.le bG
 have dA:=dz.le bu
 have dB:=dA.le cJ
 have dC:=dB.le bX
 have dD:=dC.le bF
 have dE:=fu.le bX
 have dF:=dE.le bF
 have dG:=fw.le bF
 refine bnK eY fun gc dH eZ=>zL 0 rfl rfl rfl (zQ rfl rfl (nF (ai.out))) (zK rfl rfl Tryz.call91 (zB rfl (zB rfl (zB rfl (zB rfl zM)))) rfl) dY (fun hs=>wEk (⟨p0.Race,au,p0.out⟩:wAL) ae az aW av aw af ag ap aq (↑ax:Int) (gd au ax) p1 bx bI hs bs dy dD dF dG dH) (.inr rfl) ?_
 rintro cV fJ fZ bz fA dZ ⟨rfl,rfl⟩
 have d7:SW w [B0,B2,B1] U cV [B6] bz:=dZ
 have q:=fH _ _ _ fA d7
 obtain ⟨cW,fB,d8⟩:=q
 have d9:SW w [B0,B2,B1] U cW [.blk ae 165 B4,B6] bz:=d8
 have q:=fG _ _ _ fB d9
 obtain ⟨cX,fC,ea⟩:=q
 have eb:SW w [B0,B2,B1] U cX [B1,.blk ae 165 B4,B6] bz:=ea
 have q:=fE _ _ _ fC eb
 obtain ⟨bm,cK,ee⟩:=q
 have cE:SW w [B0,B2,B1] U bm [B5,B1,.blk ae 165 B4,B6] bz:=ee
 refine zh Z Z Z (zQ Z Z (nF (ai.out))) (fun _=>yo Z Z Z) (oR Z (zV Z (nF (ai.out)) Z) (eN (ifc eZ ?_ ?_)))
 intro bJ e8
 refine cT Z bJ (rR (.fl 0 (.fl 1 (.fx 2 (.fx 3 (.fl 4 .nil) .stop) .stop))) Z (oM Z bL (oM Z Z (zW (pv:=[(0,jV (↑ax:Int))]) (zs:=[jV 0]) (cs:=[jV (↑ax:Int)]) Z Z Z Z Z (wAC Z wAM) zA zD zt Z Z Z Z Z cE ?_))))
 intro cZ c7 eh
 let B7:Res:=.row (some ⟨c7,0,none⟩) 1 3 1 (hM KL.encI [(↑ax:Int)])
 have cG:SW w [B0,B2,B1] U bm [B7,B5,B1,.blk ae 165 B4,B6] cZ:=eh
 refine bnK e8 fun cO dI e9=>Zs (j:=4) (enc:=KL.encI) (xs:=bt) (ys:=[(↑ax:Int)]) (zs:=cO) rfl rfl rfl rfl rfl Zi wFA rfl rfl rfl rfl rfl rfl cG rfl rfl rfl (cG.srcR (j:=0) rfl (by decide) (wAF (f:=KL.encI) (sz:=1) (fun _=>rfl) [(↑ax:Int)])) (fun _=>rfl) (fun _=>rfl) dI rfl ?_
 intro bZ co c6 ep
 have ew:SW w [B0,B2,B1] U bm [B7,B5,B1,.blk ae 165 B4,.row bZ co 3 1 (hM KL.encI cO)] c6:=ep
 refine oA Z Z (zg (zb (zI (rR fL2 Z (oR Z (zn (zX Z bh Z) (congrArg (jV) bS.out)) (oM Z Z (zg ?_)))))))
 cases e9
 exact zI ⟨rfl,⟨bm,bZ,co,rfl,bn,bA,rfl,bB,bC,(bu.trans cK),(ew.pick [1,2,3,4] _ (by decide) rfl)⟩⟩
 intro bJ fb
 refine cF Z bJ (ZV (zb (zI (rR fL2 Z (oR Z (zn (zX Z bh Z) (congrArg (jV) bS.out)) (oM Z Z (zg ?_)))))))
 cases fb
 exact zI ⟨Z,⟨bm,be,bf,Z,bn,bA,bL,bB,bC,(bu.trans cK),cE⟩⟩
 rintro gj fL ⟨cY,cQ,db,dr,fT,fU,df,fV,dg,cL,ey⟩
 have dd:Hid (¬ ((↑(((↑au.length:Int):Int) - 0).toNat:Int) < (↑au.length:Int))):=zF (wAa)
 refine sR fL1 Z (oR Z (zU Z dr dg) (eN (zG (cF Z dd (ZI (zY (zY (ZD (zI (sR fL2 Z (oM Z df (oA Z Z (eN (zO ?_))))))))))))))
 have dJ:=cI.le bG
 have dK:=dJ.le cL
 have dL:=bR.le bG
 have dM:=dL.le cL
 cases eU
 exact ⟨rfl,_,(zr rfl),cY,_,(ey.pick [3,0,1,2] _ (by decide) rfl),cQ,db,az,aW,av,aw,af,ag,ap,aq,rfl,rfl,dK,dM⟩
end Go.Proofs.YtnbcoenjobdplaaGreat
namespace Go.Proofs.YtnbcoenjobdplaaGreat
open Go.KL
set_option maxHeartbeats 4000000
theorem wDh (p0:List wAH) (ac:Option Addr) (ae:Nat) (p1:((wAH × wAH)->Option Int)) (af:Value) (w:World) (U:PHeap) (hS:St ⟨w,[.row ac ae 65 4 (hM wAN p0)],U⟩ U [.row ac ae 65 4 (hM wAN p0)] w) (ah:FnOK Tryz.prog U af wOo wOp p1) (ai:∃ g cb,af=.func (.func g) #[] cb) {r:List wAH} (hm:wAw p0 p1=some r):Gv Tryz.prog 92 [.slice ac p0.length ae,af] w (wBU w [.row ac ae 65 4 (hM wAN p0)] U (fun U_ L_ v=>v=.tuple #[]/\L_=[.row ac ae 65 4 (hM wAN r)]/\r.length=p0.length)) :=
 wJG (sz:=4) (fun _=>rfl) (fun x v h=>List.all_eq_true.1 (show (wAN x).all (·.oneCell')=true from rfl) v h) (fun _ _ _=>rfl) (fun _ _ _ _ h=>h.1) (fun enc a1 a2 cf b g cb k1 k2 k3 d w h1 h2 h3 h4 h5 h6=>Go.Proofs.Tryz.slices_SortFunc_total_f92 4 Tryz.isAgg65 Tryz.sizeOf65 enc a1 a2 cf b g cb k1 k2 k3 d w h1 h2 h3 h4 h5 h6) (fun p c v w=>Go.Proofs.Tryz.slices_SortFunc_none_f92 (α:=Int) p c v w) hS ah (by decide) ai hm
theorem wFt (p0:Int) (w:World) (U:PHeap) (hS:St0 w U [])  {r:Bool} (hm:wCz p0=some r):Gv Tryz.prog 80 [jV p0] w (wBU w [] U (fun U_ L_ v=>v=.bool r/\L_=[])):=by
 unfold wCz at hm
 refine Gv.of Tryz.func80 Z Tryz.ntmps80 Tryz.results80 Z (sR fL1 Z (oA Z Z (eN (sR fL4 Z (oM Z Z (oM Z Z (oR Z (ZW Z Z Z) (oA Z Z (eN (zO ?_))))))))))
 first | (obtain rfl:=nA hm) | cases hm
 exact ⟨Z,_,(zr Z),U,_,hS,Z,Z⟩
theorem wCc (p0:Int) (p1:Int) (w:World) (U:PHeap) (hS:St0 w U [])  {r:Int} (hm:wAr p0 p1=some r):Gv Tryz.prog 54 [jV p0,jV p1] w (wBU w [] U (fun U_ L_ v=>v=jV r/\L_=[])):=by
 unfold wAr at hm
 refine Gv.of Tryz.func54 Z Tryz.ntmps54 Tryz.results54 Z (sR fL1 Z (oA Z Z (eN (sR gBk Z (oM Z Z (bnK hm fun x1 h2 a7=>zL 0 Z Z Z Z (zK Z Z Tryz.call80 (zB Z zM) Z) hS (fun hs=>wFt p0 w U hs h2) (.inr Z) ?_))))))
 rintro U4 L5 v6 W7 bi aw ⟨rfl,rfl⟩
 have au:sW w U U4 [] W7:=aw
 refine oA Z Z (eN (sR gBk Z (oM Z Z (bnK a7 fun bn ap ax=>zL 0 Z Z Z Z (zK Z Z Tryz.call80 (zB Z zM) Z) au (fun hs=>wFt p1 W7 U4 hs ap) (.inr Z) ?_))))
 rintro aa bf bj ao bh av ⟨rfl,rfl⟩
 have ac:sW w U aa [] ao:=av
 refine oA Z Z (eN (zG (sR fL1 Z (oM Z Z (eN (ifc ax ?_ ?_))))))
 intro ae ay
 refine ZF (congrArg nB ae.out) (zG (sR fL1 Z (oM Z Z (eN (ifc ay ?_ ?_)))))
 intro af az
 refine ZF (congrArg nB af.out) (sR fL1 Z (oA Z Z (eN (zO (zR (zR ?_))))))
 cases az
 exact ⟨Z,_,(zr Z),aa,_,ac,Z,Z⟩
 intro af aW
 refine zm (congrArg nB (nE.2 af.out)) (kN (sR fL1 Z (oA Z Z (eN (zO (zR ?_))))))
 cases aW
 exact ⟨Z,_,(zr Z),aa,_,ac,Z,Z⟩
 intro ae aX
 refine zm (congrArg nB (nE.2 ae.out)) (kN (zG (sR fL1 Z (oM Z Z (eN (ifc aX ?_ ?_))))))
 intro ag aY
 refine ZF (congrArg nB ag.out) (sR fL1 Z (oA Z Z (eN (zO (zR ?_)))))
 cases aY
 exact ⟨Z,_,(zr Z),aa,_,ac,Z,Z⟩
 intro ag aZ
 refine zm (congrArg nB (nE.2 ag.out)) (kN (zG (sR fL3 Z (oM Z Z (oM Z Z (oR Z (zU Z Z Z) (eN (ifc aZ ?_ ?_))))))))
 intro ah a8
 refine cT Z ah (sR fL1 Z (oA Z Z (eN (zO (zR ?_)))))
 cases a8
 exact ⟨Z,_,(zr Z),aa,_,ac,Z,Z⟩
 intro ah ba
 refine cF Z ah (kN (zG (sR fL3 Z (oM Z Z (oM Z Z (oR Z (yN Z Z Z) (eN (ifc ba ?_ ?_))))))))
 intro ai bb
 refine cT Z ai (sR fL1 Z (oA Z Z (eN (zO (zR ?_)))))
 cases bb
 exact ⟨Z,_,(zr Z),aa,_,ac,Z,Z⟩
 intro ai be
 refine cF Z ai (kN (sR fL1 Z (oA Z Z (eN (zO ?_)))))
 cases be
 exact ⟨Z,_,(zr Z),aa,_,ac,Z,Z⟩
theorem wFu (p0:List Int) (ak:Option Addr) (am:Nat) (w:World) (U:PHeap) (hS:St0 w U []) (bf:Sl U 1 ak am p0.length (hM KL.encI p0)) {r:Int} (hm:wCq p0=some r):Gv Tryz.prog 53 [.slice ak p0.length am] w (wBU w [] U (fun U_ L_ v=>v=jV r/\L_=[])):=by
 unfold wCq at hm
 refine Gv.of Tryz.func53 Z Tryz.ntmps53 Tryz.results53 Z (sR fL1 Z (oA Z Z (eN (sR fL1 Z (oA Z Z (eN (zG (sR fL3 Z (oM Z Z (oR Z (za Z Z zA) (oM Z Z (eN (zT ?_)))))))))))))
 have q:=wBe hm
 obtain ⟨r3,ah⟩:=q
 have q:=wBd ah
 obtain ⟨aj,bi⟩:=q
 replace aj:=zF aj
 refine yA (fun k2 _ σ_ w_=>∃ (U_:PHeap),σ_ 8=jV (↑k2:Int)/\σ_ 3=jV 0/\σ_ 6=.slice ak p0.length am/\σ_ 7=jV (↑p0.length:Int)/\PHeap.Le U U_/\sW w U U_ [] w_) bi ?_ ?_ ?_
 exact ⟨U,Z,Z,Z,Z,(zH _),hS⟩
 rintro k2 ⟨⟩ bA bC W8 ai ⟨an,af,ap,aq,au,ay,ag⟩ ax bg
 try dsimp only at ax
 have ao:Hid ((↑k2:Int) < (↑p0.length:Int)):=zF (wAo ai)
 replace ai:=zF ai
 have bj:Hid (w64 ((↑k2:Int) + 1)=(↑(k2 + 1):Int)):=zF (by have h1:=aj.out;have h2:=ao.out;rw [wAT] <;> omega)
 refine sR fL1 Z (oR Z (zU Z af au) (eN (zG (cT Z ao (kN (zG (zT (sR fL3 Z (bnK ax fun br av bl=>?_)))))))))
 have a8:=bf.le ay
 have q:=a8.el (fun _=>rfl) (wAR av)
 obtain ⟨bu,bx,ba,bb⟩:=q
 refine oR Z (zo Z aq ba af zA zD (wAj av)) (oL Z (ag.ldC (f:=0) bb (v:=jV br) Z Z zP Z) (oA Z Z (eN (sR fL3 Z (oM Z Z (oM Z ap (oR Z (ZW Z Z Z) (eN (ifc bl ?_ ?_)))))))))
 intro ae bm
 refine zm (zw (fun h=>h ae.out)) (ZV (zb (zI (rR fL2 Z (oR Z (zn (zX Z af Z) (congrArg (jV) bj.out)) (oM Z Z (zg ?_)))))))
 have q:=nA bm
 obtain rfl:=q
 exact zI ⟨Z,_,Z,⟨an,Z,ap,aq,au,ay,ag⟩⟩
 intro ae bn
 refine cT Z ae (sR fL2 Z (oM Z Z (oA Z Z (eN (zO (zf (zR ?_)))))))
 have q:=wAf bn
 obtain ⟨bq,bp,aX⟩:=q
 have q:=wCI hm ah (bg bq aX)
 obtain rfl:=q
 refine zR (zf (zR ?_))
 have hE:=nA bp;first | subst r | cases hE
 exact ⟨Z,_,(zr Z),an,_,ag,Z,Z⟩
 rintro ⟨⟩ bB bs ⟨az,a7,aY,bv,aZ,bw,be⟩ bh
 have aw:=wCm hm ah bh
 try dsimp only at aw
 have aW:Hid (¬ ((↑(((↑p0.length:Int):Int) - 0).toNat:Int) < (↑p0.length:Int))):=zF (wAa)
 refine sR fL1 Z (oR Z (zU Z a7 aZ) (eN (zG (cF Z aW (ZI (zY (zY (ZD (zI (sR fL2 Z (oM Z aY (oA Z Z (eN (zO ?_))))))))))))))
 cases aw
 exact ⟨Z,_,(zr Z),az,_,be,Z,Z⟩
theorem wIn (p0:wAH) (p1:wAH) (w:World) (U:PHeap) (hS:St0 w U [])  {r:Int} (hm:wBE p0 p1=some r):Gv Tryz.prog 93 [.agg #[jV p0.Bib,jV p0.Done,jV p0.Time,jV p0.By],.agg #[jV p1.Bib,jV p1.Done,jV p1.Time,jV p1.By]] w (wBU w [] U (fun U_ L_ v=>v=jV r/\L_=[])):=by
 unfold wBE at hm
 refine Gv.of Tryz.func93 Z Tryz.ntmps93 Tryz.results93 Z (sR gBj Z ?_)
 let B0:List Value:=[jV p0.Bib,jV p0.Done,jV p0.Time,jV p0.By]
 refine ZS (cs:=B0) rfl rfl rfl rfl rfl rfl (by rfl) hS ?_
 intro W1 b2 ba
 let B1:List Value:=[jV p1.Bib,jV p1.Done,jV p1.Time,jV p1.By]
 refine ZS (cs:=B1) rfl rfl rfl rfl rfl rfl (by rfl) ba ?_
 intro W5 b6 bl
 refine yg rfl rfl rfl rfl rfl rfl (eN (zG (ZY ZP [3,1,3,1,2,3,1,3,1,2,2,2,3] (wGc (wPN gBw)) (by kernel_rfl) ?_)))
 have ag:=bl.drew
 generalize hw_W10:({ W5 with drawn:=W5.drawn + 1 }:World)=ax at ag ⊢
 refine oR Z (zJ Z Z yR Z zD) (oL Z (ag.ldB (j:=1) Z Z Z zP (v:=jV p0.Time) Z) (oR Z (zJ Z Z yR Z zD) (oL Z (ag.ldB (j:=0) Z Z Z zP (v:=jV p1.Time) Z) (oR Z (zJ Z Z yR Z zD) (oL Z (ag.ldB (j:=1) Z Z Z zP (v:=jV p0.Bib) Z) (oR Z (zJ Z Z yR Z zD) (oL Z (ag.ldB (j:=0) Z Z Z zP (v:=jV p1.Bib) Z) (bnK hm fun ah aW bm=>zL 0 Z Z Z Z (zK Z Z Tryz.call54 (zB Z (zB Z zM)) Z) ag (fun hs=>wCc p0.Time p1.Time ax U hs aW) (.inr Z) ?_))))))))
 rintro an br bA au bv aZ ⟨rfl,rfl⟩
 have a7:sW w U an [.blk b6 65 B1,.blk b2 65 B0] au:=aZ
 refine bnK bm fun ai aX bn=>zL 0 Z Z Z Z (zK Z Z Tryz.call54 (zB Z (zB Z zM)) Z) a7 (fun hs=>wCc p0.Bib p1.Bib au an hs aX) (.inr Z) ?_
 rintro ao bs bB ay bw a8 ⟨rfl,rfl⟩
 have bb:sW w U ao [.blk b6 65 B1,.blk b2 65 B0] ay:=a8
 refine zW (pv:=[(0,jV ah),(1,jV ai)]) (zs:=[jV 0,jV 0]) (cs:=[jV ah,jV ai]) Z Z Z Z Z (wAC Z (wAC Z wAM)) zA zD zt Z Z Z Z Z bb ?_
 intro am aw be
 have bf:sW w U ao [.row (some ⟨aw,0,none⟩) 2 3 1 (hM KL.encI [ah,ai]),.blk b6 65 B1,.blk b2 65 B0] am:=be
 have q:=bf.freezeR (k:=0) (n:=[ah,ai].length) rfl (wAF (f:=KL.encI) (sz:=1) (fun _=>rfl) [ah,ai]) (by decide)
 obtain ⟨ap,bx,bq,bg⟩:=q
 have bh:sW w U ap [.blk b6 65 B1,.blk b2 65 B0] am:=bg
 refine bnK bn fun bD aY bp=>zL 0 Z Z Z Z (zK Z Z Tryz.call53 (zB Z zM) Z) bh (fun hs=>wFu [ah,ai] (some ⟨aw,0,none⟩) 2 am ap hs bq aY) (.inr Z) ?_
 rintro aq bt bC az bz bi ⟨rfl,rfl⟩
 have bj:sW w U aq [.blk b6 65 B1,.blk b2 65 B0] az:=bi
 refine oA Z Z (eN (zO ?_))
 have hE:=nA bp;first | subst r | cases hE
 exact ⟨rfl,_,(zr rfl),aq,_,(bj.pick [] _ (by decide) rfl),rfl,rfl⟩
theorem wHz (p0:wAP) (ai:Option Addr) (aj:Nat) (aq:Option Addr) (au:Nat) (w:World) (U:PHeap) (hS:St0 w U []) (ou:Sl U 1 ai aj p0.Bibs.length (hM KL.encI p0.Bibs)) (ov:SlR U wDT aq au p0.Times) {r:wAL × (List wAH)} (hm:wCv p0=some r):Gv Tryz.prog 57 [.agg #[jV p0.Laps,.slice ai p0.Bibs.length aj,.slice aq p0.Times.length au]] w (wBU w [] U (fun U_ L_ v=>∃ (b0:Nat) (A0p01:Option Addr) (c0p01:Nat) (A0p02:Option Addr) (c0p02:Nat) (A0p1:Option Addr) (c0p1:Nat) (A0p2:Option Addr) (c0p2:Nat) (A1:Option Addr) (c1:Nat),v=.tuple #[.pointer (some ⟨b0,0,none⟩),.slice A1 r.2.length c1]/\L_=[.blk b0 165 [jV r.1.Race.Laps,.slice A0p01 r.1.Race.Bibs.length c0p01,.slice A0p02 r.1.Race.Times.length c0p02,.slice A0p1 r.1.done.length c0p1,.slice A0p2 r.1.out.length c0p2],.row A0p1 c0p1 3 1 (hM KL.encI r.1.done),.row A0p2 c0p2 4 1 (hM KL.encT r.1.out),.row A1 c1 65 4 (hM wAN r.2)]/\Sl U_ 1 A0p01 c0p01 r.1.Race.Bibs.length (hM KL.encI r.1.Race.Bibs)/\SlR U_ wDT A0p02 c0p02 r.1.Race.Times)):=by
 unfold wCv at hm
 refine Go.KX.Gv.ofM Tryz.func57 Z Tryz.ntmps57 Tryz.results57 (zC Z) (sR gBm Z ?_)
 let B0:List Value:=[jV p0.Laps,.slice ai p0.Bibs.length aj,.slice aq p0.Times.length au]
 refine ZS (cs:=B0) rfl rfl rfl rfl rfl rfl (by rfl) hS ?_
 intro W1 b2 mU
 refine oA Z Z (oA Z Z (eN ?_))
 have q:=bnd hm
 obtain ⟨⟨l9,cN⟩,pb,gB⟩:=q
 try dsimp only at gB
 refine CK.cut (fun σ_ w_=>∃ (U_:PHeap) (b6:Nat) (b8:Nat) (bB:Option Addr) (bT:Nat) (bH:Option Addr) (bX:Nat),σ_ 1=.pointer (some ⟨b2,0,none⟩)/\σ_ 4=.pointer (some ⟨b6,0,none⟩)/\PHeap.Le U U_/\sW w U U_ [.blk b2 34 B0,.blk b6 136 [.pointer (some ⟨b8,0,none⟩)],.blk b8 165 [jV p0.Laps,.slice ai p0.Bibs.length aj,.slice aq p0.Times.length au,.slice bB l9.length bT,.slice bH cN.length bX],.row bB bT 3 1 (hM KL.encI l9),.row bH bX 4 1 (hM KL.encT cN)] w_) ?_ ?_
 refine bnK pb fun af dh o3=>bnK o3 fun ag di o5=>ZY ZP [1,3,1,3,2,3,1,3,2,3,2,2,0] (wGc (fC5_7 (.fx 4 (.fx 8 gBx (.fx 11 gBs .stop)) (.fx 8 (.fx 4 gBx (.fx 11 gBt .stop)) (.fx 11 (.fx 4 gBs (.fx 8 gBt .stop)) .stop))))) (by kernel_rfl) ?_
 have bz:=mU.drew
 generalize hw_W48:({ W1 with drawn:=W1.drawn + 1 }:World)=qg at bz ⊢
 refine ye (s:=.nil) (M:=fun σ_ w_=>∃ (U_:PHeap) (c9:Nat) (cC:Nat) (bI:Option Addr) (bY:Nat) (bJ:Option Addr) (bZ:Nat),σ_ 1=.pointer (some ⟨b2,0,none⟩)/\σ_ 4=.pointer (some ⟨c9,0,none⟩)/\σ_ 12=.agg B0.toArray/\σ_ 13=.pointer (some ⟨b2,1,none⟩)/\σ_ 14=.slice ai p0.Bibs.length aj/\σ_ 15=jV (↑p0.Bibs.length:Int)/\σ_ 16=.slice bI af.length bY/\σ_ 17=.pointer (some ⟨b2,1,none⟩)/\σ_ 18=.slice ai p0.Bibs.length aj/\σ_ 19=jV (↑p0.Bibs.length:Int)/\σ_ 20=.slice bJ ag.length bZ/\σ_ 21=.agg #[jV p0.Laps,.slice ai p0.Bibs.length aj,.slice aq p0.Times.length au,.slice bI af.length bY,.slice bJ ag.length bZ]/\σ_ 22=.pointer (some ⟨cC,0,none⟩)/\PHeap.Le U U_/\sW w U U_ [.blk b2 34 B0,.blk c9 136 [.pointer (some ⟨cC,0,none⟩)],.blk cC 165 [jV p0.Laps,.slice ai p0.Bibs.length aj,.slice aq p0.Times.length au,.slice bI af.length bY,.slice bJ ag.length bZ],.row bI bY 3 1 (hM KL.encI af),.row bJ bZ 4 1 (hM KL.encT ag)] w_) ?_ fun pd=>?_
 rintro q9 pW ⟨ic,c9,cC,bI,bY,bJ,bZ,iY,iZ,qv,qw,qx,qy,qz,qA,qB,qC,qD,qE,qF,pn,mM⟩
 refine zg ?_
 have gh:=nA o5
 simp only [Prod.mk.injEq] at gh
 obtain ⟨lX,lY⟩:=gh
 subst lX
 subst lY
 exact zI ⟨Z,⟨ic,c9,cC,bI,bY,bJ,bZ,iY,iZ,pn,mM⟩⟩
 refine ye (s:=.fx 12 .nil .stop) (M:=fun σ_ w_=>∃ (U_:PHeap) (cD:Nat) (bh:Option Addr) (bq:Nat) (bi:Option Addr) (br:Nat) (bQ:Nat),σ_ 1=.pointer (some ⟨b2,0,none⟩)/\σ_ 4=.pointer (some ⟨cD,0,none⟩)/\σ_ 12=.agg B0.toArray/\σ_ 13=.pointer (some ⟨b2,1,none⟩)/\σ_ 14=.slice ai p0.Bibs.length aj/\σ_ 15=jV (↑p0.Bibs.length:Int)/\σ_ 16=.slice bh af.length bq/\σ_ 17=.pointer (some ⟨b2,1,none⟩)/\σ_ 18=.slice ai p0.Bibs.length aj/\σ_ 19=jV (↑p0.Bibs.length:Int)/\σ_ 20=.slice bi ag.length br/\σ_ 21=.agg #[jV p0.Laps,.slice ai p0.Bibs.length aj,.slice aq p0.Times.length au,.slice bh af.length bq,.slice bi ag.length br]/\σ_ 22=.pointer (some ⟨bQ,0,none⟩)/\PHeap.Le U U_/\sW w U U_ [.blk b2 34 B0,.blk cD 136 [.pointer none],.row bh bq 3 1 (hM KL.encI af),.row bi br 4 1 (hM KL.encT ag),.blk bQ 165 [jV p0.Laps,.slice ai p0.Bibs.length aj,.slice aq p0.Times.length au,.slice bh af.length bq,.slice bi ag.length br]] w_) ?_ fun eC=>?_
 rintro rc pX ⟨eY,cD,bh,bq,bi,br,bQ,i6,fJ,i7,i8,i9,ja,jb,jc,jd,je,jf,jg,fK,po,mN⟩
 let B1:List Value:=[.pointer (some ⟨bQ,0,none⟩)]
 refine zu (j:=1) (vs:=B1) Z Z Z Z mN Z fJ fK Z Tryz.sizeOf136 (zC Z) Z Z Z ?_
 intro iq mO
 have mP:sW w U eY [.blk b2 34 B0,.blk cD 136 B1,.row bh bq 3 1 (hM KL.encI af),.row bi br 4 1 (hM KL.encT ag),.blk bQ 165 [jV p0.Laps,.slice ai p0.Bibs.length aj,.slice aq p0.Times.length au,.slice bh af.length bq,.slice bi ag.length br]] iq:=mO
 exact pd _ _ ⟨eY,cD,bQ,bh,bq,bi,br,i6,fJ,i7,i8,i9,ja,jb,jc,jd,je,jf,jg,fK,po,(mP.pick [0,1,4,2,3] _ (by decide) rfl)⟩
 refine ye (s:=gBg) (M:=fun σ_ w_=>∃ (U_:PHeap) (da:Nat) (bK:Option Addr) (b4:Nat) (bL:Option Addr) (ca:Nat),σ_ 1=.pointer (some ⟨b2,0,none⟩)/\σ_ 4=.pointer (some ⟨da,0,none⟩)/\σ_ 12=.agg B0.toArray/\σ_ 13=.pointer (some ⟨b2,1,none⟩)/\σ_ 14=.slice ai p0.Bibs.length aj/\σ_ 15=jV (↑p0.Bibs.length:Int)/\σ_ 16=.slice bK af.length b4/\σ_ 17=.pointer (some ⟨b2,1,none⟩)/\σ_ 18=.slice ai p0.Bibs.length aj/\σ_ 19=jV (↑p0.Bibs.length:Int)/\σ_ 20=.slice bL ag.length ca/\σ_ 21=.agg #[jV p0.Laps,.slice ai p0.Bibs.length aj,.slice aq p0.Times.length au,.slice bK af.length b4,.slice bL ag.length ca]/\PHeap.Le U U_/\sW w U U_ [.blk b2 34 B0,.blk da 136 [.pointer none],.row bK b4 3 1 (hM KL.encI af),.row bL ca 4 1 (hM KL.encT ag)] w_) ?_ fun pe=>?_
 rintro rd pY ⟨ie,da,bK,b4,bL,ca,jh,ji,jj,jk,jl,jm,jo,jp,jq,jr,jt,fL,pp,mQ⟩
 refine ZS (cs:=[jV p0.Laps,.slice ai p0.Bibs.length aj,.slice aq p0.Times.length au,.slice bK af.length b4,.slice bL ag.length ca]) rfl rfl rfl rfl rfl fL (by rfl) mQ ?_
 intro pZ iE mR
 exact eC _ _ ⟨ie,da,bK,b4,bL,ca,iE,jh,ji,jj,jk,jl,jm,jo,jp,jq,jr,jt,fL,rfl,pp,(mR.pick [1,2,3,4,0] _ (by decide) rfl)⟩
 refine ye (s:=gBf) (M:=fun σ_ w_=>∃ (U_:PHeap) (bM:Option Addr) (cc:Nat) (bN:Option Addr) (cd:Nat) (db:Nat),σ_ 1=.pointer (some ⟨b2,0,none⟩)/\σ_ 12=.agg B0.toArray/\σ_ 13=.pointer (some ⟨b2,1,none⟩)/\σ_ 14=.slice ai p0.Bibs.length aj/\σ_ 15=jV (↑p0.Bibs.length:Int)/\σ_ 16=.slice bM af.length cc/\σ_ 17=.pointer (some ⟨b2,1,none⟩)/\σ_ 18=.slice ai p0.Bibs.length aj/\σ_ 19=jV (↑p0.Bibs.length:Int)/\σ_ 20=.slice bN ag.length cd/\σ_ 21=.agg #[jV p0.Laps,.slice ai p0.Bibs.length aj,.slice aq p0.Times.length au,.slice bM af.length cc,.slice bN ag.length cd]/\σ_ 22=.pointer (some ⟨db,0,none⟩)/\PHeap.Le U U_/\sW w U U_ [.blk b2 34 B0,.row bM cc 3 1 (hM KL.encI af),.row bN cd 4 1 (hM KL.encT ag),.blk db 165 [jV p0.Laps,.slice ai p0.Bibs.length aj,.slice aq p0.Times.length au,.slice bM af.length cc,.slice bN ag.length cd]] w_) ?_ fun pf=>?_
 rintro re p6 ⟨ig,bM,cc,bN,cd,db,ju,jv,jw,jx,jy,jz,jA,jB,jC,jD,jE,jF,pq,mS⟩
 refine zz (cs:=[.pointer none]) Z Z Z Z Z Tryz.zeroValue136 Z mS ?_
 intro p7 iF mT
 exact eC _ _ ⟨ig,iF,bM,cc,bN,cd,db,ju,rfl,jv,jw,jx,jy,jz,jA,jB,jC,jD,jE,jF,pq,(mT.pick [1,0,2,3,4] _ (by decide) rfl)⟩
 refine ye (s:=.fl 9 gBg) (M:=fun σ_ w_=>∃ (U_:PHeap) (dd:Nat) (bO:Option Addr) (cg:Nat) (bP:Option Addr) (ch:Nat),σ_ 1=.pointer (some ⟨b2,0,none⟩)/\σ_ 4=.pointer (some ⟨dd,0,none⟩)/\σ_ 12=.agg B0.toArray/\σ_ 13=.pointer (some ⟨b2,1,none⟩)/\σ_ 14=.slice ai p0.Bibs.length aj/\σ_ 15=jV (↑p0.Bibs.length:Int)/\σ_ 16=.slice bO af.length cg/\σ_ 17=.pointer (some ⟨b2,1,none⟩)/\σ_ 18=.slice ai p0.Bibs.length aj/\σ_ 19=jV (↑p0.Bibs.length:Int)/\σ_ 20=.slice bP ag.length ch/\PHeap.Le U U_/\sW w U U_ [.blk b2 34 B0,.blk dd 136 [.pointer none],.row bO cg 3 1 (hM KL.encI af),.row bP ch 4 1 (hM KL.encT ag)] w_) ?_ fun gC=>?_
 rintro rf p8 ⟨ii,dd,bO,cg,bP,ch,jG,jH,fM,jI,jJ,jK,fN,jL,jM,jN,fO,pt,mV⟩
 let B2:List Value:=[jV p0.Laps,.slice ai p0.Bibs.length aj,.slice aq p0.Times.length au,.slice bO af.length cg,.slice bP ag.length ch]
 refine zh rfl rfl rfl rfl (fun _=>ZH (pv:=[(0,.agg B0.toArray),(1,.slice bO af.length cg),(2,.slice bP ag.length ch)]) (z:=[jV 0,.slice none 0 0,.slice none 0 0,.slice none 0 0,.slice none 0 0]) (cs:=B2) rfl (wAC fM (wAC fN (wAC fO wAM))) Tryz.zeroValue165 wJK rfl rfl) (ZS (cs:=B2) rfl rfl rfl rfl rfl rfl (by rfl) mV ?_)
 intro p9 iG mW
 exact eC _ _ ⟨ii,dd,bO,cg,bP,ch,iG,jG,jH,fM,jI,jJ,jK,fN,jL,jM,jN,fO,rfl,rfl,pt,(mW.pick [1,2,3,4,0] _ (by decide) rfl)⟩
 refine ye (s:=gBt) (M:=fun σ_ w_=>∃ (U_:PHeap) (cE:Nat) (ct:Option Addr) (cJ:Nat),σ_ 1=.pointer (some ⟨b2,0,none⟩)/\σ_ 4=.pointer (some ⟨cE,0,none⟩)/\σ_ 12=.agg B0.toArray/\σ_ 13=.pointer (some ⟨b2,1,none⟩)/\σ_ 14=.slice ai p0.Bibs.length aj/\σ_ 15=jV (↑p0.Bibs.length:Int)/\σ_ 17=.pointer (some ⟨b2,1,none⟩)/\σ_ 18=.slice ai p0.Bibs.length aj/\σ_ 19=jV (↑p0.Bibs.length:Int)/\σ_ 20=.slice ct ag.length cJ/\PHeap.Le U U_/\sW w U U_ [.blk b2 34 B0,.blk cE 136 [.pointer none],.row ct cJ 4 1 (hM KL.encT ag)] w_) ?_ fun gD=>?_
 rintro rg qa ⟨eZ,cE,ct,cJ,jO,jP,jQ,jR,jS,dT,jT,jU,jW,jX,pu,mX⟩
 refine yp (enc:=KL.encI) (z:=(0:Int)) (v:=jV 0) Z Z Z Z Z (wDF zA) wFA Z Z Z Z dT dT dh mX ?_
 intro ir fh mY
 have mZ:sW w U eZ [.row (some ⟨fh,0,none⟩) af.length 3 1 (hM KL.encI af),.blk b2 34 B0,.blk cE 136 [.pointer none],.row ct cJ 4 1 (hM KL.encT ag)] ir:=mY
 exact gC _ _ ⟨eZ,cE,(some ⟨fh,0,none⟩),af.length,ct,cJ,jO,jP,jQ,jR,jS,dT,rfl,jT,jU,jW,jX,pu,(mZ.pick [1,2,0,3] _ (by decide) rfl)⟩
 refine ye (s:=gBs) (M:=fun σ_ w_=>∃ (U_:PHeap) (cG:Nat) (cu:Option Addr) (cK:Nat),σ_ 1=.pointer (some ⟨b2,0,none⟩)/\σ_ 4=.pointer (some ⟨cG,0,none⟩)/\σ_ 12=.agg B0.toArray/\σ_ 13=.pointer (some ⟨b2,1,none⟩)/\σ_ 14=.slice ai p0.Bibs.length aj/\σ_ 15=jV (↑p0.Bibs.length:Int)/\σ_ 16=.slice cu af.length cK/\σ_ 17=.pointer (some ⟨b2,1,none⟩)/\σ_ 18=.slice ai p0.Bibs.length aj/\σ_ 19=jV (↑p0.Bibs.length:Int)/\PHeap.Le U U_/\sW w U U_ [.blk b2 34 B0,.blk cG 136 [.pointer none],.row cu cK 3 1 (hM KL.encI af)] w_) ?_ fun gE=>?_
 rintro rh qb ⟨e8,cG,cu,cK,jY,jZ,j4,j5,j6,j7,j8,j9,k5,dU,py,m4⟩
 refine yp (enc:=KL.encT) (z:=false) (v:=.bool false) Z Z Z Z Z (wDF ZQ) wJy Z Z Z Z dU dU di m4 ?_
 intro it fj m5
 have m6:sW w U e8 [.row (some ⟨fj,0,none⟩) ag.length 4 1 (hM KL.encT ag),.blk b2 34 B0,.blk cG 136 [.pointer none],.row cu cK 3 1 (hM KL.encI af)] it:=m5
 exact gC _ _ ⟨e8,cG,cu,cK,(some ⟨fj,0,none⟩),ag.length,jY,jZ,j4,j5,j6,j7,j8,j9,k5,dU,rfl,py,(m6.pick [1,2,3,0] _ (by decide) rfl)⟩
 refine ye (s:=gBx) (M:=fun σ_ w_=>∃ (U_:PHeap) (bt:Option Addr) (bv:Nat) (bu:Option Addr) (bw:Nat),σ_ 1=.pointer (some ⟨b2,0,none⟩)/\σ_ 12=.agg B0.toArray/\σ_ 13=.pointer (some ⟨b2,1,none⟩)/\σ_ 14=.slice ai p0.Bibs.length aj/\σ_ 15=jV (↑p0.Bibs.length:Int)/\σ_ 16=.slice bt af.length bv/\σ_ 17=.pointer (some ⟨b2,1,none⟩)/\σ_ 18=.slice ai p0.Bibs.length aj/\σ_ 19=jV (↑p0.Bibs.length:Int)/\σ_ 20=.slice bu ag.length bw/\PHeap.Le U U_/\sW w U U_ [.blk b2 34 B0,.row bt bv 3 1 (hM KL.encI af),.row bu bw 4 1 (hM KL.encT ag)] w_) ?_ fun gF=>?_
 rintro ri qc ⟨e9,bt,bv,bu,bw,fP,dV,fQ,fR,fS,dW,fT,fU,fV,dX,gM,gr⟩
 let B3:List Value:=[jV p0.Laps,.slice ai p0.Bibs.length aj,.slice aq p0.Times.length au,.slice bt af.length bv,.slice bu ag.length bw]
 refine oR Z (ZH (pv:=[(0,.agg B0.toArray),(1,.slice bt af.length bv),(2,.slice bu ag.length bw)]) (z:=[jV 0,.slice none 0 0,.slice none 0 0,.slice none 0 0,.slice none 0 0]) (cs:=B3) Z (wAC dV (wAC dW (wAC dX wAM))) Tryz.zeroValue165 wJK Z Z) (yO ?_ ?_)
 refine ZS (cs:=B3) rfl rfl rfl rfl rfl rfl (by rfl) gr ?_
 intro qd iH m7
 exact pf _ _ ⟨e9,bt,bv,bu,bw,iH,fP,dV,fQ,fR,fS,dW,fT,fU,fV,dX,rfl,rfl,gM,(m7.pick [1,2,3,0] _ (by decide) rfl)⟩
 refine zz (cs:=[.pointer none]) Z Z Z Z Z Tryz.zeroValue136 Z gr ?_
 intro qe iI m8
 exact pe _ _ ⟨e9,iI,bt,bv,bu,bw,fP,rfl,dV,fQ,fR,fS,dW,fT,fU,fV,dX,rfl,gM,(m8.pick [1,0,2,3] _ (by decide) rfl)⟩
 refine oL Z (bz.ldBA (j:=0) Z Z Z yH Zc (vs:=B0) Z Z) (oR Z (zJ Z Z ZK Z zS) (oL Z (bz.ldB (j:=0) Z Z Z zc (v:=.slice ai p0.Bibs.length aj) Z) (oR Z (za Z Z zA) (oR Z (zJ Z Z ZK Z zS) (oL Z (bz.ldB (j:=0) Z Z Z zc (v:=.slice ai p0.Bibs.length aj) Z) (oR Z (za Z Z zA) (yO ?_ ?_)))))))
 refine yp (enc:=KL.encI) (z:=(0:Int)) (v:=jV 0) Z Z Z Z Z (wDF zA) wFA Z Z Z Z Z Z dh bz ?_
 intro iu dM m9
 let B4:Res:=.row (some ⟨dM,0,none⟩) af.length 3 1 (hM KL.encI af)
 have gu:sW w U U [B4,.blk b2 34 B0] iu:=m9
 refine yO ?_ ?_
 refine yp (enc:=KL.encT) (z:=false) (v:=.bool false) Z Z Z Z Z (wDF ZQ) wJy Z Z Z Z Z Z di gu ?_
 intro iv fk n2
 have n3:sW w U U [.row (some ⟨fk,0,none⟩) ag.length 4 1 (hM KL.encT ag),B4,.blk b2 34 B0] iv:=n2
 exact gF _ _ ⟨U,(some ⟨dM,0,none⟩),af.length,(some ⟨fk,0,none⟩),ag.length,rfl,rfl,rfl,rfl,rfl,rfl,rfl,rfl,rfl,rfl,(zH _),(n3.pick [2,1,0] _ (by decide) rfl)⟩
 refine zz (cs:=[.pointer none]) Z Z Z Z Z Tryz.zeroValue136 Z gu ?_
 intro qf iJ n4
 exact gE _ _ ⟨U,iJ,(some ⟨dM,0,none⟩),af.length,rfl,rfl,rfl,rfl,rfl,rfl,rfl,rfl,rfl,rfl,(zH _),(n4.pick [2,0,1] _ (by decide) rfl)⟩
 refine yO ?_ ?_
 refine yp (enc:=KL.encT) (z:=false) (v:=.bool false) Z Z Z Z Z (wDF ZQ) wJy Z Z Z Z Z Z di bz ?_
 intro iw dN n5
 let B5:Res:=.row (some ⟨dN,0,none⟩) ag.length 4 1 (hM KL.encT ag)
 have gv:sW w U U [B5,.blk b2 34 B0] iw:=n5
 refine yO ?_ ?_
 refine yp (enc:=KL.encI) (z:=(0:Int)) (v:=jV 0) Z Z Z Z Z (wDF zA) wFA Z Z Z Z Z Z dh gv ?_
 intro iy fm n7
 have n8:sW w U U [.row (some ⟨fm,0,none⟩) af.length 3 1 (hM KL.encI af),B5,.blk b2 34 B0] iy:=n7
 exact gF _ _ ⟨U,(some ⟨fm,0,none⟩),af.length,(some ⟨dN,0,none⟩),ag.length,rfl,rfl,rfl,rfl,rfl,rfl,rfl,rfl,rfl,rfl,(zH _),(n8.pick [2,0,1] _ (by decide) rfl)⟩
 refine zz (cs:=[.pointer none]) Z Z Z Z Z Tryz.zeroValue136 Z gv ?_
 intro qh iK n9
 exact gD _ _ ⟨U,iK,(some ⟨dN,0,none⟩),ag.length,rfl,rfl,rfl,rfl,rfl,rfl,rfl,rfl,rfl,rfl,(zH _),(n9.pick [2,0,1] _ (by decide) rfl)⟩
 refine zz (cs:=[.pointer none]) Z Z Z Z Z Tryz.zeroValue136 Z bz ?_
 intro qi de gw
 refine yO ?_ ?_
 refine yp (enc:=KL.encI) (z:=(0:Int)) (v:=jV 0) Z Z Z Z Z (wDF zA) wFA Z Z Z Z Z Z dh gw ?_
 intro iz fq oa
 have oc:sW w U U [.row (some ⟨fq,0,none⟩) af.length 3 1 (hM KL.encI af),.blk de 136 [.pointer none],.blk b2 34 B0] iz:=oa
 exact gE _ _ ⟨U,de,(some ⟨fq,0,none⟩),af.length,rfl,rfl,rfl,rfl,rfl,rfl,rfl,rfl,rfl,rfl,(zH _),(oc.pick [2,1,0] _ (by decide) rfl)⟩
 refine yp (enc:=KL.encT) (z:=false) (v:=.bool false) Z Z Z Z Z (wDF ZQ) wJy Z Z Z Z Z Z di gw ?_
 intro iA ft od
 have oe:sW w U U [.row (some ⟨ft,0,none⟩) ag.length 4 1 (hM KL.encT ag),.blk de 136 [.pointer none],.blk b2 34 B0] iA:=od
 exact gD _ _ ⟨U,de,(some ⟨ft,0,none⟩),ag.length,rfl,rfl,rfl,rfl,rfl,rfl,rfl,rfl,rfl,rfl,(zH _),(oe.pick [2,1,0] _ (by decide) rfl)⟩
 rintro rj qj ⟨ij,b6,b8,bB,bT,bH,bX,k6,k8,gO,og⟩
 refine sR (.fx 0 .nil .stop) Z (zz (cs:=[.slice none 0 0]) Z Z Z Z Z Tryz.zeroValue56 Z og ?_)
 intro iB ay gx
 refine eN (zG (sR gBe Z (oL Z (gx.ldBA (j:=1) Z Z k6 yH Zc (vs:=B0) Z Z) ?_)))
 have gb:=ou.le gO
 have gc:=ov.le gO
 refine bnK gB fun pG lQ o6=>zL 0 Z Z Z Z (zK Z Z Tryz.call89 (zB Z zM) Z) gx (fun hs=>wGr p0 ai aj aq au iB ij hs gb gc lQ) (.inr Z) ?_
 rintro fb pP qS iC gP oh ⟨fu,gV,iN,rfl,rfl,lR,lS⟩
 let B6:Res:=.blk b6 136 [.pointer (some ⟨b8,0,none⟩)]
 have oq:sW w U fb [.blk ay 56 [.slice none 0 0],.blk b2 34 B0,B6,.blk b8 165 [jV p0.Laps,.slice ai p0.Bibs.length aj,.slice aq p0.Times.length au,.slice bB l9.length bT,.slice bH cN.length bX],.row bB bT 3 1 (hM KL.encI l9),.row bH bX 4 1 (hM KL.encT cN)] iC:=oh
 refine eN (zT (ya fun dx dp=>?_))
 have fW:dx 4=.pointer (some ⟨b6,0,none⟩):=(dp 4).trans k8
 have dY:dx 5=.pointer (some ⟨ay,0,none⟩):=(dp 5).trans rfl
 have k9:dx 24=.func (.func 153) #[] #[.pointer (some ⟨fu,0,none⟩)]:=(dp 24).trans rfl
 clear dp
 have l7:=oq.nilrow 65 4
 have lc:=gb.le gP
 have lh:=gc.le gP
 refine bnK o6 fun gQ oK gz=>CK.rangeY (S:=(List wAH) × Int × (List Int) × (List (List Int)) × (List Int) × (List Bool)) (E:=Empty) (ar:=wJg) (PY:=(fun (s_:(List wAH) × Int × (List Int) × (List (List Int)) × (List Int) × (List Bool)) (U_:PHeap) (L_:List Res)=>match s_ with | (l1084,x1088,l1089,l1092,l1095,l1098)=>∃ (bC:Option Addr) (bR:Nat) (cq:Option Addr) (cH:Nat) (cr:Option Addr) (cI:Nat) (bD:Option Addr) (bS:Nat) (bE:Option Addr) (bU:Nat),L_=[.row bC bR 65 4 (hM wAN l1084),.blk ay 56 [.slice bC l1084.length bR],.blk b2 34 B0,B6,.row bD bS 3 1 (hM KL.encI l1095),.row bE bU 4 1 (hM KL.encT l1098),.blk b8 165 [jV x1088,.slice cq l1089.length cH,.slice cr l1092.length cI,.slice bD l1095.length bS,.slice bE l1098.length bU]]/\Sl U_ 1 cq cH l1089.length (hM KL.encI l1089)/\SlR U_ wDT cr cI l1092)) (PE:=(fun (_:Empty) _ _=>False)) (exO:=Empty.elim) (s0:=([],p0.Laps,p0.Bibs,p0.Times,l9,cN)) (rr:=gQ) k9 Tryz.call153 (l7.pick [0,1,2,3,5,6,4] _ (by decide) rfl) (by decide) (fun _ _ _ h=>by obtain rfl:=h;rfl) (fun e=>nomatch e) ⟨none,0,ai,aj,aq,au,bB,bT,bH,bX,rfl,lc,lh⟩ (fun l w1 L1 PY' PE' l6 l4 ot=>wFC PY' PE' _ l _ pG fu gV iN w1 L1 fb l6 l4 ot lR lS oK) ?_ ?_
 rintro ap qO qG ⟨l1084,x1088,l1089,l1092,l1095,l1098⟩ a8 qT qN dr pK pF pz ao qI l8 l5 ow gy du cm
 obtain ⟨bC,bR,cq,cH,cr,cI,bD,bS,bE,bU,rfl,li,lj⟩:=l5
 obtain rfl:=ow
 replace cm:∀ t,du t=upd dx 25 (jV a8) t:=cm
 have iP:du 25=jV a8:=(cm 25).trans (wDm _ _ _)
 have fC:du 4=.pointer (some ⟨b6,0,none⟩):=(cm 4).trans ((wDR _ _ (by decide)).trans fW)
 have iQ:du 5=.pointer (some ⟨ay,0,none⟩):=(cm 5).trans ((wDR _ _ (by decide)).trans dY)
 clear cm
 let B7:Res:=.blk b8 165 [jV x1088,.slice cq l1089.length cH,.slice cr l1092.length cI,.slice bD l1095.length bS,.slice bE l1098.length bU]
 let B8:Res:=.row bC bR 65 4 (hM wAN l1084)
 let B9:Res:=.blk ay 56 [.slice bC l1084.length bR]
 let dB:Res:=.row bD bS 3 1 (hM KL.encI l1095)
 let dC:Res:=.row bE bU 4 1 (hM KL.encT l1098)
 have ma:St ao dr [.obj ap pz,B8,B9,.blk b2 34 B0,B6,dB,dC,B7] pF:=l8
 try dsimp only at gy
 refine rR fL1 Z (oA Z iP (zg ⟨Z,Z,_,_,ma,fun dL av mb=>?_⟩))
 have gi:St ao dr [.obj ap av,B8,B9,.blk b2 34 B0,B6,dB,dC,B7] dL:=mb
 refine zT (sR gBr Z (oL Z (gi.ldB (j:=4) Z Z fC yq (v:=.pointer (some ⟨b8,0,none⟩)) Z) (oM Z Z ?_)))
 have q:=bnd gy
 obtain ⟨⟨an,ah⟩,lk,gA⟩:=q
 try dsimp only at gA
 have mc:St ao dr [B7,dB,dC,.obj ap av,B8,B9,.blk b2 34 B0,B6] dL:=gi.pick [7,5,6,0,1,2,3,4] _ (by decide) rfl
 refine zL 3 Z Z Z Z (zK Z Z Tryz.call90 (zB Z (zB Z zM)) Z) mc (fun hs=>wFs (⟨(⟨x1088,l1089,l1092⟩:wAP),l1095,l1098⟩:wAL) b8 cq cH cr cI bD bS bE bU a8 dL dr hs li lj lk) (.inl Z) ?_
 rintro dH pL qP ik qJ md ⟨cP,df,bf,bn,bF,bV,ba,be,aY,a7,rfl,rfl,fY,fZ⟩
 let aW:List Value:=[jV ah.Race.Laps,.slice bf ah.Race.Bibs.length bn,.slice bF ah.Race.Times.length bV,.slice ba ah.done.length be,.slice aY ah.out.length a7]
 let aw:Res:=.row cP df 3 1 (hM KL.encI an)
 let aZ:Res:=.row ba be 3 1 (hM KL.encI ah.done)
 let bj:Res:=.row aY a7 4 1 (hM KL.encT ah.out)
 have me:St ao dH [aw,aZ,bj,.blk b8 165 aW,.obj ap av,B8,B9,.blk b2 34 B0,B6] ik:=md
 refine oA Z Z (eN (zG (sR fL3 Z (oM Z Z (oR Z (za Z Z zA) (oM Z Z (eN (zT (bnK gA fun gS ox oO=>?_)))))))))
 have q:=wAs ox
 obtain ⟨ey,oy⟩:=q
 replace ey:=zF ey
 refine CK.forN' (fun az bA σ_ w_=>∃ (U_:PHeap) (bG:Option Addr) (bW:Nat),σ_ 31=jV (↑az:Int)/\σ_ 4=.pointer (some ⟨b6,0,none⟩)/\σ_ 5=.pointer (some ⟨ay,0,none⟩)/\σ_ 6=jV a8/\σ_ 7=.slice cP an.length df/\σ_ 29=.slice cP an.length df/\σ_ 30=jV (↑an.length:Int)/\PHeap.Le dH U_/\St ao U_ [aZ,bj,.blk b8 165 aW,.obj ap av,.row bG bW 65 4 (hM wAN bA),.blk ay 56 [.slice bG bA.length bW],.blk b2 34 B0,B6,aw] w_) oy ?_ ?_ ?_
 exact ⟨dH,bC,bR,rfl,fC,iQ,rfl,rfl,rfl,rfl,(zH _),(me.pick [1,2,3,4,5,6,7,8,0] _ (by decide) rfl)⟩
 rintro az bA qV qY fd ep ⟨pQ,bG,bW,dZ,ci,dR,dS,iR,fD,fE,eD,eh⟩ o9
 have fy:Hid ((↑az:Int) < (↑an.length:Int)):=zF (wAo ep)
 replace ep:=zF ep
 have oI:Hid (w64 ((↑az:Int) + 1)=(↑(az + 1):Int)):=zF (by have h1:=ey.out;have h2:=fy.out;rw [wAT] <;> omega)
 refine sR fL1 Z (oR Z (zU Z dZ fE) (eN (zG (cT Z fy (kN (zG (zT (sR fL3 Z (bnK o9 fun _ d8 oP=>?_)))))))))
 obtain ⟨qk,ge⟩:=eh.rowSome (j:=8) rfl (by rw [wAF (f:=KL.encI) (sz:=1) (fun _=>rfl) an];have hz:=wAd d8;omega)
 refine oR Z (zo Z fD ge dZ zA zD (wAd d8)) ?_
 have oC:=wCX (xs:=an) (wAd d8)
 refine ZO rfl rfl rfl rfl (eh.ldR (j:=8) rfl ge rfl rfl zP (wAp (sz:=1) (fun _=>rfl) _ _ 0 _ oC (by first | omega | rfl | simp) rfl)) rfl (yg rfl rfl rfl rfl rfl rfl (eN (ZY ZP [1,1,3,3,3,1,3,3,1,1,3,3,1,3,3,1,3,1,3,3,3,1,1,3,1,3,3,1,3,3,1,3,2,3,1,3,2,0,0] (wPJ (.fx 32 (wOS (.fx 36 (.fx 37 (.fx 38 .nil .stop) .stop) .stop)) .stop)) (by kernel_rfl) ?_)))
 have ax:=eh.drew
 generalize hw_W1224:({ fd with drawn:=fd.drawn + 1 }:World)=cZ at ax ⊢
 refine oL Z (ax.ldB (j:=5) Z Z dR Tryz.isAgg56 (v:=.slice bG bA.length bW) Z) (oL Z (ax.ldB (j:=7) Z Z ci yq (v:=.pointer (some ⟨b8,0,none⟩)) Z) (oR Z (ZX Z Z) (oR Z (zJ Z Z Za Z Zc) (oR Z (zJ Z Z ZK Z zS) (oL Z (ax.ldB (j:=2) Z Z Z zc (v:=.slice bf ah.Race.Bibs.length bn) Z) (oM Z Z (bnK oP fun co d9 oQ=>?_)))))))
 have ea:=fY.le eD
 have q:=ea.el (fun _=>rfl) (wAR d9)
 obtain ⟨ql,qL,lT,lV⟩:=q
 refine oR Z (yG Z Z lT Z zA zD (wEK d9) (wET d9)) (oL Z (ax.ldC (f:=0) lV (v:=jV co) Z Z zP Z) (oL Z (ax.ldB (j:=7) Z Z ci yq (v:=.pointer (some ⟨b8,0,none⟩)) Z) (oR Z (ZX Z Z) (oR Z (zJ Z Z Za Z zS) (oL Z (ax.ldB (j:=2) Z Z Z zc (v:=.slice ba ah.done.length be) Z) (oM Z Z (bnK oQ fun _ bx oS=>?_)))))))
 obtain ⟨qm,dm⟩:=ax.rowSome (j:=0) rfl (by rw [wAF (f:=KL.encI) (sz:=1) (fun _=>rfl) ah.done];have hz:=wAd bx;omega)
 refine oR Z (yG Z Z dm Z zA zD (wEt bx) (wEu bx)) ?_
 have oD:=wCX (xs:=ah.done) (wAd bx)
 refine ZO rfl rfl rfl rfl (ax.ldR (j:=0) rfl dm rfl rfl zP (wAp (sz:=1) (fun _=>rfl) _ _ 0 _ oD (by first | omega | rfl | simp) rfl)) rfl (zj rfl rfl rfl rfl rfl dS (ZO rfl rfl rfl rfl (ax.ldB (j:=7) rfl rfl ci yq (v:=.pointer (some ⟨b8,0,none⟩)) rfl) rfl (zh rfl rfl rfl rfl (fun _=>ZX rfl rfl) (zh rfl rfl rfl rfl (fun _=>zJ rfl rfl Za rfl Zc) (zh rfl rfl rfl rfl (fun _=>zJ rfl rfl ZK rfl zS) (ZO rfl rfl rfl rfl (ax.ldB (j:=2) rfl rfl rfl zc (v:=.slice bf ah.Race.Bibs.length bn) rfl) rfl (ZO rfl rfl rfl rfl (ax.ldB (j:=7) rfl rfl ci yq (v:=.pointer (some ⟨b8,0,none⟩)) rfl) rfl (zj rfl rfl rfl rfl rfl rfl (ZO rfl rfl rfl rfl (ax.ldB (j:=7) rfl rfl ci yq (v:=.pointer (some ⟨b8,0,none⟩)) rfl) rfl (zh rfl rfl rfl rfl (fun _=>ZX rfl rfl) (zh rfl rfl rfl rfl (fun _=>zJ rfl rfl Za rfl zS) (ZO rfl rfl rfl rfl (ax.ldB (j:=2) rfl rfl rfl zc (v:=.slice ba ah.done.length be) rfl) rfl (zj rfl rfl rfl rfl rfl rfl (zh rfl rfl rfl rfl (fun _=>yG rfl rfl dm rfl zA zD (wEt bx) (wEu bx)) ?_))))))))))))))
 have oE:=wCX (xs:=ah.done) (wAd bx)
 refine ZO rfl rfl rfl rfl (ax.ldR (j:=0) rfl dm rfl rfl zP (wAp (sz:=1) (fun _=>rfl) _ _ 0 _ oE (by first | omega | rfl | simp) rfl)) rfl (zj rfl rfl rfl rfl rfl dS ?_)
 have q:=ax.freezeT (k:=0) (n:=ah.done.length) rfl (wAF (f:=KL.encI) (sz:=1) (fun _=>rfl) ah.done) (by decide)
 obtain ⟨gY,gG,o7,mf,pC⟩:=q
 let bl:Res:=.row bG bW 65 4 (hM wAN bA)
 let bb:Res:=.blk ay 56 [.slice bG bA.length bW]
 have mg:St ao gY [bj,.blk b8 165 aW,.obj ap av,bl,bb,.blk b2 34 B0,B6,aw] cZ:=mf
 have q:=mg.freezeT (k:=0) (n:=ah.out.length) rfl (wAF (f:=KL.encT) (sz:=1) (fun _=>rfl) ah.out) (by decide)
 obtain ⟨gZ,eG,o8,mh,pD⟩:=q
 have mj:St ao gZ [.blk b8 165 aW,.obj ap av,bl,bb,.blk b2 34 B0,B6,aw] cZ:=mh
 have q:=mj.freezeTB (k:=0) rfl
 obtain ⟨dI,dq,cM,ml,pE⟩:=q
 replace cM:=Cl.of cM
 have mm:St ao dI [.obj ap av,bl,bb,.blk b2 34 B0,B6,aw] cZ:=ml
 replace cM:Cl dI b8 0 aW:=cM
 have ll:=ea.le gG
 have lm:=ll.le eG
 have ln:=lm.le dq
 have lq:=fZ.le eD
 have lu:=lq.le gG
 have lv:=lu.le eG
 have lw:=lv.le dq
 have lx:=o7.le eG
 have ly:=lx.le dq
 have lz:=o8.le dq
 refine bnK oS fun qU lA oU=>zL 0 rfl rfl rfl rfl (zK rfl rfl Tryz.call91 (zB rfl (zB rfl (zB rfl (zB rfl zM)))) rfl) mm (fun hs=>wEk ah b8 bf bn bF bV ba be aY a7 (gd an az) (gd ah.done (gd an az).toNat) a8 cZ dI hs cM ln lw ly lz lA) (.inr rfl) ?_
 rintro g8 pM qQ c6 pg mn ⟨rfl,rfl⟩
 have mo:St ao g8 [.obj ap av,bl,bb,.blk b2 34 B0,B6,aw] c6:=mn
 have q:=pE _ _ _ pg mo
 obtain ⟨g9,ph,mp⟩:=q
 have mq:St ao g9 [.blk b8 165 aW,.obj ap av,bl,bb,.blk b2 34 B0,B6,aw] c6:=mp
 have q:=pD _ _ _ ph mq
 obtain ⟨ib,pi,mr⟩:=q
 have ms:St ao ib [bj,.blk b8 165 aW,.obj ap av,bl,bb,.blk b2 34 B0,B6,aw] c6:=mr
 have q:=pC _ _ _ pi ms
 obtain ⟨cA,gH,mu⟩:=q
 have gj:St ao cA [aZ,bj,.blk b8 165 aW,.obj ap av,bl,bb,.blk b2 34 B0,B6,aw] c6:=mu
 refine bnK oU fun cp eb oV=>?_
 have lB:=ea.le gH
 have q:=lB.el (fun _=>rfl) (wAR eb)
 obtain ⟨qn,qM,lU,lW⟩:=q
 refine oR Z (yG Z Z lU Z zA zD (wEK eb) (wET eb)) (oL Z (gj.ldC (f:=0) lW (v:=jV cp) Z Z zP Z) ?_)
 let dD:List Value:=[jV co,jV (gd ah.done (gd an az).toNat),jV a8,jV cp]
 let eQ:List Value:=[jV 0,jV 0,jV 0,jV 0]
 refine oR Z (ZH (pv:=[(0,jV co),(1,jV (gd ah.done (gd an az).toNat)),(2,jV a8),(3,jV cp)]) (z:=eQ) (cs:=dD) Z (wAC Z (wAC Z (wAC Z (wAC Z wAM)))) Tryz.zeroValue65 wMt Z Z) (zW (pv:=[(0,.agg dD.toArray)]) (zs:=eQ) (cs:=dD) Z Z Z Z Z (wAC Z wAM) Zo yD Tryz.zeroValue65 Z Z Z Z Z gj ?_)
 intro il iD mw
 let dE:Res:=.row (some ⟨iD,0,none⟩) 1 65 4 (hM wAN [(⟨co,(gd ah.done (gd an az).toNat),a8,cp⟩:wAH)])
 have gm:St ao cA [dE,aZ,bj,.blk b8 165 aW,.obj ap av,bl,bb,.blk b2 34 B0,B6,aw] il:=mw
 refine bnK oV fun dv lC oW=>Zs (j:=5) (enc:=wAN) (xs:=bA) (ys:=[(⟨co,(gd ah.done (gd an az).toNat),a8,cp⟩:wAH)]) (zs:=dv) rfl rfl rfl rfl rfl Tryz.underlying56 wOr rfl rfl rfl rfl rfl rfl gm rfl rfl rfl (gm.srcR (j:=0) rfl (by decide) (wAF (f:=wAN) (sz:=4) (fun _=>rfl) [(⟨co,(gd ah.done (gd an az).toNat),a8,cp⟩:wAH)])) (fun _=>rfl) (fun _=>rfl) lC rfl ?_
 intro cQ dg im mx
 let eS:Res:=.row cQ dg 65 4 (hM wAN dv)
 have my:St ao cA [dE,aZ,bj,.blk b8 165 aW,.obj ap av,eS,bb,.blk b2 34 B0,B6,aw] im:=mx
 refine zu (j:=6) (vs:=[.slice cQ dv.length dg]) Z Z Z Z my Z dR Z Z Tryz.sizeOf56 (zC Z) Z Z Z ?_
 intro io mz
 have mA:St ao cA [dE,aZ,bj,.blk b8 165 aW,.obj ap av,eS,.blk ay 56 [.slice cQ dv.length dg],.blk b2 34 B0,B6,aw] io:=mz
 refine zg (zb (zI (rR fL2 Z (oR Z (zn (zX Z dZ Z) (congrArg (jV) oI.out)) (oM Z Z (zg ?_))))))
 cases oW
 exact zI ⟨rfl,⟨cA,cQ,dg,rfl,ci,dR,dS,iR,fD,fE,(eD.trans gH),(mA.pick [1,2,3,4,5,6,7,8,9] _ (by decide) rfl)⟩⟩
 rintro qZ pS ⟨eX,dy,dO,la,iS,iT,qq,iU,qr,iV,gI,mB⟩
 have iL:Hid (¬ ((↑(((↑an.length:Int):Int) - 0).toNat:Int) < (↑an.length:Int))):=zF (wAa)
 refine sR fL1 Z (oR Z (zU Z la iV) (eN (zG (cF Z iL (ZI (zY (zY (ZD (zI (sR fL3 Z (oM Z iU (oR Z (za Z Z zA) (oM Z Z (eN (zT (bnK oO fun qX oz oX=>?_))))))))))))))))
 have q:=wAs oz
 obtain ⟨eB,oB⟩:=q
 replace eB:=zF eB
 let cR:Res:=.row dy dO 65 4 (hM wAN gS)
 let cS:Res:=.blk ay 56 [.slice dy gS.length dO]
 refine CK.forN' (fun bs aX σ_ w_=>∃ (U_:PHeap),σ_ 76=jV (↑bs:Int)/\σ_ 4=.pointer (some ⟨b6,0,none⟩)/\σ_ 5=.pointer (some ⟨ay,0,none⟩)/\σ_ 74=.slice cP an.length df/\σ_ 75=jV (↑an.length:Int)/\PHeap.Le eX U_/\St ao U_ [aZ,.row aY a7 4 1 (hM KL.encT aX),.blk b8 165 [jV ah.Race.Laps,.slice bf ah.Race.Bibs.length bn,.slice bF ah.Race.Times.length bV,.slice ba ah.done.length be,.slice aY aX.length a7],.obj ap av,cR,cS,.blk b2 34 B0,B6,aw] w_/\aX.length=ah.out.length) oB ?_ ?_ ?_
 exact ⟨eX,Z,iS,iT,Z,Z,(zH _),mB,Z⟩
 rintro bs aX qW q0 pT ew ⟨dJ,d7,fG,iW,fH,fI,pm,cj,lD⟩ pa
 have fz:Hid ((↑bs:Int) < (↑an.length:Int)):=zF (wAo ew)
 replace ew:=zF ew
 have oJ:Hid (w64 ((↑bs:Int) + 1)=(↑(bs + 1):Int)):=zF (by have h1:=eB.out;have h2:=fz.out;rw [wAT] <;> omega)
 refine sR fL1 Z (oR Z (zU Z d7 fI) (eN (zG (cT Z fz (kN (zG (zT (sR fL3 Z (bnK pa fun _ ee oY=>?_)))))))))
 obtain ⟨qo,gf⟩:=cj.rowSome (j:=8) rfl (by rw [wAF (f:=KL.encI) (sz:=1) (fun _=>rfl) an];have hz:=wAd ee;omega)
 refine oR Z (zo Z fH gf d7 zA zD (wAd ee)) ?_
 have oG:=wCX (xs:=an) (wAd ee)
 refine ZO rfl rfl rfl rfl (cj.ldR (j:=8) rfl gf rfl rfl zP (wAp (sz:=1) (fun _=>rfl) _ _ 0 _ oG (by first | omega | rfl | simp) rfl)) rfl (yg rfl rfl rfl rfl rfl rfl (eN (rR (wIu (.fx 6 .nil .stop)) rfl (ZO rfl rfl rfl rfl (cj.ldB (j:=7) rfl rfl fG yq (v:=.pointer (some ⟨b8,0,none⟩)) rfl) rfl (zh rfl rfl rfl rfl (fun _=>ZX rfl rfl) (zh rfl rfl rfl rfl (fun _=>zJ rfl rfl Za rfl Zt) (ZO rfl rfl rfl rfl (cj.ldB (j:=2) rfl rfl rfl yc (v:=.slice aY aX.length a7) rfl) rfl (zj rfl rfl rfl rfl rfl rfl (bnK oY fun _ cL oZ=>?_)))))))))
 obtain ⟨qp,gg⟩:=cj.rowSome (j:=1) rfl (by rw [wAF (f:=KL.encT) (sz:=1) (fun _=>rfl) aX];have hz:=wAd cL;omega)
 refine oR Z (yG Z Z gg Z ZQ yJ (wEt cL) (wEu cL)) ?_
 have oH:=wCX (xs:=aX) (wAd cL)
 refine OKS.stR (j:=1) (vs:=[.bool true]) (cs':=hM KL.encT (nG aX (gd an bs).toNat true)) rfl rfl rfl rfl cj rfl gg rfl rfl rfl yJ (by rw [wAF (f:=KL.encT) (sz:=1) (fun _=>rfl)];have hz:=wAd cL;show _ + 1 <= _;first | omega | (simp only [nK];omega) | (simp only [nJ,nH,nI];omega)) rfl (wFP (sz:=1) (fo:=0) (fun _=>rfl) _ _ _ _ oH (by first | omega | (simp only [nK];omega) | (simp only [nJ,nH,nI];omega)) (zC rfl) rfl) rfl ?_
 intro fe mC
 let dF:Res:=.row aY a7 4 1 (hM KL.encT (nG aX (gd an bs).toNat true))
 have mD:St ao dJ [aZ,dF,.blk b8 165 [jV ah.Race.Laps,.slice bf ah.Race.Bibs.length bn,.slice bF ah.Race.Times.length bV,.slice ba ah.done.length be,.slice aY aX.length a7],.obj ap av,cR,cS,.blk b2 34 B0,B6,aw] fe:=mC
 have mE:St ao dJ [aZ,dF,.blk b8 165 [jV ah.Race.Laps,.slice bf ah.Race.Bibs.length bn,.slice bF ah.Race.Times.length bV,.slice ba ah.done.length be,.slice aY ((nG aX (gd an bs).toNat true).length) a7],.obj ap av,cR,cS,.blk b2 34 B0,B6,aw] fe:=by simpa only [B0,aw,aZ,cR,cS,dF,B6,nD] using mD
 refine zg (zb (zI (rR fL2 Z (oR Z (zn (zX Z d7 Z) (congrArg (jV) oJ.out)) (oM Z Z (zg ?_))))))
 cases oZ
 exact zI ⟨Z,⟨dJ,Z,fG,iW,fH,fI,pm,mE,(nD.trans lD)⟩⟩
 rintro q8 pU ⟨pR,lb,qs,qt,qu,iX,gJ,mF,qH⟩
 have iM:Hid (¬ ((↑(((↑an.length:Int):Int) - 0).toNat:Int) < (↑an.length:Int))):=zF (wAa)
 refine sR fL1 Z (oR Z (zU Z lb iX) (eN (zG (cF Z iM (ZI (zY (zY (ZD (zb ?_)))))))))
 have lE:=fY.le gI
 have lG:=lE.le gJ
 have lH:=fZ.le gI
 have lI:=lH.le gJ
 have q:=nA oX
 obtain rfl:=q
 exact ⟨_,_,(mF.pick [3,4,5,6,7,0,1,2] _ (by decide) rfl),rfl,⟨dy,dO,bf,bn,bF,bV,ba,be,aY,a7,rfl,lG,lI⟩⟩
 rintro dt dK pN ff qK mG
 rcases gQ with ⟨dw,pH,pI,pJ,gT,gU⟩ | iO
 try dsimp only at gz
 rintro ⟨bg,bp,eK,fA,eM,fB,dz,dP,dA,dQ,rfl,lJ,lK⟩
 let cw:Res:=.blk b8 165 [jV pH,.slice eK pI.length fA,.slice eM pJ.length fB,.slice dz gT.length dP,.slice dA gU.length dQ]
 let cy:Res:=.row dz dP 3 1 (hM KL.encI gT)
 let cz:Res:=.row dA dQ 4 1 (hM KL.encT gU)
 let eT:Res:=.blk ay 56 [.slice bg dw.length bp]
 have gq:sW w U dK [.row bg bp 65 4 (hM wAN dw),eT,.blk b2 34 B0,B6,cy,cz,cw,.obj dt (.deferred (some []))] ff:=mG
 refine zb (zI (sR gBe Z (oL Z (gq.ldB (j:=1) Z Z dY Tryz.isAgg56 (v:=.slice bg dw.length bp) Z) ?_)))
 have lZ:FnOK Tryz.prog dK (.func (.func 93) #[] #[]) wOo wOp (fun x=>wBE x.1 x.2):=⟨93,[],[],rfl,Tryz.call93,fun U1 w1 x y vs le hs ha hm=>by obtain rfl:=ha;exact wIn x.1 x.2 w1 U1 hs  hm⟩
 refine bnK gz fun eI lL o0=>zL 1 Z Z Z Z (zK Z Z Tryz.call92 (zB Z (zB Z zM)) Z) gq (fun hs=>wDh dw bg bp (fun x=>wBE x.1 x.2) (.func (.func 93) #[] #[]) ff dK hs lZ ⟨_,_,Z⟩ lL) (.inl Z) ?_
 rintro cY pO qR c7 gK mH ⟨rfl,rfl,lM⟩
 let cU:Res:=.row bg bp 65 4 (hM wAN eI)
 have mI:sW w U cY [cU,eT,.blk b2 34 B0,B6,cy,cz,cw,.obj dt (.deferred (some []))] c7:=mH
 let cV:Res:=.blk ay 56 [.slice bg eI.length bp]
 have mJ:sW w U cY [cU,cV,.blk b2 34 B0,B6,cy,cz,cw,.obj dt (.deferred (some []))] c7:=by simp only [cV,lM];exact mI
 refine eN (zG (ZY ZP [1,1,3,3] fL4 (by kernel_rfl) ?_))
 have dn:=mJ.drew
 generalize hw_W1454:({ c7 with drawn:=c7.drawn + 1 }:World)=pV at dn ⊢
 refine oL Z (dn.ldB (j:=3) Z Z fW yq (v:=.pointer (some ⟨b8,0,none⟩)) Z) (oL Z (dn.ldB (j:=1) Z Z dY Tryz.isAgg56 (v:=.slice bg eI.length bp) Z) (oA Z Z (oA Z Z (eN (zO ?_)))))
 have lN:=lJ.le gK
 have lP:=lK.le gK
 refine wEg (by first | exact .inl rfl | exact .inr rfl) (rbs:=[dt]) (L:=[cU,cV,.blk b2 34 B0,B6,cy,cz,cw]) dn fun ip mK=>?_
 have mL:sW w U cY [cU,cV,.blk b2 34 B0,B6,cy,cz,cw] ip:=mK
 cases o0
 exact ⟨_,(wFc rfl rfl),cY,_,(mL.pick [6,4,5,0] _ (by decide) rfl),b8,eK,fA,eM,fB,dz,dP,dA,dQ,bg,bp,rfl,rfl,lN,lP⟩
 exact iO.elim
end Go.Proofs.YtnbcoenjobdplaaGreat
namespace Go.Proofs.YtnbcoenjobdplaaGreat
open Go.KL
set_option maxHeartbeats 4000000
theorem wFD (p0:wAP) (af:Option Addr) (ah:Nat) (ag:Option Addr) (ai:Nat) (w:World) (U:PHeap) (hS:St0 w U []) (aZ:Sl U 1 af ah p0.Bibs.length (hM KL.encI p0.Bibs)) (a7:SlR U wDT ag ai p0.Times) {r:(List wAH) × Int} (hm:wCG p0=some r):Gv Tryz.prog 15 [.agg #[jV p0.Laps,.slice af p0.Bibs.length ah,.slice ag p0.Times.length ai]] w (wBU w [] U (fun U_ L_ v=>∃ (A0:Option Addr) (c0:Nat),v=.tuple #[.slice A0 r.1.length c0,jV r.2]/\L_=[.row A0 c0 65 4 (hM wAN r.1)])):=by
 unfold wCG at hm
 refine Gv.of Tryz.func15 Z Tryz.ntmps15 Tryz.results15 Z (sR gBm Z ?_)
 let B0:List Value:=[jV p0.Laps,.slice af p0.Bibs.length ah,.slice ag p0.Times.length ai]
 refine ZS (cs:=B0) rfl rfl rfl rfl rfl rfl (by rfl) hS ?_
 intro W1 b2 aY
 refine oA Z Z (oA Z Z (eN (zG (sR gBk Z (oL Z (aY.ldBA (j:=0) Z Z Z yH Zc (vs:=B0) Z Z) (bnK hm fun x5 h6 bw=>zL 0 Z Z Z Z (zK Z Z Tryz.call56 (zB Z zM) Z) aY (fun hs=>wFK p0 af ah ag ai W1 U hs aZ a7 h6) (.inr Z) ?_))))))
 rintro U8 L9 bD aw ba bq ⟨rfl,rfl⟩
 have ao:sW w U U8 [.blk b2 34 B0] aw:=bq
 refine oA Z Z (eN (sR fL2 Z (oM Z Z (oR Z (ZW Z Z Z) (eN (ifc bw ?_ ?_))))))
 intro am bu
 refine zm (zw (fun h=>h am.out)) (kN (sR (.fl 0 (.fx 1 (wFz (.nil)) .stop)) Z (oL Z (ao.ldBA (j:=0) Z Z Z yH Zc (vs:=B0) Z Z) ?_)))
 have bl:=aZ.le ba
 have bm:=a7.le ba
 have q:=bnd bu
 obtain ⟨⟨ac,bb⟩,bn,a8⟩:=q
 try dsimp only at a8
 refine zL 0 Z Z Z Z (zK Z Z Tryz.call57 (zB Z zM) Z) ao (fun hs=>wHz p0 af ah ag ai aw U8 hs bl bm bn) (.inr Z) ?_
 rintro av bx bE bh bC br ⟨ay,be,bi,bf,bj,aq,aW,au,aX,aj,an,rfl,rfl,bA,bB⟩
 have bs:sW w U av [.blk ay 165 [jV ac.Race.Laps,.slice be ac.Race.Bibs.length bi,.slice bf ac.Race.Times.length bj,.slice aq ac.done.length aW,.slice au ac.out.length aX],.row aq aW 3 1 (hM KL.encI ac.done),.row au aX 4 1 (hM KL.encT ac.out),.row aj an 65 4 (hM wAN bb),.blk b2 34 B0] bh:=br
 refine oM Z Z (oR Z (zx Z Z (v:=.pointer (some ⟨ay,0,none⟩)) Z) (oR Z (zx Z Z (v:=.slice aj bb.length an) Z) (oA Z Z (oA Z Z (eN (sR fL3 Z (oM Z Z (oA Z Z (oA Z Z (eN (zO ?_)))))))))))
 cases a8
 exact ⟨rfl,_,(wFc rfl rfl),av,_,(bs.pick [3] _ (by decide) rfl),aj,an,rfl,rfl⟩
 intro am bv
 refine cT Z am (sR fL3 Z (oM Z Z (oA Z Z (oA Z Z (eN (zO (zR ?_)))))))
 have bt:=ao.nilrow 65 4
 cases bv
 exact ⟨rfl,_,(wFc rfl rfl),U8,_,(bt.pick [0] _ (by decide) rfl),none,0,rfl,rfl⟩
theorem wIA (p0:wAI) (am:Option Addr) (ao:Nat) (an:Option Addr) (ap:Nat) (w:World) (U:PHeap) (hS:St0 w U []) (bZ:Sl U 1 am ao p0.Rules.Classes.length (hM KL.encI p0.Rules.Classes)) (b4:SlR U wFF an ap p0.Teams) {r:(List wAH) × Int} (hm:wDH p0=some r):Gv Tryz.prog 13 [.agg #[.slice am p0.Rules.Classes.length ao,jV p0.Rules.Each,jV p0.Rules.Laps,jV p0.Rules.Spare,jV p0.Rules.Loop,jV p0.Rules.Unused,jV p0.Start,.slice an p0.Teams.length ap]] w (wBU w [] U (fun U_ L_ v=>∃ (A0:Option Addr) (c0:Nat),v=.tuple #[.slice A0 r.1.length c0,jV r.2]/\L_=[.row A0 c0 65 4 (hM wAN r.1)])):=by
 unfold wDH at hm
 refine Gv.of Tryz.func13 Z Tryz.ntmps13 Tryz.results13 Z (sR gBm Z ?_)
 let B0:List Value:=[.slice am p0.Rules.Classes.length ao,jV p0.Rules.Each,jV p0.Rules.Laps,jV p0.Rules.Spare,jV p0.Rules.Loop,jV p0.Rules.Unused,jV p0.Start,.slice an p0.Teams.length ap]
 refine ZS (cs:=B0) rfl rfl rfl rfl rfl rfl (by rfl) hS ?_
 intro W1 b2 bp
 refine oA Z Z (oA Z Z (eN (sR (.fl 0 (.fx 1 (wFz (.nil)) .stop)) Z (oL Z (bp.ldBA (j:=0) Z Z Z Zq ZL (vs:=B0) Z Z) ?_))))
 have q:=bnd hm
 obtain ⟨⟨x5,x6⟩,h7,ah⟩:=q
 try dsimp only at ah
 refine zL 0 Z Z Z Z (zK Z Z Tryz.call30 (zB Z zM) Z) bp (fun hs=>wEY p0 am ao an ap W1 U hs bZ b4 h7) (.inr Z) ?_
 rintro U9 ct cC aj cy bn bm
 rcases x5 with _ | ac
 try dsimp only at ah
 obtain ⟨rfl,rfl⟩:=bm
 have bM:sW w U U9 [.blk b2 28 B0] aj:=bn
 refine oM Z Z (oR Z (zx Z Z (v:=.pointer none) Z) (oR Z (zx Z Z (v:=jV x6) Z) (oA Z Z (oA Z Z (eN (zG (sR fL2 Z (oM Z Z (oR Z (ZW Z Z Z) (eN (ifc ah ?_ ?_)))))))))))
 intro az ca
 refine zm (zw (fun h=>h az.out)) (kN (sR (.fl 0 (.fx 1 (.fx 2 (wLf (.nil)) .stop) .stop)) Z (oM Z Z ?_)))
 cases ca
 intro az cc
 refine cT Z az (sR fL3 Z (oM Z Z (oA Z Z (oA Z Z (eN (zO (zR ?_)))))))
 have bN:=bM.nilrow 65 4
 cases cc
 exact ⟨rfl,_,(wFc rfl rfl),U9,_,(bN.pick [0] _ (by decide) rfl),none,0,rfl,rfl⟩
 try dsimp only at ah
 obtain ⟨ax,a7,bh,a8,bi,au,ay,bA,rfl,rfl,bB,bC,bD⟩:=bm
 let B1:Res:=.blk ax 130 [.slice a7 ac.Race.Rules.Classes.length bh,jV ac.Race.Rules.Each,jV ac.Race.Rules.Laps,jV ac.Race.Rules.Spare,jV ac.Race.Rules.Loop,jV ac.Race.Rules.Unused,jV ac.Race.Start,.slice a8 ac.Race.Teams.length bi,.slice au ac.after.length ay]
 have bq:sW w U U9 [B1,.row au ay 23 1 bA,.blk b2 28 B0] aj:=bn
 refine oM Z Z (oR Z (zx Z Z (v:=.pointer (some ⟨ax,0,none⟩)) Z) (oR Z (zx Z Z (v:=jV x6) Z) (oA Z Z (oA Z Z (eN (zG (sR fL2 Z (oM Z Z (oR Z (ZW Z Z Z) (eN (ifc ah ?_ ?_)))))))))))
 intro aW cd
 refine zm (zw (fun h=>h aW.out)) (kN (sR (.fl 0 (.fx 1 (.fx 2 (wLf (.nil)) .stop) .stop)) Z (oM Z Z ?_)))
 have q:=bq.freezeRR (R:=wDT) (k:=1) rfl bD rfl (by decide)
 obtain ⟨bb,bs,ci,bO⟩:=q
 have bP:sW w U bb [B1,.blk b2 28 B0] aj:=bO
 have bE:=bB.le bs
 have bF:=bC.le bs
 refine bnK cd fun aq bG cg=>zL 1 Z Z Z Z (zK Z Z Tryz.call31 (zB Z zM) Z) bP (fun hs=>wEG ac ax a7 bh a8 bi au ay aj bb hs bE bF ci bG) (.inl Z) ?_
 rintro bv cu cD ak cz bQ ⟨ba,bj,av,aX,bl,rfl,rfl,bH⟩
 have bR:sW w U bv [.row ba bj 3 1 (hM KL.encI aq.Bibs),.row av aX 23 1 bl,B1,.blk b2 28 B0] ak:=bQ
 have q:=bR.freezeR (k:=0) (n:=aq.Bibs.length) rfl (wAF (f:=KL.encI) (sz:=1) (fun _=>rfl) aq.Bibs) (by decide)
 obtain ⟨bw,co,cj,bS⟩:=q
 have bT:sW w U bw [.row av aX 23 1 bl,B1,.blk b2 28 B0] ak:=bS
 have bJ:=bH.le co
 have q:=bT.freezeRR (R:=wDT) (k:=0) rfl bJ rfl (by decide)
 obtain ⟨be,cp,cm,bU⟩:=q
 have bV:sW w U be [B1,.blk b2 28 B0] ak:=bU
 have bK:=cj.le cp
 have q:=bnd cg
 obtain ⟨⟨bu,cr⟩,bL,br⟩:=q
 try dsimp only at br
 refine zL 0 Z Z Z Z (zK Z Z Tryz.call15 (zB Z zM) Z) bV (fun hs=>wFD aq ba bj av aX ak be hs bK cm bL) (.inr Z) ?_
 rintro bf cw cE bz cA bW ⟨aw,aY,rfl,rfl⟩
 have bX:sW w U bf [.row aw aY 65 4 (hM wAN bu),B1,.blk b2 28 B0] bz:=bW
 refine oR Z (zx Z Z (v:=.slice aw bu.length aY) Z) (oR Z (zx Z Z (v:=jV cr) Z) (oA Z Z (oA Z Z (eN (zO ?_)))))
 cases br
 exact ⟨rfl,_,(wFc rfl rfl),bf,_,(bX.pick [0] _ (by decide) rfl),aw,aY,rfl,rfl⟩
 intro aW ch
 refine cT Z aW (sR fL3 Z (oM Z Z (oA Z Z (oA Z Z (eN (zO (zR ?_)))))))
 have bY:=bq.nilrow 65 4
 cases ch
 exact ⟨rfl,_,(wFc rfl rfl),U9,_,(bY.pick [0] _ (by decide) rfl),none,0,rfl,rfl⟩
theorem wIB (p0:wAP) (af:Option Addr) (ah:Nat) (ag:Option Addr) (ai:Nat) (w:World) (U:PHeap) (hS:St0 w U []) (a7:Sl U 1 af ah p0.Bibs.length (hM KL.encI p0.Bibs)) (a8:SlR U wDT ag ai p0.Times) {r:(List Int) × Int} (hm:wDA p0=some r):Gv Tryz.prog 49 [.agg #[jV p0.Laps,.slice af p0.Bibs.length ah,.slice ag p0.Times.length ai]] w (wBU w [] U (fun U_ L_ v=>∃ (A0:Option Addr) (c0:Nat),v=.tuple #[.slice A0 r.1.length c0,jV r.2]/\L_=[.row A0 c0 3 1 (hM KL.encI r.1)])):=by
 unfold wDA at hm
 refine Gv.of Tryz.func49 Z Tryz.ntmps49 Tryz.results49 Z (sR gBm Z ?_)
 let B0:List Value:=[jV p0.Laps,.slice af p0.Bibs.length ah,.slice ag p0.Times.length ai]
 refine ZS (cs:=B0) rfl rfl rfl rfl rfl rfl (by rfl) hS ?_
 intro W1 b2 aY
 refine oA Z Z (oA Z Z (eN (zG (sR gBk Z (oL Z (aY.ldBA (j:=0) Z Z Z yH Zc (vs:=B0) Z Z) (bnK hm fun x5 h6 bw=>zL 0 Z Z Z Z (zK Z Z Tryz.call56 (zB Z zM) Z) aY (fun hs=>wFK p0 af ah ag ai W1 U hs a7 a8 h6) (.inr Z) ?_))))))
 rintro U8 L9 bD aw bb br ⟨rfl,rfl⟩
 have ao:sW w U U8 [.blk b2 34 B0] aw:=br
 refine oA Z Z (eN (sR fL2 Z (oM Z Z (oR Z (ZW Z Z Z) (eN (ifc bw ?_ ?_))))))
 intro an bu
 refine zm (zw (fun h=>h an.out)) (kN (sR (.fl 0 (.fx 1 (wFz (.nil)) .stop)) Z (oL Z (ao.ldBA (j:=0) Z Z Z yH Zc (vs:=B0) Z Z) ?_)))
 have bm:=a7.le bb
 have bn:=a8.le bb
 have q:=bnd bu
 obtain ⟨⟨ac,be⟩,bp,ba⟩:=q
 try dsimp only at ba
 refine zL 0 Z Z Z Z (zK Z Z Tryz.call57 (zB Z zM) Z) ao (fun hs=>wHz p0 af ah ag ai aw U8 hs bm bn bp) (.inr Z) ?_
 rintro av bx bE bi bC bs ⟨ay,bf,bj,bg,bl,aj,ak,aq,aW,au,aX,rfl,rfl,bA,bB⟩
 have aZ:sW w U av [.blk ay 165 [jV ac.Race.Laps,.slice bf ac.Race.Bibs.length bj,.slice bg ac.Race.Times.length bl,.slice aj ac.done.length ak,.slice aq ac.out.length aW],.row aj ak 3 1 (hM KL.encI ac.done),.row aq aW 4 1 (hM KL.encT ac.out),.row au aX 65 4 (hM wAN be),.blk b2 34 B0] bi:=bs
 refine oM Z Z (oR Z (zx Z Z (v:=.pointer (some ⟨ay,0,none⟩)) Z) (oR Z (zx Z Z (v:=.slice au be.length aX) Z) (oA Z Z (oA Z Z (eN (sR fL6 Z (oM Z Z (oR Z (ZX Z Z) (oR Z (zJ Z Z Za Z zS) (oL Z (aZ.ldB (j:=0) Z Z Z zc (v:=.slice aj ac.done.length ak) Z) (oA Z Z (oA Z Z (eN (zO ?_))))))))))))))
 cases ba
 exact ⟨rfl,_,(wFc rfl rfl),av,_,(aZ.pick [1] _ (by decide) rfl),aj,ak,rfl,rfl⟩
 intro an bv
 refine cT Z an (sR fL3 Z (oM Z Z (oA Z Z (oA Z Z (eN (zO (zR ?_)))))))
 have bt:=ao.nilrow 3 1
 cases bv
 exact ⟨rfl,_,(wFc rfl rfl),U8,_,(bt.pick [0] _ (by decide) rfl),none,0,rfl,rfl⟩
theorem wGY (p0:wAD) (bi:Option Addr) (bm:Nat) (am:Option Addr) (an:Nat) (w:World) (U:PHeap) (hS:St0 w U []) (dx:Sl U 1 bi bm p0.Classes.length (hM KL.encI p0.Classes)) (cN:SlR U wFe am an p0.Legs) {r:Int} (hm:wCE p0=some r):Gv Tryz.prog 50 [.agg #[jV p0.Bib,.slice bi p0.Classes.length bm,.slice am p0.Legs.length an]] w (wBU w [] U (fun U_ L_ v=>v=jV r/\L_=[])):=by
 unfold wCE at hm
 refine Gv.of Tryz.func50 Z Tryz.ntmps50 Tryz.results50 Z (sR gBc Z ?_)
 let B0:List Value:=[jV p0.Bib,.slice bi p0.Classes.length bm,.slice am p0.Legs.length an]
 refine ZS (cs:=B0) rfl rfl rfl rfl rfl rfl (by rfl) hS ?_
 intro W1 b2 cJ
 refine oA Z Z (eN (sR (.fl 0 (.fx 1 (.fx 2 .nil .stop) .stop)) Z ?_))
 let B1:List Value:=[jV 0,jV 0,jV 0]
 refine oR Z (ZH (pv:=[]) (z:=B1) (cs:=B1) Z wAM Zw wGC Z Z) (zz (cs:=B1) Z Z Z Z Z Zw Z cJ ?_)
 intro W5 b6 cM
 refine zu (j:=0) (vs:=B1) Z Z Z Z cM Z Z Z Z Zm (zC Z) Z Z Z ?_
 intro W9 cA
 have bD:sW w U U [.blk b6 49 B1,.blk b2 43 B0] W9:=cA
 refine eN (sR fL1 Z (oA Z Z (eN (zG (sR fL4 Z (oR Z (zJ Z Z zk Z Zd) (oL Z (bD.ldB (j:=1) Z Z Z yE (v:=.slice am p0.Legs.length an) Z) (oR Z (za Z Z ZM) (oM Z Z (eN (zT (bnK hm fun dE cO cW=>?_))))))))))))
 have q:=wAs cO
 obtain ⟨bf,cP⟩:=q
 replace bf:=zF bf
 refine CK.forN' (fun ai bL σ_ w_=>∃ (U_:PHeap),σ_ 15=jV (↑ai:Int)/\σ_ 3=.pointer (some ⟨b6,0,none⟩)/\σ_ 4=jV bL/\σ_ 13=.slice am p0.Legs.length an/\σ_ 14=jV (↑p0.Legs.length:Int)/\PHeap.Le U U_/\sW w U U_ [.blk b6 49 B1,.blk b2 43 B0] w_) cP ?_ ?_ ?_
 exact ⟨U,Z,Z,Z,Z,Z,(zH _),bD⟩
 rintro ai bL dC dI dp bb ⟨aw,a7,cj,cm,bu,bv,bK,bE⟩ c9
 have bs:Hid ((↑ai:Int) < (↑p0.Legs.length:Int)):=zF (wAo bb)
 replace bb:=zF bb
 have cS:Hid (w64 ((↑ai:Int) + 1)=(↑(ai + 1):Int)):=zF (by have h1:=bf.out;have h2:=bs.out;rw [wAT] <;> omega)
 refine sR fL1 Z (oR Z (zU Z a7 bv) (eN (zG (cT Z bs (kN (zG (zT (sR gBu Z (bnK c9 fun ac bB cX=>?_)))))))))
 have ct:=cN.le bK
 have q:=ct.el (wAR bB)
 obtain ⟨bV,dd,dB,cz,ba,c7⟩:=q
 obtain ⟨bl,bp,aq,au,rfl,dw,cu⟩:=c7
 replace ba:Cl aw bV (dd + ai * 3) [jV ac.Skier,.slice bl ac.Loops.length bp,.slice aq ac.Bouts.length au]:=ba
 refine oR Z (zo Z bu cz a7 ZM ZJ (wAj bB)) (oL Z (bE.ldCA (f:=0) ba Z Z yP ZJ (us:=[jV ac.Skier,.slice bl ac.Loops.length bp,.slice aq ac.Bouts.length au]) Z Z) (zz (cs:=[jV 0,.slice none 0 0,.slice none 0 0]) Z Z Z Z Z ZT Z bE ?_))
 intro dr ax cK
 let B2:List Value:=[jV ac.Skier,.slice bl ac.Loops.length bp,.slice aq ac.Bouts.length au]
 refine zu (j:=0) (vs:=B2) Z Z Z Z cK Z Z Z Z ZJ (zC Z) Z Z Z ?_
 intro bR cL
 have bF:sW w U aw [.blk ax 46 B2,.blk b6 49 B1,.blk b2 43 B0] bR:=cL
 refine eN (sR fL4 Z (oR Z (zJ Z Z ZB Z yK) (oL Z (bF.ldB (j:=0) Z Z Z yu (v:=.slice aq ac.Bouts.length au) Z) (oR Z (za Z Z ZZ) (oM Z Z (eN (zT (bnK cX fun dF cQ cY=>?_))))))))
 have q:=wAs cQ
 obtain ⟨bg,cR⟩:=q
 replace bg:=zF bg
 refine CK.forN' (fun ak bM σ_ w_=>∃ (U_:PHeap),σ_ 22=jV (↑ak:Int)/\σ_ 3=.pointer (some ⟨b6,0,none⟩)/\σ_ 4=jV bM/\σ_ 13=.slice am p0.Legs.length an/\σ_ 14=jV (↑p0.Legs.length:Int)/\σ_ 15=jV (↑ai:Int)/\σ_ 20=.slice aq ac.Bouts.length au/\σ_ 21=jV (↑ac.Bouts.length:Int)/\PHeap.Le aw U_/\sW w U U_ [.blk ax 46 B2,.blk b6 49 B1,.blk b2 43 B0] w_) cR ?_ ?_ ?_
 exact ⟨aw,Z,cj,cm,bu,bv,a7,Z,Z,(zH _),bF⟩
 rintro ak bM dD dJ bS be ⟨br,ay,aX,bw,bx,bz,bA,aY,aZ,bh,bG⟩ da
 have bt:Hid ((↑ak:Int) < (↑ac.Bouts.length:Int)):=zF (wAo be)
 replace be:=zF be
 have bH:Hid (w64 ((↑ak:Int) + 1)=(↑(ak + 1):Int)):=zF (by have h1:=bg.out;have h2:=bt.out;rw [wAT] <;> omega)
 refine sR fL1 Z (oR Z (zU Z ay aZ) (eN (zG (cT Z bt (kN (zG (zT (sR fL3 Z (bnK da fun bq bC cZ=>?_)))))))))
 have cw:=cu.le bh
 have q:=cw.el (wAR bC)
 obtain ⟨bW,de,dA,cy,a8,c6⟩:=q
 obtain ⟨bj,bn,rfl,cq⟩:=c6
 replace a8:Cl br bW (de + ak * 1) [.slice bj bq.length bn]:=a8
 refine oR Z (zo Z aY cy ay ZZ Zt (wAj bC)) (oL Z (bG.ldC (f:=0) a8 (v:=.slice bj bq.length bn) Z Z yc Z) (oA Z Z (eN (sR (.fl 0 (.fx 1 (wMf (.fx 5 (.fx 6 (.fl 7 .nil) .stop) .stop)) .stop)) Z (oM Z Z ?_)))))
 have q:=bnd cZ
 obtain ⟨⟨ag,df⟩,cr,bI⟩:=q
 try dsimp only at bI
 refine zL 0 Z Z Z Z (zK Z Z Tryz.call11 (zB Z zM) Z) bG (fun hs=>wEL bq bj bn bS br hs cq cr) (.inr Z) ?_
 rintro av dg dz bP bJ cC ⟨rfl,rfl⟩
 have cD:sW w U av [.blk ax 46 B2,.blk b6 49 B1,.blk b2 43 B0] bP:=cC
 refine oM Z Z (oR Z (zx Z Z (v:=.agg #[jV ag.Spares,jV ag.Loops,jV ag.Unused]) Z) (oR Z (zx Z Z (v:=jV df) Z) (zz (cs:=B1) Z Z Z Z Z Zw Z cD ?_)))
 intro di bU cE
 let B3:List Value:=[jV ag.Spares,jV ag.Loops,jV ag.Unused]
 refine zu (j:=0) (vs:=B3) Z Z Z Z cE Z Z Z Z Zm (zC Z) Z Z Z ?_
 intro bQ cG
 have ap:sW w U av [.blk bU 49 B3,.blk ax 46 B2,.blk b6 49 B1,.blk b2 43 B0] bQ:=cG
 refine oA Z Z (eN (sR fL3 Z (oL Z (ap.ldBA (j:=0) Z Z Z yb Zm (vs:=B3) Z Z) (oL Z (ap.ldBA (j:=2) Z Z aX yb Zm (vs:=B1) Z Z) (oR Z (zn (Runs.neS (enc:=wBZ) (a:=ag) (b:=(⟨0,0,0⟩:wAW)) Z Z Z wNp wNo) (congrArg nB (decide_not).symm)) (eN (ifc bI ?_ ?_)))))))
 intro aW cU
 refine zm (zw (fun h=>h aW.out)) (ZV (zb (zI (rR fL2 Z (oR Z (zn (zX Z ay Z) (congrArg (jV) bH.out)) (oM Z Z (zg ?_)))))))
 cases cU
 exact zI ⟨rfl,⟨av,rfl,aX,bw,bx,bz,bA,aY,aZ,(bh.trans bJ),(ap.pick [1,2,3] _ (by decide) rfl)⟩⟩
 intro aW cV
 refine cT Z aW (rR fL5 Z (oM Z bw (oR Z (zJ Z Z Tryz.runUnderlying49 Z zD) (oL Z (ap.ldB (j:=0) Z Z Z zP (v:=jV ag.Unused) Z) (oR Z (zX Z Z Z) (oA Z Z (zg (zb (zI (rR fL2 Z (oR Z (zn (zX Z ay Z) (congrArg (jV) bH.out)) (oM Z Z (zg ?_)))))))))))))
 cases cV
 exact zI ⟨rfl,⟨av,rfl,aX,rfl,bx,bz,bA,aY,aZ,(bh.trans bJ),(ap.pick [1,2,3] _ (by decide) rfl)⟩⟩
 rintro dG dm ⟨bN,co,bZ,b4,ca,cc,cd,dt,cg,db,cH⟩
 have bX:Hid (¬ ((↑(((↑ac.Bouts.length:Int):Int) - 0).toNat:Int) < (↑ac.Bouts.length:Int))):=zF (wAa)
 refine sR fL1 Z (oR Z (zU Z co cg) (eN (zG (cF Z bX (ZI (zY (zY (ZD (zb (zI (rR fL2 Z (oR Z (zn (zX Z cd Z) (congrArg (jV) cS.out)) (oM Z Z (zg ?_))))))))))))))
 cases cY
 exact zI ⟨rfl,⟨bN,rfl,bZ,b4,ca,cc,(bK.trans db),(cH.pick [1,2] _ (by decide) rfl)⟩⟩
 rintro dH dn ⟨bO,cp,du,ch,dv,ci,dy,cI⟩
 have bY:Hid (¬ ((↑(((↑p0.Legs.length:Int):Int) - 0).toNat:Int) < (↑p0.Legs.length:Int))):=zF (wAa)
 refine sR fL1 Z (oR Z (zU Z cp ci) (eN (zG (cF Z bY (ZI (zY (zY (ZD (zI (sR fL2 Z (oM Z ch (oA Z Z (eN (zO ?_))))))))))))))
 have hE:=nA cW;first | subst r | cases hE
 exact ⟨rfl,_,(zr rfl),bO,_,(cI.pick [] _ (by decide) rfl),rfl,rfl⟩
theorem wBk (p0:List wAB) (ac:Option Addr) (ae:Nat) (p1:((wAB × wAB)->Option Int)) (af:Value) (w:World) (U:PHeap) (hS:St ⟨w,[.row ac ae 70 3 (hM wAG p0)],U⟩ U [.row ac ae 70 3 (hM wAG p0)] w) (ah:FnOK Tryz.prog U af wNm wNn p1) (ai:∃ g cb,af=.func (.func g) #[] cb) {r:List wAB} (hm:wAX p0 p1=some r):Gv Tryz.prog 51 [.slice ac p0.length ae,af] w (wBU w [.row ac ae 70 3 (hM wAG p0)] U (fun U_ L_ v=>v=.tuple #[]/\L_=[.row ac ae 70 3 (hM wAG r)]/\r.length=p0.length)) :=
 wJG (sz:=3) (fun _=>rfl) (fun x v h=>List.all_eq_true.1 (show (wAG x).all (·.oneCell')=true from rfl) v h) (fun _ _ _=>rfl) (fun _ _ _ _ h=>h.1) (fun enc a1 a2 cf b g cb k1 k2 k3 d w h1 h2 h3 h4 h5 h6=>Go.Proofs.Tryz.slices_SortFunc_total_f51 3 Tryz.isAgg70 Tryz.sizeOf70 enc a1 a2 cf b g cb k1 k2 k3 d w h1 h2 h3 h4 h5 h6) (fun p c v w=>Go.Proofs.Tryz.slices_SortFunc_none_f51 (α:=Int) p c v w) hS ah (by decide) ai hm
theorem wHK (p0:wAB) (p1:wAB) (w:World) (U:PHeap) (hS:St0 w U [])  {r:Int} (hm:wBN p0 p1=some r):Gv Tryz.prog 52 [.agg #[jV p0.Bib,jV p0.Place,jV p0.Time],.agg #[jV p1.Bib,jV p1.Place,jV p1.Time]] w (wBU w [] U (fun U_ L_ v=>v=jV r/\L_=[])):=by
 unfold wBN at hm
 refine Gv.of Tryz.func52 Z Tryz.ntmps52 Tryz.results52 Z (sR gBj Z ?_)
 let B0:List Value:=[jV p0.Bib,jV p0.Place,jV p0.Time]
 refine ZS (cs:=B0) rfl rfl rfl rfl rfl rfl (by rfl) hS ?_
 intro W1 b2 ba
 let B1:List Value:=[jV p1.Bib,jV p1.Place,jV p1.Time]
 refine ZS (cs:=B1) rfl rfl rfl rfl rfl rfl (by rfl) ba ?_
 intro W5 b6 bl
 refine yg rfl rfl rfl rfl rfl rfl (eN (zG (ZY ZP [3,1,3,1,2,3,1,3,1,2,2,2,3] (wGc (wPN gBw)) (by kernel_rfl) ?_)))
 have ag:=bl.drew
 generalize hw_W10:({ W5 with drawn:=W5.drawn + 1 }:World)=ax at ag ⊢
 refine oR Z (zJ Z Z Ze Z zD) (oL Z (ag.ldB (j:=1) Z Z Z zP (v:=jV p0.Time) Z) (oR Z (zJ Z Z Ze Z zD) (oL Z (ag.ldB (j:=0) Z Z Z zP (v:=jV p1.Time) Z) (oR Z (zJ Z Z Ze Z zD) (oL Z (ag.ldB (j:=1) Z Z Z zP (v:=jV p0.Bib) Z) (oR Z (zJ Z Z Ze Z zD) (oL Z (ag.ldB (j:=0) Z Z Z zP (v:=jV p1.Bib) Z) (bnK hm fun ah aW bm=>zL 0 Z Z Z Z (zK Z Z Tryz.call54 (zB Z (zB Z zM)) Z) ag (fun hs=>wCc p0.Time p1.Time ax U hs aW) (.inr Z) ?_))))))))
 rintro an br bA au bv aZ ⟨rfl,rfl⟩
 have a7:sW w U an [.blk b6 70 B1,.blk b2 70 B0] au:=aZ
 refine bnK bm fun ai aX bn=>zL 0 Z Z Z Z (zK Z Z Tryz.call54 (zB Z (zB Z zM)) Z) a7 (fun hs=>wCc p0.Bib p1.Bib au an hs aX) (.inr Z) ?_
 rintro ao bs bB ay bw a8 ⟨rfl,rfl⟩
 have bb:sW w U ao [.blk b6 70 B1,.blk b2 70 B0] ay:=a8
 refine zW (pv:=[(0,jV ah),(1,jV ai)]) (zs:=[jV 0,jV 0]) (cs:=[jV ah,jV ai]) Z Z Z Z Z (wAC Z (wAC Z wAM)) zA zD zt Z Z Z Z Z bb ?_
 intro am aw be
 have bf:sW w U ao [.row (some ⟨aw,0,none⟩) 2 3 1 (hM KL.encI [ah,ai]),.blk b6 70 B1,.blk b2 70 B0] am:=be
 have q:=bf.freezeR (k:=0) (n:=[ah,ai].length) rfl (wAF (f:=KL.encI) (sz:=1) (fun _=>rfl) [ah,ai]) (by decide)
 obtain ⟨ap,bx,bq,bg⟩:=q
 have bh:sW w U ap [.blk b6 70 B1,.blk b2 70 B0] am:=bg
 refine bnK bn fun bD aY bp=>zL 0 Z Z Z Z (zK Z Z Tryz.call53 (zB Z zM) Z) bh (fun hs=>wFu [ah,ai] (some ⟨aw,0,none⟩) 2 am ap hs bq aY) (.inr Z) ?_
 rintro aq bt bC az bz bi ⟨rfl,rfl⟩
 have bj:sW w U aq [.blk b6 70 B1,.blk b2 70 B0] az:=bi
 refine oA Z Z (eN (zO ?_))
 have hE:=nA bp;first | subst r | cases hE
 exact ⟨rfl,_,(zr rfl),aq,_,(bj.pick [] _ (by decide) rfl),rfl,rfl⟩
theorem wHL (p0:wAB) (p1:wAB) (p2:List (Int × Int)) (aX:Nat) (an:Nat) (bw:Array MapEntry) (bx:Nat) (w:World) (U:PHeap) (hS:St0 w U []) (az:Cl U aX 0 [.map (some an)]) (aW:MpF U an bw bx wJx wLC p2) {r:Int} (hm:wBO p0 p1 p2=some r):Gv Tryz.prog 55 [.agg #[jV p0.Bib,jV p0.Place,jV p0.Time],.agg #[jV p1.Bib,jV p1.Place,jV p1.Time],.pointer (some ⟨aX,0,none⟩)] w (wBU w [] U (fun U_ L_ v=>v=jV r/\L_=[])):=by
 unfold wBO at hm
 refine Gv.of Tryz.func55 Z Tryz.ntmps55 Tryz.results55 Z (sR gBj Z ?_)
 let B0:List Value:=[jV p0.Bib,jV p0.Place,jV p0.Time]
 refine ZS (cs:=B0) rfl rfl rfl rfl rfl rfl (by rfl) hS ?_
 intro W1 b2 bh
 let B1:List Value:=[jV p1.Bib,jV p1.Place,jV p1.Time]
 refine ZS (cs:=B1) rfl rfl rfl rfl rfl rfl (by rfl) bh ?_
 intro W5 b6 br
 refine yg rfl rfl rfl rfl rfl rfl (eN (zG (ZY ZP [1,3,1,1,1,3,1,1,2,3,1,3,1,2,2,2,3] (wOK (wPP (.fx 8 (.fx 13 (.fx 14 (.fx 15 (.fl 16 .nil) .stop) .stop) .stop) .stop))) (by kernel_rfl) ?_)))
 have ae:=br.drew
 generalize hw_W10:({ W5 with drawn:=W5.drawn + 1 }:World)=aY at ae ⊢
 refine oL Z (ae.ldC (f:=0) az (v:=.map (some an)) Z Z Tryz.isAgg128 Z) (oR Z (zJ Z Z Ze Z zD) (oL Z (ae.ldB (j:=0) Z Z Z zP (v:=jV p1.Bib) Z) (oL Z (ae.lookupF1 (mk:=wJx) (mv:=wLC) (a:=p1.Bib) (z:=0) aW Z Z Z (wDF Tryz.runUnderlying128) wJz zt) (oL Z (ae.ldC (f:=0) az (v:=.map (some an)) Z Z Tryz.isAgg128 Z) (oR Z (zJ Z Z Ze Z zD) (oL Z (ae.ldB (j:=1) Z Z Z zP (v:=jV p0.Bib) Z) (oL Z (ae.lookupF1 (mk:=wJx) (mv:=wLC) (a:=p0.Bib) (z:=0) aW Z Z Z (wDF Tryz.runUnderlying128) wJz zt) (oR Z (zJ Z Z Ze Z zD) (oL Z (ae.ldB (j:=1) Z Z Z zP (v:=jV p0.Bib) Z) (oR Z (zJ Z Z Ze Z zD) (oL Z (ae.ldB (j:=0) Z Z Z zP (v:=jV p1.Bib) Z) (bnK hm fun ah a8 bs=>zL 0 Z Z Z Z (zK Z Z Tryz.call54 (zB Z (zB Z zM)) Z) ae (fun hs=>wCc (wEW p2 p1.Bib 0) (wEW p2 p0.Bib 0) aY U hs a8) (.inr Z) ?_))))))))))))
 rintro ap bz bH aw bD be ⟨rfl,rfl⟩
 have bf:sW w U ap [.blk b6 70 B1,.blk b2 70 B0] aw:=be
 refine bnK bs fun ai ba bt=>zL 0 Z Z Z Z (zK Z Z Tryz.call54 (zB Z (zB Z zM)) Z) bf (fun hs=>wCc p0.Bib p1.Bib aw ap hs ba) (.inr Z) ?_
 rintro aq bA bI aZ bE bg ⟨rfl,rfl⟩
 have bi:sW w U aq [.blk b6 70 B1,.blk b2 70 B0] aZ:=bg
 refine zW (pv:=[(0,jV ah),(1,jV ai)]) (zs:=[jV 0,jV 0]) (cs:=[jV ah,jV ai]) Z Z Z Z Z (wAC Z (wAC Z wAM)) zA zD zt Z Z Z Z Z bi ?_
 intro ao ay bj
 have bl:sW w U aq [.row (some ⟨ay,0,none⟩) 2 3 1 (hM KL.encI [ah,ai]),.blk b6 70 B1,.blk b2 70 B0] ao:=bj
 have q:=bl.freezeR (k:=0) (n:=[ah,ai].length) rfl (wAF (f:=KL.encI) (sz:=1) (fun _=>rfl) [ah,ai]) (by decide)
 obtain ⟨au,bF,bv,bm⟩:=q
 have bn:sW w U au [.blk b6 70 B1,.blk b2 70 B0] ao:=bm
 refine bnK bt fun bK bb bu=>zL 0 Z Z Z Z (zK Z Z Tryz.call53 (zB Z zM) Z) bn (fun hs=>wFu [ah,ai] (some ⟨ay,0,none⟩) 2 ao au hs bv bb) (.inr Z) ?_
 rintro av bB bJ a7 bG bp ⟨rfl,rfl⟩
 have bq:sW w U av [.blk b6 70 B1,.blk b2 70 B0] a7:=bp
 refine oA Z Z (eN (zO ?_))
 have hE:=nA bu;first | subst r | cases hE
 exact ⟨rfl,_,(zr rfl),av,_,(bq.pick [] _ (by decide) rfl),rfl,rfl⟩
theorem wEl (p0:wAI) (cK:Option Addr) (cN:Nat) (bx:Option Addr) (bz:Nat) (w:World) (U:PHeap) (hS:St0 w U []) (lM:Sl U 1 cK cN p0.Rules.Classes.length (hM KL.encI p0.Rules.Classes)) (fM:SlR U wFF bx bz p0.Teams) {r:(List wAB) × Int} (hm:wAy p0=some r):Gv Tryz.prog 14 [.agg #[.slice cK p0.Rules.Classes.length cN,jV p0.Rules.Each,jV p0.Rules.Laps,jV p0.Rules.Spare,jV p0.Rules.Loop,jV p0.Rules.Unused,jV p0.Start,.slice bx p0.Teams.length bz]] w (wBU w [] U (fun U_ L_ v=>∃ (A0:Option Addr) (c0:Nat),v=.tuple #[.slice A0 r.1.length c0,jV r.2]/\L_=[.row A0 c0 70 3 (hM wAG r.1)])):=by
 unfold wAy at hm
 refine Gv.of Tryz.func14 Z Tryz.ntmps14 Tryz.results14 Z (sR gBm Z ?_)
 let B0:List Value:=[.slice cK p0.Rules.Classes.length cN,jV p0.Rules.Each,jV p0.Rules.Laps,jV p0.Rules.Spare,jV p0.Rules.Loop,jV p0.Rules.Unused,jV p0.Start,.slice bx p0.Teams.length bz]
 refine ZS (cs:=B0) rfl rfl rfl rfl rfl rfl (by rfl) hS ?_
 intro W1 b2 fC
 refine oA Z Z (oA Z Z (eN (sR (.fl 0 (.fx 1 (wFz (.nil)) .stop)) Z (oL Z (fC.ldBA (j:=0) Z Z Z Zq ZL (vs:=B0) Z Z) ?_))))
 have q:=bnd hm
 obtain ⟨⟨x5,x6⟩,h7,bX⟩:=q
 try dsimp only at bX
 refine zL 0 Z Z Z Z (zK Z Z Tryz.call30 (zB Z zM) Z) fC (fun hs=>wEY p0 cK cN bx bz W1 U hs lM fM h7) (.inr Z) ?_
 rintro U9 m4 oU cm mP fy fw
 rcases x5 with _ | a7
 try dsimp only at bX
 obtain ⟨rfl,rfl⟩:=fw
 have jO:sW w U U9 [.blk b2 28 B0] cm:=fy
 refine oM Z Z (oR Z (zx Z Z (v:=.pointer none) Z) (oR Z (zx Z Z (v:=jV x6) Z) (oA Z Z (oA Z Z (eN (zG (sR fL2 Z (oM Z Z (oR Z (ZW Z Z Z) (eN (ifc bX ?_ ?_)))))))))))
 intro db ma
 refine zm (zw (fun h=>h db.out)) (kN (sR gBv Z (oM Z Z ?_)))
 cases ma
 intro db mb
 refine cT Z db (sR fL3 Z (oM Z Z (oA Z Z (oA Z Z (eN (zO (zR ?_)))))))
 have jR:=jO.nilrow 70 3
 cases mb
 exact ⟨rfl,_,(wFc rfl rfl),U9,_,(jR.pick [0] _ (by decide) rfl),none,0,rfl,rfl⟩
 try dsimp only at bX
 obtain ⟨bE,dV,eR,dW,eS,bM,bU,gV,rfl,rfl,iV,iW,iY⟩:=fw
 let B1:Res:=.blk bE 130 [.slice dV a7.Race.Rules.Classes.length eR,jV a7.Race.Rules.Each,jV a7.Race.Rules.Laps,jV a7.Race.Rules.Spare,jV a7.Race.Rules.Loop,jV a7.Race.Rules.Unused,jV a7.Race.Start,.slice dW a7.Race.Teams.length eS,.slice bM a7.after.length bU]
 have fE:sW w U U9 [B1,.row bM bU 23 1 gV,.blk b2 28 B0] cm:=fy
 refine oM Z Z (oR Z (zx Z Z (v:=.pointer (some ⟨bE,0,none⟩)) Z) (oR Z (zx Z Z (v:=jV x6) Z) (oA Z Z (oA Z Z (eN (zG (sR fL2 Z (oM Z Z (oR Z (ZW Z Z Z) (eN (ifc bX ?_ ?_)))))))))))
 intro dd mj
 refine zm (zw (fun h=>h dd.out)) (kN (sR gBv Z (oM Z Z ?_)))
 have q:=fE.freezeRR (R:=wDT) (k:=1) rfl iY rfl (by decide)
 obtain ⟨eB,dN,fQ,j8⟩:=q
 have j9:sW w U eB [B1,.blk b2 28 B0] cm:=j8
 have jd:=iV.le dN
 have jf:=iW.le dN
 refine bnK mj fun bj jh mr=>zL 1 Z Z Z Z (zK Z Z Tryz.call31 (zB Z zM) Z) j9 (fun hs=>wEG a7 bE dV eR dW eS bM bU cm eB hs jd jf fQ jh) (.inl Z) ?_
 rintro eC m7 oW gH fY lq ⟨cc,cp,cd,cq,gX,rfl,rfl,jp⟩
 let B2:Res:=.row cc cp 3 1 (hM KL.encI bj.Bibs)
 let B3:Res:=.row cd cq 23 1 gX
 have lD:sW w U eC [B2,B3,B1,.blk b2 28 B0] gH:=lq
 let B4:List Value:=[jV 0,.slice none 0 0,.slice none 0 0]
 refine zz (cs:=B4) Z Z Z Z Z yX Z lD ?_
 intro oq aj lE
 let B5:List Value:=[jV bj.Laps,.slice cc bj.Bibs.length cp,.slice cd bj.Times.length cq]
 refine zu (j:=0) (vs:=B5) Z Z Z Z lE Z Z Z Z Zc (zC Z) Z Z Z ?_
 intro co lG
 have fK:sW w U eC [.blk aj 34 B5,B2,B3,B1,.blk b2 28 B0] co:=lG
 refine eN (sR (.fl 0 (.fx 1 (wFz (.nil)) .stop)) Z (oL Z (fK.ldBA (j:=0) Z Z Z yH Zc (vs:=B5) Z Z) ?_))
 have q:=fK.freezeR (k:=1) (n:=bj.Bibs.length) rfl (wAF (f:=KL.encI) (sz:=1) (fun _=>rfl) bj.Bibs) (by decide)
 obtain ⟨gr,dP,mM,lH⟩:=q
 have lI:sW w U gr [.blk aj 34 B5,B3,B1,.blk b2 28 B0] co:=lH
 have jr:=jp.le dP
 have q:=lI.freezeRR (R:=wDT) (k:=1) rfl jr rfl (by decide)
 obtain ⟨eG,dQ,fR,lJ⟩:=q
 have lK:sW w U eG [.blk aj 34 B5,B1,.blk b2 28 B0] co:=lJ
 have fq:=mM.le dQ
 have q:=bnd mr
 obtain ⟨⟨aW,mY⟩,jt,fP⟩:=q
 try dsimp only at fP
 refine zL 0 Z Z Z Z (zK Z Z Tryz.call15 (zB Z zM) Z) lK (fun hs=>wFD bj cc cp cd cq co eG hs fq fR jt) (.inr Z) ?_
 rintro eH n2 oZ eK cJ lL ⟨cR,dh,rfl,rfl⟩
 let B6:Res:=.row cR dh 65 4 (hM wAN aW)
 have fL:sW w U eH [B6,.blk aj 34 B5,B1,.blk b2 28 B0] eK:=lL
 refine oM Z Z (oR Z (zx Z Z (v:=.slice cR aW.length dh) Z) (oR Z (zx Z Z (v:=jV mY) Z) (oA Z Z (oA Z Z (eN (sR (.fl 0 (.fx 1 (wFz (.nil)) .stop)) Z (oL Z (fL.ldBA (j:=1) Z Z Z yH Zc (vs:=B5) Z Z) ?_)))))))
 have ju:=fq.le cJ
 have jv:=fR.le cJ
 have q:=bnd fP
 obtain ⟨⟨bq,mW⟩,iG,fN⟩:=q
 try dsimp only at fN
 refine zL 0 Z Z Z Z (zK Z Z Tryz.call49 (zB Z zM) Z) fL (fun hs=>wIB bj cc cp cd cq eK eH hs ju jv iG) (.inr Z) ?_
 rintro ch m5 oS gv fV jD ⟨bL,bT,rfl,rfl⟩
 let B7:Res:=.row bL bT 3 1 (hM KL.encI bq)
 have jE:sW w U ch [B7,B6,.blk aj 34 B5,B1,.blk b2 28 B0] gv:=jD
 refine oM Z Z (oR Z (zx Z Z (v:=.slice bL bq.length bT) Z) (oR Z (zx Z Z (v:=jV mW) Z) (oA Z Z (oA Z Z (eN (sR (.fx 0 (.fx 1 gBn .stop) .stop) Z (OKS.makeMap Z Z Z Z Z jE ?_)))))))
 intro n3 an jF
 have mG:=MpR.nil wHG wHV
 refine OKS.makeMap Z Z Z Z Z jF ?_
 intro n4 az jG
 have mH:=MpR.nil wJx wLC
 refine zz (cs:=[.map none]) Z Z Z Z Z Tryz.zeroValue128 Z jG ?_
 intro n5 aq jH
 refine oA Z Z ?_
 let B8:List Value:=[.map (some az)]
 refine zu (j:=0) (vs:=B8) Z Z Z Z jH Z Z Z Z Tryz.sizeOf128 (zC Z) Z Z Z ?_
 intro gw jI
 have jJ:sW w U ch [.blk aq 128 B8,.obj az (.map #[] 0),.obj an (.map #[] 0),B7,B6,.blk aj 34 B5,B1,.blk b2 28 B0] gw:=jI
 refine eN (zG (sR fL3 Z (oM Z Z (oR Z (za Z Z Zo) (oM Z Z (eN (zT (bnK fN fun o9 lN l7=>?_))))))))
 have q:=wAs lN
 obtain ⟨dJ,lP⟩:=q
 replace dJ:=zF dJ
 refine CK.forN' (fun bf fT σ_ w_=>∃ (U_:PHeap) (cr:Array MapEntry) (di:Nat),σ_ 44=jV (↑bf:Int)/\σ_ 1=.pointer (some ⟨b2,0,none⟩)/\σ_ 4=.pointer (some ⟨bE,0,none⟩)/\σ_ 6=.pointer (some ⟨aj,0,none⟩)/\σ_ 9=.slice bL bq.length bT/\σ_ 11=.map (some an)/\σ_ 12=.pointer (some ⟨aq,0,none⟩)/\σ_ 42=.slice cR aW.length dh/\σ_ 43=jV (↑aW.length:Int)/\PHeap.Le ch U_/\sW w U U_ [.blk aq 128 B8,.obj az (.map #[] 0),.obj an (.map cr di),.blk aj 34 B5,B1,.blk b2 28 B0,B7,B6] w_/\MpR cr wHG wHV fT) lP ?_ ?_ ?_
 exact ⟨ch,#[],0,rfl,rfl,rfl,rfl,rfl,rfl,rfl,rfl,rfl,(zH _),(jJ.pick [0,1,2,5,6,7,3,4] _ (by decide) rfl),mG⟩
 rintro bf fT o6 pa n7 dG ⟨cY,cr,di,dv,gZ,g8,g9,ib,e9,ic,fb,fc,mQ,dE,iH⟩ mN
 have eQ:Hid ((↑bf:Int) < (↑aW.length:Int)):=zF (wAo dG)
 replace dG:=zF dG
 have l6:Hid (w64 ((↑bf:Int) + 1)=(↑(bf + 1):Int)):=zF (by have h1:=dJ.out;have h2:=eQ.out;rw [wAT] <;> omega)
 refine sR fL1 Z (oR Z (zU Z dv fc) (eN (zG (cT Z eQ (kN (zG (zT (sR gBu Z (bnK mN fun _ dw l8=>?_)))))))))
 obtain ⟨ot,ft⟩:=dE.rowSome (j:=7) rfl (by rw [wAF (f:=wAN) (sz:=4) (fun _=>rfl) aW];have hz:=wAd dw;omega)
 refine oR Z (zo Z fb ft dv Zo yD (wAd dw)) ?_
 have lV:=wCX (xs:=aW) (wAd dw)
 let B9:List Value:=[jV ((gd aW bf).Bib),jV ((gd aW bf).Done),jV ((gd aW bf).Time),jV ((gd aW bf).By)]
 refine ZO rfl rfl rfl rfl (dE.ldRA (j:=7) rfl ft rfl rfl Tryz.isAgg65 yD (vs:=B9) (wHq (sz:=4) (fun _=>rfl) _ _ _ lV (by first | omega | rfl | simp) rfl) rfl) rfl (zz (cs:=[jV 0,jV 0,jV 0,jV 0]) rfl rfl rfl rfl rfl Tryz.zeroValue65 rfl dE ?_)
 intro n8 eM jK
 refine zu (j:=0) (vs:=B9) Z Z Z Z jK Z Z Z Z yD (zC Z) Z Z Z ?_
 intro gx jL
 have fz:sW w U cY [.blk eM 65 B9,.blk aq 128 B8,.obj az (.map #[] 0),.obj an (.map cr di),.blk aj 34 B5,B1,.blk b2 28 B0,B7,B6] gx:=jL
 refine eN (rR (wDE (.fx 3 .nil .stop)) rfl (zj rfl rfl rfl rfl rfl e9 (zh rfl rfl rfl rfl (fun _=>zJ rfl rfl yR rfl zD) (ZO rfl rfl rfl rfl (fz.ldB (j:=0) rfl rfl rfl zP (v:=jV ((gd aW bf).Bib)) rfl) rfl (OKS.mapPut (x:=.tmp 48) (y:=.tmp 50) (j:=3) (mk:=wHG) (mv:=wHV) (a:=(gd aW bf).Bib) (v:=true) rfl rfl rfl (by first | exact .inl rfl | exact .inr rfl) fz rfl rfl rfl rfl (wDF yY) wHv iH rfl ?_)))))
 intro e8 eZ gy mI jM
 have jN:sW w U cY [.blk eM 65 B9,.blk aq 128 B8,.obj az (.map #[] 0),.obj an (.map e8 eZ),.blk aj 34 B5,B1,.blk b2 28 B0,B7,B6] gy:=jM
 refine zg (zb (zI (rR fL2 Z (oR Z (zn (zX Z dv Z) (congrArg (jV) l6.out)) (oM Z Z (zg ?_))))))
 cases l8
 exact zI ⟨rfl,⟨cY,e8,eZ,rfl,gZ,g8,g9,ib,e9,ic,fb,fc,mQ,(jN.pick [1,2,3,4,5,6,7,8] _ (by decide) rfl),mI⟩⟩
 rintro pb n9 ⟨ey,ax,aw,iD,fd,ie,ig,ii,ij,ik,ox,il,fW,fA,iI⟩
 have gU:Hid (¬ ((↑(((↑aW.length:Int):Int) - 0).toNat:Int) < (↑aW.length:Int))):=zF (wAa)
 refine sR fL1 Z (oR Z (zU Z iD il) (eN (zG (cF Z gU (ZI (zY (zY (ZD (zI (sR fL2 Z (oA Z Z (oA Z Z (eN (zG (sR fL4 Z (oR Z (zJ Z fd ze Z ZU) (oL Z (fA.ldB (j:=5) Z Z Z Zn (v:=.slice bx p0.Teams.length bz) Z) (oR Z (za Z Z ZC) (oM Z Z (eN (zT ?_)))))))))))))))))))))
 have q:=bnd l7
 obtain ⟨⟨dS,ca,dT⟩,lQ,fO⟩:=q
 try dsimp only at fO
 have q:=wAs lQ
 obtain ⟨dK,lR⟩:=q
 replace dK:=zF dK
 refine CK.forN' (fun bg (fU,bJ,bw) σ_ w_=>∃ (U_:PHeap) (ct:Array MapEntry) (dm:Nat) (br:Option Addr) (bt:Nat) (bB:Option Addr) (bF:Nat),σ_ 55=jV (↑bg:Int)/\σ_ 1=.pointer (some ⟨b2,0,none⟩)/\σ_ 4=.pointer (some ⟨bE,0,none⟩)/\σ_ 6=.pointer (some ⟨aj,0,none⟩)/\σ_ 9=.slice bL bq.length bT/\σ_ 11=.map (some an)/\σ_ 12=.pointer (some ⟨aq,0,none⟩)/\σ_ 15=.slice br bJ.length bt/\σ_ 16=.slice bB bw.length bF/\σ_ 53=.slice bx p0.Teams.length bz/\σ_ 54=jV (↑p0.Teams.length:Int)/\PHeap.Le ey U_/\sW w U U_ [.blk aq 128 B8,.obj az (.map ct dm),.obj an (.map ax aw),.blk aj 34 B5,B1,.blk b2 28 B0,B7,.row br bt 70 3 (hM wAG bJ),.row bB bF 70 3 (hM wAG bw)] w_/\MpR ct wJx wLC fU) lR ?_ ?_ ?_
 have jP:=fA.nilrow 70 3
 have jQ:=jP.nilrow 70 3
 exact ⟨ey,#[],0,none,0,none,0,rfl,fd,ie,ig,ii,ij,ik,rfl,rfl,rfl,rfl,(zH _),(jQ.pick [2,3,4,5,6,7,8,1,0] _ (by decide) rfl),mH⟩
 rintro bg ⟨fU,bJ,bw⟩ o7 pd oa dH ⟨aZ,ct,dm,br,bt,bB,bF,bH,dp,cu,cw,cy,cz,cA,dq,dr,cC,cD,bY,fB,iJ⟩ fS
 try dsimp only at fS
 have eT:Hid ((↑bg:Int) < (↑p0.Teams.length:Int)):=zF (wAo dH)
 replace dH:=zF dH
 have dF:Hid (w64 ((↑bg:Int) + 1)=(↑(bg + 1):Int)):=zF (by have h1:=dK.out;have h2:=eT.out;rw [wAT] <;> omega)
 refine sR fL1 Z (oR Z (zU Z bH cD) (eN (zG (cT Z eT (kN (zG (zT (sR (wDE (.fx 3 (.fl 4 (.fx 5 .nil .stop)) .stop)) Z (oM Z bH (bnK fS fun ak fk mc=>?_))))))))))
 have iK:=fM.le mP
 have iL:=iK.le dN
 have iM:=iL.le fY
 have iN:=iM.le dP
 have iO:=iN.le dQ
 have iP:=iO.le cJ
 have iQ:=iP.le fV
 have iR:=iQ.le fW
 have iS:=iR.le bY
 have q:=iS.el (wAR fk)
 obtain ⟨gM,mT,o0,jw,dB,mJ⟩:=q
 obtain ⟨cL,cO,cM,cP,rfl,iT,iU⟩:=mJ
 replace dB:Cl aZ gM (mT + bg * 3) [jV ak.Bib,.slice cL ak.Classes.length cO,.slice cM ak.Legs.length cP]:=dB
 refine oR Z (zo Z cC jw bH ZC ZE (wAj fk)) (oL Z (fB.ldCA (f:=0) dB Z Z yC ZE (us:=[jV ak.Bib,.slice cL ak.Classes.length cO,.slice cM ak.Legs.length cP]) Z Z) (zz (cs:=B4) Z Z Z Z Z Zb Z fB ?_))
 intro oc bh jS
 refine oA Z Z ?_
 let a8:List Value:=[jV ak.Bib,.slice cL ak.Classes.length cO,.slice cM ak.Legs.length cP]
 refine zu (j:=0) (vs:=a8) Z Z Z Z jS Z Z Z Z ZE (zC Z) Z Z Z ?_
 intro c7 jT
 let bm:Res:=.row br bt 70 3 (hM wAG bJ)
 let bs:Res:=.row bB bF 70 3 (hM wAG bw)
 have jU:sW w U aZ [.blk bh 43 a8,.blk aq 128 B8,.obj az (.map ct dm),.obj an (.map ax aw),.blk aj 34 B5,B1,.blk b2 28 B0,B7,bm,bs] c7:=jT
 refine eN (zG (ZY ZP [1,3,1,3,3,3,1,0] (wOJ (.fx 7 .nil .stop)) (by kernel_rfl) ?_))
 have bI:=jU.drew
 generalize hw_W325:({ c7 with drawn:=c7.drawn + 1 }:World)=od at bI ⊢
 refine oL Z (bI.ldB (j:=1) Z Z cA Tryz.isAgg128 (v:=.map (some az)) Z) (oR Z (zJ Z Z zk Z zD) (oL Z (bI.ldB (j:=0) Z Z Z zP (v:=jV ak.Bib) Z) (oM Z cy (oM Z Z (bnK mc fun _ dx md=>?_)))))
 obtain ⟨ou,fu⟩:=bI.rowSome (j:=7) rfl (by rw [wAF (f:=KL.encI) (sz:=1) (fun _=>rfl) bq];have hz:=wAd dx;omega)
 refine oR Z (zo Z Z fu Z zA zD (wAd dx)) ?_
 have lW:=wCX (xs:=bq) (wAd dx)
 refine ZO rfl rfl rfl rfl (bI.ldR (j:=7) rfl fu rfl rfl zP (wAp (sz:=1) (fun _=>rfl) _ _ 0 _ lW (by first | omega | rfl | simp) rfl)) rfl (OKS.mapPut (x:=.tmp 60) (y:=.tmp 62) (z:=.tmp 66) (j:=2) (mk:=wJx) (mv:=wLC) (a:=ak.Bib) (v:=(gd bq bg)) rfl rfl rfl (by first | exact .inl rfl | exact .inr rfl) bI rfl rfl rfl rfl (wDF Tryz.runUnderlying128) wJz iJ rfl ?_)
 intro bb ba c9 dM jW
 have jX:sW w U aZ [.blk bh 43 a8,.blk aq 128 B8,.obj az (.map bb ba),.obj an (.map ax aw),.blk aj 34 B5,B1,.blk b2 28 B0,B7,bm,bs] c9:=jW
 refine eN (zG (zG (ZY ZP [3,3,1,1,3,3,3,3,1,3,3,1,3,3,1,3,3] fL17 (by kernel_rfl) ?_)))
 have be:=jX.drew
 generalize hw_W338:({ c9 with drawn:=c9.drawn + 1 }:World)=eI at be ⊢
 refine oM Z cz (oR Z (zJ Z Z zk Z zD) (oL Z (be.ldB (j:=0) Z Z Z zP (v:=jV ak.Bib) Z) (oL Z (be.lookup1 (j:=3) (mk:=wHG) (mv:=wHV) (a:=ak.Bib) (z:=false) Z Z Z Z (wDF yY) wHv yS iI) (oM Z Z (ifc md ?_ ?_)))))
 intro au me
 refine zd Z Z Z (zN Z Z (congrArg nB au.out) Z) (zd Z Z Z (zN Z Z (congrArg nB au.out) Z) (zd Z Z Z (zN Z Z (congrArg nB au.out) Z) (zd Z Z Z (zN Z Z (congrArg nB au.out) Z) (zd Z Z Z (zN Z Z (congrArg nB au.out) Z) (zd Z Z Z (zN Z Z (congrArg nB au.out) Z) (zd Z Z Z (zN Z Z (congrArg nB au.out) Z) (zd Z Z Z (zN Z Z (congrArg nB au.out) Z) (zd Z Z Z (zN Z Z (congrArg nB au.out) Z) (zd Z Z Z (zN Z Z (congrArg nB au.out) Z) (zd Z Z Z (zN Z Z (congrArg nB au.out) Z) (oR Z (zV Z (congrArg nB au.out) Z) (eN (ZF Z (sR (wGc gBo) Z (oM Z dr (oR Z (zJ Z Z zk Z zD) (oL Z (be.ldB (j:=0) Z Z Z zP (v:=jV ak.Bib) Z) ?_)))))))))))))))))
 let cS:List Value:=[jV ak.Bib,jV 0,jV 0]
 let d8:List Value:=[jV 0,jV 0,jV 0]
 refine oR Z (ZH (pv:=[(0,jV ak.Bib)]) (z:=d8) (cs:=cS) Z (wAC Z wAM) yI wGo Z Z) (zW (pv:=[(0,.agg cS.toArray)]) (zs:=d8) (cs:=cS) Z Z Z Z Z (wAC Z wAM) ZR Zg yI Z Z Z Z Z be ?_)
 intro gz gO jY
 let d9:Res:=.row (some ⟨gO,0,none⟩) 1 70 3 (hM wAG [(⟨ak.Bib,0,0⟩:wAB)])
 have fD:sW w U aZ [d9,.blk bh 43 a8,.blk aq 128 B8,.obj az (.map bb ba),.obj an (.map ax aw),.blk aj 34 B5,B1,.blk b2 28 B0,B7,bm,bs] gz:=jY
 refine bnK me fun gf iX mf=>Zs (j:=10) (enc:=wAG) (xs:=bw) (ys:=[(⟨ak.Bib,0,0⟩:wAB)]) (zs:=gf) rfl rfl rfl rfl rfl Tryz.underlying59 wKc rfl rfl rfl rfl rfl rfl fD rfl rfl rfl (fD.srcR (j:=0) rfl (by decide) (wAF (f:=wAG) (sz:=3) (fun _=>rfl) [(⟨ak.Bib,0,0⟩:wAB)])) (fun _=>rfl) (fun _=>rfl) iX rfl ?_
 intro dX eU gA jZ
 have j4:sW w U aZ [d9,.blk bh 43 a8,.blk aq 128 B8,.obj az (.map bb ba),.obj an (.map ax aw),.blk aj 34 B5,B1,.blk b2 28 B0,B7,bm,.row dX eU 70 3 (hM wAG gf)] gA:=jZ
 refine oA Z Z (eN (ZI (zY (ZD (zI (rR fL2 Z (oR Z (zn (zX Z bH Z) (congrArg (jV) dF.out)) (oM Z Z (zg ?_)))))))))
 cases mf
 exact zI ⟨rfl,⟨aZ,bb,ba,br,bt,dX,eU,rfl,dp,cu,cw,cy,cz,cA,dq,rfl,cC,cD,bY,(j4.pick [2,3,4,5,6,7,8,9,10] _ (by decide) rfl),dM⟩⟩
 intro au mg
 refine zj Z Z Z (zQ Z Z (congrArg nB (nE.2 au.out))) Z cu (zh Z Z Z (zQ Z Z (congrArg nB (nE.2 au.out))) (fun _=>ZX Z Z) (zh Z Z Z (zQ Z Z (congrArg nB (nE.2 au.out))) (fun _=>zJ Z Z Zh Z Zk) (ZO Z Z Z (zQ Z Z (congrArg nB (nE.2 au.out))) (be.ldB (j:=5) Z Z Z Zy (v:=.slice bM a7.after.length bU) Z) Z (zj Z Z Z (zQ Z Z (congrArg nB (nE.2 au.out))) Z Z (bnK mg fun cQ cG mh=>?_)))))
 have iZ:=fQ.le fY
 have i6:=iZ.le dP
 have i7:=i6.le dQ
 have i8:=i7.le cJ
 have i9:=i8.le fV
 have ja:=i9.le fW
 have fm:=ja.le bY
 have q:=fm.el (wAR cG)
 obtain ⟨gP,mU,o3,jx,dC,mK⟩:=q
 obtain ⟨fZ,gc,rfl,oG⟩:=mK
 replace dC:Cl aZ gP (mU + bg * 1) [.slice fZ cQ.length gc]:=dC
 refine zh Z Z Z (zQ Z Z (congrArg nB (nE.2 au.out))) (fun _=>zo Z Z jx Z zq zS (wAj cG)) (ZO Z Z Z (zQ Z Z (congrArg nB (nE.2 au.out))) (be.ldC (f:=0) dC (v:=.slice fZ cQ.length gc) Z Z zc Z) Z (zh Z Z Z (zQ Z Z (congrArg nB (nE.2 au.out))) (fun _=>za Z Z zA) (zh Z Z Z (zQ Z Z (congrArg nB (nE.2 au.out))) (fun _=>zJ Z cw ZK Z zD) (ZO Z Z Z (zQ Z Z (congrArg nB (nE.2 au.out))) (be.ldB (j:=4) Z Z Z zP (v:=jV bj.Laps) Z) Z (zh Z Z Z (zQ Z Z (congrArg nB (nE.2 au.out))) (fun _=>zU Z Z Z) (oR Z (zZ Z (congrArg nB (nE.2 au.out)) Z) (eN (ifc mh ?_ ?_))))))))
 intro de ml
 refine cT Z de (sR (wGc gBo) Z (oM Z dr (oR Z (zJ Z Z zk Z zD) (oL Z (be.ldB (j:=0) Z Z Z zP (v:=jV ak.Bib) Z) ?_))))
 let cU:List Value:=[jV ak.Bib,jV 0,jV 0]
 let ea:List Value:=[jV 0,jV 0,jV 0]
 refine oR Z (ZH (pv:=[(0,jV ak.Bib)]) (z:=ea) (cs:=cU) Z (wAC Z wAM) yI wGo Z Z) (zW (pv:=[(0,.agg cU.toArray)]) (zs:=ea) (cs:=cU) Z Z Z Z Z (wAC Z wAM) ZR Zg yI Z Z Z Z Z be ?_)
 intro gB gQ j5
 let eb:Res:=.row (some ⟨gQ,0,none⟩) 1 70 3 (hM wAG [(⟨ak.Bib,0,0⟩:wAB)])
 have fG:sW w U aZ [eb,.blk bh 43 a8,.blk aq 128 B8,.obj az (.map bb ba),.obj an (.map ax aw),.blk aj 34 B5,B1,.blk b2 28 B0,B7,bm,bs] gB:=j5
 refine bnK ml fun gg jb mm=>Zs (j:=10) (enc:=wAG) (xs:=bw) (ys:=[(⟨ak.Bib,0,0⟩:wAB)]) (zs:=gg) rfl rfl rfl rfl rfl Tryz.underlying59 wKc rfl rfl rfl rfl rfl rfl fG rfl rfl rfl (fG.srcR (j:=0) rfl (by decide) (wAF (f:=wAG) (sz:=3) (fun _=>rfl) [(⟨ak.Bib,0,0⟩:wAB)])) (fun _=>rfl) (fun _=>rfl) jb rfl ?_
 intro dY eV gC j6
 have j7:sW w U aZ [eb,.blk bh 43 a8,.blk aq 128 B8,.obj az (.map bb ba),.obj an (.map ax aw),.blk aj 34 B5,B1,.blk b2 28 B0,B7,bm,.row dY eV 70 3 (hM wAG gg)] gC:=j6
 refine oA Z Z (eN (ZI (zY (ZD (zI (rR fL2 Z (oR Z (zn (zX Z bH Z) (congrArg (jV) dF.out)) (oM Z Z (zg ?_)))))))))
 cases mm
 exact zI ⟨rfl,⟨aZ,bb,ba,br,bt,dY,eV,rfl,dp,cu,cw,cy,cz,cA,dq,rfl,cC,cD,bY,(j7.pick [2,3,4,5,6,7,8,9,10] _ (by decide) rfl),dM⟩⟩
 intro de mn
 refine cF Z de (kN (ya fun aY aX=>?_))
 have fe:aY 1=.pointer (some ⟨b2,0,none⟩):=(aX 1).trans dp
 have ff:aY 4=.pointer (some ⟨bE,0,none⟩):=(aX 4).trans cu
 have fg:aY 6=.pointer (some ⟨aj,0,none⟩):=(aX 6).trans cw
 have im:aY 9=.slice bL bq.length bT:=(aX 9).trans cy
 have io:aY 11=.map (some an):=(aX 11).trans cz
 have ip:aY 12=.pointer (some ⟨aq,0,none⟩):=(aX 12).trans cA
 have iq:aY 15=.slice br bJ.length bt:=(aX 15).trans dq
 have ir:aY 16=.slice bB bw.length bF:=(aX 16).trans dr
 have it:aY 17=jV (↑bg:Int):=(aX 17).trans rfl
 have fh:aY 18=.pointer (some ⟨bh,0,none⟩):=(aX 18).trans rfl
 have iu:aY 53=.slice bx p0.Teams.length bz:=(aX 53).trans cC
 have iv:aY 54=jV (↑p0.Teams.length:Int):=(aX 54).trans cD
 have iw:aY 55=jV (↑bg:Int):=(aX 55).trans bH
 clear aX
 refine ZY ZP [3,3,1,3,3,3,1,3,3,1,3,1,3,3,1,1,2,3,3,1,3,3,3,2,0,3] (wMe (wMg (.fx 16 (wOQ (.fx 23 (.fx 24 (.fl 25 .nil) .stop) .stop)) .stop))) (by kernel_rfl) ?_
 have bl:=be.drew
 generalize hw_W424:({ eI with drawn:=eI.drawn + 1 }:World)=gD at bl ⊢
 refine oM Z iq (oR Z (zJ Z fh zk Z zD) (oL Z (bl.ldB (j:=0) Z Z Z zP (v:=jV ak.Bib) Z) (oM Z ff (oR Z (ZX Z Z) (oR Z (zJ Z Z Zh Z Zk) (oL Z (bl.ldB (j:=5) Z Z Z Zy (v:=.slice bM a7.after.length bU) Z) (oM Z it ?_)))))))
 have q:=fm.el (wAR cG)
 obtain ⟨gS,mV,o5,jy,dD,mL⟩:=q
 obtain ⟨gb,ge,rfl,jc⟩:=mL
 replace dD:Cl aZ gS (mV + bg * 1) [.slice gb cQ.length ge]:=dD
 refine oR Z (zo Z Z jy Z zq zS (wAj cG)) (oL Z (bl.ldC (f:=0) dD (v:=.slice gb cQ.length ge) Z Z zc Z) (oR Z (zJ Z fg ZK Z zD) (oL Z (bl.ldB (j:=4) Z Z Z zP (v:=jV bj.Laps) Z) (oR Z (Zx Z Z Z) (bnK mn fun bK dy mo=>?_)))))
 have q:=jc.el (fun _=>rfl) (wAR dy)
 obtain ⟨ov,oQ,jz,jA⟩:=q
 refine oR Z (yG Z Z jz Z zA zD (wEK dy) (wET dy)) (oL Z (bl.ldC (f:=0) jA (v:=jV bK) Z Z zP Z) (oL Z (bl.ldBA (j:=0) Z Z fh yC ZE (vs:=a8) Z Z) (oR Z (zJ Z fe ze Z ZG) (oR Z (zJ Z Z zy Z zD) (oL Z (bl.ldB (j:=6) Z Z Z zP (v:=jV p0.Rules.Unused) Z) (bnK mo fun bZ je mp=>zL 0 Z Z Z Z (zK Z Z Tryz.call50 (zB Z zM) Z) bl (fun hs=>wGY ak cL cO cM cP gD aZ hs iT iU je) (.inr Z) ?_))))))
 rintro ci m6 oV gE mR k5 ⟨rfl,rfl⟩
 have k6:sW w U ci [.blk bh 43 a8,.blk aq 128 B8,.obj az (.map bb ba),.obj an (.map ax aw),.blk aj 34 B5,B1,.blk b2 28 B0,B7,bm,bs] gE:=k5
 refine oR Z (Runs.mulw Z Z Z) (oR Z (zX Z Z Z) ?_)
 let cV:List Value:=[jV ak.Bib,jV 0,jV (w64 (bK + (w64 (bZ * p0.Rules.Unused))))]
 let eh:List Value:=[jV 0,jV 0,jV 0]
 refine oR Z (ZH (pv:=[(0,jV ak.Bib),(2,jV (w64 (bK + (w64 (bZ * p0.Rules.Unused)))))]) (z:=eh) (cs:=cV) Z (wAC Z (wAC Z wAM)) yI wGo Z Z) (zW (pv:=[(0,.agg cV.toArray)]) (zs:=eh) (cs:=cV) Z Z Z Z Z (wAC Z wAM) ZR Zg yI Z Z Z Z Z k6 ?_)
 intro gF gT k8
 let ep:Res:=.row (some ⟨gT,0,none⟩) 1 70 3 (hM wAG [(⟨ak.Bib,0,w64 (bK + (w64 (bZ * p0.Rules.Unused)))⟩:wAB)])
 have fH:sW w U ci [ep,.blk bh 43 a8,.blk aq 128 B8,.obj az (.map bb ba),.obj an (.map ax aw),.blk aj 34 B5,B1,.blk b2 28 B0,B7,bm,bs] gF:=k8
 refine bnK mp fun gh jg mq=>Zs (j:=9) (enc:=wAG) (xs:=bJ) (ys:=[(⟨ak.Bib,0,w64 (bK + (w64 (bZ * p0.Rules.Unused)))⟩:wAB)]) (zs:=gh) rfl rfl rfl rfl rfl Tryz.underlying59 wKc rfl rfl rfl rfl rfl rfl fH rfl rfl rfl (fH.srcR (j:=0) rfl (by decide) (wAF (f:=wAG) (sz:=3) (fun _=>rfl) [(⟨ak.Bib,0,w64 (bK + (w64 (bZ * p0.Rules.Unused)))⟩:wAB)])) (fun _=>rfl) (fun _=>rfl) jg rfl ?_
 intro dZ eW gG k9
 have la:sW w U ci [ep,.blk bh 43 a8,.blk aq 128 B8,.obj az (.map bb ba),.obj an (.map ax aw),.blk aj 34 B5,B1,.blk b2 28 B0,B7,.row dZ eW 70 3 (hM wAG gh),bs] gG:=k9
 refine oA Z Z (zg (zb (zI (rR fL2 Z (oR Z (zn (zX Z iw Z) (congrArg (jV) dF.out)) (oM Z Z (zg ?_)))))))
 cases mq
 exact zI ⟨rfl,⟨ci,bb,ba,dZ,eW,bB,bF,rfl,fe,ff,fg,im,io,ip,rfl,ir,iu,iv,(bY.trans mR),(la.pick [2,3,4,5,6,7,8,9,10] _ (by decide) rfl),dM⟩⟩
 rintro pe eJ ⟨cZ,dn,df,am,ao,bC,bG,iE,oy,oz,oB,oC,oD,iy,dt,fj,oE,iz,oI,lb,ji⟩
 have gW:Hid (¬ ((↑(((↑p0.Teams.length:Int):Int) - 0).toNat:Int) < (↑p0.Teams.length:Int))):=zF (wAa)
 refine sR fL1 Z (oR Z (zU Z iE iz) (eN (zG (cF Z gW (ZI (zY (zY (ZD (zI (sR gBe Z (oM Z dt ?_)))))))))))
 have jB:FnOK Tryz.prog cZ (.func (.func 52) #[] #[]) wNm wNn (fun x=>wBN x.1 x.2):=⟨52,[],[],rfl,Tryz.call52,fun U1 w1 x y vs le hs ha hm=>by obtain rfl:=ha;exact wHK x.1 x.2 w1 U1 hs  hm⟩
 refine bnK fO fun bA jj ms=>?_
 let bN:Res:=.row bC bG 70 3 (hM wAG dT)
 have lc:sW w U cZ [.row am ao 70 3 (hM wAG ca),.blk aq 128 B8,.obj az (.map dn df),.obj an (.map ax aw),.blk aj 34 B5,B1,.blk b2 28 B0,B7,bN] eJ:=lb.pick [7,0,1,2,3,4,5,6,8] _ (by decide) rfl
 refine zL 1 Z Z Z Z (zK Z Z Tryz.call51 (zB Z (zB Z zM)) Z) lc (fun hs=>wBk ca am ao (fun x=>wBN x.1 x.2) (.func (.func 52) #[] #[]) eJ cZ hs jB ⟨_,_,Z⟩ jj) (.inl Z) ?_
 rintro gm m8 oX bS oJ lh ⟨rfl,rfl,dz⟩
 let bO:Res:=.row am ao 70 3 (hM wAG bA)
 have li:sW w U gm [bO,.blk aq 128 B8,.obj az (.map dn df),.obj an (.map ax aw),.blk aj 34 B5,B1,.blk b2 28 B0,B7,bN] bS:=lh
 refine eN (sR gBl Z (oM Z fj ?_))
 have q:=li.freezeM (k:=2) rfl ji
 obtain ⟨gq,oK,lS,lk⟩:=q
 have ll:sW w U gq [bO,.blk aq 128 B8,.obj an (.map ax aw),.blk aj 34 B5,B1,.blk b2 28 B0,B7,bN] bS:=lk
 have q:=ll.freeze (k:=1) rfl
 obtain ⟨bQ,mS,bW,lj⟩:=q
 replace bW:=Cl.of bW
 have lm:sW w U bQ [bO,.obj an (.map ax aw),.blk aj 34 B5,B1,.blk b2 28 B0,B7,bN] bS:=lj
 replace bW:Cl bQ aq 0 B8:=bW
 refine oR Z (yW Z zM (zB iy zM)) ?_
 have jk:=lS.le mS
 have jC:FnOK Tryz.prog bQ (.func (.func 55) #[] #[.pointer (some ⟨aq,0,none⟩)]) wNm wNn (fun x=>wBO x.1 x.2 dS):=⟨55,[],[.pointer (some ⟨aq,0,none⟩)],rfl,Tryz.call55,fun U1 w1 x y vs le hs ha hm=>by obtain rfl:=ha;exact wHL x.1 x.2 dS aq az dn df w1 U1 hs (bW.le le) (jk.le le) hm⟩
 refine bnK ms fun b4 jl mu=>?_
 have ln:sW w U bQ [bN,bO,.obj an (.map ax aw),.blk aj 34 B5,B1,.blk b2 28 B0,B7] bS:=lm.pick [6,0,1,2,3,4,5] _ (by decide) rfl
 refine zL 1 Z Z Z Z (zK Z Z Tryz.call51 (zB Z (zB Z zM)) Z) ln (fun hs=>wBk dT bC bG (fun x=>wBO x.1 x.2 dS) (.func (.func 55) #[] #[.pointer (some ⟨aq,0,none⟩)]) bS bQ hs jC ⟨_,_,Z⟩ jl) (.inl Z) ?_
 rintro c6 m9 oY gI oO lu ⟨rfl,rfl,jm⟩
 let bP:Res:=.row bC bG 70 3 (hM wAG b4)
 have lv:sW w U c6 [bP,bO,.obj an (.map ax aw),.blk aj 34 B5,B1,.blk b2 28 B0,B7] gI:=lu
 refine eN (zG (sR fL3 rfl (zj rfl rfl rfl rfl rfl (nL (b:=(.slice am ca.length ao:Value)) (c:=(.slice am bA.length ao:Value)) dt (by rw [dz])) (zh rfl rfl rfl rfl (fun _=>za rfl rfl ZR) (zj rfl rfl rfl rfl rfl rfl (eN (zT (bnK mu fun mZ lT mw=>?_))))))))
 have q:=wAs lT
 obtain ⟨dL,lU⟩:=q
 replace dL:=zF dL
 refine CK.forN' (fun aa ac σ_ w_=>∃ (U_:PHeap),σ_ 123=jV (↑aa:Int)/\σ_ 15=.slice am ac.length ao/\σ_ 16=.slice bC b4.length bG/\σ_ 122=jV (↑bA.length:Int)/\PHeap.Le c6 U_/\sW w U U_ [.obj an (.map ax aw),.blk aj 34 B5,B1,.blk b2 28 B0,.row am ao 70 3 (hM wAG ac),bP] w_/\ac.length=ca.length) lU ?_ ?_ ?_
 exact ⟨c6,rfl,(nL (b:=(.slice am ca.length ao:Value)) (c:=(.slice am bA.length ao:Value)) dt (by rw [dz])),(nL (b:=(.slice bC dT.length bG:Value)) (c:=(.slice bC b4.length bG:Value)) fj (by rw [jm])),rfl,(zH _),(lv.pick [2,3,4,5,1,0] _ (by decide) rfl),dz⟩
 rintro aa ac o8 pf oe dI ⟨bR,bV,bn,du,cE,dO,fI,dA⟩ mO
 have eX:Hid ((↑aa:Int) < (↑bA.length:Int)):=zF (wAo dI)
 replace dI:=zF dI
 have cI:Hid (w64 ((↑aa:Int) + 1)=(↑(aa + 1):Int)):=zF (by have h1:=dL.out;have h2:=eX.out;rw [wAT] <;> omega)
 refine sR fL1 Z (oR Z (zU Z bV cE) (eN (zG (cT Z eX (kN (zG (zT (sR fL2 Z (oM Z bV (oA Z Z (eN (sR (wIu (.fx 6 .nil .stop)) Z (oM Z bn (oM Z Z (oM Z Z (oR Z (zn (zX Z Z Z) (congrArg (jV) cI.out)) (bnK mO fun _ cH mx=>?_)))))))))))))))))
 obtain ⟨ow,bi⟩:=fI.rowSome (j:=4) rfl (by rw [wAF (f:=wAG) (sz:=3) (fun _=>rfl) ac];have hz:=wAd cH;omega)
 refine oR Z (zo Z Z bi Z ZR Zg (wAd cH)) (oR Z (zJ Z Z Ze Z zD) ?_)
 have lX:=wCX (xs:=ac) (wAd cH)
 refine OKS.stR (j:=4) (vs:=[jV (↑(aa + 1):Int)]) (cs':=hM wAG (nG ac aa (⟨(gd ac aa).Bib,(↑(aa + 1):Int),(gd ac aa).Time⟩:wAB))) rfl rfl rfl rfl fI rfl bi rfl rfl rfl zD (by rw [wAF (f:=wAG) (sz:=3) (fun _=>rfl)];have hz:=wAd cH;show _ + 1 <= _;first | omega | (simp only [nK];omega) | (simp only [nJ,nH,nI];omega)) rfl (wFP (sz:=3) (fo:=1) (fun _=>rfl) _ _ _ _ lX (by first | omega | (simp only [nK];omega) | (simp only [nJ,nH,nI];omega)) (zC rfl) rfl) rfl ?_
 intro da lw
 have lx:sW w U bR [.obj an (.map ax aw),.blk aj 34 B5,B1,.blk b2 28 B0,.row am ao 70 3 (hM wAG (nG ac aa (⟨(gd ac aa).Bib,(↑(aa + 1):Int),(gd ac aa).Time⟩:wAB))),bP] da:=lw
 refine eN (zG (ZY ZP [3,3,3,3,3,3,3,1,3,3,3,3,3,1,3,3] fL16 (by kernel_rfl) ?_))
 have bv:=lx.drew
 generalize hw_W581:({ da with drawn:=da.drawn + 1 }:World)=og at bv ⊢
 refine oM Z Z (oR Z (yN Z Z Z) (oM Z Z (ifc mx ?_ ?_)))
 intro ap my
 refine zj rfl rfl rfl (zQ rfl rfl (Zj ap.out)) rfl (nL (b:=(.slice am ac.length ao:Value)) (c:=(.slice am ((nG ac aa (⟨(gd ac aa).Bib,(↑(aa + 1):Int),(gd ac aa).Time⟩:wAB)).length) ao:Value)) bn (by simp only [nD])) (zj rfl rfl rfl (zQ rfl rfl (Zj ap.out)) rfl rfl (bnK my fun _ bu mz=>zh rfl rfl rfl (zQ rfl rfl (Zj ap.out)) (fun _=>zo rfl rfl bi rfl ZR Zg (wAd bu)) (zh rfl rfl rfl (zQ rfl rfl (Zj ap.out)) (fun _=>zJ rfl rfl Ze rfl zD) ?_)))
 have lY:=wCX (xs:=(nG ac aa (⟨(gd ac aa).Bib,(↑(aa + 1):Int),(gd ac aa).Time⟩:wAB))) (by first | exact wAd bu | (have hz:=wAd bu;simpa only [nD] using hz))
 refine ZO rfl rfl rfl (zQ rfl rfl (Zj ap.out)) (bv.ldR (j:=4) rfl bi rfl rfl zP (wAp (sz:=3) (fun _=>rfl) _ _ 2 _ lY (by first | omega | rfl | simp) rfl)) rfl (zj rfl rfl rfl (zQ rfl rfl (Zj ap.out)) rfl (nL (b:=(.slice am ac.length ao:Value)) (c:=(.slice am ((nG ac aa (⟨(gd ac aa).Bib,(↑(aa + 1):Int),(gd ac aa).Time⟩:wAB)).length) ao:Value)) bn (by simp only [nD])) (zj rfl rfl rfl (zQ rfl rfl (Zj ap.out)) rfl rfl (zh rfl rfl rfl (zQ rfl rfl (Zj ap.out)) (fun _=>Zx rfl rfl rfl) (bnK mz fun _ bp mA=>zh rfl rfl rfl (zQ rfl rfl (Zj ap.out)) (fun _=>yG rfl rfl bi rfl ZR Zg (wEt bp) (wEu bp)) (zh rfl rfl rfl (zQ rfl rfl (Zj ap.out)) (fun _=>zJ rfl rfl Ze rfl zD) ?_)))))
 have lZ:=wCX (xs:=(nG ac aa (⟨(gd ac aa).Bib,(↑(aa + 1):Int),(gd ac aa).Time⟩:wAB))) (by first | exact wAd bp | (have hz:=wAd bp;simpa only [nD] using hz))
 refine ZO rfl rfl rfl (zQ rfl rfl (Zj ap.out)) (bv.ldR (j:=4) rfl bi rfl rfl zP (wAp (sz:=3) (fun _=>rfl) _ _ 2 _ lZ (by first | omega | rfl | simp) rfl)) rfl (zh rfl rfl rfl (zQ rfl rfl (Zj ap.out)) (fun _=>yF rfl rfl rfl) (zh rfl rfl rfl rfl (fun _=>zV rfl (Zj ap.out) rfl) (eN (ifc mA ?_ ?_))))
 intro dg mB
 refine cT Z dg (rR (wPF (.fx 10 .nil .stop)) rfl (zj rfl rfl rfl rfl rfl (nL (b:=(.slice am ac.length ao:Value)) (c:=(.slice am ((nG ac aa (⟨(gd ac aa).Bib,(↑(aa + 1):Int),(gd ac aa).Time⟩:wAB)).length) ao:Value)) bn (by simp only [nD])) (zj rfl rfl rfl rfl rfl rfl (zj rfl rfl rfl rfl rfl (nL (b:=(.slice am ac.length ao:Value)) (c:=(.slice am ((nG ac aa (⟨(gd ac aa).Bib,(↑(aa + 1):Int),(gd ac aa).Time⟩:wAB)).length) ao:Value)) bn (by simp only [nD])) (zj rfl rfl rfl rfl rfl rfl (zh rfl rfl rfl rfl (fun _=>Zx rfl rfl rfl) (zh rfl rfl rfl rfl (fun _=>yG rfl rfl bi rfl ZR Zg (wEt bp) (wEu bp)) (zh rfl rfl rfl rfl (fun _=>zJ rfl rfl Ze rfl zD) ?_))))))))
 have l4:=wCX (xs:=(nG ac aa (⟨(gd ac aa).Bib,(↑(aa + 1):Int),(gd ac aa).Time⟩:wAB))) (by first | exact wAd bp | (have hz:=wAd bp;simpa only [nD] using hz))
 refine ZO rfl rfl rfl rfl (bv.ldR (j:=4) rfl bi rfl rfl zP (wAp (sz:=3) (fun _=>rfl) _ _ 1 _ l4 (by first | omega | rfl | simp) rfl)) rfl (zh rfl rfl rfl rfl (fun _=>zo rfl rfl bi rfl ZR Zg (wAd bu)) (zh rfl rfl rfl rfl (fun _=>zJ rfl rfl Ze rfl zD) ?_))
 have l5:=wCX (xs:=(nG ac aa (⟨(gd ac aa).Bib,(↑(aa + 1):Int),(gd ac aa).Time⟩:wAB))) (by first | exact wAd bu | (have hz:=wAd bu;simpa only [nD] using hz))
 refine OKS.stR (j:=4) (vs:=[jV ((gd (nG ac aa (⟨(gd ac aa).Bib,(↑(aa + 1):Int),(gd ac aa).Time⟩:wAB)) (w64 ((↑aa:Int) - 1)).toNat).Place)]) (cs':=hM wAG (nG (nG ac aa (⟨(gd ac aa).Bib,(↑(aa + 1):Int),(gd ac aa).Time⟩:wAB)) aa (⟨(gd (nG ac aa (⟨(gd ac aa).Bib,(↑(aa + 1):Int),(gd ac aa).Time⟩:wAB)) aa).Bib,(gd (nG ac aa (⟨(gd ac aa).Bib,(↑(aa + 1):Int),(gd ac aa).Time⟩:wAB)) (w64 ((↑aa:Int) - 1)).toNat).Place,(gd (nG ac aa (⟨(gd ac aa).Bib,(↑(aa + 1):Int),(gd ac aa).Time⟩:wAB)) aa).Time⟩:wAB))) rfl rfl rfl rfl bv rfl bi rfl rfl rfl zD (by rw [wAF (f:=wAG) (sz:=3) (fun _=>rfl)];have hz:=wAd bu;show _ + 1 <= _;first | omega | (simp only [nD];omega) | (simp only [nJ,nH,nI,nD];omega) | (simp only [nK];omega) | (simp only [nJ,nH,nI];omega)) rfl (wFP (sz:=3) (fo:=1) (fun _=>rfl) _ _ _ _ l5 (by first | omega | (simp only [nK];omega) | (simp only [nJ,nH,nI];omega)) (zC rfl) rfl) rfl ?_
 intro gJ ly
 have lz:sW w U bR [.obj an (.map ax aw),.blk aj 34 B5,B1,.blk b2 28 B0,.row am ao 70 3 (hM wAG (nG (nG ac aa (⟨(gd ac aa).Bib,(↑(aa + 1):Int),(gd ac aa).Time⟩:wAB)) aa (⟨(gd (nG ac aa (⟨(gd ac aa).Bib,(↑(aa + 1):Int),(gd ac aa).Time⟩:wAB)) aa).Bib,(gd (nG ac aa (⟨(gd ac aa).Bib,(↑(aa + 1):Int),(gd ac aa).Time⟩:wAB)) (w64 ((↑aa:Int) - 1)).toNat).Place,(gd (nG ac aa (⟨(gd ac aa).Bib,(↑(aa + 1):Int),(gd ac aa).Time⟩:wAB)) aa).Time⟩:wAB))),bP] gJ:=ly
 refine zg (zb (zI (rR fL2 Z (oR Z (zn (zX Z bV Z) (congrArg (jV) cI.out)) (oM Z Z (zg ?_))))))
 cases mB
 exact zI ⟨rfl,⟨bR,rfl,(nL (b:=(.slice am ((nG ac aa (⟨(gd ac aa).Bib,(↑(aa + 1):Int),(gd ac aa).Time⟩:wAB)).length) ao:Value)) (c:=(.slice am ((nG (nG ac aa (⟨(gd ac aa).Bib,(↑(aa + 1):Int),(gd ac aa).Time⟩:wAB)) aa (⟨(gd (nG ac aa (⟨(gd ac aa).Bib,(↑(aa + 1):Int),(gd ac aa).Time⟩:wAB)) aa).Bib,(gd (nG ac aa (⟨(gd ac aa).Bib,(↑(aa + 1):Int),(gd ac aa).Time⟩:wAB)) (w64 ((↑aa:Int) - 1)).toNat).Place,(gd (nG ac aa (⟨(gd ac aa).Bib,(↑(aa + 1):Int),(gd ac aa).Time⟩:wAB)) aa).Time⟩:wAB)).length) ao:Value)) (nL (b:=(.slice am ac.length ao:Value)) (c:=(.slice am ((nG ac aa (⟨(gd ac aa).Bib,(↑(aa + 1):Int),(gd ac aa).Time⟩:wAB)).length) ao:Value)) bn (by simp only [nD])) (by simp only [nD])),du,cE,dO,lz,((nD.trans nD).trans dA)⟩⟩
 intro dg mC
 refine cF Z dg (ZV (zb (zI (rR fL2 Z (oR Z (zn (zX Z bV Z) (congrArg (jV) cI.out)) (oM Z Z (zg ?_)))))))
 cases mC
 exact zI ⟨rfl,⟨bR,rfl,(nL (b:=(.slice am ac.length ao:Value)) (c:=(.slice am ((nG ac aa (⟨(gd ac aa).Bib,(↑(aa + 1):Int),(gd ac aa).Time⟩:wAB)).length) ao:Value)) bn (by simp only [nD])),du,cE,dO,bv,(nD.trans dA)⟩⟩
 intro ap mD
 refine oF Z ap (oF Z ap (oF Z ap (oF Z ap (oF Z ap (oF Z ap (oF Z ap (oF Z ap (oF Z ap (oF Z ap (oF Z ap (oF Z ap (oR Z (zZ Z (zw ap.out) Z) (eN (zm Z (ZV (zb (zI (rR fL2 Z (oR Z (zn (zX Z bV Z) (congrArg (jV) cI.out)) (oM Z Z (zg ?_)))))))))))))))))))))
 cases mD
 exact zI ⟨rfl,⟨bR,rfl,(nL (b:=(.slice am ac.length ao:Value)) (c:=(.slice am ((nG ac aa (⟨(gd ac aa).Bib,(↑(aa + 1):Int),(gd ac aa).Time⟩:wAB)).length) ao:Value)) bn (by simp only [nD])),du,cE,dO,bv,(nD.trans dA)⟩⟩
 rintro pg oh ⟨eD,iF,iA,iB,iC,oP,fJ,oH⟩
 have gY:Hid (¬ ((↑(((↑bA.length:Int):Int) - 0).toNat:Int) < (↑bA.length:Int))):=zF (wAa)
 refine sR fL1 rfl (zh rfl rfl rfl rfl (fun _=>zU rfl iF iC) (eN (zG (cF Z gY (ZI (zY (zY (ZD (zI (sR (.fl 0 (.fl 1 (.fx 2 (.fl 3 (.fl 4 .nil)) .stop))) rfl (zj rfl rfl rfl rfl rfl iA (zj rfl rfl rfl rfl rfl iB (bnK mw fun gj jo mE=>Zs (j:=4) (enc:=wAG) (xs:=mZ) (ys:=b4) (zs:=gj) rfl rfl rfl rfl rfl Tryz.underlying59 wKc rfl rfl rfl rfl rfl rfl fJ rfl rfl rfl (fJ.srcR (j:=5) rfl (by decide) (wAF (f:=wAG) (sz:=3) (fun _=>rfl) b4)) (fun _=>rfl) (fun _=>rfl) jo rfl ?_)))))))))))))
 intro d7 eY gK lA
 have lB:sW w U eD [.obj an (.map ax aw),.blk aj 34 B5,B1,.blk b2 28 B0,.row d7 eY 70 3 (hM wAG gj),bP] gK:=lA
 refine oA Z Z (oA Z Z (eN (zO ?_)))
 cases mE
 exact ⟨rfl,_,(wFc rfl rfl),eD,_,(lB.pick [4] _ (by decide) rfl),d7,eY,rfl,rfl⟩
 intro dd mF
 refine cT Z dd (sR fL3 Z (oM Z Z (oA Z Z (oA Z Z (eN (zO (zR ?_)))))))
 have lC:=fE.nilrow 70 3
 cases mF
 exact ⟨rfl,_,(wFc rfl rfl),U9,_,(lC.pick [0] _ (by decide) rfl),none,0,rfl,rfl⟩
end Go.Proofs.YtnbcoenjobdplaaGreat
namespace Go.Proofs.YtnbcoenjobdplaaGreat
open Go.KL
set_option maxHeartbeats 4000000
theorem wEZ (p0:List wAH) (au:Option Addr) (aw:Nat) (p1:List wAH) (av:Option Addr) (ax:Nat) (w:World) (U:PHeap) (hS:St0 w U []) (bu:Sl U 4 au aw p0.length (hM wAN p0)) (bv:Sl U 4 av ax p1.length (hM wAN p1)) {r:Bool} (hm:wBF p0 p1=some r):Gv Tryz.prog 16 [.slice au p0.length aw,.slice av p1.length ax] w (wBU w [] U (fun U_ L_ v=>v=.bool r/\L_=[])):=by
 unfold wBF at hm
 refine Gv.of Tryz.func16 Z Tryz.ntmps16 Tryz.results16 Z (sR fL1 Z (oA Z Z (eN (zG (sR fL5 Z (oM Z Z (oR Z (za Z Z Zo) (oM Z Z (oR Z (za Z Z Zo) (oR Z (ZW Z Z Z) (eN ?_)))))))))))
 by_cases c1:(↑p0.length:Int)=(↑p1.length:Int)
 have aj:=hm;rw [if_pos c1] at aj;replace c1:=zF c1
 refine zm (zw (fun h=>h c1.out)) (kN (zG (sR fL3 Z (oM Z Z (oR Z (za Z Z Zo) (oM Z Z (eN (zT ?_))))))))
 have q:=wBe aj
 obtain ⟨r5,an⟩:=q
 have q:=wBd an
 obtain ⟨ap,bz⟩:=q
 replace ap:=zF ap
 refine yA (fun k4 _ σ_ w_=>∃ (U_:PHeap),σ_ 13=jV (↑k4:Int)/\σ_ 0=.slice au p0.length aw/\σ_ 1=.slice av p1.length ax/\σ_ 12=jV (↑p0.length:Int)/\PHeap.Le U U_/\sW w U U_ [] w_) bz ?_ ?_ ?_
 exact ⟨U,Z,Z,Z,Z,(zH _),hS⟩
 rintro k4 ⟨⟩ bR bT az ao ⟨ay,am,aX,aY,aZ,aq,bs⟩ be bw
 try dsimp only at be
 have aW:Hid ((↑k4:Int) < (↑p0.length:Int)):=zF (wAo ao)
 replace ao:=zF ao
 have bA:Hid (w64 ((↑k4:Int) + 1)=(↑(k4 + 1):Int)):=zF (by have h1:=ap.out;have h2:=aW.out;rw [wAT] <;> omega)
 refine sR fL1 rfl (zh rfl rfl rfl rfl (fun _=>zU rfl am aZ) (eN (zG (cT Z aW (kN (zG (zT (sR fL2 rfl (zj rfl rfl rfl rfl rfl am (yg rfl rfl rfl rfl rfl rfl (eN (zG (ZY ZP [3,3,3,1,3,3,3,1,3] fL9 (by kernel_rfl) ?_)))))))))))))
 have af:=bs.drew
 generalize hw_W25:({ az with drawn:=az.drawn + 1 }:World)=bH at af ⊢
 refine oM Z aX (oM Z Z (bnK be fun ah a7 bB=>?_))
 have bl:=bu.le aq
 have q:=bl.el (fun _=>rfl) (wAR a7)
 obtain ⟨bJ,bO,bn,bq⟩:=q
 refine oR Z (zo Z Z bn Z Zo yD (wAj a7)) (oL Z (af.ldCA (f:=0) bq Z Z Tryz.isAgg65 yD (us:=[jV ah.Bib,jV ah.Done,jV ah.Time,jV ah.By]) Z Z) (oM Z aY (oM Z Z (bnK bB fun ai a8 bC=>?_))))
 have bm:=bv.le aq
 have q:=bm.el (fun _=>rfl) (wAR a8)
 obtain ⟨bK,bP,bp,br⟩:=q
 refine oR Z (zo Z Z bp Z Zo yD (wAj a8)) (oL Z (af.ldCA (f:=0) br Z Z Tryz.isAgg65 yD (us:=[jV ai.Bib,jV ai.Done,jV ai.Time,jV ai.By]) Z Z) (oR Z (zn (Runs.neS (enc:=wAN) (a:=ah) (b:=ai) Z Z Z eqT65 eqG65) (congrArg nB (decide_not).symm)) (eN (ifc bC ?_ ?_))))
 intro ak bD
 refine zm (zw (fun h=>h ak.out)) (ZV (zb (zI (rR fL2 Z (oR Z (zn (zX Z am Z) (congrArg (jV) bA.out)) (oM Z Z (zg ?_)))))))
 have q:=nA bD
 obtain rfl:=q
 exact zI ⟨Z,_,Z,⟨ay,Z,aX,aY,aZ,aq,af⟩⟩
 intro ak bE
 refine cT Z ak (sR fL1 Z (oA Z Z (eN (zO (zf (zR ?_))))))
 have q:=wAf bE
 obtain ⟨bG,bF,bh⟩:=q
 have q:=wCI aj an (bw bG bh)
 obtain rfl:=q
 refine zR (zf (zR ?_))
 have hE:=nA bF;first | subst r | cases hE
 exact ⟨Z,_,(zr Z),ay,_,af,Z,Z⟩
 rintro ⟨⟩ bS bI ⟨bf,bj,bL,bM,bi,bN,bt⟩ bx
 have ba:=wCm aj an bx
 try dsimp only at ba
 have bg:Hid (¬ ((↑(((↑p0.length:Int):Int) - 0).toNat:Int) < (↑p0.length:Int))):=zF (wAa)
 refine sR fL1 Z (oR Z (zU Z bj bi) (eN (zG (cF Z bg (ZI (zY (zY (ZD (zI (sR fL1 Z (oA Z Z (eN (zO ?_)))))))))))))
 have hE:=nA ba;first | subst r | cases hE
 exact ⟨Z,_,(zr Z),bf,_,bt,Z,Z⟩
 have bb:=hm;rw [if_neg c1] at bb;replace c1:=zF c1
 refine cT Z c1 (sR fL1 Z (oA Z Z (eN (zO (zR ?_)))))
 have hE:=nA bb;first | subst r | cases hE
 exact ⟨Z,_,(zr Z),U,_,hS,Z,Z⟩
theorem wCj (p0:List Int) (ai:Option Addr) (aj:Nat) (w:World) (U:PHeap) (hS:St0 w U []) (au:Sl U 1 ai aj p0.length (hM KL.encI p0)) {r:(List Int)} (hm:wBC p0=some r):Gv Tryz.prog 33 [.slice ai p0.length aj] w (wBU w [] U (fun U_ L_ v=>∃ (A0:Option Addr) (c0:Nat),v=.slice A0 r.length c0/\L_=[.row A0 c0 3 1 (hM KL.encI r)])):=by
 unfold wBC at hm
 refine Gv.of Tryz.func33 Z Tryz.ntmps33 Tryz.results33 Z (sR fL1 Z (oA Z Z (eN (sR gBk Z (oM Z Z ?_)))))
 have ao:=hS.nilrow 3 1
 have ah:sW w U U [.row none 0 3 1 (hM KL.encI ([]:List Int))] w:=ao
 refine bnK hm fun x4 h5 av=>Zs (j:=0) (enc:=KL.encI) (xs:=([]:List Int)) (ys:=p0) (zs:=x4) Z Z Z Z Z Zi wFA Z Z Z Z Z Z ah Z Z Z (ah.srcS au) (fun _=>Z) (fun _=>Z) h5 Z ?_
 intro A7 c8 W9 ap
 have aq:sW w U U [.row A7 c8 3 1 (hM KL.encI x4)] W9:=ap
 refine oA Z Z (eN (zO ?_))
 have hE:=nA av;first | subst r | cases hE
 exact ⟨Z,_,(zr Z),U,_,aq,A7,c8,Z,Z⟩
theorem wDj (p0:wAJ) (ae:Option Addr) (af:Nat) (w:World) (U:PHeap) (hS:St0 w U []) (be:Sl U 1 ae af p0.Classes.length (hM KL.encI p0.Classes)) {r:wAJ} (hm:wBS p0=some r):Gv Tryz.prog 32 [.agg #[.slice ae p0.Classes.length af,jV p0.Each,jV p0.Laps,jV p0.Spare,jV p0.Loop,jV p0.Unused]] w (wBU w [] U (fun U_ L_ v=>∃ (ap:Option Addr) (au:Nat),v=.agg #[.slice ap r.Classes.length au,jV r.Each,jV r.Laps,jV r.Spare,jV r.Loop,jV r.Unused]/\L_=[.row ap au 3 1 (hM KL.encI r.Classes)])):=by
 unfold wBS at hm
 refine Gv.of Tryz.func32 Z Tryz.ntmps32 Tryz.results32 Z (sR gBd Z ?_)
 let B0:List Value:=[.slice ae p0.Classes.length af,jV p0.Each,jV p0.Laps,jV p0.Spare,jV p0.Loop,jV p0.Unused]
 refine ZS (cs:=B0) rfl rfl rfl rfl rfl rfl (by rfl) hS ?_
 intro W1 b2 bb
 let B1:List Value:=[.slice none 0 0,jV 0,jV 0,jV 0,jV 0,jV 0]
 refine zz (cs:=B1) Z Z Z Z Z yt Z bb ?_
 intro W5 b6 ax
 refine eN (sR (.fl 0 (.fl 1 gBn)) Z (oR Z (zJ Z Z zy Z zS) (oL Z (ax.ldB (j:=1) Z Z Z zc (v:=.slice ae p0.Classes.length af) Z) (bnK hm fun x9 aY bf=>zL 0 Z Z Z Z (zK Z Z Tryz.call33 (zB Z zM) Z) ax (fun hs=>wCj p0.Classes ae af W5 U hs be aY) (.inr Z) ?_))))
 rintro ah bg bj ay bi aZ ⟨ag,ai,rfl,rfl⟩
 let B2:Res:=.row ag ai 3 1 (hM KL.encI x9)
 have a7:sW w U ah [B2,.blk b6 25 B1,.blk b2 25 B0] ay:=aZ
 refine oR Z (zJ Z Z zy Z zS) (zu (j:=2) (vs:=[.slice ag x9.length ai]) Z Z Z Z a7 Z Z Z Z zS (zC Z) Z Z Z ?_)
 intro az a8
 let B3:List Value:=[.slice ag x9.length ai,jV p0.Each,jV p0.Laps,jV p0.Spare,jV p0.Loop,jV p0.Unused]
 have av:sW w U ah [B2,.blk b6 25 B1,.blk b2 25 B3] az:=a8
 refine eN (sR gBe Z (oL Z (av.ldBA (j:=2) Z Z Z Zv ZG (vs:=B3) Z Z) (zu (j:=1) (vs:=B3) Z Z Z Z av Z Z Z Z ZG (zC Z) Z Z Z ?_)))
 intro aW ba
 have aw:sW w U ah [B2,.blk b6 25 B3,.blk b2 25 B3] aW:=ba
 refine eN (zO ?_)
 cases bf
 exact ⟨rfl,_,(wFk (v:=.agg B3.toArray) ⟨⟨_,rfl,(wEv Zv ZG (aw.blkAt (k:=1) rfl) (vs:=B3) rfl rfl)⟩,trivial⟩),ah,_,(aw.pick [0] _ (by decide) rfl),ag,ai,rfl,rfl⟩
theorem wFW (p0:List Bool) (ai:Option Addr) (aj:Nat) (w:World) (U:PHeap) (hS:St0 w U []) (au:Sl U 1 ai aj p0.length (hM KL.encT p0)) {r:(List Bool)} (hm:wBg p0=some r):Gv Tryz.prog 67 [.slice ai p0.length aj] w (wBU w [] U (fun U_ L_ v=>∃ (A0:Option Addr) (c0:Nat),v=.slice A0 r.length c0/\L_=[.row A0 c0 4 1 (hM KL.encT r)])):=by
 unfold wBg at hm
 refine Gv.of Tryz.func67 Z Tryz.ntmps67 Tryz.results67 Z (sR fL1 Z (oA Z Z (eN (sR gBk Z (oM Z Z ?_)))))
 have ao:=hS.nilrow 4 1
 have ah:sW w U U [.row none 0 4 1 (hM KL.encT ([]:List Bool))] w:=ao
 refine bnK hm fun x4 h5 av=>Zs (j:=0) (enc:=KL.encT) (xs:=([]:List Bool)) (ys:=p0) (zs:=x4) Z Z Z Z Z Tryz.underlying47 wJy Z Z Z Z Z Z ah Z Z Z (ah.srcS au) (fun _=>Z) (fun _=>Z) h5 Z ?_
 intro A7 c8 W9 ap
 have aq:sW w U U [.row A7 c8 4 1 (hM KL.encT x4)] W9:=ap
 refine oA Z Z (eN (zO ?_))
 have hE:=nA av;first | subst r | cases hE
 exact ⟨Z,_,(zr Z),U,_,aq,A7,c8,Z,Z⟩
theorem wEp (p0:List (List Bool)) (az:Option Addr) (aX:Nat) (w:World) (U:PHeap) (hS:St0 w U []) (cd:SlR U wFi az aX p0) {r:(List (List Bool))} (hm:wBP p0=some r):Gv Tryz.prog 34 [.slice az p0.length aX] w (wBU w [] U (fun U_ L_ v=>∃ (A0:Option Addr) (c0:Nat) (bi:List Value),v=.slice A0 r.length c0/\L_=[.row A0 c0 47 1 bi]/\RlT U U_ wIw r bi)):=by
 unfold wBP at hm
 refine Gv.of Tryz.func34 Z Tryz.ntmps34 Tryz.results34 Z (sR fL1 Z (oA Z Z (eN (sR fL1 Z (oA Z Z (eN (zG (sR fL3 Z (oM Z Z (oR Z (za Z Z ZZ) (oM Z Z (eN (zT (bnK hm fun cK cg cm=>?_))))))))))))))
 have q:=wAs cg
 obtain ⟨aw,ch⟩:=q
 replace aw:=zF aw
 refine CK.forN' (fun ai an σ_ w_=>∃ (U_:PHeap) (ak:Option Addr) (am:Nat) (ah:List Value),σ_ 8=jV (↑ai:Int)/\σ_ 3=.slice ak an.length am/\σ_ 6=.slice az p0.length aX/\σ_ 7=jV (↑p0.length:Int)/\PHeap.Le U U_/\sW w U U_ [.row ak am 47 1 ah] w_/\RlT U U_ wIw an ah) ch ?_ ?_ ?_
 have bW:=hS.nilrow 47 1
 exact ⟨U,none,0,[],Z,Z,Z,Z,(zH _),bW,RlT.nil⟩
 rintro ai an cJ cM bx av ⟨bb,ak,am,ah,aq,bI,bj,bl,ax,bq,bm⟩ cw
 have bg:Hid ((↑ai:Int) < (↑p0.length:Int)):=zF (wAo av)
 replace av:=zF av
 have cj:Hid (w64 ((↑ai:Int) + 1)=(↑(ai + 1):Int)):=zF (by have h1:=aw.out;have h2:=bg.out;rw [wAT] <;> omega)
 refine sR fL1 Z (oR Z (zU Z aq bl) (eN (zG (cT Z bg (kN (zG (zT (sR fL3 Z (bnK cw fun aZ bn co=>?_)))))))))
 have bL:=cd.le ax
 have q:=bL.el (wAR bn)
 obtain ⟨bB,cz,cI,bR,au,cr⟩:=q
 obtain ⟨aW,aY,rfl,bM⟩:=cr
 replace au:Cl bb bB (cz + ai * 1) [.slice aW aZ.length aY]:=au
 refine oR Z (zo Z bj bR aq ZZ Zt (wAj bn)) (oL Z (bq.ldC (f:=0) au (v:=.slice aW aZ.length aY) Z Z yc Z) (oA Z Z (eN (rR (.fl 0 (.fl 1 (.fx 2 (.fx 3 (.fx 4 (.fl 5 .nil) .stop) .stop) .stop))) Z (oM Z bI (oM Z Z (bnK co fun aa bN cp=>zL 0 Z Z Z Z (zK Z Z Tryz.call67 (zB Z zM) Z) bq (fun hs=>wFW aZ aW aY bx bb hs bM bN) (.inr Z) ?_)))))))
 rintro bw cA cH be ao bX ⟨ag,aj,rfl,rfl⟩
 let B0:Res:=.row ak am 47 1 ah
 have bY:sW w U bw [.row ag aj 4 1 (hM KL.encT aa),B0] be:=bX
 have q:=bY.freezeRP (k:=0) rfl
 obtain ⟨ae,ay,bp,bS,b4⟩:=q
 have ct:=bp.sl (n:=aa.length) (wAF (f:=KL.encT) (sz:=1) (fun _=>rfl) aa) (by decide)
 have ca:sW w U ae [B0] be:=b4
 let B1:List Value:=[.slice ag aa.length aj]
 refine zW (pv:=[(0,.slice ag aa.length aj)]) (zs:=[.slice none 0 0]) (cs:=B1) Z Z Z Z Z (wAC Z wAM) ZZ Zt Tryz.zeroValue47 Z Z Z Z Z ca ?_
 intro bz bC bZ
 have bs:RlL ae wFi [aa] B1:=(RlL.cons (R:=wFi) (x:=aa) (vs:=B1) ⟨ag,aj,rfl,ct⟩ RlL.nil)
 have bT:Ows _ ae (bks ag):=(bS.le (zH _)).perm (by intro b;first | rfl | (simp only [nM,nN];omega))
 have ci:wIw.f ae aa B1 (bks ag):=⟨ag,aj,rfl,(bp.le (zH _)),rfl⟩
 let B2:Res:=.row (some ⟨bC,0,none⟩) 1 47 1 B1
 have br:sW w U ae [B2,B0] bz:=bZ
 refine bnK cp fun bt bO cq=>?_
 have bP:=bm.le ao
 have bQ:=bP.le ay
 refine yU (R:=wFi) (j:=1) (xs:=an) (ys:=[aa]) (zs:=bt) rfl rfl rfl rfl rfl Tryz.underlying44 wMI rfl rfl rfl rfl rfl rfl rfl br rfl rfl rfl (bQ).toL bs (br.srcR (j:=0) rfl (by decide) (RlL.len bs)) bO rfl ?_
 intro a8 bh bA cc cE cy
 have cu:RlT U ae wIw bt (ah ++ B1):=by rw [cy];exact RlT.snoc bm ci bT ax ao (ao.trans ay)
 have bU:sW w U ae [B2,.row a8 bh 47 1 (ah ++ B1)] bA:=cc
 refine oA Z Z (zg (zb (zI (rR fL2 Z (oR Z (zn (zX Z aq Z) (congrArg (jV) cj.out)) (oM Z Z (zg ?_)))))))
 cases cq
 exact zI ⟨rfl,⟨ae,a8,bh,(ah ++ B1),rfl,rfl,bj,bl,((ax.trans ao).trans ay),(bU.pick [1] _ (by decide) rfl),cu⟩⟩
 rintro cL cC ⟨bv,bu,bD,bE,bJ,bG,cD,bH,cG,bV,bK⟩
 have bF:Hid (¬ ((↑(((↑p0.length:Int):Int) - 0).toNat:Int) < (↑p0.length:Int))):=zF (wAa)
 refine sR fL1 Z (oR Z (zU Z bJ bH) (eN (zG (cF Z bF (ZI (zY (zY (ZD (zI (sR fL2 Z (oM Z bG (oA Z Z (eN (zO ?_))))))))))))))
 have hE:=nA cm;first | subst r | cases hE
 exact ⟨Z,_,(zr Z),bv,_,bV,bu,bD,bE,Z,Z,(bK).low (zH _)⟩
theorem wGI (p0:wAI) (bK:Option Addr) (bM:Nat) (bv:Option Addr) (bw:Nat) (w:World) (U:PHeap) (hS:St0 w U []) (eQ:Sl U 1 bK bM p0.Rules.Classes.length (hM KL.encI p0.Rules.Classes)) (jj:SlR U wFF bv bw p0.Teams) {r:wAI} (hm:wBo p0=some r):Gv Tryz.prog 9 [.agg #[.slice bK p0.Rules.Classes.length bM,jV p0.Rules.Each,jV p0.Rules.Laps,jV p0.Rules.Spare,jV p0.Rules.Loop,jV p0.Rules.Unused,jV p0.Start,.slice bv p0.Teams.length bw]] w (wBU w [] U (fun U_ L_ v=>∃ (dv:Option Addr) (dL:Nat) (dw:Option Addr) (dM:Nat) (dR:List Value),v=.agg #[.slice dv r.Rules.Classes.length dL,jV r.Rules.Each,jV r.Rules.Laps,jV r.Rules.Spare,jV r.Rules.Loop,jV r.Rules.Unused,jV r.Start,.slice dw r.Teams.length dM]/\L_=[.row dv dL 3 1 (hM KL.encI r.Rules.Classes),.row dw dM 43 3 dR]/\RlT U U_ wME r.Teams dR)):=by
 unfold wBo at hm
 refine Gv.of Tryz.func9 Z Tryz.ntmps9 Tryz.results9 Z (sR gBd Z ?_)
 let B0:List Value:=[.slice bK p0.Rules.Classes.length bM,jV p0.Rules.Each,jV p0.Rules.Laps,jV p0.Rules.Spare,jV p0.Rules.Loop,jV p0.Rules.Unused,jV p0.Start,.slice bv p0.Teams.length bw]
 refine ZS (cs:=B0) rfl rfl rfl rfl rfl rfl (by rfl) hS ?_
 intro W1 b2 iB
 let B1:List Value:=[.slice none 0 0,jV 0,jV 0,jV 0,jV 0,jV 0,jV 0,.slice none 0 0]
 refine zz (cs:=B1) Z Z Z Z Z yB Z iB ?_
 intro W5 b6 jd
 refine eN ?_
 have q:=bnd hm
 obtain ⟨⟨bb,cd,cg,ch,ci,cj⟩,jN,eS⟩:=q
 try dsimp only at eS
 refine CK.cut (fun σ_ w_=>∃ (U_:PHeap) (ba:Nat) (aw:Option Addr) (az:Nat),σ_ 1=.pointer (some ⟨b2,0,none⟩)/\σ_ 2=.pointer (some ⟨b6,0,none⟩)/\σ_ 3=.pointer (some ⟨ba,0,none⟩)/\PHeap.Le U U_/\sW w U U_ [.blk b6 28 B1,.blk b2 28 B0,.blk ba 28 [.slice aw bb.length az,jV cd,jV cg,jV ch,jV ci,jV cj,jV p0.Start,.slice none 0 0],.row aw az 3 1 (hM KL.encI bb)] w_) ?_ ?_
 refine bnK jN fun ai d8 eT=>ZY ZP [3,1,2,3,1,3,2,0] (.fl 0 (.fl 1 (.fl 3 (.fl 4 (.fx 2 gBp (.fx 6 (.fx 2 gBi .stop) .stop)))))) (by kernel_rfl) ?_
 have bS:=jd.drew
 generalize hw_W44:({ W5 with drawn:=W5.drawn + 1 }:World)=fq at bS ⊢
 refine oR Z (zJ Z Z ze Z ZG) (oL Z (bS.ldBA (j:=1) Z Z Z Zv ZG (vs:=[.slice bK p0.Rules.Classes.length bM,jV p0.Rules.Each,jV p0.Rules.Laps,jV p0.Rules.Spare,jV p0.Rules.Loop,jV p0.Rules.Unused]) Z Z) (oR Z (zJ Z Z ze Z zD) (oL Z (bS.ldB (j:=1) Z Z Z zP (v:=jV p0.Start) Z) (yO ?_ ?_))))
 refine zL 0 Z Z Z Z (zK Z Z Tryz.call32 (zB Z zM) Z) bS (fun hs=>wDj p0.Rules bK bM fq U hs eQ d8) (.inr Z) ?_
 rintro cW j7 ly fw jT i7 ⟨cr,cD,rfl,rfl⟩
 let B2:Res:=.row cr cD 3 1 (hM KL.encI ai.Classes)
 have i9:sW w U cW [B2,.blk b6 28 B1,.blk b2 28 B0] fw:=i7
 let B3:List Value:=[.slice cr ai.Classes.length cD,jV ai.Each,jV ai.Laps,jV ai.Spare,jV ai.Loop,jV ai.Unused,jV p0.Start,.slice none 0 0]
 refine oR Z (ZH (pv:=[(0,.agg #[.slice cr ai.Classes.length cD,jV ai.Each,jV ai.Laps,jV ai.Spare,jV ai.Loop,jV ai.Unused]),(1,jV p0.Start)]) (z:=B1) (cs:=B3) Z (wAC Z (wAC Z wAM)) yB wHg Z Z) (zz (cs:=B1) Z Z Z Z Z yB Z i9 ?_)
 intro lj dK ja
 refine zu (j:=0) (vs:=B3) Z Z Z Z ja Z Z Z Z ZL (zC Z) Z Z Z ?_
 intro fA jb
 have jc:sW w U cW [.blk dK 28 B3,B2,.blk b6 28 B1,.blk b2 28 B0] fA:=jb
 refine zg ?_
 cases eT
 exact zI ⟨rfl,⟨cW,dK,cr,cD,rfl,rfl,rfl,jT,(jc.pick [2,3,0,1] _ (by decide) rfl)⟩⟩
 refine zz (cs:=B1) Z Z Z Z Z yB Z bS ?_
 intro fB c9 je
 refine zL 0 Z Z Z Z (zK Z Z Tryz.call32 (zB Z zM) Z) je (fun hs=>wDj p0.Rules bK bM fB U hs eQ d8) (.inr Z) ?_
 rintro cX j8 lz fC jU jf ⟨ct,cE,rfl,rfl⟩
 let B4:Res:=.row ct cE 3 1 (hM KL.encI ai.Classes)
 have jg:sW w U cX [B4,.blk c9 28 B1,.blk b6 28 B1,.blk b2 28 B0] fC:=jf
 let B5:List Value:=[.slice ct ai.Classes.length cE,jV ai.Each,jV ai.Laps,jV ai.Spare,jV ai.Loop,jV ai.Unused,jV p0.Start,.slice none 0 0]
 refine oR Z (ZH (pv:=[(0,.agg #[.slice ct ai.Classes.length cE,jV ai.Each,jV ai.Laps,jV ai.Spare,jV ai.Loop,jV ai.Unused]),(1,jV p0.Start)]) (z:=B1) (cs:=B5) Z (wAC Z (wAC Z wAM)) yB wHg Z Z) (zu (j:=1) (vs:=B5) Z Z Z Z jg Z Z Z Z ZL (zC Z) Z Z Z ?_)
 intro fD jh
 have ji:sW w U cX [B4,.blk c9 28 B5,.blk b6 28 B1,.blk b2 28 B0] fD:=jh
 refine zg ?_
 cases eT
 exact zI ⟨rfl,⟨cX,c9,ct,cE,rfl,rfl,rfl,jU,(ji.pick [2,3,1,0] _ (by decide) rfl)⟩⟩
 rintro lE k6 ⟨cu,ba,aw,az,fM,fN,fO,eW,eD⟩
 refine zG (sR fL4 Z (oR Z (zJ Z fM ze Z ZU) (oL Z (eD.ldB (j:=1) Z Z Z Zn (v:=.slice bv p0.Teams.length bw) Z) (oR Z (za Z Z ZC) (oM Z Z (eN (zT (bnK eS fun jY jk ju=>?_))))))))
 have q:=wAs jk
 obtain ⟨dq,jl⟩:=q
 replace dq:=zF dq
 refine CK.forN' (fun bj bI σ_ w_=>∃ (U_:PHeap) (bz:Option Addr) (bD:Nat) (br:List Value),σ_ 18=jV (↑bj:Int)/\σ_ 2=.pointer (some ⟨b6,0,none⟩)/\σ_ 3=.pointer (some ⟨ba,0,none⟩)/\σ_ 16=.slice bv p0.Teams.length bw/\σ_ 17=jV (↑p0.Teams.length:Int)/\PHeap.Le cu U_/\sW w U U_ [.blk b6 28 B1,.blk b2 28 B0,.row aw az 3 1 (hM KL.encI bb),.row bz bD 43 3 br,.blk ba 28 [.slice aw bb.length az,jV cd,jV cg,jV ch,jV ci,jV cj,jV p0.Start,.slice bz bI.length bD]] w_/\RlT cu U_ wME bI br) jl ?_ ?_ ?_
 have ij:=eD.nilrow 43 3
 exact ⟨cu,none,0,[],rfl,fN,fO,rfl,rfl,(zH _),(ij.pick [1,2,4,0,3] _ (by decide) rfl),RlT.nil⟩
 rintro bj bI lC lG k8 dn ⟨bP,bz,bD,br,cG,dS,dT,db,dd,dt,eG,dX⟩ jL
 have dN:Hid ((↑bj:Int) < (↑p0.Teams.length:Int)):=zF (wAo dn)
 replace dn:=zF dn
 have jr:Hid (w64 ((↑bj:Int) + 1)=(↑(bj + 1):Int)):=zF (by have h1:=dq.out;have h2:=dN.out;rw [wAT] <;> omega)
 refine sR fL1 Z (oR Z (zU Z cG dd) (eN (zG (cT Z dN (kN (zG (zT (sR gBu Z (bnK jL fun ae dY jv=>?_)))))))))
 have gx:=jj.le eW
 have gy:=gx.le dt
 have q:=gy.el (wAR dY)
 obtain ⟨fE,jW,lA,gX,dh,jD⟩:=q
 obtain ⟨bL,bN,bX,b4,rfl,dZ,gz⟩:=jD
 replace dh:Cl bP fE (jW + bj * 3) [jV ae.Bib,.slice bL ae.Classes.length bN,.slice bX ae.Legs.length b4]:=dh
 refine oR Z (zo Z db gX cG ZC ZE (wAj dY)) (oL Z (eG.ldCA (f:=0) dh Z Z yC ZE (us:=[jV ae.Bib,.slice bL ae.Classes.length bN,.slice bX ae.Legs.length b4]) Z Z) ?_)
 let B6:List Value:=[jV 0,.slice none 0 0,.slice none 0 0]
 refine zz (cs:=B6) Z Z Z Z Z Zb Z eG ?_
 intro k9 ak ik
 let B7:List Value:=[jV ae.Bib,.slice bL ae.Classes.length bN,.slice bX ae.Legs.length b4]
 refine zu (j:=0) (vs:=B7) Z Z Z Z ik Z Z Z Z ZE (zC Z) Z Z Z ?_
 intro cY il
 let B8:Res:=.blk ba 28 [.slice aw bb.length az,jV cd,jV cg,jV ch,jV ci,jV cj,jV p0.Start,.slice bz bI.length bD]
 let B9:Res:=.row aw az 3 1 (hM KL.encI bb)
 let ap:Res:=.row bz bD 43 3 br
 have im:sW w U bP [.blk ak 43 B7,.blk b6 28 B1,.blk b2 28 B0,B9,ap,B8] cY:=il
 refine eN (bnK jv fun au jM jw=>CK.cut (fun σ_ w_=>∃ (U_:PHeap) (ay:Nat) (av:Option Addr) (aY:Nat),σ_ 2=.pointer (some ⟨b6,0,none⟩)/\σ_ 3=.pointer (some ⟨ba,0,none⟩)/\σ_ 5=.pointer (some ⟨ak,0,none⟩)/\σ_ 6=.pointer (some ⟨ay,0,none⟩)/\σ_ 16=.slice bv p0.Teams.length bw/\σ_ 17=jV (↑p0.Teams.length:Int)/\σ_ 18=jV (↑bj:Int)/\PHeap.Le bP U_/\sW w U U_ [.blk ak 43 B7,.blk b6 28 B1,.blk b2 28 B0,B9,ap,B8,.blk ay 43 [jV ae.Bib,.slice av au.length aY,.slice none 0 0],.row av aY 3 1 (hM KL.encI au)] w_) ?_ ?_)
 refine bnK jM fun bO d7 eR=>ZY ZP [3,1,3,1,2,3,2,0] (wGc (.fx 4 gBp (.fx 6 (.fx 4 gBi .stop) .stop))) (by kernel_rfl) ?_
 have bR:=im.drew
 generalize hw_W209:({ cY with drawn:=cY.drawn + 1 }:World)=fb at bR ⊢
 refine oR Z (zJ Z Z zk Z zD) (oL Z (bR.ldB (j:=0) Z Z Z zP (v:=jV ae.Bib) Z) (oR Z (zJ Z Z zk Z zS) (oL Z (bR.ldB (j:=0) Z Z Z zc (v:=.slice bL ae.Classes.length bN) Z) (yO ?_ ?_))))
 refine zL 0 Z Z Z Z (zK Z Z Tryz.call33 (zB Z zM) Z) bR (fun hs=>wCj ae.Classes bL bN fb bP hs dZ d7) (.inr Z) ?_
 rintro cS jZ lu fc jR io ⟨cm,cy,rfl,rfl⟩
 let dx:Res:=.row cm cy 3 1 (hM KL.encI bO)
 have ip:sW w U cS [dx,.blk ak 43 B7,.blk b6 28 B1,.blk b2 28 B0,B9,ap,B8] fc:=io
 let cM:List Value:=[jV ae.Bib,.slice cm bO.length cy,.slice none 0 0]
 refine oR Z (ZH (pv:=[(0,jV ae.Bib),(1,.slice cm bO.length cy)]) (z:=B6) (cs:=cM) Z (wAC Z (wAC Z wAM)) Zb wGn Z Z) (zz (cs:=B6) Z Z Z Z Z Zb Z ip ?_)
 intro la dJ iq
 refine zu (j:=0) (vs:=cM) Z Z Z Z iq Z Z Z Z ZE (zC Z) Z Z Z ?_
 intro fd ir
 have it:sW w U cS [.blk dJ 43 cM,dx,.blk ak 43 B7,.blk b6 28 B1,.blk b2 28 B0,B9,ap,B8] fd:=ir
 refine zg ?_
 cases eR
 exact zI ⟨rfl,⟨cS,dJ,cm,cy,dS,dT,rfl,rfl,db,dd,cG,jR,(it.pick [2,3,4,5,6,7,0,1] _ (by decide) rfl)⟩⟩
 refine zz (cs:=B6) Z Z Z Z Z Zb Z bR ?_
 intro fe c7 iu
 refine zL 0 Z Z Z Z (zK Z Z Tryz.call33 (zB Z zM) Z) iu (fun hs=>wCj ae.Classes bL bN fe bP hs dZ d7) (.inr Z) ?_
 rintro cU j4 lv ff jS iv ⟨co,cz,rfl,rfl⟩
 let dy:Res:=.row co cz 3 1 (hM KL.encI bO)
 have iw:sW w U cU [dy,.blk c7 43 B6,.blk ak 43 B7,.blk b6 28 B1,.blk b2 28 B0,B9,ap,B8] ff:=iv
 let cN:List Value:=[jV ae.Bib,.slice co bO.length cz,.slice none 0 0]
 refine oR Z (ZH (pv:=[(0,jV ae.Bib),(1,.slice co bO.length cz)]) (z:=B6) (cs:=cN) Z (wAC Z (wAC Z wAM)) Zb wGn Z Z) (zu (j:=1) (vs:=cN) Z Z Z Z iw Z Z Z Z ZE (zC Z) Z Z Z ?_)
 intro fg iy
 have iz:sW w U cU [dy,.blk c7 43 cN,.blk ak 43 B7,.blk b6 28 B1,.blk b2 28 B0,B9,ap,B8] fg:=iy
 refine zg ?_
 cases eR
 exact zI ⟨rfl,⟨cU,c7,co,cz,dS,dT,rfl,rfl,db,dd,cG,jS,(iz.pick [2,3,4,5,6,7,1,0] _ (by decide) rfl)⟩⟩
 rintro lH lb ⟨cw,ay,av,aY,fP,fQ,fR,fS,fT,fU,fV,bT,eH⟩
 refine zG (sR fL4 Z (oR Z (zJ Z fR zk Z Zd) (oL Z (eH.ldB (j:=0) Z Z Z yE (v:=.slice bX ae.Legs.length b4) Z) (oR Z (za Z Z ZM) (oM Z Z (eN (zT (bnK jw fun bx jm jx=>?_))))))))
 have q:=wAs jm
 obtain ⟨dr,jo⟩:=q
 replace dr:=zF dr
 refine CK.forN' (fun bH bJ σ_ w_=>∃ (U_:PHeap) (bA:Option Addr) (bE:Nat) (bs:List Value),σ_ 31=jV (↑bH:Int)/\σ_ 2=.pointer (some ⟨b6,0,none⟩)/\σ_ 3=.pointer (some ⟨ba,0,none⟩)/\σ_ 6=.pointer (some ⟨ay,0,none⟩)/\σ_ 16=.slice bv p0.Teams.length bw/\σ_ 17=jV (↑p0.Teams.length:Int)/\σ_ 18=jV (↑bj:Int)/\σ_ 29=.slice bX ae.Legs.length b4/\σ_ 30=jV (↑ae.Legs.length:Int)/\PHeap.Le cw U_/\sW w U U_ [.blk ak 43 B7,.blk b6 28 B1,.blk b2 28 B0,.row aw az 3 1 (hM KL.encI bb),ap,B8,.row av aY 3 1 (hM KL.encI au),.row bA bE 46 3 bs,.blk ay 43 [jV ae.Bib,.slice av au.length aY,.slice bA bJ.length bE]] w_/\RlT cw U_ wIZ bJ bs) jo ?_ ?_ ?_
 have iA:=eH.nilrow 46 3
 exact ⟨cw,none,0,[],rfl,fP,fQ,fS,fT,fU,fV,rfl,rfl,(zH _),(iA.pick [1,2,3,4,5,6,8,0,7] _ (by decide) rfl),RlT.nil⟩
 rintro bH bJ lD lI lc dp ⟨cV,bA,bE,bs,dg,fW,fY,de,fZ,gb,gc,dU,dV,du,eI,d9⟩ jO
 have dO:Hid ((↑bH:Int) < (↑ae.Legs.length:Int)):=zF (wAo dp)
 replace dp:=zF dp
 have jt:Hid (w64 ((↑bH:Int) + 1)=(↑(bH + 1):Int)):=zF (by have h1:=dr.out;have h2:=dO.out;rw [wAT] <;> omega)
 refine sR fL1 Z (oR Z (zU Z dg dV) (eN (zG (cT Z dO (kN (zG (zT (sR gBu Z (bnK jO fun am ea jy=>?_)))))))))
 have gA:=gz.le bT
 have gB:=gA.le du
 have q:=gB.el (wAR ea)
 obtain ⟨fG,jX,lB,gY,di,jE⟩:=q
 obtain ⟨bY,ca,bZ,cc,rfl,gC,gD⟩:=jE
 replace di:Cl cV fG (jX + bH * 3) [jV am.Skier,.slice bY am.Loops.length ca,.slice bZ am.Bouts.length cc]:=di
 refine oR Z (zo Z dU gY dg ZM ZJ (wAj ea)) (oL Z (eI.ldCA (f:=0) di Z Z yP ZJ (us:=[jV am.Skier,.slice bY am.Loops.length ca,.slice bZ am.Bouts.length cc]) Z Z) (zz (cs:=B6) Z Z Z Z Z ZT Z eI ?_))
 intro lh bh iC
 let be:List Value:=[jV am.Skier,.slice bY am.Loops.length ca,.slice bZ am.Bouts.length cc]
 refine zu (j:=0) (vs:=be) Z Z Z Z iC Z Z Z Z ZJ (zC Z) Z Z Z ?_
 intro cZ iD
 let bq:Res:=.blk ay 43 [jV ae.Bib,.slice av au.length aY,.slice bA bJ.length bE]
 let bg:Res:=.row av aY 3 1 (hM KL.encI au)
 let bB:Res:=.row bA bE 46 3 bs
 have iE:sW w U cV [.blk bh 46 be,.blk ak 43 B7,.blk b6 28 B1,.blk b2 28 B0,B9,ap,B8,bg,bB,bq] cZ:=iD
 refine eN (ZY ZP [3,1,3,1,3,1,2,3,1,2,3,2,0,3,0] (wIu (.fl 7 (.fl 8 (.fx 6 (.fx 9 (.fl 10 (.fx 11 (.fx 12 (.fl 13 (.fx 14 .nil .stop)) .stop) .stop)) .stop) .stop)))) (by kernel_rfl) ?_)
 have bG:=iE.drew
 generalize hw_W343:({ cZ with drawn:=cZ.drawn + 1 }:World)=fh at bG ⊢
 refine oR Z (zJ Z de zk Z Zd) (oL Z (bG.ldB (j:=9) Z Z Z yE (v:=.slice bA bJ.length bE) Z) (oR Z (zJ Z Z ZB Z zD) (oL Z (bG.ldB (j:=0) Z Z Z zP (v:=jV am.Skier) Z) (oR Z (zJ Z Z ZB Z zS) (oL Z (bG.ldB (j:=0) Z Z Z zc (v:=.slice bY am.Loops.length ca) Z) (oR Z (zJ Z Z ZB Z yK) (oL Z (bG.ldB (j:=0) Z Z Z yu (v:=.slice bZ am.Bouts.length cc) Z) (bnK jy fun bf gE jz=>zL 0 Z Z Z Z (zK Z Z Tryz.call33 (zB Z zM) Z) bG (fun hs=>wCj am.Loops bY ca fh cV hs gC gE) (.inr Z) ?_))))))))
 rintro dE j5 lw dG bU iF ⟨bp,bQ,rfl,rfl⟩
 let dz:Res:=.row bp bQ 3 1 (hM KL.encI bf)
 have iG:sW w U dE [dz,.blk bh 46 be,.blk ak 43 B7,.blk b6 28 B1,.blk b2 28 B0,B9,ap,B8,bg,bB,bq] dG:=iF
 have gF:=gD.le bU
 refine bnK jz fun bn gG jA=>zL 0 Z Z Z Z (zK Z Z Tryz.call34 (zB Z zM) Z) iG (fun hs=>wEp am.Bouts bZ cc dG dE hs gF gG) (.inr Z) ?_
 rintro eZ j6 lx c6 bV iH ⟨ax,bi,dP,rfl,rfl,eb⟩
 have iI:sW w U eZ [.row ax bi 47 1 dP,dz,.blk bh 46 be,.blk ak 43 B7,.blk b6 28 B1,.blk b2 28 B0,B9,ap,B8,bg,bB,bq] c6:=iH
 let a7:List Value:=[jV am.Skier,.slice bp bf.length bQ,.slice ax bn.length bi]
 refine oR Z (ZH (pv:=[(0,jV am.Skier),(1,.slice bp bf.length bQ),(2,.slice ax bn.length bi)]) (z:=B6) (cs:=a7) Z (wAC Z (wAC Z (wAC Z wAM))) ZT wFS Z Z) ?_
 have q:=iI.freezeRP (k:=1) rfl
 obtain ⟨e8,bt,ew,g9,iK⟩:=q
 have jF:=ew.sl (n:=bf.length) (wAF (f:=KL.encI) (sz:=1) (fun _=>rfl) bf) (by decide)
 have iL:sW w U e8 [.row ax bi 47 1 dP,.blk bh 46 be,.blk ak 43 B7,.blk b6 28 B1,.blk b2 28 B0,B9,ap,B8,bg,bB,bq] c6:=iK
 have ee:=eb.le bt
 have q:=iL.freezeRP (k:=0) rfl
 obtain ⟨aW,bl,ey,ib,iM⟩:=q
 have jG:SlR aW wFi ax bi bn:=⟨_,ey.sl (RlL.len (ee).toL) (by decide),RlL.le (ee).toL bl⟩
 have iN:sW w U aW [.blk bh 46 be,.blk ak 43 B7,.blk b6 28 B1,.blk b2 28 B0,B9,ap,B8,bg,bB,bq] c6:=iM
 refine zW (pv:=[(0,.agg a7.toArray)]) (zs:=B6) (cs:=a7) Z Z Z Z Z (wAC Z wAM) ZM ZJ ZT Z Z Z Z Z iN ?_
 intro fj fH iJ
 have gH:=jF.le bl
 have eU:RlL aW wFe [(⟨am.Skier,bf,bn⟩:wAA)] a7:=(RlL.cons (R:=wFe) (x:=(⟨am.Skier,bf,bn⟩:wAA)) (vs:=a7) ⟨bp,bQ,ax,bi,rfl,gH,jG⟩ RlL.nil)
 obtain ⟨cH,gv,eX⟩:=eb
 have gZ:SlF aW wIw ax bi bn (cH ++ bks ax):=by have g:=(gv.up (eX.stay (bt.trans bl)));exact ⟨_,_,(ey.le (zH _)).sl (RlL.len g.toL) (by decide),g,rfl⟩
 have ic:Ows _ aW (bks bp ++ (cH ++ bks ax)):=(((eX.cat g9 bV (zH _) bt).cat ib (bV.trans bt) (zH _) bl).le (zH _)).perm (by intro b;first | rfl | (simp only [nM,nN];omega))
 have jp:wIZ.f aW (⟨am.Skier,bf,bn⟩:wAA) a7 (bks bp ++ (cH ++ bks ax)):=⟨bp,bQ,ax,bi,(cH ++ bks ax),rfl,(ew.le bl),gZ,rfl⟩
 let cO:Res:=.row (some ⟨fH,0,none⟩) 1 46 3 a7
 have eJ:sW w U aW [cO,.blk bh 46 be,.blk ak 43 B7,.blk b6 28 B1,.blk b2 28 B0,B9,ap,B8,bg,bB,bq] fj:=iJ
 refine bnK jA fun cJ gI jB=>?_
 have gJ:=d9.le bU
 have gK:=gJ.le bV
 have gM:=gK.le bt
 have gO:=gM.le bl
 refine yU (R:=wFe) (j:=9) (xs:=bJ) (ys:=[(⟨am.Skier,bf,bn⟩:wAA)]) (zs:=cJ) rfl rfl rfl rfl rfl Tryz.underlying41 wJL rfl rfl rfl rfl rfl rfl rfl eJ rfl rfl rfl (gO).toL eU (eJ.srcR (j:=0) rfl (by decide) (RlL.len eU)) gI rfl ?_
 intro cp cA fk iO lm jP
 have jJ:RlT cw aW wIZ cJ (bs ++ a7):=by rw [jP];exact RlT.snoc d9 jp ic du bU (((bU.trans bV).trans bt).trans bl)
 let dB:Res:=.row cp cA 46 3 (bs ++ a7)
 have iP:sW w U aW [cO,.blk bh 46 be,.blk ak 43 B7,.blk b6 28 B1,.blk b2 28 B0,B9,ap,B8,bg,dB,bq] fk:=iO
 refine oR Z (zJ Z de zk Z Zd) (zu (j:=10) (vs:=[.slice cp cJ.length cA]) Z Z Z Z iP Z Z Z Z Zd (zC Z) Z Z Z ?_)
 intro fm iQ
 have iR:sW w U aW [cO,.blk bh 46 be,.blk ak 43 B7,.blk b6 28 B1,.blk b2 28 B0,B9,ap,B8,bg,dB,.blk ay 43 [jV ae.Bib,.slice av au.length aY,.slice cp cJ.length cA]] fm:=iQ
 refine zg (zb (zI (rR fL2 Z (oR Z (zn (zX Z dg Z) (congrArg (jV) jt.out)) (oM Z Z (zg ?_))))))
 cases jB
 exact zI ⟨rfl,⟨aW,cp,cA,(bs ++ a7),rfl,fW,fY,de,fZ,gb,gc,dU,dV,((((du.trans bU).trans bV).trans bt).trans bl),(iR.pick [2,3,4,5,6,7,8,9,10] _ (by decide) rfl),jJ⟩⟩
 rintro lJ dH ⟨j9,aZ,bF,fJ,gr,ge,df,gf,gg,gh,gi,lk,gj,bW,dm,eh⟩
 have fK:Hid (¬ ((↑(((↑ae.Legs.length:Int):Int) - 0).toNat:Int) < (↑ae.Legs.length:Int))):=zF (wAa)
 refine sR fL1 Z (oR Z (zU Z gr gj) (eN (zG (cF Z fK (ZI (zY (zY (ZD (zI (rR (wDE (.fx 3 (.fx 4 (.fl 5 (.fx 6 .nil .stop)) .stop) .stop)) Z (oR Z (zJ Z df ze Z ZU) (oL Z (dm.ldB (j:=5) Z Z Z Zn (v:=.slice bz bI.length bD) Z) ?_))))))))))))
 let aq:List Value:=[jV ae.Bib,.slice av au.length aY,.slice aZ bx.length bF]
 refine oL Z (dm.ldBA (j:=8) Z Z gf yC ZE (vs:=aq) Z Z) ?_
 have q:=dm.freezeRP (k:=6) rfl
 obtain ⟨e9,bu,eB,ie,iT⟩:=q
 have jH:=eB.sl (n:=au.length) (wAF (f:=KL.encI) (sz:=1) (fun _=>rfl) au) (by decide)
 have iU:sW w U e9 [.blk ak 43 B7,.blk b6 28 B1,.blk b2 28 B0,B9,ap,B8,.row aZ bF 46 3 fJ,.blk ay 43 aq] dH:=iT
 have ep:=eh.le bu
 have q:=iU.freezeRP (k:=6) rfl
 obtain ⟨aX,bm,eC,ig,iV⟩:=q
 have jI:SlR aX wFe aZ bF bx:=⟨_,eC.sl (RlL.len (ep).toL) (by decide),RlL.le (ep).toL bm⟩
 have iW:sW w U aX [.blk ak 43 B7,.blk b6 28 B1,.blk b2 28 B0,B9,ap,B8,.blk ay 43 aq] dH:=iV
 refine zW (pv:=[(0,.agg aq.toArray)]) (zs:=B6) (cs:=aq) Z Z Z Z Z (wAC Z wAM) ZC ZE Zb Z Z Z Z Z iW ?_
 intro ft fI iS
 have gP:=jH.le bm
 have eV:RlL aX wFF [(⟨ae.Bib,au,bx⟩:wAD)] aq:=(RlL.cons (R:=wFF) (x:=(⟨ae.Bib,au,bx⟩:wAD)) (vs:=aq) ⟨av,aY,aZ,bF,rfl,gP,jI⟩ RlL.nil)
 obtain ⟨cI,gw,eY⟩:=eh
 have g8:SlF aX wIZ aZ bF bx (cI ++ bks aZ):=by have g:=(gw.up (eY.stay (bu.trans bm)));exact ⟨_,_,(eC.le (zH _)).sl (RlL.len g.toL) (by decide),g,rfl⟩
 have ii:Ows _ aX (bks av ++ (cI ++ bks aZ)):=(((eY.cat ie bW (zH _) bu).cat ig (bW.trans bu) (zH _) bm).le (zH _)).perm (by intro b;first | rfl | (simp only [nM,nN];omega))
 have jq:wME.f aX (⟨ae.Bib,au,bx⟩:wAD) aq (bks av ++ (cI ++ bks aZ)):=⟨av,aY,aZ,bF,(cI ++ bks aZ),rfl,(eB.le bm),g8,rfl⟩
 let cP:Res:=.row (some ⟨fI,0,none⟩) 1 43 3 aq
 have eK:sW w U aX [cP,.blk ak 43 B7,.blk b6 28 B1,.blk b2 28 B0,B9,ap,B8,.blk ay 43 aq] ft:=iS
 refine bnK jx fun cK gQ jC=>?_
 have gS:=dX.le bT
 have gT:=gS.le bW
 have gU:=gT.le bu
 have gV:=gU.le bm
 refine yU (R:=wFF) (j:=5) (xs:=bI) (ys:=[(⟨ae.Bib,au,bx⟩:wAD)]) (zs:=cK) rfl rfl rfl rfl rfl Tryz.underlying26 wKb rfl rfl rfl rfl rfl rfl rfl eK rfl rfl rfl (gV).toL eV (eK.srcR (j:=0) rfl (by decide) (RlL.len eV)) gQ rfl ?_
 intro cq cC fu iX ln jQ
 have jK:RlT cu aX wME cK (br ++ aq):=by rw [jQ];exact RlT.snoc dX jq ii dt bT (((bT.trans bW).trans bu).trans bm)
 let dC:Res:=.row cq cC 43 3 (br ++ aq)
 have iY:sW w U aX [cP,.blk ak 43 B7,.blk b6 28 B1,.blk b2 28 B0,B9,dC,B8,.blk ay 43 aq] fu:=iX
 refine oR Z (zJ Z df ze Z ZU) (zu (j:=6) (vs:=[.slice cq cK.length cC]) Z Z Z Z iY Z Z Z Z ZU (zC Z) Z Z Z ?_)
 intro fy iZ
 have i6:sW w U aX [cP,.blk ak 43 B7,.blk b6 28 B1,.blk b2 28 B0,B9,dC,.blk ba 28 [.slice aw bb.length az,jV cd,jV cg,jV ch,jV ci,jV cj,jV p0.Start,.slice cq cK.length cC],.blk ay 43 aq] fy:=iZ
 refine zg (zb (zI (rR fL2 Z (oR Z (zn (zX Z gi Z) (congrArg (jV) jr.out)) (oM Z Z (zg ?_))))))
 cases jC
 exact zI ⟨rfl,⟨aX,cq,cC,(br ++ aq),rfl,ge,df,gg,gh,((((dt.trans bT).trans bW).trans bu).trans bm),(i6.pick [2,3,4,5,6] _ (by decide) rfl),jK⟩⟩
 rintro lK li ⟨dF,cL,da,dQ,gu,dW,gm,ll,gq,lq,eM,gW⟩
 have fL:Hid (¬ ((↑(((↑p0.Teams.length:Int):Int) - 0).toNat:Int) < (↑p0.Teams.length:Int))):=zF (wAa)
 refine sR fL1 Z (oR Z (zU Z gu gq) (eN (zG (cF Z fL (ZI (zY (zY (ZD (zI (sR gBe Z ?_))))))))))
 let bC:List Value:=[.slice aw bb.length az,jV cd,jV cg,jV ch,jV ci,jV cj,jV p0.Start,.slice cL jY.length da]
 refine oL Z (eM.ldBA (j:=4) Z Z gm Zq ZL (vs:=bC) Z Z) (zu (j:=0) (vs:=bC) Z Z Z Z eM Z dW Z Z ZL (zC Z) Z Z Z ?_)
 intro fz i8
 have eP:sW w U dF [.blk b6 28 bC,.blk b2 28 B0,.row aw az 3 1 (hM KL.encI bb),.row cL da 43 3 dQ,.blk ba 28 bC] fz:=i8
 refine eN (zO ?_)
 cases ju
 exact ⟨rfl,_,(wFk (v:=.agg bC.toArray) ⟨⟨_,dW,(wEv Zq ZL (eP.blkAt (k:=0) rfl) (vs:=bC) rfl rfl)⟩,trivial⟩),dF,_,(eP.pick [2,3] _ (by decide) rfl),aw,az,cL,da,dQ,rfl,rfl,(gW).low eW⟩
end Go.Proofs.YtnbcoenjobdplaaGreat
