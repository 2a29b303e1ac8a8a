import Derived.Test.YtlkkhhcfemmmdaaGreatA7
import Derived.Test.YtlkkhhcfemmmdaaGreatA6
set_option linter.all false
open List renaming flatMap->nA,length_set->nD,set->nE,getElem_cons_succ->nG,getElem_cons_zero->nH,getElem_toArray->nI,length_append->nN,take_of_length_le->nO
open Option.some renaming inj->nB
open Int renaming toNat_natCast->nJ,le_refl->nQ
open Go.Value renaming bool->nK
open Eq renaming trans->nL
open Bool renaming eq_false_iff->nM
open Nat renaming le_of_eq->nP
open Option renaming map->nR
namespace Go.Proofs.YtlkkhhcfemmmdaaGreat
open Go.KL
def gBd:Sch:=.fx 10 (.fl 11 .nil) .stop
def gBe:Sch:=.fx 1 (.fl 2 .nil) .stop
def gBf:Sch:=.fx 0 (.fl 1 .nil) .stop
def gBg:Sch:=.fx 6 (.fl 7 .nil) .stop
def gBh:Sch:=.fl 0 (.fx 1 .nil .stop)
def gBi:Sch:=.fx 2 (.fl 3 .nil) .stop
def gBj:Sch:=.fx 3 (.fl 4 .nil) .stop
def gBk:Sch:=.fx 0 (.fx 1 .nil .stop) .stop
def gBl:Sch:=.fx 2 (.fl 3 (.fl 4 .nil)) .stop
def gBm:Sch:=.fx 14 (.fl 15 (.fl 16 .nil)) .stop
def gBn:Sch:=.fx 15 (.fl 16 (.fx 17 .nil .stop)) .stop
def gBo:Sch:=.fx 0 gBe .stop
def gBp:Sch:=.fx 5 gBg .stop
def gBq:Sch:=.fx 0 (.fl 1 (.fl 2 .nil)) .stop
def gBr:Sch:=.fl 0 gBe
def gBs:Sch:=.fx 3 (.fl 4 (.fx 5 .nil .stop)) .stop
def gBt:Sch:=.fl 0 (.fl 1 (.fx 2 .nil .stop))
def gBu:Sch:=.fl 0 (.fl 1 (.fx 2 (.fx 3 .nil .stop) .stop))
def gBv:Sch:=.fl 0 (.fl 1 gBi)
def gBw:Sch:=.fl 0 (.fl 1 gBl)
def gBx:Sch:=.fx 0 (.fl 3 (.fl 4 (.fx 9 gBd .stop))) .stop
def gBy:Sch:=.fl 0 (.fl 1 (.fx 2 (.fx 3 (.fl 4 (.fl 5 .nil)) .stop) .stop))
set_option maxHeartbeats 4000000
theorem wHh (p0:wAL) (eO:Nat) (eM:Option Addr) (eP:Nat) (bD:Option Addr) (bE:Nat) (eQ:Nat) (pj:Array MapEntry) (po:Nat) (eR:Nat) (pk:Array MapEntry) (pp:Nat) (pn:List (Int × Hd)) (p1:wAH) (p2:(wAL × List Int × List (Int × Bool))) (pb2a:Nat) (pb2b:Nat) (pb2c:Nat) (pb2v:Nat) (pb2f:Nat) (pb2g:Nat) (pq2d:Nat) (pA2d_0_1:Option Addr) (pc2d_0_1:Nat) (pA2d_0_2:Option Addr) (pc2d_0_2:Nat) (pm2d_1:Nat) (pe2d_1:Array MapEntry) (pk2d_1:Nat) (pm2d_2:Nat) (pe2d_2:Array MapEntry) (pk2d_2:Nat) (ph2d_2:List (Int × Hd)) (pm2t:Nat) (pe2t:Array MapEntry) (pk2t:Nat) (pA2o:Option Addr) (pc2o:Nat) (w:World) (U:PHeap) (hS:St0 w U [.obj pm2t (.map pe2t pk2t)]) (m6:Cl U eO 0 [jV p0.Record.Deadline,.slice eM p0.Record.Skiers.length eP,.slice bD p0.Record.Decisions.length bE,.map (some eQ),.map (some eR)]) (qd:Sl U 2 eM eP p0.Record.Skiers.length (nA wAD p0.Record.Skiers)) (oc:Sl U 6 bD bE p0.Record.Decisions.length (nA wAB p0.Record.Decisions)) (qe:MpF U eQ pj po wFk wFy p0.at_) (qf:MrF U eR pk pp 6 wAB wCu pn p0.about) (od:Cl U pb2a 0 [.map (some pm2t)]) (oe:Cl U pb2b 0 [.func (.func 47) #[.pointer (some ⟨pq2d,0,none⟩)] #[]]) (oh:Cl U pb2c 0 [.pointer (some ⟨pq2d,0,none⟩)]) (oi:Cl U pb2v 0 [.func (.func 49) #[] #[.pointer (some ⟨pb2a,0,none⟩),.pointer (some ⟨pb2b,0,none⟩),.pointer (some ⟨pb2c,0,none⟩),.pointer (some ⟨pb2v,0,none⟩)],.func (.func 51) #[] #[.pointer (some ⟨pb2f,0,none⟩)],.func (.func 52) #[] #[.pointer (some ⟨pb2v,0,none⟩),.pointer (some ⟨pb2g,0,none⟩)],.func (.func 56) #[] #[.pointer (some ⟨pb2v,0,none⟩)],.func (.func 54) #[] #[.pointer (some ⟨pb2f,0,none⟩)]]) (ol:Cl U pb2f 0 [.func (.func 48) #[] #[.pointer (some ⟨pb2c,0,none⟩),.pointer (some ⟨pb2v,0,none⟩)]]) (m7:Cl U pb2g 0 [.slice pA2o p2.2.1.length pc2o]) (m8:Cl U pq2d 0 [jV p2.1.Record.Deadline,.slice pA2d_0_1 p2.1.Record.Skiers.length pc2d_0_1,.slice pA2d_0_2 p2.1.Record.Decisions.length pc2d_0_2,.map (some pm2d_1),.map (some pm2d_2)]) (m9:Sl U 2 pA2d_0_1 pc2d_0_1 p2.1.Record.Skiers.length (nA wAD p2.1.Record.Skiers)) (n5:Sl U 6 pA2d_0_2 pc2d_0_2 p2.1.Record.Decisions.length (nA wAB p2.1.Record.Decisions)) (n7:MpF U pm2d_1 pe2d_1 pk2d_1 wFk wFy p2.1.at_) (n8:MrF U pm2d_2 pe2d_2 pk2d_2 6 wAB wCu ph2d_2 p2.1.about) (n9:MpR pe2t wDX wDj p2.2.2) (oa:Sl U 1 pA2o pc2o p2.2.1.length (nA KL.encI p2.2.1)) {r:Int × Bool × (List (Int × Bool))} (hm:wBo p0 p1 p2=some r):Gv Tryz.prog 44 [.pointer (some ⟨eO,0,none⟩),.agg #[jV p1.Bib,jV p1.Time],.agg #[.func (.func 49) #[] #[.pointer (some ⟨pb2a,0,none⟩),.pointer (some ⟨pb2b,0,none⟩),.pointer (some ⟨pb2c,0,none⟩),.pointer (some ⟨pb2v,0,none⟩)],.func (.func 51) #[] #[.pointer (some ⟨pb2f,0,none⟩)],.func (.func 52) #[] #[.pointer (some ⟨pb2v,0,none⟩),.pointer (some ⟨pb2g,0,none⟩)],.func (.func 56) #[] #[.pointer (some ⟨pb2v,0,none⟩)],.func (.func 54) #[] #[.pointer (some ⟨pb2f,0,none⟩)]]] w (wBW w [.obj pm2t (.map pe2t pk2t)] U (fun U_ L_ v=>∃ (es_0:Array MapEntry) (ck_0:Nat),v=.tuple #[jV r.1,.bool r.2.1]/\L_=[.obj pm2t (.map es_0 ck_0)]/\MpR es_0 wDX wDj r.2.2)):=by
 unfold wBo at hm
 refine Gv.of Tryz.func44 Z Tryz.ntmps44 Tryz.results44 Z (sR (.fx 0 (.fx 1 (.fl 2 (.fl 3 .nil)) .stop) .stop) Z ?_)
 let B0:List Value:=[jV p1.Bib,jV p1.Time]
 refine ZA (cs:=B0) rfl rfl rfl rfl rfl rfl (by rfl) hS ?_
 intro W2 b3 mi
 let B1:List Value:=[.func (.func 49) #[] #[.pointer (some ⟨pb2a,0,none⟩),.pointer (some ⟨pb2b,0,none⟩),.pointer (some ⟨pb2c,0,none⟩),.pointer (some ⟨pb2v,0,none⟩)],.func (.func 51) #[] #[.pointer (some ⟨pb2f,0,none⟩)],.func (.func 52) #[] #[.pointer (some ⟨pb2v,0,none⟩),.pointer (some ⟨pb2g,0,none⟩)],.func (.func 56) #[] #[.pointer (some ⟨pb2v,0,none⟩)],.func (.func 54) #[] #[.pointer (some ⟨pb2f,0,none⟩)]]
 refine ZA (cs:=B1) rfl rfl rfl rfl rfl rfl (by rfl) mi ?_
 intro W6 b7 mI
 refine Ze rfl rfl rfl rfl rfl rfl (Ze rfl rfl rfl rfl rfl rfl (eN (zH (ZT ZH [3,1,3,3,1,3,3] fL7 (by kernel_rfl) ?_))))
 have bS:=mI.drew
 generalize hw_W11:({ W6 with drawn:=W6.drawn + 1 }:World)=pV at bS ⊢
 refine oR Z (zD Z Z Zk Z zC) (oL Z (bS.ldB (j:=1) Z Z Z zO (v:=jV p1.Time) Z) (oR Z (ZR Z Z Z) (oR Z (zD Z Z Zk Z zC) (oL Z (bS.ldB (j:=1) Z Z Z zO (v:=jV p1.Time) Z) (oA Z Z (oA Z Z (eN (zH (sR fL7 Z (oM Z Z (oR Z (Zm Z Z) (oR Z (zD Z Z Zw Z zm) (oR Z (zD Z Z zd Z Zf) (oL Z (bS.ldC (f:=2) m6 (v:=.slice bD p0.Record.Decisions.length bE) Z Z Zp Z) (oR Z (zy Z Z ZC) (oM Z Z (eN (zV ?_))))))))))))))))))
 have q:=bnd hm
 obtain ⟨⟨qO,qP,bF⟩,om,eh⟩:=q
 try dsimp only at eh
 have q:=wBr om
 obtain ⟨cS,oq⟩:=q
 replace cS:=zI cS
 refine CK.forN' (fun bh (cY,ct,x33) σ_ w_=>∃ (U_:PHeap) (bi:Array MapEntry) (bJ:Nat),σ_ 23=jV (↑bh:Int)/\σ_ 4=.pointer (some ⟨b3,0,none⟩)/\σ_ 5=.pointer (some ⟨b7,0,none⟩)/\σ_ 8=.bool ct/\σ_ 9=jV x33/\σ_ 21=.slice bD p0.Record.Decisions.length bE/\σ_ 22=jV (↑p0.Record.Decisions.length:Int)/\PHeap.Le U U_/\SW w [.obj pm2t (.map pe2t pk2t)] U U_ [.blk b7 80 B1,.blk b3 37 B0,.obj pm2t (.map bi bJ)] w_/\MpR bi wDX wDj cY) oq ?_ ?_ ?_
 exact ⟨U,pe2t,pk2t,Z,Z,Z,Z,Z,Z,Z,(zU _),bS,n9⟩
 rintro bh ⟨cY,ct,x33⟩ qN qR pZ cR ⟨bZ,bi,bJ,bR,cg,ci,dO,cQ,cj,cm,aq,dR,jd⟩ eK
 try dsimp only at eK
 have dN:Hid ((↑bh:Int) < (↑p0.Record.Decisions.length:Int)):=zI (wBq cR)
 replace cR:=zI cR
 have ot:Hid (w64 ((↑bh:Int) + 1)=(↑(bh + 1):Int)):=zI (by have h1:=cS.out;have h2:=dN.out;rw [wAT] <;> omega)
 refine sR fL1 Z (oR Z (ze Z bR cm) (eN (zH (cT Z dN (kN ?_)))))
 have q:=bnd eK
 obtain ⟨⟨oX,fj,x65⟩,oW,eC⟩:=q
 try dsimp only at eC
 refine CK.cut (fun σ_ w_=>∃ (U_:PHeap) (cd:Array MapEntry) (cJ:Nat),σ_ 4=.pointer (some ⟨b3,0,none⟩)/\σ_ 5=.pointer (some ⟨b7,0,none⟩)/\σ_ 8=.bool fj/\σ_ 9=jV x65/\σ_ 21=.slice bD p0.Record.Decisions.length bE/\σ_ 22=jV (↑p0.Record.Decisions.length:Int)/\σ_ 23=jV (↑bh:Int)/\PHeap.Le bZ U_/\SW w [.obj pm2t (.map pe2t pk2t)] U U_ [.obj pm2t (.map cd cJ),.blk b7 80 B1,.blk b3 37 B0] w_/\MpR cd wDX wDj oX) ?_ ?_
 refine zV (sR gBu Z (bnK oW fun x69 dP oB=>?_))
 have jX:=oc.le aq
 have q:=jX.el (fun _=>rfl) (wBD dP)
 obtain ⟨p9,qj,lY,lZ⟩:=q
 refine oR Z (ZZ Z cj lY bR ZC zg (wDB dP)) (oL Z (dR.ldCA (f:=0) lZ Z Z ZF zg (us:=[jV x69.Number,jV x69.Kind,jV x69.Minute,jV x69.Bib,jV x69.Much,jV x69.About]) Z Z) (zq (cs:=[jV 0,jV 0,jV 0,jV 0,jV 0,jV 0]) Z Z Z Z Z Zh Z dR ?_))
 intro p6 an mH
 let B2:List Value:=[jV x69.Number,jV x69.Kind,jV x69.Minute,jV x69.Bib,jV x69.Much,jV x69.About]
 refine zo (j:=0) (vs:=B2) Z Z Z Z mH Z Z Z Z zg (zB Z) Z Z Z ?_
 intro cq mL
 have cp:SW w [.obj pm2t (.map pe2t pk2t)] U bZ [.blk an 42 B2,.blk b7 80 B1,.blk b3 37 B0,.obj pm2t (.map bi bJ)] cq:=mL
 refine eN (sR (wET (.fx 4 .nil .stop)) Z (oL Z (cp.ldBA (j:=1) Z Z ci Tryz.isAgg80 Tryz.sizeOf80 (vs:=B1) Z Z) (oL Z (cp.ldBA (j:=0) Z Z Z ZF zg (vs:=B2) Z Z) (oR Z (zD Z cg Zk Z zC) (oL Z (cp.ldB (j:=2) Z Z Z zO (v:=jV p1.Bib) Z) ?_)))))
 have bk:=od.le aq
 have bm:=oe.le aq
 have bp:=oh.le aq
 have bq:=oi.le aq
 have br:=ol.le aq
 have bs:=m7.le aq
 have bu:=m8.le aq
 have bw:=m9.le aq
 have bz:=n5.le aq
 have bA:=n7.le aq
 have bB:=n8.le aq
 have bC:=oa.le aq
 have q:=bnd oB
 obtain ⟨⟨x96,x97⟩,lX,eI⟩:=q
 try dsimp only at eI
 have l6:SW w [.obj pm2t (.map pe2t pk2t)] U bZ [.obj pm2t (.map bi bJ),.blk an 42 B2,.blk b7 80 B1,.blk b3 37 B0] cq:=cp.pick [3,0,1,2] _ (by decide) rfl
 refine zG 1 Z Z Z Z (zF Z Z Tryz.call86 (zA Z (zA Z (zA Z zK))) Z) l6 (fun hs=>wIo (p2.1,p2.2.1,cY) pb2a pb2b pb2c pb2v pb2f pb2g pq2d pA2d_0_1 pc2d_0_1 pA2d_0_2 pc2d_0_2 pm2d_1 pe2d_1 pk2d_1 pm2d_2 pe2d_2 pk2d_2 ph2d_2 pm2t bi bJ pA2o pc2o x69 p1.Bib cq bZ hs bk bm bp bq br bs bu bw bz bA bB jd bC lX) (.inl Z) ?_
 rintro bG pE qk eT aa l7 ⟨av,au,rfl,rfl,bj⟩
 have cn:SW w [.obj pm2t (.map pe2t pk2t)] U bG [.obj pm2t (.map av au),.blk an 42 B2,.blk b7 80 B1,.blk b3 37 B0] eT:=l7
 refine eN (ifc eI ?_ ?_)
 intro cu ou
 refine zu (congrArg nK cu.out) (bnK ou fun fh eJ dT=>CK.cut (fun σ_ w_=>∃ (U_:PHeap),σ_ 4=.pointer (some ⟨b3,0,none⟩)/\σ_ 5=.pointer (some ⟨b7,0,none⟩)/\σ_ 8=.bool fh/\σ_ 9=jV x33/\σ_ 11=.pointer (some ⟨an,0,none⟩)/\σ_ 21=.slice bD p0.Record.Decisions.length bE/\σ_ 22=jV (↑p0.Record.Decisions.length:Int)/\σ_ 23=jV (↑bh:Int)/\PHeap.Le bG U_/\SW w [.obj pm2t (.map pe2t pk2t)] U U_ [.obj pm2t (.map av au),.blk an 42 B2,.blk b7 80 B1,.blk b3 37 B0] w_) ?_ ?_)
 refine rR fL7 Z (oM Z dO (oM Z Z ?_))
 by_cases ap:ct=true
 have dU:=eJ;rw [if_pos ap] at dU;replace ap:=zI ap
 refine zp Z Z Z (zW Z Z (congrArg nK ap.out) Z) (zp Z Z Z (zW Z Z (congrArg nK ap.out) Z) (zp Z Z Z (zW Z Z (congrArg nK ap.out) Z) (oR Z (zj Z (congrArg nK ap.out) Z) (oA Z Z (zk ?_)))))
 cases dU
 exact zJ ⟨Z,⟨bG,cg,ci,Z,cQ,Z,cj,cm,bR,(zU _),cn⟩⟩
 have dV:=eJ;rw [if_neg ap] at dV;replace ap:=zI ap
 refine za Z Z Z (zS Z Z (congrArg nK (nM.2 ap.out))) (fun _=>zD Z Z zP Z ZE) (zr Z Z Z (zS Z Z (congrArg nK (nM.2 ap.out))) (cn.ldB (j:=1) Z Z Z ZS (v:=jV x69.Kind) Z) Z (za Z Z Z (zS Z Z (congrArg nK (nM.2 ap.out))) (fun _=>ZR Z Z Z) (oR Z (zR Z (congrArg nK (nM.2 ap.out)) Z) (oA Z Z (zk ?_)))))
 have q:=nB dV
 obtain rfl:=q
 exact zJ ⟨Z,⟨bG,cg,ci,Z,cQ,Z,cj,cm,bR,(zU _),cn⟩⟩
 rintro qQ ba ⟨bH,bL,bb,bM,bN,be,bO,bP,bQ,ae,bT⟩
 by_cases cw:x69.Kind=0
 have dW:=dT;rw [if_pos cw] at dW
 refine ZT ZH [2,3,1004,3,3,3,3,1,1,1005,2,3,pm2t] (.fl 1 (.fl 2 (wPm gBx))) (by kernel_rfl) ?_
 have bU:=bT.drew
 generalize hw_W208:({ ba with drawn:=ba.drawn + 1 }:World)=eU at bU ⊢
 refine za rfl rfl rfl rfl (fun _=>zD rfl be zP rfl ZE) (OKS.mt (T:=[pm2t]) [0] [1,2,3] [.blk an 42 B2,.blk b7 80 B1,.blk b3 37 B0] rfl rfl rfl rfl bU rfl ⟨⟨0,by decide,_,rfl,rfl⟩,trivial⟩ (by decide) rfl (by decide) (fun _ mX=>(mX.ldB (j:=0) rfl rfl rfl ZS (v:=jV x69.Kind) rfl)) rfl (zQ rfl rfl rfl rfl rfl bN (za rfl rfl rfl rfl (fun _=>zD rfl bb ZN rfl yV) (zr rfl rfl rfl rfl (bU.ldB (j:=2) rfl rfl rfl Tryz.isAgg78 (v:=.func (.func 56) #[] #[.pointer (some ⟨pb2v,0,none⟩)]) rfl) rfl (zr rfl rfl rfl rfl (bU.ldBA (j:=1) rfl rfl be ZF zg (vs:=B2) rfl rfl) rfl ?_)))))
 have q:=bnd dW
 obtain ⟨⟨⟩,fH,dX⟩:=q
 try dsimp only at dX
 refine zG 0 Z Z Z Z (zF Z Z Tryz.call87 zK Z) bU (fun hs=>wDt eU bH hs fH) (.inr Z) ?_
 rintro cZ pF ql dB aw l9 ⟨rfl,rfl⟩
 have ma:SW w [.obj pm2t (.map pe2t pk2t)] U cZ [.obj pm2t (.map av au),.blk an 42 B2,.blk b7 80 B1,.blk b3 37 B0] dB:=l9
 refine za rfl rfl rfl rfl (fun _=>(Runs.ixA (i:=0) rfl rfl (congrArg (jV) cw) yO yC (by decide) (by decide) (wEx Tryz.isAgg152 yC rfl))) (za rfl rfl rfl rfl (fun _=>Runs.fld rfl rfl yU rfl (wEJ Tryz.isAgg25 (v:=.func (.func 123) #[] #[]) rfl)) ?_)
 have fJ:=bk.le aa
 have fK:=fJ.le ae
 have fL:=fK.le aw
 have fM:=bm.le aa
 have fN:=fM.le ae
 have fO:=fN.le aw
 have fP:=bp.le aa
 have fQ:=fP.le ae
 have fR:=fQ.le aw
 have fS:=bq.le aa
 have fT:=fS.le ae
 have fU:=fT.le aw
 have fV:=br.le aa
 have fW:=fV.le ae
 have fY:=fW.le aw
 have fZ:=bs.le aa
 have f4:=fZ.le ae
 have f5:=f4.le aw
 have f7:=bu.le aa
 have f9:=f7.le ae
 have ga:=f9.le aw
 have gc:=bw.le aa
 have ge:=gc.le ae
 have gf:=ge.le aw
 have gg:=bz.le aa
 have gh:=gg.le ae
 have gi:=gh.le aw
 have gj:=bA.le aa
 have gk:=gj.le ae
 have gm:=gk.le aw
 have gp:=bB.le aa
 have gq:=gp.le ae
 have gt:=gq.le aw
 have gu:=bC.le aa
 have gv:=gu.le ae
 have gw:=gv.le aw
 have q:=bnd dX
 obtain ⟨⟨pq,qC⟩,gy,dY⟩:=q
 try dsimp only at dY
 refine OKS.callHT 1 rfl rfl rfl rfl (zF rfl rfl Tryz.call56 (zA rfl zK) rfl) ma (fun hs=>wCd 1000 x69 (p2.1,p2.2.1,x97) pb2a pb2b pb2c pb2v pb2f pb2g pq2d pA2d_0_1 pc2d_0_1 pA2d_0_2 pc2d_0_2 pm2d_1 pe2d_1 pk2d_1 pm2d_2 pe2d_2 pk2d_2 ph2d_2 pm2t av au pA2o pc2o dB cZ hs fL fO fR fU fY f5 ga gf gi gm gt bj gw gy) rfl (T:=[pm2t]) rfl ⟨fun b h=>(by cases h;exact .head _),trivial⟩ ?_
 rintro da pG qm dC oY mb ⟨cK,cx,rfl,rfl,gz⟩
 have md:SW w [.obj pm2t (.map pe2t pk2t)] U da [.obj pm2t (.map cK cx),.blk an 42 B2,.blk b7 80 B1,.blk b3 37 B0] dC:=mb
 refine bnK dY fun qD gA ow=>zG 0 Z Z Z Z (zF Z Z Tryz.call123 (zA Z (zA Z zK)) Z) md (fun hs=>wFt x33 pq dC da hs gA) (.inr Z) ?_
 rintro db pH qn eV o3 me ⟨rfl,rfl⟩
 have mf:SW w [.obj pm2t (.map pe2t pk2t)] U db [.obj pm2t (.map cK cx),.blk an 42 B2,.blk b7 80 B1,.blk b3 37 B0] eV:=me
 refine oA Z Z (zk (zh ?_))
 cases ow
 exact zJ ⟨rfl,⟨db,cK,cx,bL,bb,bM,rfl,bO,bP,bQ,((((aa.trans ae).trans aw).trans oY).trans o3),(mf.pick [0,2,3] _ (by decide) rfl),gz⟩⟩
 have cU:=dT;rw [if_neg cw] at cU
 by_cases cy:x69.Kind=1
 have dZ:=cU;rw [if_pos cy] at dZ
 refine ZT ZH [2,3,1004,3,3,3,3,1,1,1005,2,3,pm2t] (.fl 1 (.fl 2 (wPm gBx))) (by kernel_rfl) ?_
 have bV:=bT.drew
 generalize hw_W358:({ ba with drawn:=ba.drawn + 1 }:World)=eW at bV ⊢
 refine za rfl rfl rfl rfl (fun _=>zD rfl be zP rfl ZE) (OKS.mt (T:=[pm2t]) [0] [1,2,3] [.blk an 42 B2,.blk b7 80 B1,.blk b3 37 B0] rfl rfl rfl rfl bV rfl ⟨⟨0,by decide,_,rfl,rfl⟩,trivial⟩ (by decide) rfl (by decide) (fun _ mY=>(mY.ldB (j:=0) rfl rfl rfl ZS (v:=jV x69.Kind) rfl)) rfl (zQ rfl rfl rfl rfl rfl bN (za rfl rfl rfl rfl (fun _=>zD rfl bb ZN rfl yV) (zr rfl rfl rfl rfl (bV.ldB (j:=2) rfl rfl rfl Tryz.isAgg78 (v:=.func (.func 56) #[] #[.pointer (some ⟨pb2v,0,none⟩)]) rfl) rfl (zr rfl rfl rfl rfl (bV.ldBA (j:=1) rfl rfl be ZF zg (vs:=B2) rfl rfl) rfl ?_)))))
 have q:=bnd dZ
 obtain ⟨⟨⟩,gB,ep⟩:=q
 try dsimp only at ep
 refine zG 0 Z Z Z Z (zF Z Z Tryz.call87 zK Z) bV (fun hs=>wDt eW bH hs gB) (.inr Z) ?_
 rintro de pI qo dD az mg ⟨rfl,rfl⟩
 have mh:SW w [.obj pm2t (.map pe2t pk2t)] U de [.obj pm2t (.map av au),.blk an 42 B2,.blk b7 80 B1,.blk b3 37 B0] dD:=mg
 refine za rfl rfl rfl rfl (fun _=>(Runs.ixA (i:=1) rfl rfl (congrArg (jV) cy) yO yC (by decide) (by decide) (wEx Tryz.isAgg152 yC rfl))) (za rfl rfl rfl rfl (fun _=>Runs.fld rfl rfl yU rfl (wEJ Tryz.isAgg25 (v:=.func (.func 124) #[] #[]) rfl)) ?_)
 have gC:=bk.le aa
 have gD:=gC.le ae
 have gE:=gD.le az
 have gF:=bm.le aa
 have gG:=gF.le ae
 have gH:=gG.le az
 have gI:=bp.le aa
 have gJ:=gI.le ae
 have gK:=gJ.le az
 have gL:=bq.le aa
 have gM:=gL.le ae
 have gN:=gM.le az
 have gO:=br.le aa
 have gP:=gO.le ae
 have gQ:=gP.le az
 have gR:=bs.le aa
 have gS:=gR.le ae
 have gT:=gS.le az
 have gU:=bu.le aa
 have gW:=gU.le ae
 have gX:=gW.le az
 have gY:=bw.le aa
 have gZ:=gY.le ae
 have g6:=gZ.le az
 have g7:=bz.le aa
 have g8:=g7.le ae
 have g9:=g8.le az
 have ib:=bA.le aa
 have ic:=ib.le ae
 have ie:=ic.le az
 have ig:=bB.le aa
 have ii:=ig.le ae
 have ij:=ii.le az
 have il:=bC.le aa
 have im:=il.le ae
 have io:=im.le az
 have q:=bnd ep
 obtain ⟨⟨pu,qE⟩,ip,er⟩:=q
 try dsimp only at er
 refine OKS.callHT 1 rfl rfl rfl rfl (zF rfl rfl Tryz.call56 (zA rfl zK) rfl) mh (fun hs=>wCd 1000 x69 (p2.1,p2.2.1,x97) pb2a pb2b pb2c pb2v pb2f pb2g pq2d pA2d_0_1 pc2d_0_1 pA2d_0_2 pc2d_0_2 pm2d_1 pe2d_1 pk2d_1 pm2d_2 pe2d_2 pk2d_2 ph2d_2 pm2t av au pA2o pc2o dD de hs gE gH gK gN gQ gT gX g6 g9 ie ij bj io ip) rfl (T:=[pm2t]) rfl ⟨fun b h=>(by cases h;exact .head _),trivial⟩ ?_
 rintro df pJ qp dE o5 mj ⟨cL,cz,rfl,rfl,iq⟩
 have mo:SW w [.obj pm2t (.map pe2t pk2t)] U df [.obj pm2t (.map cL cz),.blk an 42 B2,.blk b7 80 B1,.blk b3 37 B0] dE:=mj
 refine bnK er fun qF ir oy=>zG 0 Z Z Z Z (zF Z Z Tryz.call124 (zA Z (zA Z zK)) Z) mo (fun hs=>wHx x33 pu dE df hs ir) (.inr Z) ?_
 rintro dg pK qq eX o6 mp ⟨rfl,rfl⟩
 have mq:SW w [.obj pm2t (.map pe2t pk2t)] U dg [.obj pm2t (.map cL cz),.blk an 42 B2,.blk b7 80 B1,.blk b3 37 B0] eX:=mp
 refine oA Z Z (zk (zh ?_))
 cases oy
 exact zJ ⟨rfl,⟨dg,cL,cz,bL,bb,bM,rfl,bO,bP,bQ,((((aa.trans ae).trans az).trans o5).trans o6),(mq.pick [0,2,3] _ (by decide) rfl),iq⟩⟩
 have cV:=cU;rw [if_neg cy] at cV
 by_cases cA:x69.Kind=2
 have eu:=cV;rw [if_pos cA] at eu
 refine ZT ZH [2,3,1004,3,3,3,3,1,1,1005,2,3,pm2t] (.fl 1 (.fl 2 (wPm gBx))) (by kernel_rfl) ?_
 have bW:=bT.drew
 generalize hw_W508:({ ba with drawn:=ba.drawn + 1 }:World)=eY at bW ⊢
 refine za rfl rfl rfl rfl (fun _=>zD rfl be zP rfl ZE) (OKS.mt (T:=[pm2t]) [0] [1,2,3] [.blk an 42 B2,.blk b7 80 B1,.blk b3 37 B0] rfl rfl rfl rfl bW rfl ⟨⟨0,by decide,_,rfl,rfl⟩,trivial⟩ (by decide) rfl (by decide) (fun _ mZ=>(mZ.ldB (j:=0) rfl rfl rfl ZS (v:=jV x69.Kind) rfl)) rfl (zQ rfl rfl rfl rfl rfl bN (za rfl rfl rfl rfl (fun _=>zD rfl bb ZN rfl yV) (zr rfl rfl rfl rfl (bW.ldB (j:=2) rfl rfl rfl Tryz.isAgg78 (v:=.func (.func 56) #[] #[.pointer (some ⟨pb2v,0,none⟩)]) rfl) rfl (zr rfl rfl rfl rfl (bW.ldBA (j:=1) rfl rfl be ZF zg (vs:=B2) rfl rfl) rfl ?_)))))
 have q:=bnd eu
 obtain ⟨⟨⟩,it,ew⟩:=q
 try dsimp only at ew
 refine zG 0 Z Z Z Z (zF Z Z Tryz.call87 zK Z) bW (fun hs=>wDt eY bH hs it) (.inr Z) ?_
 rintro dh pL qr dF aX mr ⟨rfl,rfl⟩
 have ms:SW w [.obj pm2t (.map pe2t pk2t)] U dh [.obj pm2t (.map av au),.blk an 42 B2,.blk b7 80 B1,.blk b3 37 B0] dF:=mr
 refine za rfl rfl rfl rfl (fun _=>(Runs.ixA (i:=2) rfl rfl (congrArg (jV) cA) yO yC (by decide) (by decide) (wEx Tryz.isAgg152 yC rfl))) (za rfl rfl rfl rfl (fun _=>Runs.fld rfl rfl yU rfl (wEJ Tryz.isAgg25 (v:=.func (.func 125) #[] #[]) rfl)) ?_)
 have iu:=bk.le aa
 have iv:=iu.le ae
 have iw:=iv.le aX
 have iy:=bm.le aa
 have iz:=iy.le ae
 have iA:=iz.le aX
 have iB:=bp.le aa
 have iC:=iB.le ae
 have iD:=iC.le aX
 have iE:=bq.le aa
 have iF:=iE.le ae
 have iG:=iF.le aX
 have iH:=br.le aa
 have iI:=iH.le ae
 have iJ:=iI.le aX
 have iK:=bs.le aa
 have iL:=iK.le ae
 have iM:=iL.le aX
 have iN:=bu.le aa
 have iO:=iN.le ae
 have iP:=iO.le aX
 have iQ:=bw.le aa
 have iR:=iQ.le ae
 have iT:=iR.le aX
 have iU:=bz.le aa
 have iV:=iU.le ae
 have iW:=iV.le aX
 have iX:=bA.le aa
 have iY:=iX.le ae
 have iZ:=iY.le aX
 have i4:=bB.le aa
 have i5:=i4.le ae
 have i6:=i5.le aX
 have i7:=bC.le aa
 have i8:=i7.le ae
 have i9:=i8.le aX
 have q:=bnd ew
 obtain ⟨⟨pB,qG⟩,ja,ey⟩:=q
 try dsimp only at ey
 refine OKS.callHT 1 rfl rfl rfl rfl (zF rfl rfl Tryz.call56 (zA rfl zK) rfl) ms (fun hs=>wCd 1000 x69 (p2.1,p2.2.1,x97) pb2a pb2b pb2c pb2v pb2f pb2g pq2d pA2d_0_1 pc2d_0_1 pA2d_0_2 pc2d_0_2 pm2d_1 pe2d_1 pk2d_1 pm2d_2 pe2d_2 pk2d_2 ph2d_2 pm2t av au pA2o pc2o dF dh hs iw iA iD iG iJ iM iP iT iW iZ i6 bj i9 ja) rfl (T:=[pm2t]) rfl ⟨fun b h=>(by cases h;exact .head _),trivial⟩ ?_
 rintro dm pM qt dG o7 mw ⟨cM,cB,rfl,rfl,jb⟩
 have my:SW w [.obj pm2t (.map pe2t pk2t)] U dm [.obj pm2t (.map cM cB),.blk an 42 B2,.blk b7 80 B1,.blk b3 37 B0] dG:=mw
 refine bnK ey fun qH jc oz=>zG 0 Z Z Z Z (zF Z Z Tryz.call125 (zA Z (zA Z zK)) Z) my (fun hs=>wHy x33 pB dG dm hs jc) (.inr Z) ?_
 rintro dp pN qu eZ o8 mz ⟨rfl,rfl⟩
 have mA:SW w [.obj pm2t (.map pe2t pk2t)] U dp [.obj pm2t (.map cM cB),.blk an 42 B2,.blk b7 80 B1,.blk b3 37 B0] eZ:=mz
 refine oA Z Z (zk (zh ?_))
 cases oz
 exact zJ ⟨rfl,⟨dp,cM,cB,bL,bb,bM,rfl,bO,bP,bQ,((((aa.trans ae).trans aX).trans o7).trans o8),(mA.pick [0,2,3] _ (by decide) rfl),jb⟩⟩
 have cW:=cV;rw [if_neg cA] at cW
 by_cases cC:x69.Kind=3
 have eA:=cW;rw [if_pos cC] at eA
 refine ZT ZH [2,3,1004,3,3,3,3,1,1,1005,2,3,pm2t] (.fl 1 (.fl 2 (wPm gBx))) (by kernel_rfl) ?_
 have bX:=bT.drew
 generalize hw_W658:({ ba with drawn:=ba.drawn + 1 }:World)=fb at bX ⊢
 refine za rfl rfl rfl rfl (fun _=>zD rfl be zP rfl ZE) (OKS.mt (T:=[pm2t]) [0] [1,2,3] [.blk an 42 B2,.blk b7 80 B1,.blk b3 37 B0] rfl rfl rfl rfl bX rfl ⟨⟨0,by decide,_,rfl,rfl⟩,trivial⟩ (by decide) rfl (by decide) (fun _ m4=>(m4.ldB (j:=0) rfl rfl rfl ZS (v:=jV x69.Kind) rfl)) rfl (zQ rfl rfl rfl rfl rfl bN (za rfl rfl rfl rfl (fun _=>zD rfl bb ZN rfl yV) (zr rfl rfl rfl rfl (bX.ldB (j:=2) rfl rfl rfl Tryz.isAgg78 (v:=.func (.func 56) #[] #[.pointer (some ⟨pb2v,0,none⟩)]) rfl) rfl (zr rfl rfl rfl rfl (bX.ldBA (j:=1) rfl rfl be ZF zg (vs:=B2) rfl rfl) rfl ?_)))))
 have q:=bnd eA
 obtain ⟨⟨⟩,je,eB⟩:=q
 try dsimp only at eB
 refine zG 0 Z Z Z Z (zF Z Z Tryz.call87 zK Z) bX (fun hs=>wDt fb bH hs je) (.inr Z) ?_
 rintro dr pO qv dI aY mB ⟨rfl,rfl⟩
 have mC:SW w [.obj pm2t (.map pe2t pk2t)] U dr [.obj pm2t (.map av au),.blk an 42 B2,.blk b7 80 B1,.blk b3 37 B0] dI:=mB
 refine za rfl rfl rfl rfl (fun _=>(Runs.ixA (i:=3) rfl rfl (congrArg (jV) cC) yO yC (by decide) (by decide) (wEx Tryz.isAgg152 yC rfl))) (za rfl rfl rfl rfl (fun _=>Runs.fld rfl rfl yU rfl (wEJ Tryz.isAgg25 (v:=.func (.func 126) #[] #[]) rfl)) ?_)
 have jf:=bk.le aa
 have jg:=jf.le ae
 have jh:=jg.le aY
 have ji:=bm.le aa
 have jj:=ji.le ae
 have jk:=jj.le aY
 have jl:=bp.le aa
 have jm:=jl.le ae
 have jo:=jm.le aY
 have jp:=bq.le aa
 have jq:=jp.le ae
 have jr:=jq.le aY
 have jt:=br.le aa
 have ju:=jt.le ae
 have jv:=ju.le aY
 have jw:=bs.le aa
 have jx:=jw.le ae
 have jy:=jx.le aY
 have jz:=bu.le aa
 have jA:=jz.le ae
 have jB:=jA.le aY
 have jC:=bw.le aa
 have jD:=jC.le ae
 have jE:=jD.le aY
 have jG:=bz.le aa
 have jH:=jG.le ae
 have jJ:=jH.le aY
 have jK:=bA.le aa
 have jL:=jK.le ae
 have jM:=jL.le aY
 have jN:=bB.le aa
 have jO:=jN.le ae
 have jP:=jO.le aY
 have jQ:=bC.le aa
 have jR:=jQ.le ae
 have jS:=jR.le aY
 have q:=bnd eB
 obtain ⟨⟨pC,qI⟩,jU,eD⟩:=q
 try dsimp only at eD
 refine OKS.callHT 1 rfl rfl rfl rfl (zF rfl rfl Tryz.call56 (zA rfl zK) rfl) mC (fun hs=>wCd 1000 x69 (p2.1,p2.2.1,x97) pb2a pb2b pb2c pb2v pb2f pb2g pq2d pA2d_0_1 pc2d_0_1 pA2d_0_2 pc2d_0_2 pm2d_1 pe2d_1 pk2d_1 pm2d_2 pe2d_2 pk2d_2 ph2d_2 pm2t av au pA2o pc2o dI dr hs jh jk jo jr jv jy jB jE jJ jM jP bj jS jU) rfl (T:=[pm2t]) rfl ⟨fun b h=>(by cases h;exact .head _),trivial⟩ ?_
 rintro dt pP qw dJ o9 mD ⟨cN,cD,rfl,rfl,jW⟩
 have mE:SW w [.obj pm2t (.map pe2t pk2t)] U dt [.obj pm2t (.map cN cD),.blk an 42 B2,.blk b7 80 B1,.blk b3 37 B0] dJ:=mD
 refine bnK eD fun qJ jY oG=>zG 0 Z Z Z Z (zF Z Z Tryz.call126 (zA Z (zA Z zK)) Z) mE (fun hs=>wHz x33 pC dJ dt hs jY) (.inr Z) ?_
 rintro du pQ qx fc pb mF ⟨rfl,rfl⟩
 have mG:SW w [.obj pm2t (.map pe2t pk2t)] U du [.obj pm2t (.map cN cD),.blk an 42 B2,.blk b7 80 B1,.blk b3 37 B0] fc:=mF
 refine oA Z Z (zk (zh ?_))
 cases oG
 exact zJ ⟨rfl,⟨du,cN,cD,bL,bb,bM,rfl,bO,bP,bQ,((((aa.trans ae).trans aY).trans o9).trans pb),(mG.pick [0,2,3] _ (by decide) rfl),jW⟩⟩
 have cX:=cW;rw [if_neg cC] at cX
 by_cases cE:x69.Kind=4
 have eE:=cX;rw [if_pos cE] at eE
 refine ZT ZH [2,3,1004,3,3,3,3,1,1,1005,2,3,pm2t] (.fl 1 (.fl 2 (wPm gBx))) (by kernel_rfl) ?_
 have bY:=bT.drew
 generalize hw_W808:({ ba with drawn:=ba.drawn + 1 }:World)=fd at bY ⊢
 refine za rfl rfl rfl rfl (fun _=>zD rfl be zP rfl ZE) (OKS.mt (T:=[pm2t]) [0] [1,2,3] [.blk an 42 B2,.blk b7 80 B1,.blk b3 37 B0] rfl rfl rfl rfl bY rfl ⟨⟨0,by decide,_,rfl,rfl⟩,trivial⟩ (by decide) rfl (by decide) (fun _ m5=>(m5.ldB (j:=0) rfl rfl rfl ZS (v:=jV x69.Kind) rfl)) rfl (zQ rfl rfl rfl rfl rfl bN (za rfl rfl rfl rfl (fun _=>zD rfl bb ZN rfl yV) (zr rfl rfl rfl rfl (bY.ldB (j:=2) rfl rfl rfl Tryz.isAgg78 (v:=.func (.func 56) #[] #[.pointer (some ⟨pb2v,0,none⟩)]) rfl) rfl (zr rfl rfl rfl rfl (bY.ldBA (j:=1) rfl rfl be ZF zg (vs:=B2) rfl rfl) rfl ?_)))))
 have q:=bnd eE
 obtain ⟨⟨⟩,jZ,eF⟩:=q
 try dsimp only at eF
 refine zG 0 Z Z Z Z (zF Z Z Tryz.call87 zK Z) bY (fun hs=>wDt fd bH hs jZ) (.inr Z) ?_
 rintro dv pR qy dK aZ mJ ⟨rfl,rfl⟩
 have mK:SW w [.obj pm2t (.map pe2t pk2t)] U dv [.obj pm2t (.map av au),.blk an 42 B2,.blk b7 80 B1,.blk b3 37 B0] dK:=mJ
 refine za rfl rfl rfl rfl (fun _=>(Runs.ixA (i:=4) rfl rfl (congrArg (jV) cE) yO yC (by decide) (by decide) (wEx Tryz.isAgg152 yC rfl))) (za rfl rfl rfl rfl (fun _=>Runs.fld rfl rfl yU rfl (wEJ Tryz.isAgg25 (v:=.func (.func 123) #[] #[]) rfl)) ?_)
 have j3:=bk.le aa
 have j4:=j3.le ae
 have j5:=j4.le aZ
 have j6:=bm.le aa
 have j7:=j6.le ae
 have j8:=j7.le aZ
 have j9:=bp.le aa
 have lg:=j9.le ae
 have lh:=lg.le aZ
 have lj:=bq.le aa
 have ln:=lj.le ae
 have lq:=ln.le aZ
 have ls:=br.le aa
 have lu:=ls.le ae
 have lv:=lu.le aZ
 have lx:=bs.le aa
 have ly:=lx.le ae
 have lz:=ly.le aZ
 have lA:=bu.le aa
 have lB:=lA.le ae
 have lC:=lB.le aZ
 have lD:=bw.le aa
 have lE:=lD.le ae
 have lF:=lE.le aZ
 have lG:=bz.le aa
 have lH:=lG.le ae
 have lI:=lH.le aZ
 have lJ:=bA.le aa
 have lK:=lJ.le ae
 have lL:=lK.le aZ
 have lM:=bB.le aa
 have lN:=lM.le ae
 have lO:=lN.le aZ
 have lP:=bC.le aa
 have lQ:=lP.le ae
 have lR:=lQ.le aZ
 have q:=bnd eF
 obtain ⟨⟨pD,qK⟩,lS,eG⟩:=q
 try dsimp only at eG
 refine OKS.callHT 1 rfl rfl rfl rfl (zF rfl rfl Tryz.call56 (zA rfl zK) rfl) mK (fun hs=>wCd 1000 x69 (p2.1,p2.2.1,x97) pb2a pb2b pb2c pb2v pb2f pb2g pq2d pA2d_0_1 pc2d_0_1 pA2d_0_2 pc2d_0_2 pm2d_1 pe2d_1 pk2d_1 pm2d_2 pe2d_2 pk2d_2 ph2d_2 pm2t av au pA2o pc2o dK dv hs j5 j8 lh lq lv lz lC lF lI lL lO bj lR lS) rfl (T:=[pm2t]) rfl ⟨fun b h=>(by cases h;exact .head _),trivial⟩ ?_
 rintro dw pS qz dL pd mM ⟨cP,cG,rfl,rfl,lT⟩
 have mN:SW w [.obj pm2t (.map pe2t pk2t)] U dw [.obj pm2t (.map cP cG),.blk an 42 B2,.blk b7 80 B1,.blk b3 37 B0] dL:=mM
 refine bnK eG fun qL lU oH=>zG 0 Z Z Z Z (zF Z Z Tryz.call123 (zA Z (zA Z zK)) Z) mN (fun hs=>wFt x33 pD dL dw hs lU) (.inr Z) ?_
 rintro dx pT qA ff pg mO ⟨rfl,rfl⟩
 have mP:SW w [.obj pm2t (.map pe2t pk2t)] U dx [.obj pm2t (.map cP cG),.blk an 42 B2,.blk b7 80 B1,.blk b3 37 B0] ff:=mO
 refine oA Z Z (zk (zh ?_))
 cases oH
 exact zJ ⟨rfl,⟨dx,cP,cG,bL,bb,bM,rfl,bO,bP,bQ,((((aa.trans ae).trans aZ).trans pd).trans pg),(mP.pick [0,2,3] _ (by decide) rfl),lT⟩⟩
 have eH:=cX;rw [if_neg cE] at eH
 cases eH
 intro cu oI
 refine zn (congrArg nK (nM.2 cu.out)) (Zd (zh ?_))
 cases oI
 exact zJ ⟨rfl,⟨bG,av,au,cg,ci,dO,cQ,cj,cm,bR,aa,(cn.pick [0,2,3] _ (by decide) rfl),bj⟩⟩
 rintro qS p7 ⟨eS,cd,cJ,fm,ft,fw,fy,fz,fA,fB,ph,mQ,lV⟩
 refine rR fL2 Z (oR Z (zw (zZ Z fB Z) (congrArg (jV) ot.out)) (oM Z Z (zk ?_)))
 cases eC
 exact zJ ⟨rfl,⟨eS,cd,cJ,rfl,fm,ft,fw,fy,fz,fA,(aq.trans ph),(mQ.pick [1,2,0] _ (by decide) rfl),lV⟩⟩
 rintro qT p8 ⟨dy,bK,bI,fG,qa,qb,fC,fD,qc,fE,qg,dS,dQ⟩
 have fk:Hid (¬ ((↑(((↑p0.Record.Decisions.length:Int):Int) - 0).toNat:Int) < (↑p0.Record.Decisions.length:Int))):=zI (wBH)
 refine sR fL1 Z (oR Z (ze Z fG fE) (eN (zH (cF Z fk (ZD (zb (zb (zz (zJ (zH (sR fL1 Z (oM Z fC (eN (ifc eh ?_ ?_))))))))))))))
 intro cH oK
 refine zu (congrArg nK cH.out) (sR fL2 Z (oA Z Z (oA Z Z (eN (zM (zN ?_))))))
 cases oK
 exact ⟨rfl,_,(wLV rfl rfl),dy,_,(dS.pick [2] _ (by decide) rfl),bK,bI,rfl,rfl,dQ⟩
 intro cH oO
 refine zn (congrArg nK (nM.2 cH.out)) (kN (sR (.fl 0 (.fx 1 gBl .stop)) Z (oM Z fD (ZM (pv:=[(0,jV bF)]) (zs:=[jV 0]) (cs:=[jV bF]) Z Z Z Z Z (wAK Z wAb) zL zC Zx Z Z Z Z Z dS ?_))))
 intro cr dM mR
 have mS:SW w [.obj pm2t (.map pe2t pk2t)] U dy [.row (some ⟨dM,0,none⟩) 1 3 1 (nA KL.encI [bF]),.blk b7 80 B1,.blk b3 37 B0,.obj pm2t (.map bK bI)] cr:=mR
 have q:=mS.freezeR (k:=0) (n:=[bF].length) rfl (wAF (f:=KL.encI) (sz:=1) (fun _=>rfl) [bF]) (by decide)
 obtain ⟨dz,qh,oU,mT⟩:=q
 have mU:SW w [.obj pm2t (.map pe2t pk2t)] U dz [.blk b7 80 B1,.blk b3 37 B0,.obj pm2t (.map bK bI)] cr:=mT
 refine bnK oO fun qM lW oP=>zG 0 Z Z Z Z (zF Z Z Tryz.call88 (zA Z (zA Z zK)) Z) mU (fun hs=>wIp 0 [bF] (some ⟨dM,0,none⟩) 1 cr dz hs oU lW) (.inr Z) ?_
 rintro dA pU qB fg qi mV ⟨rfl,rfl⟩
 have mW:SW w [.obj pm2t (.map pe2t pk2t)] U dA [.blk b7 80 B1,.blk b3 37 B0,.obj pm2t (.map bK bI)] fg:=mV
 refine oA Z Z (oA Z Z (eN (zM ?_)))
 cases oP
 exact ⟨rfl,_,(wLV rfl rfl),dA,_,(mW.pick [2] _ (by decide) rfl),bK,bI,rfl,rfl,dQ⟩
theorem wCA (p0:List wAC) (ah:Option Addr) (ai:Nat) (p1:Int) (p2:Int) (p3:((wAC × wAC)->Option Int)) (bh:Value) (w:World) (U:PHeap) (hS:St0 w U [.row ah ai 84 3 (nA wAG p0)]) (cp:FnOK Tryz.prog U bh wQW wQX p3) {r:(List wAC)} (hm:wAp p0 p1 p2 p3=some r):Gv Tryz.prog 127 [.slice ah p0.length ai,jV p1,jV p2,bh] w (wBW w [.row ah ai 84 3 (nA wAG p0)] U (fun U_ L_ v=>v=.tuple #[]/\L_=[.row ah ai 84 3 (nA wAG r)]/\r.length=p0.length)):=by
 unfold wAp at hm
 refine Gv.of Tryz.func127 Z Tryz.ntmps127 Tryz.results127 Z (sR fL3 Z (oM Z Z (oR Z (zZ Z Z Z) (oA Z Z (eN (zV ?_))))))
 let B0:Res:=.row ah ai 84 3 (nA wAG p0)
 refine yI (fun (l8,x9) σ_ w_=>∃ (U_:PHeap),σ_ 0=.slice ah l8.length ai/\σ_ 1=jV p1/\σ_ 2=jV p2/\σ_ 3=bh/\σ_ 8=jV x9/\PHeap.Le U U_/\SW w [B0] U U_ [.row ah ai 84 3 (nA wAG l8)] w_/\l8.length=p0.length) hm ?_ ?_
 exact ⟨U,Z,Z,Z,Z,Z,(zU _),hS,Z⟩
 rintro ⟨l8,x9⟩ cV cX cP ⟨bm,bU,bV,bD,bW,br,bB,bF,bE⟩ bz cq
 try dsimp only at bz
 refine zH (sR fL3 Z (oM Z br (oM Z bD (oR Z (ze Z Z Z) (eN ?_)))))
 by_cases an:x9 < p2
 have bK:=bz;rw [if_pos an] at bK;replace an:=zI an
 refine cT Z an (kN (zH (zV (sR fL2 Z (oM Z br (oA Z Z (eN (zV (yI (fun (aa,ae) σ_ w_=>∃ (U_:PHeap),σ_ 0=.slice ah aa.length ai/\σ_ 1=jV p1/\σ_ 2=jV p2/\σ_ 3=bh/\σ_ 8=jV x9/\σ_ 9=jV ae/\PHeap.Le bm U_/\SW w [B0] U U_ [.row ah ai 84 3 (nA wAG aa)] w_/\aa.length=p0.length) bK ?_ ?_)))))))))
 exact ⟨bm,bU,bV,bD,bW,br,Z,(zU _),bF,bE⟩
 rintro ⟨aa,ae⟩ cW cY bC ⟨bO,am,aZ,bs,ba,bu,ao,bg,cd,bw⟩ bA bH
 try dsimp only at bA
 refine zH (zH (ZT ZH [3,3,3,3,3,3,3,3,1,3,3,3,3,1,2,3,3] (wPk gBm) (by kernel_rfl) ?_))
 have au:=cd.drew
 generalize hw_W54:({ bC with drawn:=bC.drawn + 1 }:World)=cQ at au ⊢
 refine oM Z ao (oM Z aZ (oR Z (Zz Z Z Z) (oM Z Z ?_)))
 by_cases ag:p1 < ae
 have bL:=bA;rw [if_pos ag] at bL;replace ag:=zI ag
 refine zQ Z Z Z (wT Z ag) Z ba (zQ Z Z Z (wT Z ag) Z am (zQ Z Z Z (wT Z ag) Z ao (bnK bL fun _ ak cB=>?_)))
 have q:=au.rowSome (j:=0) rfl (by rw [wAF (f:=wAG) (sz:=3) (fun _=>rfl) aa];have hz:=wAR ak;omega)
 obtain ⟨cS,aj⟩:=q
 refine rU Z (wT Z ag) (ZQ Z Z aj Z ZK Zb (wBk ak) (wBl ak)) ?_
 have cr:=wBt (xs:=aa) (wAR ak)
 let B1:List Value:=[jV ((gd aa ae.toNat).Bib),jV ((gd aa ae.toNat).Place),jV ((gd aa ae.toNat).Total)]
 refine zr rfl rfl rfl (zS rfl rfl (ZU ag.out)) (au.ldRA (j:=0) rfl aj rfl rfl Tryz.isAgg84 Zb (vs:=B1) (wDR (sz:=3) (fun _=>rfl) _ _ _ cr (by first | omega | rfl | simp) rfl) rfl) rfl (zQ rfl rfl rfl (zS rfl rfl (ZU ag.out)) rfl am (zQ rfl rfl rfl (zS rfl rfl (ZU ag.out)) rfl ao (za rfl rfl rfl (zS rfl rfl (ZU ag.out)) (fun _=>Zj rfl rfl rfl) (bnK cB fun _ aq cC=>za rfl rfl rfl (zS rfl rfl (ZU ag.out)) (fun _=>ZQ rfl rfl aj rfl ZK Zb (wBk aq) (wBl aq)) ?_))))
 have ct:=wBt (xs:=aa) (wAR aq)
 let B2:List Value:=[jV ((gd aa (w64 (ae - 1)).toNat).Bib),jV ((gd aa (w64 (ae - 1)).toNat).Place),jV ((gd aa (w64 (ae - 1)).toNat).Total)]
 refine zr rfl rfl rfl (zS rfl rfl (ZU ag.out)) (au.ldRA (j:=0) rfl aj rfl rfl Tryz.isAgg84 Zb (vs:=B2) (wDR (sz:=3) (fun _=>rfl) _ _ _ ct (by first | omega | rfl | simp) rfl) rfl) rfl (bnK cC fun x65 bX cD=>?_)
 have bY:=cp.le bB
 have bZ:=bY.le bg
 refine yF (a:=((gd aa ae.toNat),(gd aa (w64 (ae - 1)).toNat))) Z Z Z (wT Z ag) Z Z (zA Z (zA Z zK)) au bZ Z bX ?_
 rintro aw cN cU bp bM cg ⟨rfl,rfl⟩
 have bG:SW w [B0] U aw [.row ah ai 84 3 (nA wAG aa)] bp:=cg
 refine rU Z (wT Z ag) (ze Z Z Z) (oR Z (zj Z (ZU ag.out) Z) (eN (ifc cD ?_ ?_)))
 intro bq cE
 refine cT Z bq (kN (zH (zV (ZT ZH [3,3,3,3,3,3,3,3,3,1,3,3,3,1,3,0,3,0] (wND gBn) (by kernel_rfl) ?_))))
 have bb:=bG.drew
 generalize hw_W80:({ bp with drawn:=bp.drawn + 1 }:World)=cR at bb ⊢
 refine oM Z am (oM Z ao (oM Z am (oM Z ao (oR Z (Zj Z Z Z) (oM Z am (oM Z ao (oR Z (Zj Z Z Z) (oR Z (ZQ Z Z aj Z ZK Zb (wBk aq) (wBl aq)) ?_))))))))
 have cu:=wBt (xs:=aa) (wAR aq)
 refine zr rfl rfl rfl rfl (bb.ldRA (j:=0) rfl aj rfl rfl Tryz.isAgg84 Zb (vs:=B2) (wDR (sz:=3) (fun _=>rfl) _ _ _ cu (by first | omega | rfl | simp) rfl) rfl) rfl (zQ rfl rfl rfl rfl rfl am (zQ rfl rfl rfl rfl rfl ao (za rfl rfl rfl rfl (fun _=>ZQ rfl rfl aj rfl ZK Zb (wBk ak) (wBl ak)) ?_)))
 have cw:=wBt (xs:=aa) (wAR ak)
 refine zr rfl rfl rfl rfl (bb.ldRA (j:=0) rfl aj rfl rfl Tryz.isAgg84 Zb (vs:=B1) (wDR (sz:=3) (fun _=>rfl) _ _ _ cw (by first | omega | rfl | simp) rfl) rfl) rfl (za rfl rfl rfl rfl (fun _=>ZQ rfl rfl aj rfl ZK Zb (wBk ak) (wBl ak)) ?_)
 have cx:=wBt (xs:=aa) (wAR ak)
 refine yX (j:=0) (vs:=B2) (cs':=nA wAG (nE aa ae.toNat (gd aa (w64 (ae - 1)).toNat))) rfl rfl rfl rfl bb rfl aj rfl rfl rfl Zb (by rw [wAF (f:=wAG) (sz:=3) (fun _=>rfl)];have hz:=wAR ak;show _ + 3 <= _;first | omega | (simp only [nJ];omega) | (simp only [nI,nG,nH];omega)) rfl (wEW (sz:=3) (fo:=0) (fun _=>rfl) _ _ _ _ cx (by first | omega | (simp only [nJ];omega) | (simp only [nI,nG,nH];omega)) (zB rfl) rfl) rfl ?_
 intro bP ci
 have cj:SW w [B0] U aw [.row ah ai 84 3 (nA wAG (nE aa ae.toNat (gd aa (w64 (ae - 1)).toNat)))] bP:=ci
 refine bnK cE fun _ az cG=>za rfl rfl rfl rfl (fun _=>ZQ rfl (nL (b:=(.slice ah aa.length ai:Value)) (c:=(.slice ah ((nE aa ae.toNat (gd aa (w64 (ae - 1)).toNat)).length) ai:Value)) rfl (by simp only [nD])) aj rfl ZK Zb (wBk az) (wBl az)) ?_
 have cy:=wBt (xs:=(nE aa ae.toNat (gd aa (w64 (ae - 1)).toNat))) (by first | exact wAR az | (have hz:=wAR az;simpa only [nD] using hz))
 refine yX (j:=0) (vs:=B1) (cs':=nA wAG (nE (nE aa ae.toNat (gd aa (w64 (ae - 1)).toNat)) (w64 (ae - 1)).toNat (gd aa ae.toNat))) rfl rfl rfl rfl cj rfl aj rfl rfl rfl Zb (by rw [wAF (f:=wAG) (sz:=3) (fun _=>rfl)];have hz:=wAR az;show _ + 3 <= _;first | omega | (simp only [nD];omega) | (simp only [nI,nG,nH,nD];omega) | (simp only [nJ];omega) | (simp only [nI,nG,nH];omega)) rfl (wEW (sz:=3) (fo:=0) (fun _=>rfl) _ _ _ _ cy (by first | omega | (simp only [nJ];omega) | (simp only [nI,nG,nH];omega)) (zB rfl) rfl) rfl ?_
 intro bQ cm
 have cn:SW w [B0] U aw [.row ah ai 84 3 (nA wAG (nE (nE aa ae.toNat (gd aa (w64 (ae - 1)).toNat)) (w64 (ae - 1)).toNat (gd aa ae.toNat)))] bQ:=cm
 refine zk (zh (zJ (rR fL3 Z (oM Z ao (oR Z (Zj Z Z Z) (oA Z Z (zk ?_)))))))
 have q:=nB cG
 obtain rfl:=q
 exact zJ ⟨rfl,_,rfl,⟨aw,(nL (b:=(.slice ah ((nE aa ae.toNat (gd aa (w64 (ae - 1)).toNat)).length) ai:Value)) (c:=(.slice ah ((nE (nE aa ae.toNat (gd aa (w64 (ae - 1)).toNat)) (w64 (ae - 1)).toNat (gd aa ae.toNat)).length) ai:Value)) (nL (b:=(.slice ah aa.length ai:Value)) (c:=(.slice ah ((nE aa ae.toNat (gd aa (w64 (ae - 1)).toNat)).length) ai:Value)) am (by simp only [nD])) (by simp only [nD])),aZ,bs,ba,bu,rfl,(bg.trans bM),cn,((nD.trans nD).trans bw)⟩⟩
 intro bq cH
 refine cF Z bq (ZD (zb ?_))
 have q:=wAS cH
 obtain ⟨cM,cJ,bT⟩:=q
 have q:=bH cM bT
 obtain rfl:=q
 refine zb (zz (zh (zJ (rR fL3 Z (oM Z bu (oR Z (zZ Z Z Z) (oA Z Z (zk ?_))))))))
 have q:=nB cJ
 obtain rfl:=q
 exact zJ ⟨Z,_,Z,⟨aw,am,aZ,bs,ba,Z,((bB.trans bg).trans bM),bG,bw⟩⟩
 have bI:=bA;rw [if_neg ag] at bI;replace ag:=zI ag
 refine oF Z ag (oF Z ag (oF Z ag (oF Z ag (oF Z ag (oF Z ag (oF Z ag (oF Z ag (oF Z ag (oF Z ag (ZO Z Z Z (zW Z Z (ZI ag.out) Z) (oF Z ag (oR Z (zR Z (ZI ag.out) Z) (eN (zn Z (ZD (zb ?_))))))))))))))))
 have q:=wAS bI
 obtain ⟨cK,cz,bR⟩:=q
 have q:=bH cK bR
 obtain rfl:=q
 refine zb (zz (zh (zJ (rR fL3 Z (oM Z bu (oR Z (zZ Z Z Z) (oA Z Z (zk ?_))))))))
 have q:=nB cz
 obtain rfl:=q
 exact zJ ⟨Z,_,Z,⟨bO,am,aZ,bs,ba,Z,(bB.trans bg),au,bw⟩⟩
 have bJ:=bz;rw [if_neg an] at bJ;replace an:=zI an
 refine cF Z an (ZD (zb ?_))
 have q:=wAS bJ
 obtain ⟨cL,cA,bS⟩:=q
 have q:=cq cL bS
 obtain rfl:=q
 refine zb (zz ?_)
 have hE:=nB cA;first | subst r | cases hE
 exact ⟨Z,_,(wNE),bm,_,bF,Z,Z,bE⟩
set_option maxHeartbeats 4000000
theorem wER (p0:List wAC) (aa:Option Addr) (ae:Nat) (p1:Int) (p2:((wAC × wAC)->Option Int)) (ai:Value) (w:World) (U:PHeap) (hS:St0 w U [.row aa ae 84 3 (nA wAG p0)]) (bM:FnOK Tryz.prog U ai wQW wQX p2) {r:(List wAC)} (hm:wBn p0 p1 p2=some r):Gv Tryz.prog 89 [.slice aa p0.length ae,jV p1,ai] w (wBW w [.row aa ae 84 3 (nA wAG p0)] U (fun U_ L_ v=>v=.tuple #[]/\L_=[.row aa ae 84 3 (nA wAG r)]/\r.length=p0.length)):=by
 unfold wBn at hm
 refine Gv.of Tryz.func89 Z Tryz.ntmps89 Tryz.results89 Z (sR fL1 Z (oA Z Z (eN (sR fL3 Z (oM Z Z (oA Z Z (oA Z Z (eN ?_))))))))
 have q:=bnd hm
 obtain ⟨⟨l2,x3⟩,cU,bT⟩:=q
 try dsimp only at bT
 let B0:Res:=.row aa ae 84 3 (nA wAG p0)
 refine CK.cut (fun σ_ w_=>∃ (U_:PHeap),σ_ 0=.slice aa l2.length ae/\σ_ 1=jV p1/\σ_ 2=ai/\σ_ 6=jV 20/\σ_ 7=jV x3/\PHeap.Le U U_/\SW w [B0] U U_ [.row aa ae 84 3 (nA wAG l2)] w_/\l2.length=p0.length) ?_ ?_
 refine zV (yI (fun (ao,x17,aX) σ_ w_=>∃ (U_:PHeap),σ_ 0=.slice aa ao.length ae/\σ_ 1=jV p1/\σ_ 2=ai/\σ_ 6=jV 20/\σ_ 7=jV x17/\σ_ 8=jV aX/\PHeap.Le U U_/\SW w [B0] U U_ [.row aa ae 84 3 (nA wAG ao)] w_/\ao.length=p0.length) cU ?_ ?_)
 exact ⟨U,Z,Z,Z,Z,Z,Z,(zU _),hS,Z⟩
 rintro ⟨ao,x17,aX⟩ dz dD bY ⟨bp,ba,bb,be,bg,bC,aw,bm,bK,bH⟩ bj cL
 try dsimp only at bj
 refine zH (sR fL3 Z (oM Z aw (oM Z bb (oR Z (yP Z Z Z) (eN ?_)))))
 by_cases ak:aX <= p1
 have bR:=bj;rw [if_pos ak] at bR;replace ak:=zI ak
 refine cT Z ak (kN (zV (sR (wET (.fx 4 .nil .stop)) Z (oM Z ba (oM Z bC (oM Z aw (oM Z be ?_)))))))
 have cx:=bM.le bm
 refine bnK bR fun x39 cy cQ=>zG 1 Z Z Z Z (zF Z Z Tryz.call127 (zA Z (zA Z (zA Z (zA Z zK)))) Z) bK (fun hs=>wCA ao aa ae x17 aX p2 ai bY bp hs cx cy) (.inl Z) ?_
 rintro bq de dw bZ cX cD ⟨rfl,rfl,bI⟩
 have cE:SW w [B0] U bq [.row aa ae 84 3 (nA wAG x39)] bZ:=cD
 refine eN (sR fL2 Z (oM Z aw (oA Z Z (eN (rR fL4 Z (oM Z aw (oM Z bg (oR Z (zZ Z Z Z) (oA Z Z (zk (zh ?_)))))))))))
 have q:=nB cQ
 obtain rfl:=q
 exact zJ ⟨rfl,_,rfl,⟨bq,(nL (b:=(.slice aa ao.length ae:Value)) (c:=(.slice aa x39.length ae:Value)) ba (by rw [bI])),bb,be,bg,rfl,rfl,(bm.trans cX),cE,(bI.trans bH)⟩⟩
 have bS:=bj;rw [if_neg ak] at bS;replace ak:=zI ak
 refine cF Z ak (ZD (zb ?_))
 have q:=wAS bS
 obtain ⟨db,cR,cm⟩:=q
 have q:=cL db cm
 obtain rfl:=q
 refine zb (zz ?_)
 cases cR
 exact zJ ⟨Z,⟨bp,ba,bb,be,bg,bC,bm,bK,bH⟩⟩
 rintro dE cd ⟨bX,bD,bE,bF,cr,ct,cY,cG,cz⟩
 refine sR (wET (.fx 4 .nil .stop)) Z (oM Z bD (oM Z ct (oM Z bE (oM Z bF ?_))))
 have cA:=bM.le cY
 refine bnK bT fun aq cB cS=>zG 1 Z Z Z Z (zF Z Z Tryz.call127 (zA Z (zA Z (zA Z (zA Z zK)))) Z) cG (fun hs=>wCA l2 aa ae x3 p1 p2 ai cd bX hs cA cB) (.inl Z) ?_
 rintro aY df dx cg du cH ⟨rfl,rfl,bJ⟩
 let B1:Res:=.row aa ae 84 3 (nA wAG aq)
 have cJ:SW w [B0] U aY [B1] cg:=cH
 refine eN (zV (yI (fun _ σ_ w_=>∃ (U_:PHeap),σ_ 0=.slice aa aq.length ae/\σ_ 1=jV p1/\σ_ 2=ai/\σ_ 6=jV 20/\PHeap.Le aY U_/\SW w [B0] U U_ [B1] w_) cS ?_ ?_))
 exact ⟨aY,(nL (b:=(.slice aa l2.length ae:Value)) (c:=(.slice aa aq.length ae:Value)) bD (by rw [bJ])),bE,bF,cr,(zU _),cJ⟩
 rintro ⟨⟩ dA dF dp ⟨av,cu,bG,cw,bh,dv,bL⟩ bk cM
 try dsimp only at bk
 refine zH (sR fL3 Z (oM Z bh (oM Z bG (oR Z (ze Z Z Z) (eN ?_)))))
 by_cases ah:20 < p1
 have bU:=bk;rw [if_pos ah] at bU;replace ah:=zI ah
 refine cT Z ah (kN (zV (sR fL4 rfl (zQ rfl rfl rfl rfl rfl bh (za rfl rfl rfl rfl (fun _=>zw (yW rfl rfl rfl) (congrArg (jV) (show w64 (2 * 20)=40 by decide))) (Ze rfl rfl rfl rfl rfl rfl (Ze rfl rfl rfl rfl rfl rfl (eN ?_))))))))
 have q:=bnd bU
 obtain ⟨⟨⟩,cV,bN⟩:=q
 try dsimp only at bN
 refine CK.cut (fun σ_ w_=>∃ (U_:PHeap),σ_ 0=.slice aa aq.length ae/\σ_ 1=jV p1/\σ_ 2=ai/\σ_ 6=jV 20/\σ_ 7=jV 0/\PHeap.Le av U_/\SW w [B0] U U_ [B1] w_) ?_ ?_
 refine zV (yI (fun _ σ_ w_=>∃ (U_:PHeap),σ_ 0=.slice aa aq.length ae/\σ_ 1=jV p1/\σ_ 2=ai/\σ_ 6=jV 20/\σ_ 7=jV 0/\σ_ 8=jV 40/\PHeap.Le av U_/\SW w [B0] U U_ [B1] w_) cV ?_ ?_)
 exact ⟨av,cu,bG,cw,bh,Z,Z,(zU _),bL⟩
 rintro ⟨⟩ dy dB dh ⟨bW,br,bs,bu,bw,aZ,bz,cW,cC⟩ bi cK
 try dsimp only at bi
 refine zH (sR fL3 Z (oM Z bz (oM Z bs (oR Z (yP Z Z Z) (eN ?_)))))
 by_cases aj:40 <= p1
 have bO:=bi;rw [if_pos aj] at bO;replace aj:=zI aj
 refine cT Z aj (kN (zV (sR (wML (.fx 7 .nil .stop)) rfl (zQ rfl rfl rfl rfl rfl br (zQ rfl rfl rfl rfl rfl aZ (zQ rfl rfl rfl rfl rfl aZ (zQ rfl rfl rfl rfl rfl bw (za rfl rfl rfl rfl (fun _=>zw (zZ rfl rfl rfl) (congrArg (jV) (show w64 (0 + 20)=20 by decide))) (zQ rfl rfl rfl rfl rfl bz (zQ rfl rfl rfl rfl rfl bu ?_))))))))))
 cases bO
 have bP:=bi;rw [if_neg aj] at bP;replace aj:=zI aj
 refine cF Z aj (ZD (zb ?_))
 have q:=wAS bP
 obtain ⟨cZ,cN,ci⟩:=q
 have q:=cK cZ ci
 obtain rfl:=q
 refine zb (zz ?_)
 cases cN
 exact zJ ⟨Z,⟨bW,br,bs,bu,bw,aZ,cW,cC⟩⟩
 rintro dC dm ⟨dg,cn,bA,cp,cq,bB,dt,dr⟩
 refine zH (sR fL4 rfl (zQ rfl rfl rfl rfl rfl bB (zQ rfl rfl rfl rfl rfl cq (za rfl rfl rfl rfl (fun _=>zw (zZ rfl rfl rfl) (congrArg (jV) (show w64 (0 + 20)=20 by decide))) (Ze rfl rfl rfl rfl rfl rfl (eN (sR fL3 rfl (zQ rfl rfl rfl rfl rfl rfl (zQ rfl rfl rfl rfl rfl bA (za rfl rfl rfl rfl (fun _=>ze rfl rfl rfl) (eN (cT Z ah (rR (wID (.fx 5 .nil .stop)) rfl (zQ rfl rfl rfl rfl rfl cn (zQ rfl rfl rfl rfl rfl bB (zQ rfl rfl rfl rfl rfl rfl (zQ rfl rfl rfl rfl rfl bA (zQ rfl rfl rfl rfl rfl cp ?_))))))))))))))))))
 cases bN
 have bQ:=bk;rw [if_neg ah] at bQ;replace ah:=zI ah
 refine cF Z ah (ZD (zb ?_))
 have q:=wAS bQ
 obtain ⟨da,cP,cj⟩:=q
 have q:=cM da cj
 obtain rfl:=q
 refine zb (zz ?_)
 have hE:=nB cP;first | subst r | cases hE
 exact ⟨Z,_,(wNE),av,_,bL,Z,Z,(bJ.trans cz)⟩
theorem wCz (p0:List wAC) (ae:Option Addr) (ag:Nat) (p1:((wAC × wAC)->Option Int)) (ai:Value) (w:World) (U:PHeap) (hS:St0 w U [.row ae ag 84 3 (nA wAG p0)]) (aq:FnOK Tryz.prog U ai wQW wQX p1) {r:(List wAC)} (hm:wAY p0 p1=some r):Gv Tryz.prog 45 [.slice ae p0.length ag,ai] w (wBW w [.row ae ag 84 3 (nA wAG p0)] U (fun U_ L_ v=>v=.tuple #[]/\L_=[.row ae ag 84 3 (nA wAG r)]/\r.length=p0.length)):=by
 unfold wAY at hm
 refine Gv.of Tryz.func45 Z Tryz.ntmps45 Tryz.results45 Z (rR (wET (.fx 4 .nil .stop)) Z (oM Z Z (oM Z Z (oR Z (zy Z Z ZK) (oM Z Z (bnK hm fun x2 h3 au=>zG 1 Z Z Z Z (zF Z Z Tryz.call89 (zA Z (zA Z (zA Z zK))) Z) hS (fun hs=>wER p0 ae ag (↑p0.length:Int) p1 ai w U hs aq h3) (.inl Z) ?_))))))
 rintro U5 L6 v7 W8 az ao ⟨rfl,rfl,am⟩
 have ap:SW w [.row ae ag 84 3 (nA wAG p0)] U U5 [.row ae ag 84 3 (nA wAG x2)] W8:=ao
 refine zk ?_
 have hE:=nB au;first | subst r | cases hE
 exact ⟨Z,_,(wNE),U5,_,ap,Z,Z,am⟩
theorem wGc (p0:wAC) (p1:wAC) (w:World) (U:PHeap) (hS:St0 w U [])  {r:Int} (hm:wBC p0 p1=some r):Gv Tryz.prog 46 [.agg #[jV p0.Bib,jV p0.Place,jV p0.Total],.agg #[jV p1.Bib,jV p1.Place,jV p1.Total]] w (wBW w [] U (fun U_ L_ v=>v=jV r/\L_=[])):=by
 unfold wBC at hm
 refine Gv.of Tryz.func46 Z Tryz.ntmps46 Tryz.results46 Z (sR gBo Z ?_)
 let B0:List Value:=[jV p0.Bib,jV p0.Place,jV p0.Total]
 refine ZA (cs:=B0) rfl rfl rfl rfl rfl rfl (by rfl) hS ?_
 intro W1 b2 av
 let B1:List Value:=[jV p1.Bib,jV p1.Place,jV p1.Total]
 refine ZA (cs:=B1) rfl rfl rfl rfl rfl rfl (by rfl) av ?_
 intro W5 b6 ag
 refine oA Z Z (eN (sR (wET (.fx 4 (.fl 5 .nil) .stop)) Z (oR Z (zD Z Z Zy Z zC) (oL Z (ag.ldB (j:=1) Z Z Z zO (v:=jV p0.Total) Z) (oR Z (zD Z Z Zy Z zC) (oL Z (ag.ldB (j:=0) Z Z Z zO (v:=jV p1.Total) Z) (bnK hm fun x9 ap aw=>zG 0 Z Z Z Z (zF Z Z Tryz.call33 (zA Z (zA Z zK)) Z) ag (fun hs=>wCR p0.Total p1.Total W5 U hs ap) (.inr Z) ?_)))))))
 rintro aj az aZ ak aY aq ⟨rfl,rfl⟩
 have au:sW w U aj [.blk b6 84 B1,.blk b2 84 B0] ak:=aq
 refine oA Z Z (eN (zM ?_))
 have hE:=nB aw;first | subst r | cases hE
 exact ⟨rfl,_,(zi rfl),aj,_,(au.pick [] _ (by decide) rfl),rfl,rfl⟩
theorem wHN (p0:wAL) (bK:Nat) (bC:Option Addr) (bD:Nat) (cu:Option Addr) (cw:Nat) (cx:Nat) (dw:Array MapEntry) (dz:Nat) (cy:Nat) (dx:Array MapEntry) (dA:Nat) (dy:List (Int × Hd)) (p1:(wAL × List Int × List (Int × Bool))) (pb1a:Nat) (pb1b:Nat) (pb1c:Nat) (pb1v:Nat) (pb1f:Nat) (pb1g:Nat) (pq1d:Nat) (pA1d_0_1:Option Addr) (pc1d_0_1:Nat) (pA1d_0_2:Option Addr) (pc1d_0_2:Nat) (pm1d_1:Nat) (pe1d_1:Array MapEntry) (pk1d_1:Nat) (pm1d_2:Nat) (pe1d_2:Array MapEntry) (pk1d_2:Nat) (ph1d_2:List (Int × Hd)) (pm1t:Nat) (pe1t:Array MapEntry) (pk1t:Nat) (pA1o:Option Addr) (pc1o:Nat) (w:World) (U:PHeap) (hS:St0 w U [.obj pm1t (.map pe1t pk1t)]) (dm:Cl U bK 0 [jV p0.Record.Deadline,.slice bC p0.Record.Skiers.length bD,.slice cu p0.Record.Decisions.length cw,.map (some cx),.map (some cy)]) (fC:Sl U 2 bC bD p0.Record.Skiers.length (nA wAD p0.Record.Skiers)) (fN:Sl U 6 cu cw p0.Record.Decisions.length (nA wAB p0.Record.Decisions)) (fO:MpF U cx dw dz wFk wFy p0.at_) (fP:MrF U cy dx dA 6 wAB wCu dy p0.about) (fQ:Cl U pb1a 0 [.map (some pm1t)]) (fR:Cl U pb1b 0 [.func (.func 47) #[.pointer (some ⟨pq1d,0,none⟩)] #[]]) (fS:Cl U pb1c 0 [.pointer (some ⟨pq1d,0,none⟩)]) (fT:Cl U pb1v 0 [.func (.func 49) #[] #[.pointer (some ⟨pb1a,0,none⟩),.pointer (some ⟨pb1b,0,none⟩),.pointer (some ⟨pb1c,0,none⟩),.pointer (some ⟨pb1v,0,none⟩)],.func (.func 51) #[] #[.pointer (some ⟨pb1f,0,none⟩)],.func (.func 52) #[] #[.pointer (some ⟨pb1v,0,none⟩),.pointer (some ⟨pb1g,0,none⟩)],.func (.func 56) #[] #[.pointer (some ⟨pb1v,0,none⟩)],.func (.func 54) #[] #[.pointer (some ⟨pb1f,0,none⟩)]]) (fU:Cl U pb1f 0 [.func (.func 48) #[] #[.pointer (some ⟨pb1c,0,none⟩),.pointer (some ⟨pb1v,0,none⟩)]]) (fD:Cl U pb1g 0 [.slice pA1o p1.2.1.length pc1o]) (fE:Cl U pq1d 0 [jV p1.1.Record.Deadline,.slice pA1d_0_1 p1.1.Record.Skiers.length pc1d_0_1,.slice pA1d_0_2 p1.1.Record.Decisions.length pc1d_0_2,.map (some pm1d_1),.map (some pm1d_2)]) (fG:Sl U 2 pA1d_0_1 pc1d_0_1 p1.1.Record.Skiers.length (nA wAD p1.1.Record.Skiers)) (fH:Sl U 6 pA1d_0_2 pc1d_0_2 p1.1.Record.Decisions.length (nA wAB p1.1.Record.Decisions)) (fJ:MpF U pm1d_1 pe1d_1 pk1d_1 wFk wFy p1.1.at_) (fK:MrF U pm1d_2 pe1d_2 pk1d_2 6 wAB wCu ph1d_2 p1.1.about) (fL:MpR pe1t wDX wDj p1.2.2) (fM:Sl U 1 pA1o pc1o p1.2.1.length (nA KL.encI p1.2.1)) {r:(List wAC) × (List (Int × Bool))} (hm:wBU p0 p1=some r):Gv Tryz.prog 22 [.pointer (some ⟨bK,0,none⟩),.agg #[.func (.func 49) #[] #[.pointer (some ⟨pb1a,0,none⟩),.pointer (some ⟨pb1b,0,none⟩),.pointer (some ⟨pb1c,0,none⟩),.pointer (some ⟨pb1v,0,none⟩)],.func (.func 51) #[] #[.pointer (some ⟨pb1f,0,none⟩)],.func (.func 52) #[] #[.pointer (some ⟨pb1v,0,none⟩),.pointer (some ⟨pb1g,0,none⟩)],.func (.func 56) #[] #[.pointer (some ⟨pb1v,0,none⟩)],.func (.func 54) #[] #[.pointer (some ⟨pb1f,0,none⟩)]]] w (wBW w [.obj pm1t (.map pe1t pk1t)] U (fun U_ L_ v=>∃ (A0:Option Addr) (c0:Nat) (es_0:Array MapEntry) (ck_0:Nat),v=.slice A0 r.1.length c0/\L_=[.row A0 c0 84 3 (nA wAG r.1),.obj pm1t (.map es_0 ck_0)]/\MpR es_0 wDX wDj r.2)):=by
 unfold wBU at hm
 refine Gv.of Tryz.func22 Z Tryz.ntmps22 Tryz.results22 Z (sR gBf Z ?_)
 let B0:List Value:=[.func (.func 49) #[] #[.pointer (some ⟨pb1a,0,none⟩),.pointer (some ⟨pb1b,0,none⟩),.pointer (some ⟨pb1c,0,none⟩),.pointer (some ⟨pb1v,0,none⟩)],.func (.func 51) #[] #[.pointer (some ⟨pb1f,0,none⟩)],.func (.func 52) #[] #[.pointer (some ⟨pb1v,0,none⟩),.pointer (some ⟨pb1g,0,none⟩)],.func (.func 56) #[] #[.pointer (some ⟨pb1v,0,none⟩)],.func (.func 54) #[] #[.pointer (some ⟨pb1f,0,none⟩)]]
 refine ZA (cs:=B0) rfl rfl rfl rfl rfl rfl (by rfl) hS ?_
 intro W2 b3 dg
 refine oA Z Z (eN (sR fL2 Z (oA Z Z (oA Z Z (eN (zH (sR fL7 Z (oM Z Z (oR Z (Zm Z Z) (oR Z (zD Z Z Zw Z zm) (oR Z (zD Z Z zd Z ZY) (oL Z (dg.ldC (f:=1) dm (v:=.slice bC p0.Record.Skiers.length bD) Z Z Zu Z) (oR Z (zy Z Z ZJ) (oM Z Z (eN (zV ?_))))))))))))))))
 have q:=bnd hm
 obtain ⟨⟨gY,bE,bL⟩,fY,dt⟩:=q
 try dsimp only at dt
 have q:=wBr fY
 obtain ⟨cq,fZ⟩:=q
 replace cq:=zI cq
 refine CK.forN' (fun bz (cr,bA,bB) σ_ w_=>∃ (U_:PHeap) (bk:Array MapEntry) (bu:Nat) (bm:Option Addr) (br:Nat) (bp:Option Addr) (bs:Nat),σ_ 18=jV (↑bz:Int)/\σ_ 0=.pointer (some ⟨bK,0,none⟩)/\σ_ 3=.pointer (some ⟨b3,0,none⟩)/\σ_ 5=.slice bm bA.length br/\σ_ 6=.slice bp bB.length bs/\σ_ 16=.slice bC p0.Record.Skiers.length bD/\σ_ 17=jV (↑p0.Record.Skiers.length:Int)/\PHeap.Le U U_/\SW w [.obj pm1t (.map pe1t pk1t)] U U_ [.blk b3 80 B0,.obj pm1t (.map bk bu),.row bm br 84 3 (nA wAG bA),.row bp bs 84 3 (nA wAG bB)] w_/\MpR bk wDX wDj cr) fZ ?_ ?_ ?_
 have fy:=dg.nilrow 84 3
 have fz:=fy.nilrow 84 3
 exact ⟨U,pe1t,pk1t,none,0,none,0,rfl,rfl,rfl,rfl,rfl,rfl,rfl,(zU _),(fz.pick [2,3,1,0] _ (by decide) rfl),fL⟩
 rintro bz ⟨cr,bA,bB⟩ gX g8 gH cn ⟨bQ,bk,bu,bm,br,bp,bs,bG,bX,bY,cV,cW,bZ,cd,aj,dh,eJ⟩ du
 try dsimp only at du
 have cU:Hid ((↑bz:Int) < (↑p0.Record.Skiers.length:Int)):=zI (wBq cn)
 replace cn:=zI cn
 have dp:Hid (w64 ((↑bz:Int) + 1)=(↑(bz + 1):Int)):=zI (by have h1:=cq.out;have h2:=cU.out;rw [wAT] <;> omega)
 refine sR fL1 Z (oR Z (ze Z bG cd) (eN (zH (cT Z cU (kN (zH (zV (sR gBu Z (bnK du fun x81 cY gw=>?_)))))))))
 have cZ:=fC.le aj
 have q:=cZ.el (fun _=>rfl) (wBD cY)
 obtain ⟨gK,gS,eQ,eR⟩:=q
 refine oR Z (ZZ Z bZ eQ bG ZJ Za (wDB cY)) (oL Z (dh.ldCA (f:=0) eR Z Z yT Za (us:=[jV x81.Bib,jV x81.Time]) Z Z) (zq (cs:=[jV 0,jV 0]) Z Z Z Z Z yE Z dh ?_))
 intro gI az fA
 let B1:List Value:=[jV x81.Bib,jV x81.Time]
 refine zo (j:=0) (vs:=B1) Z Z Z Z fA Z Z Z Z Za (zB Z) Z Z Z ?_
 intro bS fB
 let B2:Res:=.row bm br 84 3 (nA wAG bA)
 let B3:Res:=.row bp bs 84 3 (nA wAG bB)
 have cj:SW w [.obj pm1t (.map pe1t pk1t)] U bQ [.blk az 37 B1,.blk b3 80 B0,.obj pm1t (.map bk bu),B2,B3] bS:=fB
 refine eN (sR (wDq (.fx 3 (fC4_8 (.nil)) .stop)) Z (oM Z bX (oL Z (cj.ldBA (j:=0) Z Z Z yT Za (vs:=B1) Z Z) (oL Z (cj.ldBA (j:=1) Z Z bY Tryz.isAgg80 Tryz.sizeOf80 (vs:=B0) Z Z) ?_))))
 have eK:=dm.le aj
 have eM:=fN.le aj
 have eO:=fO.le aj
 have eP:=fP.le aj
 have dX:=fQ.le aj
 have dY:=fR.le aj
 have dZ:=fS.le aj
 have eh:=fT.le aj
 have ep:=fU.le aj
 have er:=fD.le aj
 have eu:=fE.le aj
 have ew:=fG.le aj
 have ey:=fH.le aj
 have eA:=fJ.le aj
 have eB:=fK.le aj
 have eC:=fM.le aj
 have q:=bnd gw
 obtain ⟨⟨x112,x113,x114⟩,eD,dr⟩:=q
 try dsimp only at dr
 have eT:SW w [.obj pm1t (.map pe1t pk1t)] U bQ [.obj pm1t (.map bk bu),.blk az 37 B1,.blk b3 80 B0,B2,B3] bS:=cj.pick [2,0,1,3,4] _ (by decide) rfl
 refine zG 1 Z Z Z Z (zF Z Z Tryz.call44 (zA Z (zA Z (zA Z zK))) Z) eT (fun hs=>wHh p0 bK bC bD cu cw cx dw dz cy dx dA dy x81 (p1.1,p1.2.1,cr) pb1a pb1b pb1c pb1v pb1f pb1g pq1d pA1d_0_1 pc1d_0_1 pA1d_0_2 pc1d_0_2 pm1d_1 pe1d_1 pk1d_1 pm1d_2 pe1d_2 pk1d_2 ph1d_2 pm1t bk bu pA1o pc1o bS bQ hs eK cZ eM eO eP dX dY dZ eh ep er eu ew ey eA eB eJ eC eD) (.inl Z) ?_
 rintro aw gB gT dE dv eU ⟨aZ,aX,rfl,rfl,cX⟩
 have bI:SW w [.obj pm1t (.map pe1t pk1t)] U aw [.obj pm1t (.map aZ aX),.blk az 37 B1,.blk b3 80 B0,B2,B3] dE:=eU
 refine oM Z Z (oR Z (ZB Z Z (v:=jV x112) Z) (oR Z (ZB Z Z (v:=.bool x113) Z) (oA Z Z (oA Z Z (eN (sR fL1 Z (oM Z Z (eN (ifc dr ?_ ?_)))))))))
 intro bT gc
 refine zu (congrArg nK bT.out) (rR (wET (.fx 4 (.fx 5 (.fl 6 .nil) .stop) .stop)) Z (oM Z cW (oR Z (zD Z Z Zk Z zC) (oL Z (bI.ldB (j:=1) Z Z Z zO (v:=jV x81.Bib) Z) ?_))))
 let B4:List Value:=[jV x81.Bib,jV (-1),jV 0]
 let B5:List Value:=[jV 0,jV 0,jV 0]
 refine oR Z (Zi (pv:=[(0,jV x81.Bib),(1,jV (-1))]) (z:=B5) (cs:=B4) Z (wAK Z (wAK Z wAb)) Tryz.zeroValue84 wMn Z Z) (ZM (pv:=[(0,.agg B4.toArray)]) (zs:=B5) (cs:=B4) Z Z Z Z Z (wAK Z wAb) ZK Zb Tryz.zeroValue84 Z Z Z Z Z bI ?_)
 intro dF dM eV
 let B6:Res:=.row (some ⟨dM,0,none⟩) 1 84 3 (nA wAG [(⟨x81.Bib,-1,0⟩:wAC)])
 have da:SW w [.obj pm1t (.map pe1t pk1t)] U aw [B6,.obj pm1t (.map aZ aX),.blk az 37 B1,.blk b3 80 B0,B2,B3] dF:=eV
 refine bnK gc fun x135 eE ge=>Zv (j:=5) (enc:=wAG) (xs:=bB) (ys:=[(⟨x81.Bib,-1,0⟩:wAC)]) (zs:=x135) rfl rfl rfl rfl rfl Tryz.underlying44 wPR rfl rfl rfl rfl rfl rfl da rfl rfl rfl (da.srcR (j:=0) rfl (by decide) (wAF (f:=wAG) (sz:=3) (fun _=>rfl) [(⟨x81.Bib,-1,0⟩:wAC)])) (fun _=>rfl) (fun _=>rfl) eE rfl ?_
 intro cA cN dG eW
 have eX:SW w [.obj pm1t (.map pe1t pk1t)] U aw [B6,.obj pm1t (.map aZ aX),.blk az 37 B1,.blk b3 80 B0,B2,.row cA cN 84 3 (nA wAG x135)] dG:=eW
 refine oA Z Z (zk (zh (zJ (rR fL2 Z (oR Z (zw (zZ Z bG Z) (congrArg (jV) dp.out)) (oM Z Z (zk ?_)))))))
 cases ge
 exact zJ ⟨rfl,⟨aw,aZ,aX,bm,br,cA,cN,rfl,bX,bY,cV,rfl,bZ,cd,(aj.trans dv),(eX.pick [3,1,4,5] _ (by decide) rfl),cX⟩⟩
 intro bT gf
 refine zn (congrArg nK (nM.2 bT.out)) (rR (wID gBp) Z (oM Z cV (oR Z (zD Z Z Zk Z zC) (oL Z (bI.ldB (j:=1) Z Z Z zO (v:=jV x81.Bib) Z) (oM Z Z ?_)))))
 let B7:List Value:=[jV x81.Bib,jV 0,jV x112]
 let B8:List Value:=[jV 0,jV 0,jV 0]
 refine oR Z (Zi (pv:=[(0,jV x81.Bib),(2,jV x112)]) (z:=B8) (cs:=B7) Z (wAK Z (wAK Z wAb)) Tryz.zeroValue84 wMn Z Z) (ZM (pv:=[(0,.agg B7.toArray)]) (zs:=B8) (cs:=B7) Z Z Z Z Z (wAK Z wAb) ZK Zb Tryz.zeroValue84 Z Z Z Z Z bI ?_)
 intro dH dN eY
 let B9:Res:=.row (some ⟨dN,0,none⟩) 1 84 3 (nA wAG [(⟨x81.Bib,0,x112⟩:wAC)])
 have db:SW w [.obj pm1t (.map pe1t pk1t)] U aw [B9,.obj pm1t (.map aZ aX),.blk az 37 B1,.blk b3 80 B0,B2,B3] dH:=eY
 refine bnK gf fun dB eF gg=>Zv (j:=4) (enc:=wAG) (xs:=bA) (ys:=[(⟨x81.Bib,0,x112⟩:wAC)]) (zs:=dB) rfl rfl rfl rfl rfl Tryz.underlying44 wPR rfl rfl rfl rfl rfl rfl db rfl rfl rfl (db.srcR (j:=0) rfl (by decide) (wAF (f:=wAG) (sz:=3) (fun _=>rfl) [(⟨x81.Bib,0,x112⟩:wAC)])) (fun _=>rfl) (fun _=>rfl) eF rfl ?_
 intro cB cP dI eZ
 have fb:SW w [.obj pm1t (.map pe1t pk1t)] U aw [B9,.obj pm1t (.map aZ aX),.blk az 37 B1,.blk b3 80 B0,.row cB cP 84 3 (nA wAG dB),B3] dI:=eZ
 refine oA Z Z (zk (zh (zJ (rR fL2 Z (oR Z (zw (zZ Z bG Z) (congrArg (jV) dp.out)) (oM Z Z (zk ?_)))))))
 cases gg
 exact zJ ⟨rfl,⟨aw,aZ,aX,cB,cP,bp,bs,rfl,bX,bY,rfl,cW,bZ,cd,(aj.trans dv),(fb.pick [3,1,4,5] _ (by decide) rfl),cX⟩⟩
 rintro gZ cL ⟨bO,ba,aY,ag,ah,cC,cQ,dV,gL,gM,bV,dQ,gN,dR,gP,fc,eG⟩
 have dO:Hid (¬ ((↑(((↑p0.Record.Skiers.length:Int):Int) - 0).toNat:Int) < (↑p0.Record.Skiers.length:Int))):=zI (wBH)
 refine sR fL1 Z (oR Z (ze Z dV dR) (eN (zH (cF Z dO (ZD (zb (zb (zz (zJ (sR gBh Z (oM Z bV ?_)))))))))))
 have eS:FnOK Tryz.prog bO (.func (.func 46) #[] #[]) wQW wQX (fun x=>wBC x.1 x.2):=⟨46,[],[],rfl,Tryz.call46,fun U1 w1 x y vs le hs ha hm=>by obtain rfl:=ha;exact wGc x.1 x.2 w1 U1 hs  hm⟩
 refine bnK dt fun bg eH gh=>?_
 let bh:Res:=.row cC cQ 84 3 (nA wAG bL)
 have fd:SW w [.obj pm1t (.map pe1t pk1t)] U bO [.row ag ah 84 3 (nA wAG bE),.blk b3 80 B0,.obj pm1t (.map ba aY),bh] cL:=fc.pick [2,0,1,3] _ (by decide) rfl
 refine zG 1 Z Z Z Z (zF Z Z Tryz.call45 (zA Z (zA Z zK)) Z) fd (fun hs=>wCz bE ag ah (fun x=>wBC x.1 x.2) (.func (.func 46) #[] #[]) cL bO hs eS eH) (.inl Z) ?_
 rintro bP gC gU dJ gQ ff ⟨rfl,rfl,cg⟩
 have fg:SW w [.obj pm1t (.map pe1t pk1t)] U bP [.row ag ah 84 3 (nA wAG bg),.blk b3 80 B0,.obj pm1t (.map ba aY),bh] dJ:=ff
 refine eN (zH (sR fL3 rfl (zQ rfl rfl rfl rfl rfl (nL (b:=(.slice ag bE.length ah:Value)) (c:=(.slice ag bg.length ah:Value)) bV (by rw [cg])) (za rfl rfl rfl rfl (fun _=>zy rfl rfl ZK) (zQ rfl rfl rfl rfl rfl rfl (eN (zV (bnK gh fun gA fV gi=>?_))))))))
 have q:=wBr fV
 obtain ⟨cp,fW⟩:=q
 replace cp:=zI cp
 refine CK.forN' (fun aa ae σ_ w_=>∃ (U_:PHeap),σ_ 48=jV (↑aa:Int)/\σ_ 5=.slice ag ae.length ah/\σ_ 6=.slice cC bL.length cQ/\σ_ 47=jV (↑bg.length:Int)/\PHeap.Le bP U_/\SW w [.obj pm1t (.map pe1t pk1t)] U U_ [.blk b3 80 B0,.obj pm1t (.map ba aY),.row ag ah 84 3 (nA wAG ae),bh] w_/\ae.length=bE.length) fW ?_ ?_ ?_
 exact ⟨bP,rfl,(nL (b:=(.slice ag bE.length ah:Value)) (c:=(.slice ag bg.length ah:Value)) bV (by rw [cg])),dQ,rfl,(zU _),(fg.pick [1,2,0,3] _ (by decide) rfl),cg⟩
 rintro aa ae gW g6 gE cm ⟨bq,bw,au,bW,bF,ct,de,ci⟩ gy
 have cR:Hid ((↑aa:Int) < (↑bg.length:Int)):=zI (wBq cm)
 replace cm:=zI cm
 have bJ:Hid (w64 ((↑aa:Int) + 1)=(↑(aa + 1):Int)):=zI (by have h1:=cp.out;have h2:=cR.out;rw [wAT] <;> omega)
 refine sR fL1 Z (oR Z (ze Z bw bF) (eN (zH (cT Z cR (kN (zH (zV (sR fL2 Z (oM Z bw (oA Z Z (eN (sR (wLT (.fx 6 .nil .stop)) Z (oM Z au (oM Z Z (oM Z Z (oR Z (zw (zZ Z Z Z) (congrArg (jV) bJ.out)) (bnK gy fun _ bH gj=>?_)))))))))))))))))
 have q:=de.rowSome (j:=2) rfl (by rw [wAF (f:=wAG) (sz:=3) (fun _=>rfl) ae];have hz:=wAR bH;omega)
 obtain ⟨gJ,ap⟩:=q
 refine oR Z (ZZ Z Z ap Z ZK Zb (wAR bH)) (oR Z (zD Z Z Zy Z zC) ?_)
 have f4:=wBt (xs:=ae) (wAR bH)
 refine yX (j:=2) (vs:=[jV (↑(aa + 1):Int)]) (cs':=nA wAG (nE ae aa (⟨(gd ae aa).Bib,(↑(aa + 1):Int),(gd ae aa).Total⟩:wAC))) rfl rfl rfl rfl de rfl ap rfl rfl rfl zC (by rw [wAF (f:=wAG) (sz:=3) (fun _=>rfl)];have hz:=wAR bH;show _ + 1 <= _;first | omega | (simp only [nJ];omega) | (simp only [nI,nG,nH];omega)) rfl (wEW (sz:=3) (fo:=1) (fun _=>rfl) _ _ _ _ f4 (by first | omega | (simp only [nJ];omega) | (simp only [nI,nG,nH];omega)) (zB rfl) rfl) rfl ?_
 intro bR fh
 have fj:SW w [.obj pm1t (.map pe1t pk1t)] U bq [.blk b3 80 B0,.obj pm1t (.map ba aY),.row ag ah 84 3 (nA wAG (nE ae aa (⟨(gd ae aa).Bib,(↑(aa + 1):Int),(gd ae aa).Total⟩:wAC))),bh] bR:=fh
 refine eN (zH (ZT ZH [3,3,3,3,3,3,3,1,3,3,3,3,3,1,3,3] fL16 (by kernel_rfl) ?_))
 have be:=fj.drew
 generalize hw_W255:({ bR with drawn:=bR.drawn + 1 }:World)=gF at be ⊢
 refine oM Z Z (oR Z (Zz Z Z Z) (oM Z Z (ifc gj ?_ ?_)))
 intro ai gk
 refine zQ rfl rfl rfl (zS rfl rfl (ZU ai.out)) rfl (nL (b:=(.slice ag ae.length ah:Value)) (c:=(.slice ag ((nE ae aa (⟨(gd ae aa).Bib,(↑(aa + 1):Int),(gd ae aa).Total⟩:wAC)).length) ah:Value)) au (by simp only [nD])) (zQ rfl rfl rfl (zS rfl rfl (ZU ai.out)) rfl rfl (bnK gk fun _ bb gm=>za rfl rfl rfl (zS rfl rfl (ZU ai.out)) (fun _=>ZZ rfl rfl ap rfl ZK Zb (wAR bb)) (za rfl rfl rfl (zS rfl rfl (ZU ai.out)) (fun _=>zD rfl rfl Zy rfl zC) ?_)))
 have f5:=wBt (xs:=(nE ae aa (⟨(gd ae aa).Bib,(↑(aa + 1):Int),(gd ae aa).Total⟩:wAC))) (by first | exact wAR bb | (have hz:=wAR bb;simpa only [nD] using hz))
 refine zr rfl rfl rfl (zS rfl rfl (ZU ai.out)) (be.ldR (j:=2) rfl ap rfl rfl zO (wAs (sz:=3) (fun _=>rfl) _ _ 2 _ f5 (by first | omega | rfl | simp) rfl)) rfl (zQ rfl rfl rfl (zS rfl rfl (ZU ai.out)) rfl (nL (b:=(.slice ag ae.length ah:Value)) (c:=(.slice ag ((nE ae aa (⟨(gd ae aa).Bib,(↑(aa + 1):Int),(gd ae aa).Total⟩:wAC)).length) ah:Value)) au (by simp only [nD])) (zQ rfl rfl rfl (zS rfl rfl (ZU ai.out)) rfl rfl (za rfl rfl rfl (zS rfl rfl (ZU ai.out)) (fun _=>Zj rfl rfl rfl) (bnK gm fun _ av gp=>za rfl rfl rfl (zS rfl rfl (ZU ai.out)) (fun _=>ZQ rfl rfl ap rfl ZK Zb (wBk av) (wBl av)) (za rfl rfl rfl (zS rfl rfl (ZU ai.out)) (fun _=>zD rfl rfl Zy rfl zC) ?_)))))
 have f7:=wBt (xs:=(nE ae aa (⟨(gd ae aa).Bib,(↑(aa + 1):Int),(gd ae aa).Total⟩:wAC))) (by first | exact wAR av | (have hz:=wAR av;simpa only [nD] using hz))
 refine zr rfl rfl rfl (zS rfl rfl (ZU ai.out)) (be.ldR (j:=2) rfl ap rfl rfl zO (wAs (sz:=3) (fun _=>rfl) _ _ 2 _ f7 (by first | omega | rfl | simp) rfl)) rfl (za rfl rfl rfl (zS rfl rfl (ZU ai.out)) (fun _=>ZR rfl rfl rfl) (za rfl rfl rfl rfl (fun _=>zj rfl (ZU ai.out) rfl) (eN (ifc gp ?_ ?_))))
 intro bU gq
 refine cT Z bU (rR (wQu (.fx 10 .nil .stop)) rfl (zQ rfl rfl rfl rfl rfl (nL (b:=(.slice ag ae.length ah:Value)) (c:=(.slice ag ((nE ae aa (⟨(gd ae aa).Bib,(↑(aa + 1):Int),(gd ae aa).Total⟩:wAC)).length) ah:Value)) au (by simp only [nD])) (zQ rfl rfl rfl rfl rfl rfl (zQ rfl rfl rfl rfl rfl (nL (b:=(.slice ag ae.length ah:Value)) (c:=(.slice ag ((nE ae aa (⟨(gd ae aa).Bib,(↑(aa + 1):Int),(gd ae aa).Total⟩:wAC)).length) ah:Value)) au (by simp only [nD])) (zQ rfl rfl rfl rfl rfl rfl (za rfl rfl rfl rfl (fun _=>Zj rfl rfl rfl) (za rfl rfl rfl rfl (fun _=>ZQ rfl rfl ap rfl ZK Zb (wBk av) (wBl av)) (za rfl rfl rfl rfl (fun _=>zD rfl rfl Zy rfl zC) ?_))))))))
 have f9:=wBt (xs:=(nE ae aa (⟨(gd ae aa).Bib,(↑(aa + 1):Int),(gd ae aa).Total⟩:wAC))) (by first | exact wAR av | (have hz:=wAR av;simpa only [nD] using hz))
 refine zr rfl rfl rfl rfl (be.ldR (j:=2) rfl ap rfl rfl zO (wAs (sz:=3) (fun _=>rfl) _ _ 1 _ f9 (by first | omega | rfl | simp) rfl)) rfl (za rfl rfl rfl rfl (fun _=>ZZ rfl rfl ap rfl ZK Zb (wAR bb)) (za rfl rfl rfl rfl (fun _=>zD rfl rfl Zy rfl zC) ?_))
 have ga:=wBt (xs:=(nE ae aa (⟨(gd ae aa).Bib,(↑(aa + 1):Int),(gd ae aa).Total⟩:wAC))) (by first | exact wAR bb | (have hz:=wAR bb;simpa only [nD] using hz))
 refine yX (j:=2) (vs:=[jV ((gd (nE ae aa (⟨(gd ae aa).Bib,(↑(aa + 1):Int),(gd ae aa).Total⟩:wAC)) (w64 ((↑aa:Int) - 1)).toNat).Place)]) (cs':=nA wAG (nE (nE ae aa (⟨(gd ae aa).Bib,(↑(aa + 1):Int),(gd ae aa).Total⟩:wAC)) aa (⟨(gd (nE ae aa (⟨(gd ae aa).Bib,(↑(aa + 1):Int),(gd ae aa).Total⟩:wAC)) aa).Bib,(gd (nE ae aa (⟨(gd ae aa).Bib,(↑(aa + 1):Int),(gd ae aa).Total⟩:wAC)) (w64 ((↑aa:Int) - 1)).toNat).Place,(gd (nE ae aa (⟨(gd ae aa).Bib,(↑(aa + 1):Int),(gd ae aa).Total⟩:wAC)) aa).Total⟩:wAC))) rfl rfl rfl rfl be rfl ap rfl rfl rfl zC (by rw [wAF (f:=wAG) (sz:=3) (fun _=>rfl)];have hz:=wAR bb;show _ + 1 <= _;first | omega | (simp only [nD];omega) | (simp only [nI,nG,nH,nD];omega) | (simp only [nJ];omega) | (simp only [nI,nG,nH];omega)) rfl (wEW (sz:=3) (fo:=1) (fun _=>rfl) _ _ _ _ ga (by first | omega | (simp only [nJ];omega) | (simp only [nI,nG,nH];omega)) (zB rfl) rfl) rfl ?_
 intro dK fk
 have fm:SW w [.obj pm1t (.map pe1t pk1t)] U bq [.blk b3 80 B0,.obj pm1t (.map ba aY),.row ag ah 84 3 (nA wAG (nE (nE ae aa (⟨(gd ae aa).Bib,(↑(aa + 1):Int),(gd ae aa).Total⟩:wAC)) aa (⟨(gd (nE ae aa (⟨(gd ae aa).Bib,(↑(aa + 1):Int),(gd ae aa).Total⟩:wAC)) aa).Bib,(gd (nE ae aa (⟨(gd ae aa).Bib,(↑(aa + 1):Int),(gd ae aa).Total⟩:wAC)) (w64 ((↑aa:Int) - 1)).toNat).Place,(gd (nE ae aa (⟨(gd ae aa).Bib,(↑(aa + 1):Int),(gd ae aa).Total⟩:wAC)) aa).Total⟩:wAC))),bh] dK:=fk
 refine zk (zh (zJ (rR fL2 Z (oR Z (zw (zZ Z bw Z) (congrArg (jV) bJ.out)) (oM Z Z (zk ?_))))))
 cases gq
 exact zJ ⟨rfl,⟨bq,rfl,(nL (b:=(.slice ag ((nE ae aa (⟨(gd ae aa).Bib,(↑(aa + 1):Int),(gd ae aa).Total⟩:wAC)).length) ah:Value)) (c:=(.slice ag ((nE (nE ae aa (⟨(gd ae aa).Bib,(↑(aa + 1):Int),(gd ae aa).Total⟩:wAC)) aa (⟨(gd (nE ae aa (⟨(gd ae aa).Bib,(↑(aa + 1):Int),(gd ae aa).Total⟩:wAC)) aa).Bib,(gd (nE ae aa (⟨(gd ae aa).Bib,(↑(aa + 1):Int),(gd ae aa).Total⟩:wAC)) (w64 ((↑aa:Int) - 1)).toNat).Place,(gd (nE ae aa (⟨(gd ae aa).Bib,(↑(aa + 1):Int),(gd ae aa).Total⟩:wAC)) aa).Total⟩:wAC)).length) ah:Value)) (nL (b:=(.slice ag ae.length ah:Value)) (c:=(.slice ag ((nE ae aa (⟨(gd ae aa).Bib,(↑(aa + 1):Int),(gd ae aa).Total⟩:wAC)).length) ah:Value)) au (by simp only [nD])) (by simp only [nD])),bW,bF,ct,fm,((nD.trans nD).trans ci)⟩⟩
 intro bU gt
 refine cF Z bU (Zd (zh (zJ (rR fL2 Z (oR Z (zw (zZ Z bw Z) (congrArg (jV) bJ.out)) (oM Z Z (zk ?_)))))))
 cases gt
 exact zJ ⟨rfl,⟨bq,rfl,(nL (b:=(.slice ag ae.length ah:Value)) (c:=(.slice ag ((nE ae aa (⟨(gd ae aa).Bib,(↑(aa + 1):Int),(gd ae aa).Total⟩:wAC)).length) ah:Value)) au (by simp only [nD])),bW,bF,ct,be,(nD.trans ci)⟩⟩
 intro ai gu
 refine oF Z ai (oF Z ai (oF Z ai (oF Z ai (oF Z ai (oF Z ai (oF Z ai (oF Z ai (oF Z ai (oF Z ai (oF Z ai (oF Z ai (oR Z (zR Z (ZI ai.out) Z) (eN (zn Z (Zd (zh (zJ (rR fL2 Z (oR Z (zw (zZ Z bw Z) (congrArg (jV) bJ.out)) (oM Z Z (zk ?_)))))))))))))))))))))
 cases gu
 exact zJ ⟨rfl,⟨bq,rfl,(nL (b:=(.slice ag ae.length ah:Value)) (c:=(.slice ag ((nE ae aa (⟨(gd ae aa).Bib,(↑(aa + 1):Int),(gd ae aa).Total⟩:wAC)).length) ah:Value)) au (by simp only [nD])),bW,bF,ct,be,(nD.trans ci)⟩⟩
 rintro g7 gG ⟨cK,dW,dS,dT,dU,gR,df,gO⟩
 have dP:Hid (¬ ((↑(((↑bg.length:Int):Int) - 0).toNat:Int) < (↑bg.length:Int))):=zI (wBH)
 refine sR fL1 rfl (za rfl rfl rfl rfl (fun _=>ze rfl dW dU) (eN (zH (cF Z dP (ZD (zb (zb (zz (zJ (sR gBv rfl (zQ rfl rfl rfl rfl rfl dS (zQ rfl rfl rfl rfl rfl dT (bnK gi fun dC eI gv=>Zv (j:=2) (enc:=wAG) (xs:=gA) (ys:=bL) (zs:=dC) rfl rfl rfl rfl rfl Tryz.underlying44 wPR rfl rfl rfl rfl rfl rfl df rfl rfl rfl (df.srcR (j:=3) rfl (by decide) (wAF (f:=wAG) (sz:=3) (fun _=>rfl) bL)) (fun _=>rfl) (fun _=>rfl) eI rfl ?_)))))))))))))
 intro cD cS dL ft
 have fw:SW w [.obj pm1t (.map pe1t pk1t)] U cK [.blk b3 80 B0,.obj pm1t (.map ba aY),.row cD cS 84 3 (nA wAG dC),bh] dL:=ft
 refine oA Z Z (eN (zM ?_))
 cases gv
 exact ⟨rfl,_,(zi rfl),cK,_,(fw.pick [2,1] _ (by decide) rfl),cD,cS,ba,aY,rfl,rfl,eG⟩
theorem wFm (p0:wAI) (bg:Option Addr) (bi:Nat) (bh:Option Addr) (bj:Nat) (w:World) (U:PHeap) (hS:St0 w U []) (dg:Sl U 2 bg bi p0.Skiers.length (nA wAD p0.Skiers)) (dh:Sl U 6 bh bj p0.Decisions.length (nA wAB p0.Decisions)) {r:(List wAC) × Int} (hm:wBs p0=some r):Gv Tryz.prog 10 [.agg #[jV p0.Deadline,.slice bg p0.Skiers.length bi,.slice bh p0.Decisions.length bj]] w (wBW w [] U (fun U_ L_ v=>∃ (A0:Option Addr) (c0:Nat),v=.tuple #[.slice A0 r.1.length c0,jV r.2]/\L_=[.row A0 c0 84 3 (nA wAG r.1)])):=by
 unfold wBs at hm
 refine Gv.of Tryz.func10 Z Tryz.ntmps10 Tryz.results10 Z (sR gBq Z ?_)
 let B0:List Value:=[jV p0.Deadline,.slice bg p0.Skiers.length bi,.slice bh p0.Decisions.length bj]
 refine ZA (cs:=B0) rfl rfl rfl rfl rfl rfl (by rfl) hS ?_
 intro W1 b2 bQ
 refine oA Z Z (oA Z Z (eN (sR (.fl 0 (.fx 1 (wLU (.nil)) .stop)) Z (oL Z (bQ.ldBA (j:=0) Z Z Z ZW zm (vs:=B0) Z Z) ?_))))
 have q:=bnd hm
 obtain ⟨⟨x5,x6⟩,h7,aX⟩:=q
 try dsimp only at aX
 refine zG 0 Z Z Z Z (zF Z Z Tryz.call21 (zA Z zK) Z) bQ (fun hs=>wLC p0 bg bi bh bj W1 U hs dg dh h7) (.inr Z) ?_
 rintro U9 dB dH ai dG bP bO
 rcases x5 with _ | x28
 try dsimp only at aX
 obtain ⟨rfl,rfl⟩:=bO
 have cS:sW w U U9 [.blk b2 33 B0] ai:=bP
 refine oM Z Z (oR Z (ZB Z Z (v:=.pointer none) Z) (oR Z (ZB Z Z (v:=jV x6) Z) (oA Z Z (oA Z Z (eN (zH (sR fL2 Z (oM Z Z (oR Z (Zs Z Z Z) (eN (ifc aX ?_ ?_)))))))))))
 intro bm dt
 refine zn (ZI (fun h=>h bm.out)) (kN (sR gBy Z (oM Z Z (oM Z Z ?_))))
 cases dt
 intro bm du
 refine cT Z bm (sR fL3 Z (oM Z Z (oA Z Z (oA Z Z (eN (zM (zN ?_)))))))
 have cU:=cS.nilrow 84 3
 cases du
 exact ⟨rfl,_,(wLV rfl rfl),U9,_,(cU.pick [0] _ (by decide) rfl),none,0,rfl,rfl⟩
 try dsimp only at aX
 obtain ⟨ag,aq,av,aZ,bb,ap,az,aw,aj,am,ak,an,rfl,rfl,ct,cu⟩:=bO
 let B1:List Value:=[jV x28.Record.Deadline,.slice aq x28.Record.Skiers.length av,.slice aZ x28.Record.Decisions.length bb,.map (some ap),.map (some aj)]
 have bR:sW w U U9 [.blk ag 114 B1,.row aq av 37 2 (nA wAD x28.Record.Skiers),.obj ap (.map az aw),wEa aj am ak 42 6 wAB wCu an x28.about,.blk b2 33 B0] ai:=bP
 refine oM Z Z (oR Z (ZB Z Z (v:=.pointer (some ⟨ag,0,none⟩)) Z) (oR Z (ZB Z Z (v:=jV x6) Z) (oA Z Z (oA Z Z (eN (zH (sR fL2 Z (oM Z Z (oR Z (Zs Z Z Z) (eN (ifc aX ?_ ?_)))))))))))
 intro bp dv
 refine zn (ZI (fun h=>h bp.out)) (kN (sR gBy Z (oM Z Z (oM Z Z ?_))))
 have q:=bR.freezeR (k:=1) (n:=x28.Record.Skiers.length) rfl (wAF (f:=wAD) (sz:=2) (fun _=>rfl) x28.Record.Skiers) (by decide)
 obtain ⟨bV,dy,dx,cW⟩:=q
 have cX:sW w U bV [.blk ag 114 B1,.obj ap (.map az aw),wEa aj am ak 42 6 wAB wCu an x28.about,.blk b2 33 B0] ai:=cW
 have q:=cX.freezeM (k:=1) rfl cu
 obtain ⟨bW,bT,dm,cY⟩:=q
 have cZ:sW w U bW [.blk ag 114 B1,wEa aj am ak 42 6 wAB wCu an x28.about,.blk b2 33 B0] ai:=cY
 have q:=cZ.freezeMR (k:=1) rfl (fun _=>rfl) (by decide)
 obtain ⟨bX,bq,dp,da⟩:=q
 have db:sW w U bX [.blk ag 114 B1,.blk b2 33 B0] ai:=da
 have q:=db.freeze (k:=0) rfl
 obtain ⟨bk,be,ao,cV⟩:=q
 replace ao:=Cl.of ao
 have de:sW w U bk [.blk b2 33 B0] ai:=cV
 replace ao:Cl bk ag 0 B1:=ao
 have cw:=dx.le bT
 have cx:=cw.le bq
 have bK:=cx.le be
 have cy:=ct.le dy
 have cz:=cy.le bT
 have cA:=cz.le bq
 have bL:=cA.le be
 have cC:=dm.le bq
 have bM:=cC.le be
 have bN:=dp.le be
 refine bnK dv fun x74 cD dw=>zG 0 rfl rfl rfl rfl (zF rfl rfl Tryz.call23 (zA rfl (zA rfl zK)) rfl) de (fun hs=>wHw x28 ag aq av aZ bb ap az aw aj am ak an [] none 0 ai bk hs ao bK bL bM bN (by first | exact Sl.nil _ _ _ _ | exact SlR.nil) cD) (.inr rfl) ?_
 rintro bz dD dJ bA aY df ⟨cd,cg,ci,cj,cm,cn,br,bE,bD,rfl,rfl,cE,cG,cH,cJ,cK,cL,cM⟩
 have cN:sW w U bz [.obj br (.map bE bD),.blk b2 33 B0] bA:=df
 have bF:=ao.le aY
 have bG:=bK.le aY
 have bH:=bL.le aY
 have bI:=bM.le aY
 have bJ:=bN.le aY
 have q:=bnd dw
 obtain ⟨⟨dz,dK⟩,cr,bS⟩:=q
 try dsimp only at bS
 refine zG 1 rfl rfl rfl rfl (zF rfl rfl Tryz.call22 (zA rfl (zA rfl zK)) rfl) cN (fun hs=>wHN x28 ag aq av aZ bb ap az aw aj am ak an (x28,[],x74) cd cg ci cj cm cn ag aq av aZ bb ap az aw aj am ak an br bE bD none 0 bA bz hs bF bG bH bI bJ cE cG cH cJ cK cL bF bG bH bI bJ cM (by first | exact Sl.nil _ _ _ _ | exact SlR.nil) cr) (.inl rfl) ?_
 rintro bw dC dI bZ dF cP ⟨bu,bC,cq,cp,rfl,rfl,dE⟩
 have cQ:sW w U bw [.row bu bC 84 3 (nA wAG dz),.obj br (.map cq cp),.blk b2 33 B0] bZ:=cP
 refine oA Z Z (oA Z Z (eN (zM ?_)))
 cases bS
 exact ⟨rfl,_,(wLV rfl rfl),bw,_,(cQ.pick [0] _ (by decide) rfl),bu,bC,rfl,rfl⟩
 intro bp dr
 refine cT Z bp (sR fL3 Z (oM Z Z (oA Z Z (oA Z Z (eN (zM (zN ?_)))))))
 have cR:=bR.nilrow 84 3
 cases dr
 exact ⟨rfl,_,(wLV rfl rfl),U9,_,(cR.pick [0] _ (by decide) rfl),none,0,rfl,rfl⟩
set_option maxHeartbeats 4000000
theorem wGS (p0:wAC) (p1:wAH) (ah:Nat) (w:World) (U:PHeap) (hS:St0 w U []) (ai:Cl U ah 0 [jV p1.Bib,jV p1.Time]) {r:Bool} (hm:wBd p0 p1=some r):Gv Tryz.prog 25 [.agg #[jV p0.Bib,jV p0.Place,jV p0.Total],.pointer (some ⟨ah,0,none⟩)] w (wBW w [] U (fun U_ L_ v=>v=.bool r/\L_=[])):=by
 unfold wBd at hm
 refine Gv.of Tryz.func25 rfl Tryz.ntmps25 Tryz.results25 rfl (sR gBf rfl (ZA (cs:=[jV p0.Bib,jV p0.Place,jV p0.Total]) rfl rfl rfl rfl rfl rfl (by rfl) hS ?_))
 intro W1 b2 ag
 refine oA Z Z (eN (sR fL6 Z (oR Z (zD Z Z Zy Z zC) (oL Z (ag.ldB (j:=0) Z Z Z zO (v:=jV p0.Bib) Z) (oR Z (zD Z Z Zk Z zC) (oL Z (ag.ldC (f:=0) ai (v:=jV p1.Bib) Z Z zO Z) (oR Z (ZR Z Z Z) (oA Z Z (eN (zM ?_))))))))))
 first | (obtain rfl:=nB hm) | cases hm
 exact ⟨rfl,_,(zi rfl),U,_,(ag.pick [] _ (by decide) rfl),rfl,rfl⟩
theorem wDk (p0:List wAC) (ap:Option Addr) (aq:Nat) (p1:(wAC->Option Bool)) (au:Value) (w:World) (U:PHeap) (hS:St0 w U []) (bB:Sl U 3 ap aq p0.length (nA wAG p0)) (bC:FnOK Tryz.prog U au ar85 rr85 p1) {r:Int} (hm:wAg p0 p1=some r):Gv Tryz.prog 24 [.slice ap p0.length aq,au] w (wBW w [] U (fun U_ L_ v=>v=jV r/\L_=[])):=by
 unfold wAg at hm
 refine Gv.of Tryz.func24 Z Tryz.ntmps24 Tryz.results24 Z (sR fL1 Z (oA Z Z (eN (zH (sR fL3 Z (oM Z Z (oR Z (zy Z Z ZK) (oM Z Z (eN (zV ?_))))))))))
 have q:=wDo hm
 obtain ⟨r3,ak⟩:=q
 have q:=wDn ak
 obtain ⟨an,bF⟩:=q
 replace an:=zI an
 refine yS (fun k2 _ σ_ w_=>∃ (U_:PHeap),σ_ 8=jV (↑k2:Int)/\σ_ 0=.slice ap p0.length aq/\σ_ 1=au/\σ_ 7=jV (↑p0.length:Int)/\PHeap.Le U U_/\sW w U U_ [] w_) bF ?_ ?_ ?_
 exact ⟨U,Z,Z,Z,Z,(zU _),hS⟩
 rintro k2 ⟨⟩ cd ci W8 am ⟨bP,aj,aw,az,aX,ao,aZ⟩ be bD
 try dsimp only at be
 have av:Hid ((↑k2:Int) < (↑p0.length:Int)):=zI (wBq am)
 replace am:=zI am
 have bG:Hid (w64 ((↑k2:Int) + 1)=(↑(k2 + 1):Int)):=zI (by have h1:=an.out;have h2:=av.out;rw [wAT] <;> omega)
 refine sR fL1 Z (oR Z (ze Z aj aX) (eN (zH (cT Z av (kN (zH (zV (sR fL2 Z (oM Z aj (oA Z Z (eN (sR (wID (.fx 5 .nil .stop)) Z (oM Z az (oM Z aw (oM Z Z (bnK be fun ag aY bH=>?_))))))))))))))))
 have bq:=bB.le ao
 have q:=bq.el (fun _=>rfl) (wBD aY)
 obtain ⟨bS,bW,bu,bw⟩:=q
 refine oR Z (ZZ Z Z bu Z ZK Zb (wDB aY)) (oL Z (aZ.ldCA (f:=0) bw Z Z Tryz.isAgg84 Zb (us:=[jV ag.Bib,jV ag.Place,jV ag.Total]) Z Z) (bnK bH fun bZ br bI=>?_))
 have bs:=bC.le ao
 refine yF (a:=ag) Z Z Z Z Z Z (zA Z zK) aZ bs Z br ?_
 rintro ah bO bY bi bM bz ⟨rfl,rfl⟩
 have ba:sW w U ah [] bi:=bz
 refine eN (ifc bI ?_ ?_)
 intro ai bJ
 refine zu (congrArg nK ai.out) (sR fL2 Z (oM Z Z (oA Z Z (eN (zM (zf (zN ?_)))))))
 have q:=wAS bJ
 obtain ⟨bN,bK,bk⟩:=q
 have q:=wCa hm ak (bD bN bk)
 obtain rfl:=q
 refine zN (zf (zN ?_))
 cases bK
 exact ⟨Z,_,(zi Z),ah,_,ba,Z,Z⟩
 intro ai bL
 refine zn (congrArg nK (nM.2 ai.out)) (Zd (zh (zJ (rR fL2 Z (oR Z (zw (zZ Z aj Z) (congrArg (jV) bG.out)) (oM Z Z (zk ?_)))))))
 have q:=nB bL
 obtain rfl:=q
 exact zJ ⟨Z,_,Z,⟨ah,Z,aw,az,aX,(ao.trans bM),ba⟩⟩
 rintro ⟨⟩ cg bQ ⟨bh,bp,bT,bU,bm,bV,bA⟩ bE
 have bb:=wEt hm ak bE
 try dsimp only at bb
 have bj:Hid (¬ ((↑(((↑p0.length:Int):Int) - 0).toNat:Int) < (↑p0.length:Int))):=zI (wBH)
 refine sR fL1 Z (oR Z (ze Z bp bm) (eN (zH (cF Z bj (ZD (zb (zb (zz (zJ (sR fL1 Z (oA Z Z (eN (zM ?_)))))))))))))
 cases bb
 exact ⟨Z,_,(zi Z),bh,_,bA,Z,Z⟩
theorem wEA (p0:wAI) (aq:Option Addr) (au:Nat) (br:Option Addr) (bs:Nat) (p1:List wAC) (bb:Option Addr) (be:Nat) (w:World) (U:PHeap) (hS:St0 w U []) (cP:Sl U 2 aq au p0.Skiers.length (nA wAD p0.Skiers)) (dD:Sl U 6 br bs p0.Decisions.length (nA wAB p0.Decisions)) (cQ:Sl U 3 bb be p1.length (nA wAG p1)) {r:(List Int) × Bool} (hm:wBc p0 p1=some r):Gv Tryz.prog 11 [.agg #[jV p0.Deadline,.slice aq p0.Skiers.length au,.slice br p0.Decisions.length bs],.slice bb p1.length be] w (wBW w [] U (fun U_ L_ v=>∃ (A0:Option Addr) (c0:Nat),v=.tuple #[.slice A0 r.1.length c0,.bool r.2]/\L_=[.row A0 c0 3 1 (nA KL.encI r.1)])):=by
 unfold wBc at hm
 refine Gv.of Tryz.func11 Z Tryz.ntmps11 Tryz.results11 Z (sR gBq Z ?_)
 let B0:List Value:=[jV p0.Deadline,.slice aq p0.Skiers.length au,.slice br p0.Decisions.length bs]
 refine ZA (cs:=B0) rfl rfl rfl rfl rfl rfl (by rfl) hS ?_
 intro W1 b2 bI
 refine oA Z Z (oA Z Z (eN (sR fL1 Z (oA Z Z (eN (zH (sR fL4 Z (oR Z (zD Z Z zd Z ZY) (oL Z (bI.ldB (j:=0) Z Z Z Zu (v:=.slice aq p0.Skiers.length au) Z) (oR Z (zy Z Z ZJ) (oM Z Z (eN (zV ?_)))))))))))))
 have q:=wDo hm
 obtain ⟨dH,ba⟩:=q
 have q:=wDn ba
 obtain ⟨bp,cS⟩:=q
 replace bp:=zI bp
 refine yS (fun ao ap σ_ w_=>∃ (U_:PHeap) (av:Option Addr) (aX:Nat),σ_ 13=jV (↑ao:Int)/\σ_ 1=.slice bb p1.length be/\σ_ 6=.slice av ap.length aX/\σ_ 11=.slice aq p0.Skiers.length au/\σ_ 12=jV (↑p0.Skiers.length:Int)/\PHeap.Le U U_/\sW w U U_ [.blk b2 33 B0,.row av aX 3 1 (nA KL.encI ap)] w_) cS ?_ ?_ ?_
 have cD:=bI.nilrow 3 1
 exact ⟨U,none,0,rfl,rfl,rfl,rfl,rfl,(zU _),(cD.pick [1,0] _ (by decide) rfl)⟩
 rintro ao ap dJ dM dx bm ⟨bR,av,aX,bj,aY,ci,bD,bE,bq,bJ⟩ dm bK
 have bC:Hid ((↑ao:Int) < (↑p0.Skiers.length:Int)):=zI (wBq bm)
 replace bm:=zI bm
 have cU:Hid (w64 ((↑ao:Int) + 1)=(↑(ao + 1):Int)):=zI (by have h1:=bp.out;have h2:=bC.out;rw [wAT] <;> omega)
 refine sR fL1 Z (oR Z (ze Z bj bE) (eN (zH (cT Z bC (kN (zH (zV (sR gBu Z (bnK dm fun ah bF cX=>?_)))))))))
 have cn:=cP.le bq
 have q:=cn.el (fun _=>rfl) (wBD bF)
 obtain ⟨dz,dF,cu,cx⟩:=q
 refine oR Z (ZZ Z bD cu bj ZJ Za (wDB bF)) (oL Z (bJ.ldCA (f:=0) cx Z Z yT Za (us:=[jV ah.Bib,jV ah.Time]) Z Z) (zq (cs:=[jV 0,jV 0]) Z Z Z Z Z yE Z bJ ?_))
 intro dy ak cE
 let B1:List Value:=[jV ah.Bib,jV ah.Time]
 refine zo (j:=0) (vs:=B1) Z Z Z Z cE Z Z Z Z Za (zB Z) Z Z Z ?_
 intro bh cG
 let B2:Res:=.row av aX 3 1 (nA KL.encI ap)
 have cH:sW w U bR [.blk ak 37 B1,.blk b2 33 B0,B2] bh:=cG
 refine eN (sR gBv Z (oM Z aY ?_))
 have q:=cH.freeze (k:=0) rfl
 obtain ⟨az,bL,an,cJ⟩:=q
 replace an:=Cl.of an
 have cK:sW w U az [.blk b2 33 B0,B2] bh:=cJ
 replace an:Cl az ak 0 B1:=an
 refine oR Z (yD Z zK (zA Z zK)) ?_
 have cp:=cQ.le bq
 have bG:=cp.le bL
 have cy:FnOK Tryz.prog az (.func (.func 25) #[] #[.pointer (some ⟨ak,0,none⟩)]) ar85 rr85 (fun x=>wBd x ah):=⟨25,[],[.pointer (some ⟨ak,0,none⟩)],rfl,Tryz.call25,fun U1 w1 x y vs le hs ha hm=>by obtain rfl:=ha;exact wGS x ah ak w1 U1 hs (an.le le) hm⟩
 refine bnK cX fun x68 cq cY=>zG 0 Z Z Z Z (zF Z Z Tryz.call24 (zA Z (zA Z zK)) Z) cK (fun hs=>wDk p1 bb be (fun x=>wBd x ah) (.func (.func 25) #[] #[.pointer (some ⟨ak,0,none⟩)]) bh az hs bG cy cq) (.inr Z) ?_
 rintro ai du dI bU bM cL ⟨rfl,rfl⟩
 have aZ:sW w U ai [.blk b2 33 B0,B2] bU:=cL
 refine oA Z Z (eN (zH (sR fL8 Z (oM Z Z (oR Z (ze Z Z Z) (oM Z Z (ifc cY ?_ ?_)))))))
 intro ae cZ
 refine oT Z ae (oT Z ae (oT Z ae (oT Z ae (oR Z (zj Z (ZU ae.out) Z) (eN (zu Z (sR fL2 Z (oA Z Z (oA Z Z (eN (zM (zN (zf (zN ?_))))))))))))))
 have q:=wAS cZ
 obtain ⟨dp,da,bY⟩:=q
 have q:=wCa hm ba (bK dp bY)
 obtain rfl:=q
 refine zN (zf (zN ?_))
 have cM:=aZ.nilrow 3 1
 cases da
 exact ⟨rfl,_,(wLV rfl rfl),ai,_,(cM.pick [0] _ (by decide) rfl),none,0,rfl,rfl⟩
 intro ae db
 refine zQ Z Z Z (wF Z ae) Z Z (zQ Z Z Z (wF Z ae) Z aY (rU Z (wF Z ae) (zy Z Z ZK) (rU Z (wF Z ae) (Runs.geq Z Z Z) (oR Z (zR Z (ZI ae.out) Z) (eN (ifc db ?_ ?_))))))
 intro bi de
 refine cT Z bi (sR fL2 Z (oA Z Z (oA Z Z (eN (zM (zN (zf (zN ?_))))))))
 have q:=wAS de
 obtain ⟨dr,df,bZ⟩:=q
 have q:=wCa hm ba (bK dr bZ)
 obtain rfl:=q
 refine zN (zf (zN ?_))
 have cN:=aZ.nilrow 3 1
 cases df
 exact ⟨rfl,_,(wLV rfl rfl),ai,_,(cN.pick [0] _ (by decide) rfl),none,0,rfl,rfl⟩
 intro bi dg
 refine cF Z bi (kN (rR (wML (.fx 7 (.fx 8 (.fl 9 .nil) .stop) .stop)) Z (oM Z ci (oM Z aY (oM Z Z (bnK dg fun x94 bk dh=>?_))))))
 have cr:=bG.le bM
 have q:=cr.el (fun _=>rfl) (wBD bk)
 obtain ⟨dA,dG,ct,cw⟩:=q
 refine oR Z (ZQ Z Z ct Z ZK Zb (wFJ bk) (wFT bk)) (oR Z (zD Z Z Zy Z zC) (oL Z (aZ.ldC (f:=1) cw (v:=jV x94.Place) Z Z zO Z) (oR Z (Runs.max Z Z Z) (ZM (pv:=[(0,jV (max 0 x94.Place))]) (zs:=[jV 0]) (cs:=[jV (max 0 x94.Place)]) Z Z Z Z Z (wAK Z wAb) zL zC Zx Z Z Z Z Z aZ ?_))))
 intro bS bV cz
 let B3:Res:=.row (some ⟨bV,0,none⟩) 1 3 1 (nA KL.encI [max 0 x94.Place])
 have bH:sW w U ai [B3,.blk b2 33 B0,B2] bS:=cz
 refine bnK dh fun bN cm cV=>Zv (j:=2) (enc:=KL.encI) (xs:=ap) (ys:=[max 0 x94.Place]) (zs:=bN) rfl rfl rfl rfl rfl yK wJz rfl rfl rfl rfl rfl rfl bH rfl rfl rfl (bH.srcR (j:=0) rfl (by decide) (wAF (f:=KL.encI) (sz:=1) (fun _=>rfl) [max 0 x94.Place])) (fun _=>rfl) (fun _=>rfl) cm rfl ?_
 intro bw bB bT cA
 have cB:sW w U ai [B3,.blk b2 33 B0,.row bw bB 3 1 (nA KL.encI bN)] bT:=cA
 refine oA Z Z (zk (zh (zJ (rR fL2 Z (oR Z (zw (zZ Z bj Z) (congrArg (jV) cU.out)) (oM Z Z (zk ?_)))))))
 have q:=nB cV
 obtain rfl:=q
 exact zJ ⟨rfl,_,rfl,⟨ai,bw,bB,rfl,aY,rfl,bD,bE,((bq.trans bL).trans bM),(cB.pick [1,2] _ (by decide) rfl)⟩⟩
 rintro dK dL dw ⟨bQ,bO,bW,cj,dB,cd,dC,cg,dE,cC⟩ cR
 have cW:=wEt hm ba cR
 have bX:Hid (¬ ((↑(((↑p0.Skiers.length:Int):Int) - 0).toNat:Int) < (↑p0.Skiers.length:Int))):=zI (wBH)
 refine sR fL1 Z (oR Z (ze Z cj cg) (eN (zH (cF Z bX (ZD (zb (zb (zz (zJ (sR fL3 Z (oM Z cd (oA Z Z (oA Z Z (eN (zM ?_)))))))))))))))
 cases cW
 exact ⟨rfl,_,(wLV rfl rfl),bQ,_,(cC.pick [1] _ (by decide) rfl),bO,bW,rfl,rfl⟩
theorem wEF (p0:Int) (p1:Int) (p2:Int) (w:World) (U:PHeap) (hS:St0 w U [])  {r:Bool} (hm:wCO p0 p1 p2=some r):Gv Tryz.prog 58 [jV p0,jV p1,jV p2] w (wBW w [] U (fun U_ L_ v=>v=.bool r/\L_=[])):=by
 unfold wCO at hm
 refine Gv.of Tryz.func58 Z Tryz.ntmps58 Tryz.results58 Z (sR fL1 Z (oA Z Z (eN (sR fL9 Z (oM Z Z (oM Z Z (oR Z (Runs.geq Z Z Z) (oM Z Z ?_))))))))
 by_cases c1:p1 <= p0
 have ae:=hm;rw [if_pos c1] at ae;replace c1:=zI c1
 refine zQ Z Z Z (wT Z c1) Z Z (zQ Z Z Z (wT Z c1) Z Z (rU Z (wT Z c1) (yP Z Z Z) (oR Z (zj Z (ZU c1.out) Z) (oA Z Z (eN (zM ?_))))))
 first | (obtain rfl:=nB ae) | cases ae
 exact ⟨Z,_,(zi Z),U,_,hS,Z,Z⟩
 have ai:=hm;rw [if_neg c1] at ai;replace c1:=zI c1
 refine oF Z c1 (oF Z c1 (oF Z c1 (oR Z (zR Z (ZI c1.out) Z) (oA Z Z (eN (zM ?_))))))
 have hE:=nB ai;first | subst r | cases hE
 exact ⟨Z,_,(zi Z),U,_,hS,Z,Z⟩
theorem wKD (p0:List Int) (ag:Option Addr) (ak:Nat) (p1:wAU) (aj:Nat) (ah:Option Addr) (am:Nat) (ai:Option Addr) (an:Nat) (w:World) (U:PHeap) (hS:St0 w U []) (ap:Sl U 1 ag ak p0.length (nA KL.encI p0)) (ao:Cl U aj 0 [jV p1.Skiers,jV p1.Races,jV p1.Best,.slice ah p1.Points.length am,.slice ai p1.Done.length an]) (aq:Sl U 1 ah am p1.Points.length (nA KL.encI p1.Points)) (au:SlR U wEH ai an p1.Done) {r:Bool} (hm:wDa p0 p1=some r):Gv Tryz.prog 60 [.slice ag p0.length ak,.pointer (some ⟨aj,0,none⟩)] w (wBW w [] U (fun U_ L_ v=>v=.bool r/\L_=[])):=by
 unfold wDa at hm
 refine Gv.of Tryz.func60 Z Tryz.ntmps60 Tryz.results60 Z (sR fL1 Z (oA Z Z (eN (sR fL6 Z (oM Z Z (oR Z (zy Z Z zL) (oR Z (zD Z Z zY Z zC) (oL Z (hS.ldC (f:=0) ao (v:=jV p1.Skiers) Z Z zO Z) (oR Z (ZR Z Z Z) (oA Z Z (eN (zM ?_))))))))))))
 first | (obtain rfl:=nB hm) | cases hm
 exact ⟨Z,_,(zi Z),U,_,hS,Z,Z⟩
theorem wIq (p0:List Int) (ae:Option Addr) (ag:Nat) (p1:((List Int)->Option Bool)) (ak:Nat) (ah:Value) (w:World) (U:PHeap) (hS:St0 w U []) (aq:Sl U 1 ae ag p0.length (nA KL.encI p0)) (au:Cl U ak 0 [ah]) (av:FnOK Tryz.prog U ah wKw wKx p1) {r:Bool} (hm:wCn p0 p1=some r):Gv Tryz.prog 92 [.slice ae p0.length ag,.pointer (some ⟨ak,0,none⟩)] w (wBW w [] U (fun U_ L_ v=>v=.bool r/\L_=[])):=by
 unfold wCn at hm
 refine Gv.of Tryz.func92 Z Tryz.ntmps92 Tryz.results92 Z (sR fL1 Z (oA Z Z (eN (sR gBw Z (oL Z (hS.ldC (f:=0) au (v:=ah) Z Z Tryz.isAgg131 Z) (oM Z Z (bnK hm fun x1 h2 aw=>yF (a:=p0) Z Z Z Z Z Z (zA Z zK) hS av ⟨ae,ag,Z,aq⟩ h2 ?_)))))))
 rintro U4 L5 v6 W7 aX ap ⟨rfl,rfl⟩
 have ao:sW w U U4 [] W7:=ap
 refine oR Z (ZX Z Z) (oA Z Z (eN (zM ?_)))
 cases aw
 exact ⟨Z,_,(zi Z),U4,_,ao,Z,Z⟩
theorem wFH (p0:List (List Int)) (ap:Option Addr) (au:Nat) (p1:((List Int)->Option Bool)) (aw:Value) (w:World) (U:PHeap) (hS:St0 w U []) (bG:SlR U wEH ap au p0) (bH:FnOK Tryz.prog U aw wKw wKx p1) {r:Int} (hm:wBR p0 p1=some r):Gv Tryz.prog 97 [.slice ap p0.length au,aw] w (wBW w [] U (fun U_ L_ v=>v=jV r/\L_=[])):=by
 unfold wBR at hm
 refine Gv.of Tryz.func97 Z Tryz.ntmps97 Tryz.results97 Z (sR fL1 Z (oA Z Z (eN (zH (sR fL3 Z (oM Z Z (oR Z (zy Z Z zx) (oM Z Z (eN (zV ?_))))))))))
 have q:=wDo hm
 obtain ⟨r3,ak⟩:=q
 have q:=wDn ak
 obtain ⟨an,bK⟩:=q
 replace an:=zI an
 refine yS (fun k2 _ σ_ w_=>∃ (U_:PHeap),σ_ 8=jV (↑k2:Int)/\σ_ 0=.slice ap p0.length au/\σ_ 1=aw/\σ_ 7=jV (↑p0.length:Int)/\PHeap.Le U U_/\sW w U U_ [] w_) bK ?_ ?_ ?_
 exact ⟨U,Z,Z,Z,Z,(zU _),hS⟩
 rintro k2 ⟨⟩ cn cq W8 am ⟨bk,ai,aY,aZ,ba,ao,be⟩ bi bI
 try dsimp only at bi
 have aX:Hid ((↑k2:Int) < (↑p0.length:Int)):=zI (wBq am)
 replace am:=zI am
 have bL:Hid (w64 ((↑k2:Int) + 1)=(↑(k2 + 1):Int)):=zI (by have h1:=an.out;have h2:=aX.out;rw [wAT] <;> omega)
 refine sR fL1 Z (oR Z (ze Z ai ba) (eN (zH (cT Z aX (kN (zH (zV (sR fL2 Z (oM Z ai (oA Z Z (eN (sR (wID (.fx 5 .nil .stop)) Z (oM Z aZ (oM Z aY (oM Z Z (bnK bi fun az bb bM=>?_))))))))))))))))
 have bz:=bG.le ao
 have q:=bz.el (wBD bb)
 obtain ⟨bq,bT,cj,bD,aj,bR⟩:=q
 obtain ⟨aq,av,rfl,bA⟩:=bR
 replace aj:Cl bk bq (bT + k2 * 1) [.slice aq az.length av]:=aj
 refine oR Z (ZZ Z Z bD Z zx Zc (wDB bb)) (oL Z (be.ldC (f:=0) aj (v:=.slice aq az.length av) Z Z yB Z) (bnK bM fun cm bB bN=>?_))
 have bC:=bH.le ao
 refine yF (a:=az) Z Z Z Z Z Z (zA Z zK) be bC ⟨aq,av,Z,bA⟩ bB ?_
 rintro ag bV ci bp bS bE ⟨rfl,rfl⟩
 have bg:sW w U ag [] bp:=bE
 refine eN (ifc bN ?_ ?_)
 intro ah bO
 refine zu (congrArg nK ah.out) (sR fL2 Z (oM Z Z (oA Z Z (eN (zM (zf (zN ?_)))))))
 have q:=wAS bO
 obtain ⟨bU,bP,bs⟩:=q
 have q:=wCa hm ak (bI bU bs)
 obtain rfl:=q
 refine zN (zf (zN ?_))
 cases bP
 exact ⟨Z,_,(zi Z),ag,_,bg,Z,Z⟩
 intro ah bQ
 refine zn (congrArg nK (nM.2 ah.out)) (Zd (zh (zJ (rR fL2 Z (oR Z (zw (zZ Z ai Z) (congrArg (jV) bL.out)) (oM Z Z (zk ?_)))))))
 have q:=nB bQ
 obtain rfl:=q
 exact zJ ⟨Z,_,Z,⟨ag,Z,aY,aZ,ba,(ao.trans bS),bg⟩⟩
 rintro ⟨⟩ cp bW ⟨bm,bw,bY,bZ,bu,cd,bF⟩ bJ
 have bh:=wEt hm ak bJ
 try dsimp only at bh
 have br:Hid (¬ ((↑(((↑p0.length:Int):Int) - 0).toNat:Int) < (↑p0.length:Int))):=zI (wBH)
 refine sR fL1 Z (oR Z (ze Z bw bu) (eN (zH (cF Z br (ZD (zb (zb (zz (zJ (sR fL1 Z (oA Z Z (eN (zM ?_)))))))))))))
 cases bh
 exact ⟨Z,_,(zi Z),bm,_,bF,Z,Z⟩
theorem wDF (p0:List (List Int)) (ag:Option Addr) (ah:Nat) (p1:((List Int)->Option Bool)) (ai:Value) (w:World) (U:PHeap) (hS:St0 w U []) (aq:SlR U wEH ag ah p0) (au:FnOK Tryz.prog U ai wKw wKx p1) {r:Bool} (hm:wAo p0 p1=some r):Gv Tryz.prog 66 [.slice ag p0.length ah,ai] w (wBW w [] U (fun U_ L_ v=>v=.bool r/\L_=[])):=by
 unfold wAo at hm
 refine Gv.of Tryz.func66 Z Tryz.ntmps66 Tryz.results66 Z (sR fL1 Z (oA Z Z (eN (sR gBw Z (oM Z Z (oM Z Z (bnK hm fun x1 h2 ak=>zG 0 Z Z Z Z (zF Z Z Tryz.call97 (zA Z (zA Z zK)) Z) hS (fun hs=>wFH p0 ag ah p1 ai w U hs aq au h2) (.inr Z) ?_)))))))
 rintro U4 L5 v6 W7 aw ap ⟨rfl,rfl⟩
 have ao:sW w U U4 [] W7:=ap
 refine oR Z (Runs.geq Z Z Z) (oA Z Z (eN (zM ?_)))
 first | (obtain rfl:=nB ak) | cases ak
 exact ⟨Z,_,(zi Z),U4,_,ao,Z,Z⟩
theorem wHO (p0:List (List Int)) (ak:Option Addr) (am:Nat) (p1:((List Int)->Option Bool)) (ah:Value) (w:World) (U:PHeap) (hS:St0 w U []) (bh:SlR U wEH ak am p0) (ap:FnOK Tryz.prog U ah wKw wKx p1) {r:Bool} (hm:wDb p0 p1=some r):Gv Tryz.prog 59 [.slice ak p0.length am,ah] w (wBW w [] U (fun U_ L_ v=>v=.bool r/\L_=[])):=by
 unfold wDb at hm
 refine Gv.of Tryz.func59 Z Tryz.ntmps59 Tryz.results59 Z (sR gBf Z (ZA (cs:=[ah]) Z Z Z Z Z Z (FnOK.cells ap) hS ?_))
 intro W1 b2 bb
 have q:=bb.freeze (k:=0) rfl
 obtain ⟨U5,aq,ae,be⟩:=q
 replace ae:=Cl.of ae
 have bg:sW w U U5 [] W1:=be
 replace ae:Cl U5 b2 0 [ah]:=ae
 refine oA Z Z (eN (sR gBw Z (oM Z Z (oR Z (yD Z zK (zA Z zK)) ?_))))
 have aw:=bh.le aq
 have az:=ap.le aq
 have aY:FnOK Tryz.prog U5 (.func (.func 92) #[] #[.pointer (some ⟨b2,0,none⟩)]) wKw wKx (fun x=>wCn x p1):=⟨92,[],[.pointer (some ⟨b2,0,none⟩)],rfl,Tryz.call92,fun U1 w1 x y vs le hs ha hm=>by obtain ⟨pA_0,pc_0,rfl,hq0_0⟩:=ha;exact wIq x pA_0 pc_0 p1 b2 ah w1 U1 hs hq0_0 (ae.le le) (az.le le) hm⟩
 refine bnK hm fun bq aX bi=>zG 0 Z Z Z Z (zF Z Z Tryz.call66 (zA Z (zA Z zK)) Z) bg (fun hs=>wDF p0 ak am (fun x=>wCn x p1) (.func (.func 92) #[] #[.pointer (some ⟨b2,0,none⟩)]) W1 U5 hs aw aY aX) (.inr Z) ?_
 rintro an bk bp av bm aZ ⟨rfl,rfl⟩
 have ba:sW w U an [] av:=aZ
 refine oR Z (ZX Z Z) (oA Z Z (eN (zM ?_)))
 cases bi
 exact ⟨Z,_,(zi Z),an,_,ba,Z,Z⟩
theorem wHP (p0:Int) (p1:(Int->Option Bool)) (ai:Nat) (ae:Value) (w:World) (U:PHeap) (hS:St0 w U []) (ao:Cl U ai 0 [ae]) (ap:FnOK Tryz.prog U ae wQY wQZ p1) {r:Bool} (hm:wCD p0 p1=some r):Gv Tryz.prog 94 [jV p0,.pointer (some ⟨ai,0,none⟩)] w (wBW w [] U (fun U_ L_ v=>v=.bool r/\L_=[])):=by
 unfold wCD at hm
 refine Gv.of Tryz.func94 Z Tryz.ntmps94 Tryz.results94 Z (sR fL1 Z (oA Z Z (eN (sR gBw Z (oL Z (hS.ldC (f:=0) ao (v:=ae) Z Z Tryz.isAgg69 Z) (oM Z Z (bnK hm fun x1 h2 aq=>yF (a:=p0) Z Z Z Z Z Z (zA Z zK) hS ap Z h2 ?_)))))))
 rintro U4 L5 v6 W7 av an ⟨rfl,rfl⟩
 have am:sW w U U4 [] W7:=an
 refine oR Z (ZX Z Z) (oA Z Z (eN (zM ?_)))
 cases aq
 exact ⟨Z,_,(zi Z),U4,_,am,Z,Z⟩
theorem wCv (p0:List Int) (ao:Option Addr) (ap:Nat) (p1:(Int->Option Bool)) (aq:Value) (w:World) (U:PHeap) (hS:St0 w U []) (bB:Sl U 1 ao ap p0.length (nA KL.encI p0)) (bC:FnOK Tryz.prog U aq wQY wQZ p1) {r:Int} (hm:wAm p0 p1=some r):Gv Tryz.prog 129 [.slice ao p0.length ap,aq] w (wBW w [] U (fun U_ L_ v=>v=jV r/\L_=[])):=by
 unfold wAm at hm
 refine Gv.of Tryz.func129 Z Tryz.ntmps129 Tryz.results129 Z (sR fL1 Z (oA Z Z (eN (zH (sR fL3 Z (oM Z Z (oR Z (zy Z Z zL) (oM Z Z (eN (zV ?_))))))))))
 have q:=wDo hm
 obtain ⟨r3,aj⟩:=q
 have q:=wDn aj
 obtain ⟨am,bF⟩:=q
 replace am:=zI am
 refine yS (fun k2 _ σ_ w_=>∃ (U_:PHeap),σ_ 8=jV (↑k2:Int)/\σ_ 0=.slice ao p0.length ap/\σ_ 1=aq/\σ_ 7=jV (↑p0.length:Int)/\PHeap.Le U U_/\sW w U U_ [] w_) bF ?_ ?_ ?_
 exact ⟨U,Z,Z,Z,Z,(zU _),hS⟩
 rintro k2 ⟨⟩ cd ci W8 ak ⟨bP,ai,av,aw,az,an,aY⟩ bb bD
 try dsimp only at bb
 have au:Hid ((↑k2:Int) < (↑p0.length:Int)):=zI (wBq ak)
 replace ak:=zI ak
 have bG:Hid (w64 ((↑k2:Int) + 1)=(↑(k2 + 1):Int)):=zI (by have h1:=am.out;have h2:=au.out;rw [wAT] <;> omega)
 refine sR fL1 Z (oR Z (ze Z ai az) (eN (zH (cT Z au (kN (zH (zV (sR fL2 Z (oM Z ai (oA Z Z (eN (sR (wID (.fx 5 .nil .stop)) Z (oM Z aw (oM Z av (oM Z Z (bnK bb fun bg aX bH=>?_))))))))))))))))
 have bq:=bB.le an
 have q:=bq.el (fun _=>rfl) (wBD aX)
 obtain ⟨bS,bW,bu,bw⟩:=q
 refine oR Z (ZZ Z Z bu Z zL zC (wDB aX)) (oL Z (aY.ldC (f:=0) bw (v:=jV bg) Z Z zO Z) (bnK bH fun bZ br bI=>?_))
 have bs:=bC.le an
 refine yF (a:=bg) Z Z Z Z Z Z (zA Z zK) aY bs Z br ?_
 rintro ag bO bY bi bM bz ⟨rfl,rfl⟩
 have aZ:sW w U ag [] bi:=bz
 refine eN (ifc bI ?_ ?_)
 intro ah bJ
 refine zu (congrArg nK ah.out) (sR fL2 Z (oM Z Z (oA Z Z (eN (zM (zf (zN ?_)))))))
 have q:=wAS bJ
 obtain ⟨bN,bK,bk⟩:=q
 have q:=wCa hm aj (bD bN bk)
 obtain rfl:=q
 refine zN (zf (zN ?_))
 cases bK
 exact ⟨Z,_,(zi Z),ag,_,aZ,Z,Z⟩
 intro ah bL
 refine zn (congrArg nK (nM.2 ah.out)) (Zd (zh (zJ (rR fL2 Z (oR Z (zw (zZ Z ai Z) (congrArg (jV) bG.out)) (oM Z Z (zk ?_)))))))
 have q:=nB bL
 obtain rfl:=q
 exact zJ ⟨Z,_,Z,⟨ag,Z,av,aw,az,(an.trans bM),aZ⟩⟩
 rintro ⟨⟩ cg bQ ⟨bh,bp,bT,bU,bm,bV,bA⟩ bE
 have ba:=wEt hm aj bE
 try dsimp only at ba
 have bj:Hid (¬ ((↑(((↑p0.length:Int):Int) - 0).toNat:Int) < (↑p0.length:Int))):=zI (wBH)
 refine sR fL1 Z (oR Z (ze Z bp bm) (eN (zH (cF Z bj (ZD (zb (zb (zz (zJ (sR fL1 Z (oA Z Z (eN (zM ?_)))))))))))))
 cases ba
 exact ⟨Z,_,(zi Z),bh,_,bA,Z,Z⟩
theorem wES (p0:List Int) (ag:Option Addr) (ah:Nat) (p1:(Int->Option Bool)) (ai:Value) (w:World) (U:PHeap) (hS:St0 w U []) (aq:Sl U 1 ag ah p0.length (nA KL.encI p0)) (au:FnOK Tryz.prog U ai wQY wQZ p1) {r:Bool} (hm:wBJ p0 p1=some r):Gv Tryz.prog 93 [.slice ag p0.length ah,ai] w (wBW w [] U (fun U_ L_ v=>v=.bool r/\L_=[])):=by
 unfold wBJ at hm
 refine Gv.of Tryz.func93 Z Tryz.ntmps93 Tryz.results93 Z (sR fL1 Z (oA Z Z (eN (sR gBw Z (oM Z Z (oM Z Z (bnK hm fun x1 h2 ak=>zG 0 Z Z Z Z (zF Z Z Tryz.call129 (zA Z (zA Z zK)) Z) hS (fun hs=>wCv p0 ag ah p1 ai w U hs aq au h2) (.inr Z) ?_)))))))
 rintro U4 L5 v6 W7 aw ap ⟨rfl,rfl⟩
 have ao:sW w U U4 [] W7:=ap
 refine oR Z (Runs.geq Z Z Z) (oA Z Z (eN (zM ?_)))
 first | (obtain rfl:=nB ak) | cases ak
 exact ⟨Z,_,(zi Z),U4,_,ao,Z,Z⟩
theorem wFu (p0:List Int) (ak:Option Addr) (am:Nat) (p1:(Int->Option Bool)) (ai:Value) (w:World) (U:PHeap) (hS:St0 w U []) (bh:Sl U 1 ak am p0.length (nA KL.encI p0)) (ap:FnOK Tryz.prog U ai wQY wQZ p1) {r:Bool} (hm:wCY p0 p1=some r):Gv Tryz.prog 61 [.slice ak p0.length am,ai] w (wBW w [] U (fun U_ L_ v=>v=.bool r/\L_=[])):=by
 unfold wCY at hm
 refine Gv.of Tryz.func61 Z Tryz.ntmps61 Tryz.results61 Z (sR gBf Z (ZA (cs:=[ai]) Z Z Z Z Z Z (FnOK.cells ap) hS ?_))
 intro W1 b2 bb
 have q:=bb.freeze (k:=0) rfl
 obtain ⟨U5,aq,ae,be⟩:=q
 replace ae:=Cl.of ae
 have bg:sW w U U5 [] W1:=be
 replace ae:Cl U5 b2 0 [ai]:=ae
 refine oA Z Z (eN (sR gBw Z (oM Z Z (oR Z (yD Z zK (zA Z zK)) ?_))))
 have aw:=bh.le aq
 have az:=ap.le aq
 have aY:FnOK Tryz.prog U5 (.func (.func 94) #[] #[.pointer (some ⟨b2,0,none⟩)]) wQY wQZ (fun x=>wCD x p1):=⟨94,[],[.pointer (some ⟨b2,0,none⟩)],rfl,Tryz.call94,fun U1 w1 x y vs le hs ha hm=>by obtain rfl:=ha;exact wHP x p1 b2 ai w1 U1 hs (ae.le le) (az.le le) hm⟩
 refine bnK hm fun bq aX bi=>zG 0 Z Z Z Z (zF Z Z Tryz.call93 (zA Z (zA Z zK)) Z) bg (fun hs=>wES p0 ak am (fun x=>wCD x p1) (.func (.func 94) #[] #[.pointer (some ⟨b2,0,none⟩)]) W1 U5 hs aw aY aX) (.inr Z) ?_
 rintro an bk bp av bm aZ ⟨rfl,rfl⟩
 have ba:sW w U an [] av:=aZ
 refine oR Z (ZX Z Z) (oA Z Z (eN (zM ?_)))
 cases bi
 exact ⟨Z,_,(zi Z),an,_,ba,Z,Z⟩
theorem wKE (p0:Int) (w:World) (U:PHeap) (hS:St0 w U [])  {r:Bool} (hm:wDc p0=some r):Gv Tryz.prog 62 [jV p0] w (wBW w [] U (fun U_ L_ v=>v=.bool r/\L_=[])):=by
 unfold wDc at hm
 refine Gv.of Tryz.func62 Z Tryz.ntmps62 Tryz.results62 Z (sR fL1 Z (oA Z Z (eN (sR gBr Z (oM Z Z (bnK hm fun x1 h2 ak=>zG 0 Z Z Z Z (zF Z Z Tryz.call58 (zA Z (zA Z (zA Z zK))) Z) hS (fun hs=>wEF p0 0 1000 w U hs h2) (.inr Z) ?_))))))
 rintro U4 L5 v6 W7 an aj ⟨rfl,rfl⟩
 have ai:sW w U U4 [] W7:=aj
 refine oA Z Z (eN (zM ?_))
 have hE:=nB ak;first | subst r | cases hE
 exact ⟨Z,_,(zi Z),U4,_,ai,Z,Z⟩
theorem wIr (p0:Int) (w:World) (U:PHeap) (hS:St0 w U [])  {r:Bool} (hm:wCo p0=some r):Gv Tryz.prog 64 [jV p0] w (wBW w [] U (fun U_ L_ v=>v=.bool r/\L_=[])):=by
 unfold wCo at hm
 refine Gv.of Tryz.func64 Z Tryz.ntmps64 Tryz.results64 Z (sR fL1 Z (oA Z Z (eN (sR gBr Z (oM Z Z (bnK hm fun x1 h2 ak=>zG 0 Z Z Z Z (zF Z Z Tryz.call58 (zA Z (zA Z (zA Z zK))) Z) hS (fun hs=>wEF p0 0 60 w U hs h2) (.inr Z) ?_))))))
 rintro U4 L5 v6 W7 an aj ⟨rfl,rfl⟩
 have ai:sW w U U4 [] W7:=aj
 refine oA Z Z (eN (zM ?_))
 have hE:=nB ak;first | subst r | cases hE
 exact ⟨Z,_,(zi Z),U4,_,ai,Z,Z⟩
theorem wKF (p0:List Int) (ae:Option Addr) (ag:Nat) (w:World) (U:PHeap) (hS:St0 w U []) (ap:Sl U 1 ae ag p0.length (nA KL.encI p0)) {r:Bool} (hm:wDd p0=some r):Gv Tryz.prog 63 [.slice ae p0.length ag] w (wBW w [] U (fun U_ L_ v=>v=.bool r/\L_=[])):=by
 unfold wDd at hm
 refine Gv.of Tryz.func63 Z Tryz.ntmps63 Tryz.results63 Z (sR fL1 Z (oA Z Z (eN (sR gBr Z (oM Z Z ?_)))))
 have am:FnOK Tryz.prog U (.func (.func 64) #[] #[]) wQY wQZ wCo:=⟨64,[],[],rfl,Tryz.call64,fun U1 w1 x y vs le hs ha hm=>by obtain rfl:=ha;exact wIr x w1 U1 hs  hm⟩
 refine bnK hm fun x2 h3 aq=>zG 0 Z Z Z Z (zF Z Z Tryz.call61 (zA Z (zA Z zK)) Z) hS (fun hs=>wFu p0 ae ag wCo (.func (.func 64) #[] #[]) w U hs ap am h3) (.inr Z) ?_
 rintro U5 L6 v7 W8 aw an ⟨rfl,rfl⟩
 have ao:sW w U U5 [] W8:=an
 refine oA Z Z (eN (zM ?_))
 have hE:=nB aq;first | subst r | cases hE
 exact ⟨Z,_,(zi Z),U5,_,ao,Z,Z⟩
theorem wEr (p0:List Int) (ap:Option Addr) (aq:Nat) (p1:((Int × Int)->Option Int)) (au:Value) (w:World) (U:PHeap) (hS:St0 w U []) (bC:Sl U 1 ap aq p0.length (nA KL.encI p0)) (bD:FnOK Tryz.prog U au wTp wTq p1) {r:Bool} (hm:wCJ p0 p1=some r):Gv Tryz.prog 95 [.slice ap p0.length aq,au] w (wBW w [] U (fun U_ L_ v=>v=.bool r/\L_=[])):=by
 unfold wCJ at hm
 refine Gv.of Tryz.func95 Z Tryz.ntmps95 Tryz.results95 Z (sR fL1 Z (oA Z Z (eN (zH (sR fL4 Z (oM Z Z (oR Z (zy Z Z zL) (oR Z (Zj Z Z Z) (oA Z Z (eN (zV (yI (fun x4 σ_ w_=>∃ (U_:PHeap),σ_ 0=.slice ap p0.length aq/\σ_ 1=au/\σ_ 5=jV x4/\PHeap.Le U U_/\sW w U U_ [] w_) hm ?_ ?_))))))))))))
 exact ⟨U,Z,Z,Z,(zU _),hS⟩
 rintro x4 bV bW W6 ⟨bk,ak,az,ag,ao,aY⟩ bg ba
 refine zH (sR fL2 Z (oM Z ag (oR Z (Zz Z Z Z) (eN ?_))))
 by_cases aa:0 < x4
 have bb:=bg;rw [if_pos aa] at bb;replace aa:=zI aa
 refine cT Z aa (kN (zH (zV (zH (ZT ZH [3,3,3,3,1,3,3,3,3,1,2,3] (wQu gBd) (by kernel_rfl) ?_)))))
 have ah:=aY.drew
 generalize hw_W21:({ W6 with drawn:=W6.drawn + 1 }:World)=bP at ah ⊢
 refine oM Z az (oM Z ak (oM Z ag (bnK bb fun bi am bE=>?_)))
 have aX:=bC.le ao
 have q:=aX.el (fun _=>rfl) (wBD am)
 obtain ⟨bQ,bS,bu,bz⟩:=q
 refine oR Z (ZQ Z Z bu Z zL zC (wFJ am) (wFT am)) (oL Z (ah.ldC (f:=0) bz (v:=jV bi) Z Z zO Z) (oM Z ak (oM Z ag (oR Z (Zj Z Z Z) (bnK bE fun bj an bF=>?_)))))
 have q:=aX.el (fun _=>rfl) (wBD an)
 obtain ⟨bR,bT,bw,bA⟩:=q
 refine oR Z (ZQ Z Z bw Z zL zC (wFJ an) (wFT an)) (oL Z (ah.ldC (f:=0) bA (v:=jV bj) Z Z zO Z) (bnK bF fun x37 br bG=>?_))
 have bs:=bD.le ao
 refine yF (a:=(bi,bj)) Z Z Z Z Z Z (zA Z (zA Z zK)) ah bs Z br ?_
 rintro ai bO bU bm bL bB ⟨rfl,rfl⟩
 have aZ:sW w U ai [] bm:=bB
 refine oR Z (ze Z Z Z) (eN (ifc bG ?_ ?_))
 intro aj bH
 refine cT Z aj (sR fL1 Z (oA Z Z (eN (zM (zf (zN ?_))))))
 have q:=wAS bH
 obtain ⟨bM,bI,bp⟩:=q
 have q:=ba bM bp
 obtain rfl:=q
 refine zN (zf (zN ?_))
 have hE:=nB bI;first | subst r | cases hE
 exact ⟨Z,_,(zi Z),ai,_,aZ,Z,Z⟩
 intro aj bJ
 refine cF Z aj (Zd (zh (zJ (rR fL3 Z (oM Z ag (oR Z (Zj Z Z Z) (oA Z Z (zk ?_))))))))
 have q:=nB bJ
 obtain rfl:=q
 exact zJ ⟨Z,_,Z,⟨ai,ak,az,Z,(ao.trans bL),aZ⟩⟩
 have be:=bg;rw [if_neg aa] at be;replace aa:=zI aa
 refine cF Z aa (ZD (zb ?_))
 have q:=wAS be
 obtain ⟨bN,bK,bq⟩:=q
 have q:=ba bN bq
 obtain rfl:=q
 refine zb (zz (zJ (sR fL1 Z (oA Z Z (eN (zM ?_))))))
 have hE:=nB bK;first | subst r | cases hE
 exact ⟨Z,_,(zi Z),bk,_,aY,Z,Z⟩
theorem wKG (p0:Int) (p1:Int) (w:World) (U:PHeap) (hS:St0 w U [])  {r:Int} (hm:wEN p0 p1=some r):Gv Tryz.prog 96 [jV p0,jV p1] w (wBW w [] U (fun U_ L_ v=>v=jV r/\L_=[])):=by
 unfold wEN at hm
 refine Gv.of Tryz.func96 Z Tryz.ntmps96 Tryz.results96 Z (sR fL1 Z (oA Z Z (eN (sR gBv Z (oM Z Z (oM Z Z (bnK hm fun x1 h2 am=>zG 0 Z Z Z Z (zF Z Z Tryz.call33 (zA Z (zA Z zK)) Z) hS (fun hs=>wCR p1 p0 w U hs h2) (.inr Z) ?_)))))))
 rintro U4 L5 v6 W7 ao ak ⟨rfl,rfl⟩
 have aj:sW w U U4 [] W7:=ak
 refine oA Z Z (eN (zM ?_))
 have hE:=nB am;first | subst r | cases hE
 exact ⟨Z,_,(zi Z),U4,_,aj,Z,Z⟩
theorem wLy (p0:List Int) (ae:Option Addr) (ag:Nat) (w:World) (U:PHeap) (hS:St0 w U []) (ap:Sl U 1 ae ag p0.length (nA KL.encI p0)) {r:Bool} (hm:wFf p0=some r):Gv Tryz.prog 65 [.slice ae p0.length ag] w (wBW w [] U (fun U_ L_ v=>v=.bool r/\L_=[])):=by
 unfold wFf at hm
 refine Gv.of Tryz.func65 Z Tryz.ntmps65 Tryz.results65 Z (sR fL1 Z (oA Z Z (eN (sR gBr Z (oM Z Z ?_)))))
 have am:FnOK Tryz.prog U (.func (.func 96) #[] #[]) wTp wTq (fun x=>wEN x.1 x.2):=⟨96,[],[],rfl,Tryz.call96,fun U1 w1 x y vs le hs ha hm=>by obtain rfl:=ha;exact wKG x.1 x.2 w1 U1 hs  hm⟩
 refine bnK hm fun x2 h3 aq=>zG 0 Z Z Z Z (zF Z Z Tryz.call95 (zA Z (zA Z zK)) Z) hS (fun hs=>wEr p0 ae ag (fun x=>wEN x.1 x.2) (.func (.func 96) #[] #[]) w U hs ap am h3) (.inr Z) ?_
 rintro U5 L6 v7 W8 aw an ⟨rfl,rfl⟩
 have ao:sW w U U5 [] W8:=an
 refine oA Z Z (eN (zM ?_))
 have hE:=nB aq;first | subst r | cases hE
 exact ⟨Z,_,(zi Z),U5,_,ao,Z,Z⟩
theorem wDM (p0:List Int) (ag:Option Addr) (ao:Nat) (w:World) (U:PHeap) (hS:St0 w U []) (an:Sl U 1 ag ao p0.length (nA KL.encI p0)) {r:(List Int)} (hm:wAt p0=some r):Gv Tryz.prog 57 [.slice ag p0.length ao] w (wBW w [] U (fun U_ L_ v=>∃ (A0:Option Addr) (c0:Nat),v=.slice A0 r.length c0/\L_=[.row A0 c0 3 1 (nA KL.encI r)])):=by
 unfold wAt at hm
 refine Gv.of Tryz.func57 Z Tryz.ntmps57 Tryz.results57 Z (sR fL1 Z (oA Z Z (eN (zH (sR fL2 Z (oM Z Z (oR Z (Runs.eqNil Z Z Z zL) (eN ?_))))))))
 by_cases c1:ag.isNone=true
 replace c1:=zI c1
 have be:p0=[]:=List.eq_nil_of_length_eq_zero (Sl.nilA (Option.isNone_iff_eq_none.1 c1.out ▸ an))
 have bb:(some [])=some r:=by simpa [be,app] using hm
 refine zu (congrArg nK c1.out) (sR fL1 Z (oA Z Z (eN (zM (zN ?_)))))
 have aY:=hS.nilrow 3 1
 cases bb
 exact ⟨Z,_,(zi Z),U,_,aY,none,0,Z,Z⟩
 replace c1:=zI c1
 refine zn (congrArg nK (nM.2 c1.out)) (kN (sR (.fx 0 (.fl 1 gBi) .stop) Z (OKS.buildSlice0 1 Z Z Z Z Z zL zC hS ?_)))
 intro W6 b7 aZ
 have am:sW w U U [.row (some ⟨b7,0,none⟩) 0 3 1 (nA KL.encI ([]:List Int))] W6:=aZ
 refine oM Z Z (bnK hm fun ap aw ba=>OKS.append0 (j:=0) (enc:=KL.encI) (ys:=p0) (zs:=ap) Z Z Z Z Z yK wJz Z Z Z Z Z Z am Z Z Z (am.srcS an) (fun _=>Z) aw ?_)
 intro ai ak aq az
 have aX:sW w U U [.row ai ak 3 1 (nA KL.encI ap)] aq:=az
 refine oA Z Z (eN (zM ?_))
 have hE:=nB ba;first | subst r | cases hE
 exact ⟨Z,_,(zi Z),U,_,aX,ai,ak,Z,Z⟩
theorem wFC (p0:List Int) (ae:Option Addr) (ag:Nat) (p1:(Int->Option Bool)) (aX:Value) (w:World) (U:PHeap) (hS:St0 w U [.row ae ag 3 1 (nA KL.encI p0)]) (bu:FnOK Tryz.prog U aX wQY wQZ p1) {r:(List Int)} (hm:wBL p0 p1=some r):Gv Tryz.prog 98 [.slice ae p0.length ag,aX] w (wBW w [.row ae ag 3 1 (nA KL.encI p0)] U (fun U_ L_ v=>∃ (A0:Option Addr) (c0:Nat),v=.slice A0 r.length c0/\L_=[.row A0 c0 3 1 (nA KL.encI r)])):=by
 unfold wBL at hm
 refine Gv.of Tryz.func98 Z Tryz.ntmps98 Tryz.results98 Z (sR fL1 Z (oA Z Z (eN (sR gBv Z (oM Z Z (oM Z Z ?_))))))
 have q:=hS.freezeT (k:=0) (n:=p0.length) rfl (wAF (f:=KL.encI) (sz:=1) (fun _=>rfl) p0) (by decide)
 obtain ⟨U3,cA,cx,bT,cB⟩:=q
 let B0:Res:=.row ae ag 3 1 (nA KL.encI p0)
 have bV:SW w [B0] U U3 [] w:=bT
 have h8:=bu.le cA
 refine bnK hm fun x9 bJ cg=>zG 0 Z Z Z Z (zF Z Z Tryz.call129 (zA Z (zA Z zK)) Z) bV (fun hs=>wCv p0 ae ag p1 aX w U3 hs cx h8 bJ) (.inr Z) ?_
 rintro bE cD cL bk cy bQ ⟨rfl,rfl⟩
 have bR:SW w [B0] U bE [] bk:=bQ
 have q:=cB _ _ _ cy bR
 obtain ⟨ap,cz,bS⟩:=q
 have br:SW w [B0] U ap [B0] bk:=bS
 refine oA Z Z (eN (zH (sR fL2 Z (oM Z Z (oR Z (ZR Z Z Z) (eN (ifc cg ?_ ?_)))))))
 intro aY ci
 refine cT Z aY (sR fL2 Z (oM Z Z (oA Z Z (eN (zM (zN ?_))))))
 have hE:=nB ci;first | subst r | cases hE
 exact ⟨Z,_,(zi Z),ap,_,br,ae,ag,Z,Z⟩
 intro aY cj
 refine cF Z aY (kN (zH (sR fL3 Z (oM Z Z (oR Z (zZ Z Z Z) (oA Z Z (eN (zV (yI (fun (aa,ah,x37) σ_ w_=>∃ (U_:PHeap),σ_ 0=.slice ae aa.length ag/\σ_ 1=aX/\σ_ 5=jV ah/\σ_ 6=jV x37/\PHeap.Le ap U_/\SW w [B0] U U_ [.row ae ag 3 1 (nA KL.encI aa)] w_/\aa.length=p0.length) cj ?_ ?_)))))))))
 exact ⟨ap,Z,Z,Z,Z,(zU _),br,Z⟩
 rintro ⟨aa,ah,x37⟩ cP cQ cG ⟨bj,am,ba,an,au,be,ao,bp⟩ bb bY
 try dsimp only at bb
 refine zH (sR fL4 Z (oM Z au (oM Z am (oR Z (zy Z Z zL) (oR Z (ze Z Z Z) (eN ?_))))))
 by_cases ak:x37 < (↑aa.length:Int)
 have bA:=bb;rw [if_pos ak] at bA;replace ak:=zI ak
 refine cT Z ak (kN (zH (zV (sR fL5 Z (oM Z am (oM Z au (bnK bA fun _ av cm=>?_)))))))
 have q:=ao.rowSome (j:=0) rfl (by rw [wAF (f:=KL.encI) (sz:=1) (fun _=>rfl) aa];have hz:=wAR av;omega)
 obtain ⟨cH,az⟩:=q
 refine oR Z (ZQ Z Z az Z zL zC (wBk av) (wBl av)) ?_
 have bZ:=wBt (xs:=aa) (wAR av)
 refine zr rfl rfl rfl rfl (ao.ldR (j:=0) rfl az rfl rfl zO (wAs (sz:=1) (fun _=>rfl) _ _ 0 _ bZ (by first | omega | rfl | simp) rfl)) rfl (Ze rfl rfl rfl rfl rfl rfl (eN (sR gBv rfl (zQ rfl rfl rfl rfl rfl ba (zQ rfl rfl rfl rfl rfl rfl (bnK cm fun x60 bK cn=>?_))))))
 have bL:=bu.le cz
 have bM:=bL.le be
 refine yF (a:=(gd aa x37.toNat)) Z Z Z Z Z Z (zA Z zK) ao bM Z bK ?_
 rintro aq cE cM bG bD bU ⟨rfl,rfl⟩
 have bs:SW w [B0] U aq [.row ae ag 3 1 (nA KL.encI aa)] bG:=bU
 refine oR Z (ZX Z Z) (eN (ifc cn ?_ ?_))
 intro aZ cp
 refine zn (nC aZ.out) (Zd (zh (zJ (rR fL3 Z (oM Z au (oR Z (zZ Z Z Z) (oA Z Z (zk ?_))))))))
 have q:=nB cp
 obtain rfl:=q
 exact zJ ⟨Z,_,Z,⟨aq,am,ba,an,Z,(be.trans bD),bs,bp⟩⟩
 intro aZ cq
 refine zu (nF (aZ.out)) (sR (wET (.fx 4 .nil .stop)) Z (oM Z am (oM Z an (oM Z Z (bnK cq fun _ aw cr=>oR Z (ZQ Z Z az Z zL zC (wBk aw) (wBl aw)) ?_)))))
 have cd:=wBt (xs:=aa) (wAR aw)
 refine yX (j:=0) (vs:=[jV (gd aa x37.toNat)]) (cs':=nA KL.encI (nE aa ah.toNat (gd aa x37.toNat))) rfl rfl rfl rfl bs rfl az rfl rfl rfl zC (by rw [wAF (f:=KL.encI) (sz:=1) (fun _=>rfl)];have hz:=wAR aw;show _ + 1 <= _;first | omega | (simp only [nJ];omega) | (simp only [nI,nG,nH];omega)) rfl (wEW (sz:=1) (fo:=0) (fun _=>rfl) _ _ _ _ cd (by first | omega | (simp only [nJ];omega) | (simp only [nI,nG,nH];omega)) (zB rfl) rfl) rfl ?_
 intro bH bW
 have bX:SW w [B0] U aq [.row ae ag 3 1 (nA KL.encI (nE aa ah.toNat (gd aa x37.toNat)))] bH:=bW
 refine eN (rR fL3 Z (oM Z an (oR Z (zZ Z Z Z) (oA Z Z (zk (zh (zJ (rR fL3 Z (oM Z au (oR Z (zZ Z Z Z) (oA Z Z (zk ?_))))))))))))
 have q:=nB cr
 obtain rfl:=q
 exact zJ ⟨rfl,_,rfl,⟨aq,(nL (b:=(.slice ae aa.length ag:Value)) (c:=(.slice ae ((nE aa ah.toNat (gd aa x37.toNat)).length) ag:Value)) am (by simp only [nD])),ba,rfl,rfl,(be.trans bD),bX,(nD.trans bp)⟩⟩
 have bB:=bb;rw [if_neg ak] at bB;replace ak:=zI ak
 refine cF Z ak (ZD (zb ?_))
 have q:=wAS bB
 obtain ⟨cC,ct,bI⟩:=q
 have q:=bY cC bI
 obtain rfl:=q
 refine zb (zz (zJ (sR (wDq (.fx 3 .nil .stop)) Z (oM Z am (oM Z an (bnK ct fun x91 bq cu=>?_))))))
 have q:=wMS bq
 obtain ⟨cJ,bw,bz,cK,cw⟩:=q
 have bC:=ao.rowCap (j:=0) rfl (by decide) (wAF (f:=KL.encI) (sz:=1) (fun _=>rfl) aa)
 refine za (v:=.slice (if ag=(ah:Int).toNat then ae else nR (fun q:Addr=>q.add ((ah:Int).toNat * 1)) (ae:Option Addr)) (((aa.length:Nat):Int).toNat - (ah:Int).toNat) (ag - (ah:Int).toNat)) rfl rfl rfl rfl (fun _=>Runs.slc (sz:=1) (a:=ah) (b:=((aa.length:Nat):Int)) rfl rfl (.inl ⟨_,rfl,rfl⟩) (.inr ⟨rfl,rfl⟩) zL zC bw bz (nQ _) bC) (OKS.clearTail (j:=0) (a:=ah) (f:=KL.encI) (m:=aa) (zs:=x91) rfl rfl rfl rfl ao rfl (fun _=>rfl) (by decide) bq rfl zL Zx rfl rfl rfl ?_)
 intro bF bO
 have bP:SW w [B0] U bj [.row ae ag 3 1 (nA KL.encI x91)] bF:=bO
 refine eN (sR fL4 rfl (zQ rfl rfl rfl rfl rfl am (zQ rfl rfl rfl rfl rfl an (za (v:=.slice ae x91.length ag) rfl rfl rfl rfl (fun _=>zw (Runs.slc (sz:=1) (a:=0) (b:=ah) rfl rfl (.inr ⟨rfl,rfl⟩) (.inl ⟨_,rfl,rfl⟩) zL zC (nQ _) bw bz bC) (slcK.trans (by rw [cw]))) (Ze rfl rfl rfl rfl rfl rfl (eN (zM ?_)))))))
 have hE:=nB cu;first | subst r | cases hE
 exact ⟨Z,_,(zi Z),bj,_,bP,ae,ag,Z,Z⟩
set_option maxHeartbeats 4000000
theorem wKH (p0:Int) (w:World) (U:PHeap) (hS:St0 w U [])  {r:Bool} (hm:wDe p0=some r):Gv Tryz.prog 99 [jV p0] w (wBW w [] U (fun U_ L_ v=>v=.bool r/\L_=[])):=by
 unfold wDe at hm
 refine Gv.of Tryz.func99 Z Tryz.ntmps99 Tryz.results99 Z (sR fL1 Z (oA Z Z (eN (sR fL3 Z (oM Z Z (oR Z (ZR Z Z Z) (oA Z Z (eN (zM ?_)))))))))
 first | (obtain rfl:=nB hm) | cases hm
 exact ⟨Z,_,(zi Z),U,_,hS,Z,Z⟩
theorem wEj (p0:List Int) (ae:Option Addr) (ag:Nat) (w:World) (U:PHeap) (hS:St ⟨w,[.row ae ag 3 1 (nA KL.encI p0)],U⟩ U [.row ae ag 3 1 (nA KL.encI p0)] w) {r:List Int} (hm:wBx p0=some r):Gv Tryz.prog 100 [.slice ae p0.length ag] w (wBW w [.row ae ag 3 1 (nA KL.encI p0)] U (fun U_ L_ v=>v=.tuple #[]/\L_=[.row ae ag 3 1 (nA KL.encI r)]/\r.length=p0.length)) :=
 wQA (fun b o c zs w h1 h2 h3=>Go.Proofs.Tryz.slices_Sort_int b o c zs w h1 h2 h3) (fun p c w=>Go.Proofs.Tryz.slices_Sort_int_none p c w) hS hm
theorem wLz (p0:List Int) (bm:Option Addr) (bp:Nat) (w:World) (U:PHeap) (hS:St0 w U []) (bZ:Sl U 1 bm bp p0.length (nA KL.encI p0)) {r:Bool} (hm:wDx p0=some r):Gv Tryz.prog 67 [.slice bm p0.length bp] w (wBW w [] U (fun U_ L_ v=>v=.bool r/\L_=[])):=by
 unfold wDx at hm
 refine Gv.of Tryz.func67 Z Tryz.ntmps67 Tryz.results67 Z (sR fL1 Z (oA Z Z (eN (sR (.fl 0 (.fx 1 gBi .stop)) Z (oM Z Z (bnK hm fun x1 h2 cn=>zG 0 Z Z Z Z (zF Z Z Tryz.call57 (zA Z zK) Z) hS (fun hs=>wDM p0 bm bp w U hs bZ h2) (.inr Z) ?_))))))
 rintro U4 L5 v6 W7 cW bY ⟨bq,bz,rfl,rfl⟩
 have bT:sW w U U4 [.row bq bz 3 1 (nA KL.encI x1)] W7:=bY
 have bR:FnOK Tryz.prog U4 (.func (.func 99) #[] #[]) wQY wQZ wDe:=⟨99,[],[],rfl,Tryz.call99,fun U1 w1 x y vs le hs ha hm=>by obtain rfl:=ha;exact wKH x w1 U1 hs  hm⟩
 refine bnK cn fun aw bP cm=>zG 1 Z Z Z Z (zF Z Z Tryz.call98 (zA Z (zA Z zK)) Z) bT (fun hs=>wFC x1 bq bz wDe (.func (.func 99) #[] #[]) W7 U4 hs bR bP) (.inl Z) ?_
 rintro bs cJ cY bu cU bU ⟨ae,ag,rfl,rfl⟩
 have bV:sW w U bs [.row ae ag 3 1 (nA KL.encI aw)] bu:=bU
 refine oA Z Z (eN (sR gBh Z (oM Z Z (bnK cm fun x28 bQ av=>zG 1 Z Z Z Z (zF Z Z Tryz.call100 (zA Z zK) Z) bV (fun hs=>wEj aw ae ag bu bs hs bQ) (.inl Z) ?_))))
 rintro az cK cZ bI cV bW ⟨rfl,rfl,bC⟩
 let B0:Res:=.row ae ag 3 1 (nA KL.encI x28)
 have bX:sW w U az [B0] bI:=bW
 refine eN (sR fL1 rfl (Ze rfl rfl rfl rfl rfl rfl (eN (zH (sR fL3 rfl (zQ rfl rfl rfl rfl rfl (nL (b:=(.slice ae aw.length ag:Value)) (c:=(.slice ae x28.length ag:Value)) rfl (by rw [bC])) (za rfl rfl rfl rfl (fun _=>zy rfl rfl zL) (zQ rfl rfl rfl rfl rfl rfl (eN (zV ?_))))))))))
 have q:=wDo av
 obtain ⟨cX,au⟩:=q
 have q:=wDn au
 obtain ⟨bj,cg⟩:=q
 replace bj:=zI bj
 refine yS (fun ak x44 σ_ w_=>∃ (U_:PHeap),σ_ 14=jV (↑ak:Int)/\σ_ 3=.slice ae x28.length ag/\σ_ 4=jV x44/\σ_ 12=.slice ae x28.length ag/\σ_ 13=jV (↑x28.length:Int)/\PHeap.Le az U_/\sW w U U_ [B0] w_) cg ?_ ?_ ?_
 exact ⟨az,rfl,(nL (b:=(.slice ae aw.length ag:Value)) (c:=(.slice ae x28.length ag:Value)) rfl (by rw [bC])),rfl,rfl,rfl,(zU _),bX⟩
 rintro ak x44 db df cM bi ⟨aj,ai,an,bb,ao,ap,bk,ah⟩ cD bD
 have bA:Hid ((↑ak:Int) < (↑x28.length:Int)):=zI (wBq bi)
 replace bi:=zI bi
 have bh:Hid (w64 ((↑ak:Int) + 1)=(↑(ak + 1):Int)):=zI (by have h1:=bj.out;have h2:=bA.out;rw [wAT] <;> omega)
 refine sR fL1 Z (oR Z (ze Z ai ap) (eN (zH (cT Z bA (kN (zH (zV (sR fL5 Z (oM Z ai (bnK cD fun _ be cp=>?_))))))))))
 have q:=ah.rowSome (j:=0) rfl (by rw [wAF (f:=KL.encI) (sz:=1) (fun _=>rfl) x28];have hz:=wAR be;omega)
 obtain ⟨cP,aq⟩:=q
 refine oR Z (ZZ Z ao aq ai zL zC (wAR be)) ?_
 have ci:=wBt (xs:=x28) (wAR be)
 refine zr rfl rfl rfl rfl (ah.ldR (j:=0) rfl aq rfl rfl zO (wAs (sz:=1) (fun _=>rfl) _ _ 0 _ ci (by first | omega | rfl | simp) rfl)) rfl (Ze rfl rfl rfl rfl rfl rfl (Ze rfl rfl rfl rfl rfl rfl (eN (zH (sR fL11 rfl (zQ rfl rfl rfl rfl rfl rfl (za rfl rfl rfl rfl (fun _=>ZR rfl rfl rfl) (zQ rfl rfl rfl rfl rfl rfl (ifc cp ?_ ?_)))))))))
 intro aa cq
 refine oT Z aa (oT Z aa (oT Z aa (oT Z aa (oT Z aa (oT Z aa (oT Z aa (oR Z (zj Z (ZU aa.out) Z) (eN (zu Z (zH (sR fL3 Z (oM Z Z (oM Z bb (oR Z (ze Z Z Z) (eN (ifc cq ?_ ?_))))))))))))))))
 intro aY cr
 refine cT Z aY (sR fL1 Z (oA Z Z (eN (zM (zN (zN (zf (zN ?_))))))))
 have q:=wAS cr
 obtain ⟨cE,ct,bK⟩:=q
 have q:=wCa av au (bD cE bK)
 obtain rfl:=q
 refine zN (zf (zN ?_))
 have hE:=nB ct;first | subst r | cases hE
 exact ⟨rfl,_,(zi rfl),aj,_,(ah.pick [] _ (by decide) rfl),rfl,rfl⟩
 intro aY cu
 refine cF Z aY (kN (rR fL2 Z (oM Z Z (oA Z Z (eN (rR fL3 Z (oM Z Z (oR Z (zZ Z Z Z) (oA Z Z (zk (zh (zJ (rR fL2 Z (oR Z (zw (zZ Z ai Z) (congrArg (jV) bh.out)) (oM Z Z (zk ?_))))))))))))))))
 have q:=nB cu
 obtain rfl:=q
 exact zJ ⟨Z,_,Z,⟨aj,Z,an,Z,ao,ap,bk,ah⟩⟩
 intro aa cw
 refine zQ Z Z Z (wF Z aa) Z Z (zQ Z Z Z (wF Z aa) Z an (zQ Z Z Z (wF Z aa) Z Z (rU Z (wF Z aa) (Zj Z Z Z) (bnK cw fun _ bg cx=>rU Z (wF Z aa) (ZQ Z Z aq Z zL zC (wBk bg) (wBl bg)) ?_))))
 have cj:=wBt (xs:=x28) (wAR bg)
 refine zr rfl rfl rfl (zS rfl rfl (ZI aa.out)) (ah.ldR (j:=0) rfl aq rfl rfl zO (wAs (sz:=1) (fun _=>rfl) _ _ 0 _ cj (by first | omega | rfl | simp) rfl)) rfl (za rfl rfl rfl (zS rfl rfl (ZI aa.out)) (fun _=>Zs rfl rfl rfl) (za rfl rfl rfl rfl (fun _=>zR rfl (ZI aa.out) rfl) (eN (ifc cx ?_ ?_))))
 intro aZ cy
 refine zn (ZI (fun h=>h aZ.out)) (kN (rR fL3 Z (oM Z bb (oR Z (zZ Z Z Z) (oA Z Z (zk (zh (zJ (rR fL2 Z (oR Z (zw (zZ Z ai Z) (congrArg (jV) bh.out)) (oM Z Z (zk ?_))))))))))))
 have q:=nB cy
 obtain rfl:=q
 exact zJ ⟨Z,_,Z,⟨aj,Z,an,Z,ao,ap,bk,ah⟩⟩
 intro aZ cz
 refine cT Z aZ (zH (sR fL3 Z (oM Z Z (oM Z bb (oR Z (ze Z Z Z) (eN (ifc cz ?_ ?_)))))))
 intro ba cA
 refine cT Z ba (sR fL1 Z (oA Z Z (eN (zM (zN (zN (zf (zN ?_))))))))
 have q:=wAS cA
 obtain ⟨cG,cB,bL⟩:=q
 have q:=wCa av au (bD cG bL)
 obtain rfl:=q
 refine zN (zf (zN ?_))
 have hE:=nB cB;first | subst r | cases hE
 exact ⟨rfl,_,(zi rfl),aj,_,(ah.pick [] _ (by decide) rfl),rfl,rfl⟩
 intro ba cC
 refine cF Z ba (kN (rR fL2 Z (oM Z Z (oA Z Z (eN (rR fL3 Z (oM Z Z (oR Z (zZ Z Z Z) (oA Z Z (zk (zh (zJ (rR fL2 Z (oR Z (zw (zZ Z ai Z) (congrArg (jV) bh.out)) (oM Z Z (zk ?_))))))))))))))))
 have q:=nB cC
 obtain rfl:=q
 exact zJ ⟨Z,_,Z,⟨aj,Z,an,Z,ao,ap,bk,ah⟩⟩
 rintro de dg cN ⟨bH,bO,cQ,bM,cR,bN,cS,bS⟩ cd
 have bE:=wEt av au cd
 have bJ:Hid (¬ ((↑(((↑x28.length:Int):Int) - 0).toNat:Int) < (↑x28.length:Int))):=zI (wBH)
 refine sR fL1 Z (oR Z (ze Z bO bN) (eN (zH (cF Z bJ (ZD (zb (zb (zz (zJ (sR fL3 Z (oM Z bM (oR Z (Zz Z Z Z) (oA Z Z (eN (zM ?_)))))))))))))))
 first | (obtain rfl:=nB bE) | cases bE
 exact ⟨rfl,_,(zi rfl),bH,_,(bS.pick [] _ (by decide) rfl),rfl,rfl⟩
theorem wIs (p0:wAU) (an:Option Addr) (ao:Nat) (ak:Option Addr) (am:Nat) (w:World) (U:PHeap) (hS:St0 w U []) (dw:Sl U 1 an ao p0.Points.length (nA KL.encI p0.Points)) (dx:SlR U wEH ak am p0.Done) {r:Int} (hm:wEY p0=some r):Gv Tryz.prog 28 [.agg #[jV p0.Skiers,jV p0.Races,jV p0.Best,.slice an p0.Points.length ao,.slice ak p0.Done.length am]] w (wBW w [] U (fun U_ L_ v=>v=jV r/\L_=[])):=by
 unfold wEY at hm
 refine Gv.of Tryz.func28 Z Tryz.ntmps28 Tryz.results28 Z (sR gBf Z ?_)
 let B0:List Value:=[jV p0.Skiers,jV p0.Races,jV p0.Best,.slice an p0.Points.length ao,.slice ak p0.Done.length am]
 refine ZA (cs:=B0) rfl rfl rfl rfl rfl rfl (by rfl) hS ?_
 intro W1 b2 dm
 have q:=dm.freeze (k:=0) rfl
 obtain ⟨U5,ct,av,du⟩:=q
 replace av:=Cl.of av
 have cp:sW w U U5 [] W1:=du
 replace av:Cl U5 b2 0 B0:=av
 refine oA Z Z (eN (zH (zV (sR (.fl 0 (.fl 1 (.fx 2 (wTY (.fx 7 (wVe (.fx 15 (wTf (.nil)) .stop)) .stop)) .stop))) Z (oR Z (zD Z Z zY Z zC) (oL Z (cp.ldC (f:=0) av (v:=jV p0.Skiers) Z Z zO Z) (bnK hm fun eR cx dA=>zG 0 Z Z Z Z (zF Z Z Tryz.call58 (zA Z (zA Z (zA Z zK))) Z) cp (fun hs=>wEF p0.Skiers 1 12 W1 U5 hs cx) (.inr Z) ?_)))))))
 rintro bh ew eJ bS bI dh ⟨rfl,rfl⟩
 have bD:sW w U bh [] bS:=dh
 refine oR Z (ZX Z Z) (oM Z Z (ifc dA ?_ ?_))
 intro aj dP
 refine za Z Z Z (zS Z Z (nC aj.out)) (fun _=>zD Z Z zY Z zC) ?_
 have cd:=av.le bI
 refine zr Z Z Z (zS Z Z (nC aj.out)) (bD.ldC (f:=1) cd (v:=jV p0.Races) Z Z zO Z) Z (bnK dP fun x23 cH dQ=>zG 0 Z Z Z (zS Z Z (nC aj.out)) (zF Z Z Tryz.call58 (zA Z (zA Z (zA Z zK))) Z) bD (fun hs=>wEF p0.Races 1 20 bS bh hs cH) (.inr Z) ?_)
 rintro bj eA eK bT bJ dp ⟨rfl,rfl⟩
 have be:sW w U bj [] bT:=dp
 refine za Z Z Z (zS Z Z (nC aj.out)) (fun _=>ZX Z Z) (oR Z (zR Z (nC aj.out) Z) (oM Z Z (ifc dQ ?_ ?_)))
 intro ae dR
 refine za Z Z Z (zS Z Z (nC ae.out)) (fun _=>zD Z Z zY Z zC) ?_
 have bw:=cd.le bJ
 refine zr Z Z Z (zS Z Z (nC ae.out)) (be.ldC (f:=2) bw (v:=jV p0.Best) Z Z zO Z) Z (za Z Z Z (zS Z Z (nC ae.out)) (fun _=>zD Z Z zY Z zC) (zr Z Z Z (zS Z Z (nC ae.out)) (be.ldC (f:=1) bw (v:=jV p0.Races) Z Z zO Z) Z (bnK dR fun eU cJ dS=>zG 0 Z Z Z (zS Z Z (nC ae.out)) (zF Z Z Tryz.call58 (zA Z (zA Z (zA Z zK))) Z) be (fun hs=>wEF p0.Best 1 p0.Races bT bj hs cJ) (.inr Z) ?_)))
 rintro bk eB eM bU bK dr ⟨rfl,rfl⟩
 have bE:sW w U bk [] bU:=dr
 refine za Z Z Z (zS Z Z (nC ae.out)) (fun _=>ZX Z Z) (oR Z (zR Z (nC ae.out) Z) (oA Z Z (eN (ifc dS ?_ ?_))))
 intro bs dT
 refine zn (nC bs.out) (sR (wDq (.fx 3 (wVa (.fx 17 (wTg (.nil)) .stop)) .stop)) Z (oR Z (zD Z Z zY Z Zc) ?_))
 have cg:=bw.le bK
 refine oL Z (bE.ldC (f:=3) cg (v:=.slice an p0.Points.length ao) Z Z yB Z) (oR Z (zy Z Z zL) (bnK dT fun x49 cK dU=>zG 0 Z Z Z Z (zF Z Z Tryz.call58 (zA Z (zA Z (zA Z zK))) Z) bE (fun hs=>wEF (↑p0.Points.length:Int) 1 60 bU bk hs cK) (.inr Z) ?_))
 rintro az eC eO bV bL dt ⟨rfl,rfl⟩
 have aw:sW w U az [] bV:=dt
 refine oR Z (ZX Z Z) (oM Z Z (ifc dU ?_ ?_))
 intro ag dV
 refine za Z Z Z (zS Z Z (nC ag.out)) (fun _=>zD Z Z zY Z ZV) ?_
 have aX:=cg.le bL
 refine zr Z Z Z (zS Z Z (nC ag.out)) (aw.ldC (f:=4) aX (v:=.slice ak p0.Done.length am) Z Z Zq Z) Z (za Z Z Z (zS Z Z (nC ag.out)) (fun _=>zy Z Z zx) (za Z Z Z (zS Z Z (nC ag.out)) (fun _=>zD Z Z zY Z zC) (zr Z Z Z (zS Z Z (nC ag.out)) (aw.ldC (f:=1) aX (v:=jV p0.Races) Z Z zO Z) Z (za Z Z Z (zS Z Z (nC ag.out)) (fun _=>Zz Z Z Z) (oR Z (zR Z (nC ag.out) Z) (oM Z Z (ifc dV ?_ ?_)))))))
 intro ah dW
 refine oT Z ah (oT Z ah (oT Z ah (ZO Z Z Z (zW Z Z (ZU ah.out) Z) (oT Z ah (oR Z (zj Z (ZU ah.out) Z) (oA Z Z (eN (zu Z (sR fL1 Z (oA Z Z (eN (zM (zf (zN ?_))))))))))))))
 cases dW
 exact ⟨Z,_,(zi Z),az,_,aw,Z,Z⟩
 intro ah dX
 refine rU Z (wF Z ah) (zD Z Z zY Z ZV) (zr Z Z Z (wF Z ah) (aw.ldC (f:=4) aX (v:=.slice ak p0.Done.length am) Z Z Zq Z) Z (rU Z (wF Z ah) (yD Z zK (zA Z zK)) ?_))
 have cL:=dx.le ct
 have cM:=cL.le bI
 have cN:=cM.le bJ
 have cP:=cN.le bK
 have bz:=cP.le bL
 have cQ:=dw.le ct
 have cR:=cQ.le bI
 have cS:=cR.le bJ
 have cU:=cS.le bK
 have ci:=cU.le bL
 have cZ:FnOK Tryz.prog az (.func (.func 60) #[] #[.pointer (some ⟨b2,0,none⟩)]) wKw wKx (fun x=>wDa x p0):=⟨60,[],[.pointer (some ⟨b2,0,none⟩)],rfl,Tryz.call60,fun U1 w1 x y vs le hs ha hm=>by obtain ⟨pA_0,pc_0,rfl,hq0_0⟩:=ha;exact wKD x pA_0 pc_0 p0 b2 an ao ak am w1 U1 hs hq0_0 (aX.le le) (ci.le le) (bz.le le) hm⟩
 refine bnK dX fun eV cV dY=>zG 0 Z Z Z (wF Z ah) (zF Z Z Tryz.call59 (zA Z (zA Z zK)) Z) aw (fun hs=>wHO p0.Done ak am (fun x=>wDa x p0) (.func (.func 60) #[] #[.pointer (some ⟨b2,0,none⟩)]) bV az hs bz cZ cV) (.inr Z) ?_
 rintro aZ eD eP bW bM dv ⟨rfl,rfl⟩
 have bF:sW w U aZ [] bW:=dv
 refine rU Z (wF Z ah) (ZX Z Z) (oR Z (zR Z (ZI ah.out) Z) (oA Z Z (eN (ifc dY ?_ ?_))))
 intro bu dZ
 refine zn (nC bu.out) (zH (CK.fresh fun ep cq=>?_))
 have bb:ep 1=.pointer (some ⟨b2,0,none⟩):=(cq 1).trans rfl
 clear cq
 refine rR (.fl 0 (.fl 1 (.fx 2 (wTY (.fx 7 (wVc (.nil)) .stop)) .stop))) Z (oR Z (zD Z bb zY Z Zc) ?_)
 have cj:=aX.le bM
 refine oL Z (bF.ldC (f:=3) cj (v:=.slice an p0.Points.length ao) Z Z yB Z) ?_
 have cm:=ci.le bM
 have da:FnOK Tryz.prog aZ (.func (.func 62) #[] #[]) wQY wQZ wDc:=⟨62,[],[],rfl,Tryz.call62,fun U1 w1 x y vs le hs ha hm=>by obtain rfl:=ha;exact wKE x w1 U1 hs  hm⟩
 refine bnK dZ fun x94 cW eh=>zG 0 Z Z Z Z (zF Z Z Tryz.call61 (zA Z (zA Z zK)) Z) bF (fun hs=>wFu p0.Points an ao wDc (.func (.func 62) #[] #[]) bW aZ hs cm da cW) (.inr Z) ?_
 rintro ba eE eQ bP bG db ⟨rfl,rfl⟩
 have bA:sW w U ba [] bP:=db
 refine oR Z (ZX Z Z) (oM Z Z (ifc eh ?_ ?_))
 intro ai dy
 refine za Z Z Z (zS Z Z (nC ai.out)) (fun _=>zD Z bb zY Z ZV) ?_
 have bX:=cj.le bG
 refine zr Z Z Z (zS Z Z (nC ai.out)) (bA.ldC (f:=4) bX (v:=.slice ak p0.Done.length am) Z Z Zq Z) Z ?_
 have cw:=bz.le bM
 have bY:=cw.le bG
 have cX:FnOK Tryz.prog ba (.func (.func 63) #[] #[]) wKw wKx wDd:=⟨63,[],[],rfl,Tryz.call63,fun U1 w1 x y vs le hs ha hm=>by obtain ⟨pA_0,pc_0,rfl,hq0_0⟩:=ha;exact wKF x pA_0 pc_0 w1 U1 hs hq0_0 hm⟩
 refine bnK dy fun x110 cy dz=>zG 0 Z Z Z (zS Z Z (nC ai.out)) (zF Z Z Tryz.call59 (zA Z (zA Z zK)) Z) bA (fun hs=>wHO p0.Done ak am wDd (.func (.func 63) #[] #[]) bP ba hs bY cX cy) (.inr Z) ?_
 rintro bg er eG bQ bH de ⟨rfl,rfl⟩
 have bB:sW w U bg [] bQ:=de
 refine za Z Z Z (zS Z Z (nC ai.out)) (fun _=>ZX Z Z) (oR Z (zR Z (nC ai.out) Z) (oA Z Z (eN (ifc dz ?_ ?_))))
 intro bp dB
 refine zn (nC bp.out) (sR gBw Z (oR Z (zD Z bb zY Z Zc) ?_))
 have bZ:=bX.le bH
 refine oL Z (bB.ldC (f:=3) bZ (v:=.slice an p0.Points.length ao) Z Z yB Z) ?_
 have cz:=cm.le bG
 have cA:=cz.le bH
 refine bnK dB fun eS cB dC=>zG 0 Z Z Z Z (zF Z Z Tryz.call65 (zA Z zK) Z) bB (fun hs=>wLy p0.Points an ao bQ bg hs cA cB) (.inr Z) ?_
 rintro aY eu eH bR cr df ⟨rfl,rfl⟩
 have bC:sW w U aY [] bR:=df
 refine oR Z (ZX Z Z) (oA Z Z (eN (ifc dC ?_ ?_)))
 intro bq dD
 refine zn (nC bq.out) (sR gBv Z (oR Z (zD Z bb zY Z ZV) ?_))
 have cC:=bZ.le cr
 refine oL Z (bC.ldC (f:=4) cC (v:=.slice ak p0.Done.length am) Z Z Zq Z) ?_
 have cD:=bY.le bH
 have cE:=cD.le cr
 have cY:FnOK Tryz.prog aY (.func (.func 67) #[] #[]) wKw wKx wDx:=⟨67,[],[],rfl,Tryz.call67,fun U1 w1 x y vs le hs ha hm=>by obtain ⟨pA_0,pc_0,rfl,hq0_0⟩:=ha;exact wLz x pA_0 pc_0 w1 U1 hs hq0_0 hm⟩
 refine bnK dD fun eT cG dE=>zG 0 Z Z Z Z (zF Z Z Tryz.call66 (zA Z (zA Z zK)) Z) bC (fun hs=>wDF p0.Done ak am wDx (.func (.func 67) #[] #[]) bR aY hs cE cY cG) (.inr Z) ?_
 rintro bi ey eI cu eF dg ⟨rfl,rfl⟩
 have cn:sW w U bi [] cu:=dg
 refine oA Z Z (eN (ifc dE ?_ ?_))
 intro br dF
 refine zu (congrArg nK br.out) (sR fL1 Z (oA Z Z (eN (zM (zf (zN ?_))))))
 cases dF
 exact ⟨Z,_,(zi Z),bi,_,cn,Z,Z⟩
 intro br dG
 refine zn (congrArg nK (nM.2 br.out)) (Zd (zh (zJ (sR fL1 Z (oA Z Z (eN (zM ?_)))))))
 cases dG
 exact ⟨Z,_,(zi Z),bi,_,cn,Z,Z⟩
 intro bq dH
 refine zu (nF (bq.out)) (sR fL1 Z (oA Z Z (eN (zM (zf (zN ?_))))))
 cases dH
 exact ⟨Z,_,(zi Z),aY,_,bC,Z,Z⟩
 intro bp dI
 refine zu (nF (bp.out)) (sR fL1 Z (oA Z Z (eN (zM (zf (zN ?_))))))
 cases dI
 exact ⟨Z,_,(zi Z),bg,_,bB,Z,Z⟩
 intro ai dJ
 refine zp Z Z Z (zW Z Z (nF (ai.out)) Z) (zp Z Z Z (zW Z Z (nF (ai.out)) Z) (ZO Z Z Z (zW Z Z (nF (ai.out)) Z) (zp Z Z Z (zW Z Z (nF (ai.out)) Z) (oR Z (zj Z (nF (ai.out)) Z) (oA Z Z (eN (zu Z (sR fL1 Z (oA Z Z (eN (zM (zf (zN ?_)))))))))))))
 cases dJ
 exact ⟨Z,_,(zi Z),ba,_,bA,Z,Z⟩
 intro bu dK
 refine zu (nF (bu.out)) (sR fL1 Z (oA Z Z (eN (zM (zf (zN ?_))))))
 cases dK
 exact ⟨Z,_,(zi Z),aZ,_,bF,Z,Z⟩
 intro ag dL
 refine zp Z Z Z (zW Z Z (nF (ag.out)) Z) (zp Z Z Z (zW Z Z (nF (ag.out)) Z) (zp Z Z Z (zW Z Z (nF (ag.out)) Z) (zp Z Z Z (zW Z Z (nF (ag.out)) Z) (zp Z Z Z (zW Z Z (nF (ag.out)) Z) (zp Z Z Z (zW Z Z (nF (ag.out)) Z) (oR Z (zj Z (nF (ag.out)) Z) (oM Z Z (oN Z (oN Z (oN Z (ZO Z Z Z (zW Z Z Z Z) (oN Z (oR Z (zj Z Z Z) (oA Z Z (eN (zu Z (sR fL1 Z (oA Z Z (eN (zM (zf (zN ?_))))))))))))))))))))))
 cases dL
 exact ⟨Z,_,(zi Z),az,_,aw,Z,Z⟩
 intro bs dM
 refine zu (nF (bs.out)) (sR fL1 Z (oA Z Z (eN (zM (zf (zN ?_))))))
 cases dM
 exact ⟨Z,_,(zi Z),bk,_,bE,Z,Z⟩
 intro ae dN
 refine zp Z Z Z (zW Z Z (nF (ae.out)) Z) (zp Z Z Z (zW Z Z (nF (ae.out)) Z) (zp Z Z Z (zW Z Z (nF (ae.out)) Z) (zp Z Z Z (zW Z Z (nF (ae.out)) Z) (ZO Z Z Z (zW Z Z (nF (ae.out)) Z) (zp Z Z Z (zW Z Z (nF (ae.out)) Z) (oR Z (zj Z (nF (ae.out)) Z) (oA Z Z (eN (zu Z (sR fL1 Z (oA Z Z (eN (zM (zf (zN ?_)))))))))))))))
 cases dN
 exact ⟨Z,_,(zi Z),bj,_,be,Z,Z⟩
 intro aj dO
 refine zp Z Z Z (zW Z Z (nF (aj.out)) Z) (zp Z Z Z (zW Z Z (nF (aj.out)) Z) (ZO Z Z Z (zW Z Z (nF (aj.out)) Z) (zp Z Z Z (zW Z Z (nF (aj.out)) Z) (oR Z (zj Z (nF (aj.out)) Z) (oM Z Z (oN Z (oN Z (oN Z (oN Z (ZO Z Z Z (zW Z Z Z Z) (oN Z (oR Z (zj Z Z Z) (oA Z Z (eN (zu Z (sR fL1 Z (oA Z Z (eN (zM (zf (zN ?_)))))))))))))))))))))
 cases dO
 exact ⟨Z,_,(zi Z),bh,_,bD,Z,Z⟩
theorem wFn (p0:wAU) (ag:Option Addr) (ai:Nat) (ah:Option Addr) (aj:Nat) (w:World) (U:PHeap) (hS:St0 w U []) (aY:Sl U 1 ag ai p0.Points.length (nA KL.encI p0.Points)) (aZ:SlR U wEH ah aj p0.Done) {r:wAQ × Int} (hm:wCg p0=some r):Gv Tryz.prog 26 [.agg #[jV p0.Skiers,jV p0.Races,jV p0.Best,.slice ag p0.Points.length ai,.slice ah p0.Done.length aj]] w (wBW w [] U (fun U_ L_ v=>∃ (an:Option Addr) (au:Nat) (ao:Option Addr) (av:Nat),v=.tuple #[.agg #[jV r.1.Cup.Skiers,jV r.1.Cup.Races,jV r.1.Cup.Best,.slice an r.1.Cup.Points.length au,.slice ao r.1.Cup.Done.length av],jV r.2]/\L_=[]/\Sl U_ 1 an au r.1.Cup.Points.length (nA KL.encI r.1.Cup.Points)/\SlR U_ wEH ao av r.1.Cup.Done)):=by
 unfold wCg at hm
 refine Gv.of Tryz.func26 Z Tryz.ntmps26 Tryz.results26 Z (sR gBo Z ?_)
 let B0:List Value:=[jV p0.Skiers,jV p0.Races,jV p0.Best,.slice ag p0.Points.length ai,.slice ah p0.Done.length aj]
 refine ZA (cs:=B0) rfl rfl rfl rfl rfl rfl (by rfl) hS ?_
 intro W1 b2 bp
 let B1:List Value:=[jV 0,jV 0,jV 0,.slice none 0 0,.slice none 0 0]
 refine zq (cs:=B1) Z Z Z Z Z yG Z bp ?_
 intro W5 b6 aX
 refine oA Z Z (eN (sR gBr Z (oL Z (aX.ldBA (j:=1) Z Z Z ZG zX (vs:=B0) Z Z) (bnK hm fun x9 bh bq=>zG 0 Z Z Z Z (zF Z Z Tryz.call28 (zA Z zK) Z) aX (fun hs=>wIs p0 ag ai ah aj W5 U hs aY aZ bh) (.inr Z) ?_))))
 rintro am bs bw bb ba bk ⟨rfl,rfl⟩
 have aw:sW w U am [.blk b6 87 B1,.blk b2 29 B0] bb:=bk
 refine oA Z Z (eN (sR (wDq gBj) Z (oL Z (aw.ldBA (j:=1) Z Z Z ZG zX (vs:=B0) Z Z) (oR Z (Zi (pv:=[(0,.agg B0.toArray)]) (z:=B1) (cs:=B0) Z (wAK Z wAb) yG wMo Z Z) (oM Z Z (zo (j:=0) (vs:=B0) Z Z Z Z aw Z Z Z Z ZP (zB Z) Z Z Z ?_))))))
 intro be bm
 have az:sW w U am [.blk b6 87 B0,.blk b2 29 B0] be:=bm
 refine oA Z Z (eN (zM ?_))
 have bi:=aY.le ba
 have bj:=aZ.le ba
 cases bq
 exact ⟨rfl,_,(wHs (rs:=[.cell 2 87,.tmp 3]) (vs:=[.agg B0.toArray,jV x9]) ⟨⟨_,rfl,(wEL Zo ZP (az.blkAt (k:=0) rfl) (vs:=B0) rfl rfl)⟩,⟨rfl,trivial⟩⟩ rfl),am,_,(az.pick [] _ (by decide) rfl),ag,ai,ah,aj,rfl,rfl,bi,bj⟩
theorem wFD (p0:wAQ) (bg:Option Addr) (bh:Nat) (aZ:Option Addr) (ba:Nat) (p1:List (List Int)) (cx:Option Addr) (cy:Nat) (w:World) (U:PHeap) (hS:St0 w U []) (dM:Sl U 1 bg bh p0.Cup.Points.length (nA KL.encI p0.Cup.Points)) (dN:SlR U wEH aZ ba p0.Cup.Done) (dO:SlR U wEH cx cy p1) {r:wAQ} (hm:wBy p0 p1=some r):Gv Tryz.prog 27 [.agg #[jV p0.Cup.Skiers,jV p0.Cup.Races,jV p0.Cup.Best,.slice bg p0.Cup.Points.length bh,.slice aZ p0.Cup.Done.length ba],.slice cx p1.length cy] w (wBW w [] U (fun U_ L_ v=>∃ (bG:Option Addr) (bS:Nat) (bH:Option Addr) (bT:Nat) (bW:List Value),v=.agg #[jV r.Cup.Skiers,jV r.Cup.Races,jV r.Cup.Best,.slice bG r.Cup.Points.length bS,.slice bH r.Cup.Done.length bT]/\L_=[.row bG bS 3 1 (nA KL.encI r.Cup.Points),.row bH bT 26 1 bW]/\RlL U_ wEH r.Cup.Done bW)):=by
 unfold wBy at hm
 refine Gv.of Tryz.func27 Z Tryz.ntmps27 Tryz.results27 Z (sR gBk Z ?_)
 let B0:List Value:=[jV p0.Cup.Skiers,jV p0.Cup.Races,jV p0.Cup.Best,.slice bg p0.Cup.Points.length bh,.slice aZ p0.Cup.Done.length ba]
 refine ZA (cs:=B0) rfl rfl rfl rfl rfl rfl (by rfl) hS ?_
 intro W1 b2 dC
 let B1:List Value:=[jV 0,jV 0,jV 0,.slice none 0 0,.slice none 0 0]
 refine zq (cs:=B1) Z Z Z Z Z yG Z dC ?_
 intro W5 b6 cq
 refine eN (sR gBu Z (oR Z (zD Z Z zt Z zX) (oL Z (cq.ldBA (j:=1) Z Z Z ZG zX (vs:=B0) Z Z) (zq (cs:=B1) Z Z Z Z Z Zt Z cq ?_))))
 intro W9 au dm
 refine zo (j:=0) (vs:=B0) Z Z Z Z dm Z Z Z Z zX (zB Z) Z Z Z ?_
 intro bO dt
 have cm:sW w U U [.blk au 29 B0,.blk b6 87 B1,.blk b2 87 B0] bO:=dt
 refine eN (sR (wDq gBs) Z (oR Z (zD Z Z zt Z zX) (oR Z (zD Z Z zY Z Zc) (oL Z (cm.ldB (j:=2) Z Z Z yB (v:=.slice bg p0.Cup.Points.length bh) Z) (bnK hm fun x16 cX dX=>zG 0 Z Z Z Z (zF Z Z Tryz.call57 (zA Z zK) Z) cm (fun hs=>wDM p0.Cup.Points bg bh bO U hs dM cX) (.inr Z) ?_)))))
 rintro aq eK eX cD cw dA ⟨an,ao,rfl,rfl⟩
 let B2:Res:=.row an ao 3 1 (nA KL.encI x16)
 have dB:sW w U aq [B2,.blk au 29 B0,.blk b6 87 B1,.blk b2 87 B0] cD:=dA
 refine oR Z (zD Z Z zY Z Zc) (zo (j:=1) (vs:=[.slice an x16.length ao]) Z Z Z Z dB Z Z Z Z Zc (zB Z) Z Z Z ?_)
 intro cE dD
 let B3:Res:=.blk au 29 [jV p0.Cup.Skiers,jV p0.Cup.Races,jV p0.Cup.Best,.slice an x16.length ao,.slice aZ p0.Cup.Done.length ba]
 have bC:sW w U aq [B2,B3,.blk b6 87 B1,.blk b2 87 B0] cE:=dD
 refine eN (sR (wRj (.fx 11 (.fl 12 (.fx 13 .nil .stop)) .stop)) Z (oR Z (zD Z Z zt Z zX) (oR Z (zD Z Z zY Z ZV) (oL Z (bC.ldB (j:=3) Z Z Z Zq (v:=.slice aZ p0.Cup.Done.length ba) Z) (oR Z (zy Z Z zx) (oR Z (zD Z Z zt Z zX) (oR Z (zD Z Z zY Z ZV) (oL Z (bC.ldB (j:=3) Z Z Z Zq (v:=.slice aZ p0.Cup.Done.length ba) Z) (oR Z (zy Z Z zx) (oM Z Z (oR Z (zy Z Z zx) (oR Z (zZ Z Z Z) (bnK dX fun bi cj dY=>OKS.makeSliceCR (v:=.slice none 0 0) Z Z Z Z Z (wDO zx) wPQ Z Z Z Z Z cj bC ?_)))))))))))))
 intro cG aY dE
 have ew:=RlL.madeC (U:=aq) (R:=wEH) (v:=.slice none 0 0) ⟨none,0,rfl,by first | exact Sl.nil _ _ _ _ | exact SlR.nil⟩ cj
 let B4:Res:=.row (some ⟨aY,0,none⟩) ((w64 ((↑p0.Cup.Done.length:Int) + (↑p1.length:Int)):Int).toNat) 26 1 (List.replicate bi.length (.slice none 0 0))
 have dF:sW w U aq [B4,B2,B3,.blk b6 87 B1,.blk b2 87 B0] cG:=dE
 refine oR Z (zD Z Z zY Z ZV) (zo (j:=2) (vs:=[.slice (some ⟨aY,0,none⟩) bi.length ((w64 ((↑p0.Cup.Done.length:Int) + (↑p1.length:Int)):Int).toNat)]) Z Z Z Z dF Z Z Z Z ZV (zB Z) Z Z Z ?_)
 intro cH dG
 let B5:Res:=.blk au 29 [jV p0.Cup.Skiers,jV p0.Cup.Races,jV p0.Cup.Best,.slice an x16.length ao,.slice (some ⟨aY,0,none⟩) bi.length ((w64 ((↑p0.Cup.Done.length:Int) + (↑p1.length:Int)):Int).toNat)]
 have bq:sW w U aq [B4,B2,B5,.blk b6 87 B1,.blk b2 87 B0] cH:=dG
 refine eN (sR (wID (.fx 5 .nil .stop)) Z (oR Z (zD Z Z zY Z ZV) (oL Z (bq.ldB (j:=2) Z Z Z Zq (v:=.slice (some ⟨aY,0,none⟩) bi.length ((w64 ((↑p0.Cup.Done.length:Int) + (↑p1.length:Int)):Int).toNat)) Z) (oR Z (zD Z Z zt Z zX) (oR Z (zD Z Z zY Z ZV) (oL Z (bq.ldB (j:=4) Z Z Z Zq (v:=.slice aZ p0.Cup.Done.length ba) Z) ?_))))))
 have da:=dN.le cw
 have q:=SlR.src bq da
 obtain ⟨eS,cY,cZ⟩:=q
 refine bnK dY fun x48 db dZ=>OKS.copyRel (R:=wEH) (j:=0) (m:=bi) (ys:=p0.Cup.Done) (z:=x48) Z Z Z Z Z Z zx Zc Z bq Z Z ew db Z Z cY cZ Z ?_
 intro bQ cM dH ey dT
 let B6:Res:=.row (some ⟨aY,0,none⟩) ((w64 ((↑p0.Cup.Done.length:Int) + (↑p1.length:Int)):Int).toNat) 26 1 cM
 have dI:sW w U aq [B6,B2,B5,.blk b6 87 B1,.blk b2 87 B0] bQ:=dH
 let B7:Res:=.blk au 29 [jV p0.Cup.Skiers,jV p0.Cup.Races,jV p0.Cup.Best,.slice an x16.length ao,.slice (some ⟨aY,0,none⟩) x48.length ((w64 ((↑p0.Cup.Done.length:Int) + (↑p1.length:Int)):Int).toNat)]
 have bD:sW w U aq [B6,B2,B7,.blk b6 87 B1,.blk b2 87 B0] bQ:=by simp only [B7,dT];exact dI
 refine eN (sR (wDq gBs) Z (oR Z (zD Z Z zY Z ZV) (oL Z (bD.ldB (j:=2) Z Z Z Zq (v:=.slice (some ⟨aY,0,none⟩) x48.length ((w64 ((↑p0.Cup.Done.length:Int) + (↑p1.length:Int)):Int).toNat)) Z) (oM Z Z (bnK dZ fun x58 de eh=>?_)))))
 have dh:=dO.le cw
 have q:=SlR.src bD dh
 obtain ⟨eT,df,dg⟩:=q
 refine OKS.appendR (R:=wEH) (j:=0) (xs:=x48) (ys:=p1) (zs:=x58) Z Z Z Z Z Tryz.underlying27 wPQ Z Z Z Z Z Z Z bD Z Z Z ey df dg de Z ?_
 intro ag ah bu cJ dJ eA
 have dK:sW w U aq [.row ag ah 26 1 bu,B2,B7,.blk b6 87 B1,.blk b2 87 B0] cJ:=dJ
 refine oR Z (zD Z Z zY Z ZV) (zo (j:=2) (vs:=[.slice ag x58.length ah]) Z Z Z Z dK Z Z Z Z ZV (zB Z) Z Z Z ?_)
 intro cK dL
 have cr:sW w U aq [.row ag ah 26 1 bu,B2,.blk au 29 [jV p0.Cup.Skiers,jV p0.Cup.Races,jV p0.Cup.Best,.slice an x16.length ao,.slice ag x58.length ah],.blk b6 87 B1,.blk b2 87 B0] cK:=dL
 refine eN (zH (sR fL4 Z (oR Z (zD Z Z zY Z ZV) (oL Z (cr.ldB (j:=2) Z Z Z Zq (v:=.slice ag x58.length ah) Z) (oR Z (zy Z Z zx) (oM Z Z (eN (zV (bnK eh fun eI dQ ep=>?_)))))))))
 have q:=wBr dQ
 obtain ⟨bF,dR⟩:=q
 replace bF:=zI bF
 refine CK.forN' (fun ap aw σ_ w_=>∃ (U_:PHeap) (aX:List Value),σ_ 42=jV (↑ap:Int)/\σ_ 4=.pointer (some ⟨b6,0,none⟩)/\σ_ 5=.pointer (some ⟨au,0,none⟩)/\σ_ 40=.slice ag aw.length ah/\σ_ 41=jV (↑x58.length:Int)/\PHeap.Le aq U_/\sW w U U_ [.row an ao 3 1 (nA KL.encI x16),.row ag ah 26 1 aX,.blk au 29 [jV p0.Cup.Skiers,jV p0.Cup.Races,jV p0.Cup.Best,.slice an x16.length ao,.slice ag aw.length ah],.blk b6 87 B1,.blk b2 87 B0] w_/\RlL U_ wEH aw aX) dR ?_ ?_ ?_
 exact ⟨aq,bu,rfl,rfl,rfl,rfl,rfl,(zU _),(cr.pick [1,0,2,3,4] _ (by decide) rfl),eA⟩
 rintro ap aw eZ fc bR bE ⟨cA,aX,bm,cN,bX,bY,bZ,eE,bA,bw⟩ eD
 have bU:Hid ((↑ap:Int) < (↑x58.length:Int)):=zI (wBq bE)
 replace bE:=zI bE
 have dS:Hid (w64 ((↑ap:Int) + 1)=(↑(ap + 1):Int)):=zI (by have h1:=bF.out;have h2:=bU.out;rw [wAT] <;> omega)
 refine sR fL1 Z (oR Z (ze Z bm bZ) (eN (zH (cT Z bU (kN (zH (zV (sR fL5 Z (oM Z bm (bnK eD fun eH bz dU=>?_))))))))))
 have dP:=wRo bz
 have q:=bA.rowSome (j:=1) rfl (by rw [RlL.len bw];have hz:=wAR dP;show 0 < _ * 1;omega)
 obtain ⟨eR,bp⟩:=q
 have q:=RlL.el1 bw rfl (wBD bz)
 obtain ⟨eY,er,eC⟩:=q
 obtain ⟨eF,eG,rfl,cS⟩:=er
 refine za rfl rfl rfl rfl (fun _=>ZZ rfl bY bp bm zx Zc (wDB bz)) (zr rfl rfl rfl rfl (bA.ldR (j:=1) rfl bp rfl rfl yB (eC _ rfl)) rfl (Ze rfl rfl rfl rfl rfl rfl (Ze rfl rfl rfl rfl rfl rfl (eN (ZT ZH [3,1,3,3,2,3,0] (wET (.fx 4 (.fl 5 (.fx 6 .nil .stop)) .stop)) (by kernel_rfl) ?_)))))
 have bB:=bA.drew
 generalize hw_W121:({ bR with drawn:=bR.drawn + 1 }:World)=cB at bB ⊢
 refine oR Z (zD Z bX zY Z ZV) (oL Z (bB.ldB (j:=2) Z Z Z Zq (v:=.slice ag aw.length ah) Z) (oM Z Z (oM Z Z (bnK dU fun x122 cU dV=>zG 0 Z Z Z Z (zF Z Z Tryz.call57 (zA Z zK) Z) bB (fun hs=>wDM eH eF eG cB cA hs cS cU) (.inr Z) ?_))))
 rintro cz eJ eW bN ct dp ⟨bb,be,rfl,rfl⟩
 let B8:Res:=.blk au 29 [jV p0.Cup.Skiers,jV p0.Cup.Races,jV p0.Cup.Best,.slice an x16.length ao,.slice ag aw.length ah]
 have dr:sW w U cz [.row bb be 3 1 (nA KL.encI x122),B2,.row ag ah 26 1 aX,B8,.blk b6 87 B1,.blk b2 87 B0] bN:=dp
 refine bnK dV fun _ cg dW=>oR Z (ZZ Z Z bp Z zx Zc (wAR cg)) ?_
 have q:=dr.freezeR (k:=0) (n:=x122.length) rfl (wAF (f:=KL.encI) (sz:=1) (fun _=>rfl) x122) (by decide)
 obtain ⟨bk,cu,eB,du⟩:=q
 have dv:sW w U bk [B2,.row ag ah 26 1 aX,B8,.blk b6 87 B1,.blk b2 87 B0] bN:=du
 have cV:=bw.le ct
 have ci:=cV.le cu
 refine yX (j:=1) (vs:=[.slice bb x122.length be]) (cs':=(nE aX (0 + ap * 1) (.slice bb x122.length be))) rfl rfl rfl rfl dv rfl bp rfl rfl rfl Zc (by have hz:=wAR cg;rw [RlL.len ci];show 0 + ap * 1 + 1 <= _ * 1;first | omega | (simp only [nJ] at hz;omega)) rfl rfl rfl ?_
 intro bP dw
 have eu:=RlL.set1 (k:=ap) ci rfl ⟨bb,be,rfl,eB⟩
 let B9:Res:=.row ag ah 26 1 (nE aX (0 + ap * 1) (.slice bb x122.length be))
 have dx:sW w U bk [B2,B9,B8,.blk b6 87 B1,.blk b2 87 B0] bP:=dw
 have dy:sW w U bk [B2,B9,.blk au 29 [jV p0.Cup.Skiers,jV p0.Cup.Races,jV p0.Cup.Best,.slice an x16.length ao,.slice ag ((nE aw ap x122).length) ah],.blk b6 87 B1,.blk b2 87 B0] bP:=by simpa only [B0,B1,B2,B8,B9,nD] using dx
 refine zk (zh (zJ (rR fL2 Z (oR Z (zw (zZ Z bm Z) (congrArg (jV) dS.out)) (oM Z Z (zk ?_))))))
 cases dW
 exact zJ ⟨rfl,⟨bk,(nE aX (0 + ap * 1) (.slice bb x122.length be)),rfl,cN,bX,(nL (b:=(.slice ag aw.length ah:Value)) (c:=(.slice ag ((nE aw ap x122).length) ah:Value)) bY (by simp only [nD])),bZ,((eE.trans ct).trans cu),dy,eu⟩⟩
 rintro fb eO ⟨bM,bV,cR,cd,cP,eU,cQ,eV,cn,cW⟩
 have cL:Hid (¬ ((↑(((↑x58.length:Int):Int) - 0).toNat:Int) < (↑x58.length:Int))):=zI (wBH)
 refine sR fL1 Z (oR Z (ze Z cR cQ) (eN (zH (cF Z cL (ZD (zb (zb (zz (zJ (sR gBt Z ?_))))))))))
 let az:List Value:=[jV p0.Cup.Skiers,jV p0.Cup.Races,jV p0.Cup.Best,.slice an x16.length ao,.slice ag eI.length ah]
 refine oL Z (cn.ldBA (j:=2) Z Z cP ZG zX (vs:=az) Z Z) (oR Z (Zi (pv:=[(0,.agg az.toArray)]) (z:=B1) (cs:=az) Z (wAK Z wAb) yG wMo Z Z) (zo (j:=3) (vs:=az) Z Z Z Z cn Z cd Z Z ZP (zB Z) Z Z Z ?_))
 intro cC dz
 have cp:sW w U bM [B2,.row ag ah 26 1 bV,.blk au 29 az,.blk b6 87 az,.blk b2 87 B0] cC:=dz
 refine eN (zM ?_)
 cases ep
 exact ⟨rfl,_,(wJg (v:=.agg az.toArray) ⟨⟨_,cd,(wEL Zo ZP (cp.blkAt (k:=3) rfl) (vs:=az) rfl rfl)⟩,trivial⟩),bM,_,(cp.pick [0,1] _ (by decide) rfl),an,ao,ag,ah,bV,rfl,rfl,cW⟩
set_option maxHeartbeats 4000000
theorem wGt (p0:wAU) (ba:Option Addr) (be:Nat) (bb:Option Addr) (bg:Nat) (p1:List (List Int)) (bu:Option Addr) (bw:Nat) (w:World) (U:PHeap) (hS:St0 w U []) (cS:Sl U 1 ba be p0.Points.length (nA KL.encI p0.Points)) (cU:SlR U wEH bb bg p0.Done) (cV:SlR U wEH bu bw p1) {r:wAU × Int} (hm:wCw p0 p1=some r):Gv Tryz.prog 12 [.agg #[jV p0.Skiers,jV p0.Races,jV p0.Best,.slice ba p0.Points.length be,.slice bb p0.Done.length bg],.slice bu p1.length bw] w (wBW w [] U (fun U_ L_ v=>∃ (bz:Option Addr) (bF:Nat) (bA:Option Addr) (bG:Nat),v=.tuple #[.agg #[jV r.1.Skiers,jV r.1.Races,jV r.1.Best,.slice bz r.1.Points.length bF,.slice bA r.1.Done.length bG],jV r.2]/\L_=[]/\Sl U_ 1 bz bF r.1.Points.length (nA KL.encI r.1.Points)/\SlR U_ wEH bA bG r.1.Done)):=by
 unfold wCw at hm
 refine Gv.of Tryz.func12 Z Tryz.ntmps12 Tryz.results12 Z (sR gBo Z ?_)
 let B0:List Value:=[jV p0.Skiers,jV p0.Races,jV p0.Best,.slice ba p0.Points.length be,.slice bb p0.Done.length bg]
 refine ZA (cs:=B0) rfl rfl rfl rfl rfl rfl (by rfl) hS ?_
 intro W1 b2 cB
 let B1:List Value:=[jV 0,jV 0,jV 0,.slice none 0 0,.slice none 0 0]
 refine zq (cs:=B1) Z Z Z Z Z Zt Z cB ?_
 intro W5 b6 bL
 refine oA Z Z (eN (sR (.fl 0 (.fx 1 (wPl gBp) .stop)) Z (oL Z (bL.ldBA (j:=1) Z Z Z ZG zX (vs:=B0) Z Z) ?_)))
 have q:=bnd hm
 obtain ⟨⟨x9,bR⟩,ci,bO⟩:=q
 try dsimp only at bO
 refine zG 0 Z Z Z Z (zF Z Z Tryz.call26 (zA Z zK) Z) bL (fun hs=>wFn p0 ba be bb bg W5 U hs cS cU ci) (.inr Z) ?_
 rintro ao dr dz bU dh cy ⟨bh,bk,bi,bm,rfl,rfl,cj,cm⟩
 have cz:sW w U ao [.blk b6 29 B1,.blk b2 29 B0] bU:=cy
 refine oM Z Z (oR Z (ZB Z Z (v:=.agg #[jV x9.Cup.Skiers,jV x9.Cup.Races,jV x9.Cup.Best,.slice bh x9.Cup.Points.length bk,.slice bi x9.Cup.Done.length bm]) Z) (oR Z (ZB Z Z (v:=jV bR) Z) (zq (cs:=B1) Z Z Z Z Z yG Z cz ?_)))
 intro dw an cA
 let B2:List Value:=[jV x9.Cup.Skiers,jV x9.Cup.Races,jV x9.Cup.Best,.slice bh x9.Cup.Points.length bk,.slice bi x9.Cup.Done.length bm]
 refine zo (j:=0) (vs:=B2) Z Z Z Z cA Z Z Z Z ZP (zB Z) Z Z Z ?_
 intro bE cC
 have aY:sW w U ao [.blk an 87 B2,.blk b6 29 B1,.blk b2 29 B0] bE:=cC
 refine oA Z Z (eN (zH (sR fL2 Z (oM Z Z (oR Z (Zs Z Z Z) (eN (ifc bO ?_ ?_)))))))
 intro bp cX
 refine zn (ZI (fun h=>h bp.out)) (kN (zH (sR fL3 Z (oM Z Z (oR Z (zy Z Z zx) (oR Z (Zz Z Z Z) (eN (ifc cX ?_ ?_))))))))
 intro bq cY
 refine cT Z bq (sR gBr Z (oR Z (Zi (pv:=[]) (z:=B1) (cs:=B1) Z wAb Zt wII Z Z) (zo (j:=1) (vs:=B1) Z Z Z Z aY Z Z Z Z zX (zB Z) Z Z Z ?_)))
 intro bV cD
 have bJ:sW w U ao [.blk an 87 B2,.blk b6 29 B1,.blk b2 29 B0] bV:=cD
 refine oA Z Z (eN (zM (zN ?_)))
 cases cY
 exact ⟨rfl,_,(wHs (rs:=[.cell 4 29,.tmp 5]) (vs:=[.agg B1.toArray,jV 2]) ⟨⟨_,rfl,(wEL ZG zX (bJ.blkAt (k:=1) rfl) (vs:=B1) rfl rfl)⟩,⟨rfl,trivial⟩⟩ rfl),ao,_,(bJ.pick [] _ (by decide) rfl),none,0,none,0,rfl,rfl,(by first | exact Sl.nil _ _ _ _ | exact SlR.nil),(by first | exact Sl.nil _ _ _ _ | exact SlR.nil)⟩
 intro bq cZ
 refine cF Z bq (kN (sR (.fl 0 (.fl 1 (.fx 2 (.fl 3 (.fx 4 (.fx 5 .nil .stop) .stop)) .stop))) Z (oL Z (aY.ldBA (j:=0) Z Z Z Zo ZP (vs:=B2) Z Z) (oM Z Z ?_))))
 have cn:=cV.le dh
 refine bnK cZ fun x42 cp da=>zG 0 Z Z Z Z (zF Z Z Tryz.call27 (zA Z (zA Z zK)) Z) aY (fun hs=>wFD x9 bh bk bi bm p1 bu bw bE ao hs cj cm cn cp) (.inr Z) ?_
 rintro bC dt dA bW dy cE ⟨au,az,av,aX,cg,rfl,rfl,cq⟩
 let B3:Res:=.row au az 3 1 (nA KL.encI x42.Cup.Points)
 let B4:Res:=.row av aX 26 1 cg
 have cG:sW w U bC [B3,B4,.blk an 87 B2,.blk b6 29 B1,.blk b2 29 B0] bW:=cE
 let B5:List Value:=[jV x42.Cup.Skiers,jV x42.Cup.Races,jV x42.Cup.Best,.slice au x42.Cup.Points.length az,.slice av x42.Cup.Done.length aX]
 refine oR Z (Runs.fld Z Z zt Z (wEx ZG zX (vs:=B5) Z)) (zq (cs:=B1) Z Z Z Z Z Zt Z cG ?_)
 intro dx ap cH
 refine zo (j:=0) (vs:=B5) Z Z Z Z cH Z Z Z Z zX (zB Z) Z Z Z ?_
 intro aw cJ
 have bK:sW w U bC [.blk ap 29 B5,B3,B4,.blk an 87 B2,.blk b6 29 B1,.blk b2 29 B0] aw:=cJ
 refine eN (zH (sR gBr Z (oL Z (bK.ldBA (j:=0) Z Z Z ZG zX (vs:=B5) Z Z) ?_)))
 have q:=bK.freezeR (k:=1) (n:=x42.Cup.Points.length) rfl (wAF (f:=KL.encI) (sz:=1) (fun _=>rfl) x42.Cup.Points) (by decide)
 obtain ⟨bS,dm,dg,cK⟩:=q
 have cL:sW w U bS [.blk ap 29 B5,B4,.blk an 87 B2,.blk b6 29 B1,.blk b2 29 B0] aw:=cK
 have cr:=cq.le dm
 have q:=cL.freezeRR (R:=wEH) (k:=1) rfl cr rfl (by decide)
 obtain ⟨bD,dp,bP,cM⟩:=q
 have cN:sW w U bD [.blk ap 29 B5,.blk an 87 B2,.blk b6 29 B1,.blk b2 29 B0] aw:=cM
 have bH:=dg.le dp
 refine bnK da fun x79 ct db=>zG 0 Z Z Z Z (zF Z Z Tryz.call28 (zA Z zK) Z) cN (fun hs=>wIs x42.Cup au az av aX aw bD hs bH bP ct) (.inr Z) ?_
 rintro aq du dB bY bQ cP ⟨rfl,rfl⟩
 have bs:sW w U aq [.blk ap 29 B5,.blk an 87 B2,.blk b6 29 B1,.blk b2 29 B0] bY:=cP
 refine oA Z Z (eN (sR fL2 Z (oM Z Z (oR Z (Zs Z Z Z) (eN (ifc db ?_ ?_))))))
 intro br de
 refine zn (ZI (fun h=>h br.out)) (kN (sR gBr Z (oL Z (bs.ldBA (j:=0) Z Z Z ZG zX (vs:=B5) Z Z) (zo (j:=2) (vs:=B5) Z Z Z Z bs Z Z Z Z zX (zB Z) Z Z Z ?_))))
 intro bZ cQ
 have bM:sW w U aq [.blk ap 29 B5,.blk an 87 B2,.blk b6 29 B5,.blk b2 29 B0] bZ:=cQ
 refine oA Z Z (eN (zM ?_))
 have cu:=bH.le bQ
 have cw:=bP.le bQ
 cases de
 exact ⟨rfl,_,(wHs (rs:=[.cell 4 29,.tmp 5]) (vs:=[.agg B5.toArray,jV 0]) ⟨⟨_,rfl,(wEL ZG zX (bM.blkAt (k:=2) rfl) (vs:=B5) rfl rfl)⟩,⟨rfl,trivial⟩⟩ rfl),aq,_,(bM.pick [] _ (by decide) rfl),au,az,av,aX,rfl,rfl,cu,cw⟩
 intro br df
 refine cT Z br (sR gBv Z (oR Z (Zi (pv:=[]) (z:=B1) (cs:=B1) Z wAb Zt wII Z Z) (oM Z Z (zo (j:=2) (vs:=B1) Z Z Z Z bs Z Z Z Z zX (zB Z) Z Z Z ?_))))
 intro cd cR
 have bN:sW w U aq [.blk ap 29 B5,.blk an 87 B2,.blk b6 29 B1,.blk b2 29 B0] cd:=cR
 refine oA Z Z (eN (zM (zN ?_)))
 cases df
 exact ⟨rfl,_,(wHs (rs:=[.cell 4 29,.tmp 5]) (vs:=[.agg B1.toArray,jV x79]) ⟨⟨_,rfl,(wEL ZG zX (bN.blkAt (k:=2) rfl) (vs:=B1) rfl rfl)⟩,⟨rfl,trivial⟩⟩ rfl),aq,_,(bN.pick [] _ (by decide) rfl),none,0,none,0,rfl,rfl,(by first | exact Sl.nil _ _ _ _ | exact SlR.nil),(by first | exact Sl.nil _ _ _ _ | exact SlR.nil)⟩
 intro bp cW
 refine cT Z bp (sR gBv Z (oR Z (Zi (pv:=[]) (z:=B1) (cs:=B1) Z wAb Zt wII Z Z) (oM Z Z (zo (j:=1) (vs:=B1) Z Z Z Z aY Z Z Z Z zX (zB Z) Z Z Z ?_))))
 intro bT cx
 have bI:sW w U ao [.blk an 87 B2,.blk b6 29 B1,.blk b2 29 B0] bT:=cx
 refine oA Z Z (eN (zM (zN ?_)))
 cases cW
 exact ⟨rfl,_,(wHs (rs:=[.cell 4 29,.tmp 5]) (vs:=[.agg B1.toArray,jV bR]) ⟨⟨_,rfl,(wEL ZG zX (bI.blkAt (k:=1) rfl) (vs:=B1) rfl rfl)⟩,⟨rfl,trivial⟩⟩ rfl),ao,_,(bI.pick [] _ (by decide) rfl),none,0,none,0,rfl,rfl,(by first | exact Sl.nil _ _ _ _ | exact SlR.nil),(by first | exact Sl.nil _ _ _ _ | exact SlR.nil)⟩
theorem wLD (p0:List Int) (aj:Option Addr) (ak:Nat) (w:World) (U:PHeap) (hS:St0 w U []) (bj:Sl U 1 aj ak p0.length (nA KL.encI p0)) {r:Int} (hm:wFV p0=some r):Gv Tryz.prog 69 [.slice aj p0.length ak] w (wBW w [] U (fun U_ L_ v=>v=jV r/\L_=[])):=by
 unfold wFV at hm
 refine Gv.of Tryz.func69 Z Tryz.ntmps69 Tryz.results69 Z (sR fL1 Z (oA Z Z (eN (sR fL1 Z (oA Z Z (eN (zH (sR fL3 Z (oM Z Z (oR Z (zy Z Z zL) (oM Z Z (eN (zV (bnK hm fun bE bm br=>?_))))))))))))))
 have q:=wBr bm
 obtain ⟨ai,bk⟩:=q
 replace ai:=zI ai
 refine CK.forN' (fun k7 x6 σ_ w_=>∃ (U_:PHeap),σ_ 8=jV (↑k7:Int)/\σ_ 3=jV x6/\σ_ 6=.slice aj p0.length ak/\σ_ 7=jV (↑p0.length:Int)/\PHeap.Le U U_/\sW w U U_ [] w_) bk ?_ ?_ ?_
 exact ⟨U,Z,Z,Z,Z,(zU _),hS⟩
 rintro k7 x6 bD bF bu ah ⟨aw,ag,aY,an,ao,au,aq⟩ bs
 have am:Hid ((↑k7:Int) < (↑p0.length:Int)):=zI (wBq ah)
 replace ah:=zI ah
 have bp:Hid (w64 ((↑k7:Int) + 1)=(↑(k7 + 1):Int)):=zI (by have h1:=ai.out;have h2:=am.out;rw [wAT] <;> omega)
 refine sR fL1 Z (oR Z (ze Z ag ao) (eN (zH (cT Z am (kN (zH (zV (sR fL3 Z (bnK bs fun x28 ap bq=>?_)))))))))
 have be:=bj.le au
 have q:=be.el (fun _=>rfl) (wBD ap)
 obtain ⟨bz,bC,bg,bh⟩:=q
 refine oR Z (ZZ Z an bg ag zL zC (wDB ap)) (oL Z (aq.ldC (f:=0) bh (v:=jV x28) Z Z zO Z) (oA Z Z (eN (rR fL4 Z (oM Z aY (oM Z Z (oR Z (zZ Z Z Z) (oA Z Z (zk (zh (zJ (rR fL2 Z (oR Z (zw (zZ Z ag Z) (congrArg (jV) bp.out)) (oM Z Z (zk ?_)))))))))))))))
 cases bq
 exact zJ ⟨Z,⟨aw,Z,Z,an,ao,au,aq⟩⟩
 rintro bG bw ⟨az,bb,aZ,bA,ba,bB,bi⟩
 have aX:Hid (¬ ((↑(((↑p0.length:Int):Int) - 0).toNat:Int) < (↑p0.length:Int))):=zI (wBH)
 refine sR fL1 Z (oR Z (ze Z bb ba) (eN (zH (cF Z aX (ZD (zb (zb (zz (zJ (sR fL2 Z (oM Z aZ (oA Z Z (eN (zM ?_))))))))))))))
 have hE:=nB br;first | subst r | cases hE
 exact ⟨Z,_,(zi Z),az,_,bi,Z,Z⟩
theorem wIt (p0:wAU) (ag:Option Addr) (ah:Nat) (am:Option Addr) (an:Nat) (p1:Int) (p2:Int) (w:World) (U:PHeap) (hS:St0 w U []) (au:Sl U 1 ag ah p0.Points.length (nA KL.encI p0.Points)) (bu:SlR U wEH am an p0.Done) {r:Int} (hm:wDV p0 p1 p2=some r):Gv Tryz.prog 103 [.agg #[jV p0.Skiers,jV p0.Races,jV p0.Best,.slice ag p0.Points.length ah,.slice am p0.Done.length an],jV p1,jV p2] w (wBW w [] U (fun U_ L_ v=>v=jV r/\L_=[])):=by
 unfold wDV at hm
 refine Gv.of Tryz.func103 Z Tryz.ntmps103 Tryz.results103 Z (sR gBf Z ?_)
 let B0:List Value:=[jV p0.Skiers,jV p0.Races,jV p0.Best,.slice ag p0.Points.length ah,.slice am p0.Done.length an]
 refine ZA (cs:=B0) rfl rfl rfl rfl rfl rfl (by rfl) hS ?_
 intro W1 b2 aj
 refine oA Z Z (eN (sR fL9 Z (oR Z (zD Z Z zY Z Zc) (oL Z (aj.ldB (j:=0) Z Z Z yB (v:=.slice ag p0.Points.length ah) Z) (oR Z (zy Z Z zL) (oM Z Z (oR Z (Zj Z Z Z) (oM Z Z (oR Z (zZ Z Z Z) (oR Z (Runs.min Z Z Z) (oA Z Z (eN (zH (sR fL3 Z (oM Z Z (oM Z Z (oR Z (Zz Z Z Z) (eN ?_))))))))))))))))))
 by_cases c5:(min (↑p0.Points.length:Int) (w64 ((w64 (p1 - 1)) + p2))) < p1
 have av:=hm;rw [if_pos c5] at av;replace c5:=zI c5
 refine cT Z c5 (sR fL1 Z (oA Z Z (eN (zM (zN ?_)))))
 cases av
 exact ⟨rfl,_,(zi rfl),U,_,(aj.pick [] _ (by decide) rfl),rfl,rfl⟩
 have aw:=hm;rw [if_neg c5] at aw;replace c5:=zI c5
 refine cF Z c5 (kN (sR (wLT gBg) Z (oR Z (zD Z Z zY Z Zc) (oL Z (aj.ldB (j:=0) Z Z Z yB (v:=.slice ag p0.Points.length ah) Z) (oM Z Z (oR Z (Zj Z Z Z) (oM Z Z (bnK aw fun x8 h9 bp=>?_))))))))
 have q:=Sl.cutM (sz:=1) (f:=KL.encI) au (fun _=>rfl) h9
 obtain ⟨ao,bj,bk,bm,br⟩:=q
 refine za (v:=.slice (if ah=((w64 (p1 - 1)):Int).toNat then ag else nR (·.add (((w64 (p1 - 1)):Int).toNat * 1)) ag) x8.length (ah - ((w64 (p1 - 1)):Int).toNat)) rfl rfl rfl rfl (fun _=>zw (Runs.slc (sz:=1) (a:=(w64 (p1 - 1))) (b:=(min (↑p0.Points.length:Int) (w64 ((w64 (p1 - 1)) + p2)))) rfl rfl (.inl ⟨_,rfl,rfl⟩) (.inl ⟨_,rfl,rfl⟩) zL zC bj bk bm (au).cap) (by rw [br])) ?_
 generalize hA_A12:(if ah=((w64 (p1 - 1)):Int).toNat then ag else nR (·.add (((w64 (p1 - 1)):Int).toNat * 1)) ag)=aX at ao ⊢
 generalize hc_c13:ah - ((w64 (p1 - 1)):Int).toNat=bb at ao ⊢
 refine bnK bp fun bA be bq=>zG 0 Z Z Z Z (zF Z Z Tryz.call69 (zA Z zK) Z) aj (fun hs=>wLD x8 aX bb W1 U hs ao be) (.inr Z) ?_
 rintro aq bs bz aZ bw bh ⟨rfl,rfl⟩
 have bi:sW w U aq [.blk b2 29 B0] aZ:=bh
 refine oA Z Z (eN (zM ?_))
 have hE:=nB bq;first | subst r | cases hE
 exact ⟨rfl,_,(zi rfl),aq,_,(bi.pick [] _ (by decide) rfl),rfl,rfl⟩
theorem wEs (p0:wAU) (aj:Option Addr) (am:Nat) (ak:Option Addr) (an:Nat) (p1:List Int) (be:Option Addr) (bg:Nat) (p2:Int) (w:World) (U:PHeap) (hS:St0 w U []) (bV:Sl U 1 aj am p0.Points.length (nA KL.encI p0.Points)) (bW:SlR U wEH ak an p0.Done) (bu:Sl U 1 be bg p1.length (nA KL.encI p1)) {r:Int} (hm:wCK p0 p1 p2=some r):Gv Tryz.prog 70 [.agg #[jV p0.Skiers,jV p0.Races,jV p0.Best,.slice aj p0.Points.length am,.slice ak p0.Done.length an],.slice be p1.length bg,jV p2] w (wBW w [] U (fun U_ L_ v=>v=jV r/\L_=[])):=by
 unfold wCK at hm
 refine Gv.of Tryz.func70 Z Tryz.ntmps70 Tryz.results70 Z (sR gBf Z ?_)
 let B0:List Value:=[jV p0.Skiers,jV p0.Races,jV p0.Best,.slice aj p0.Points.length am,.slice ak p0.Done.length an]
 refine ZA (cs:=B0) rfl rfl rfl rfl rfl rfl (by rfl) hS ?_
 intro W1 b2 aX
 refine oA Z Z (eN (sR fL6 Z (oM Z Z (oM Z Z (bnK hm fun x5 h6 cn=>?_)))))
 have q:=bu.el (fun _=>rfl) (wBD h6)
 obtain ⟨b8,cD,bP,bR⟩:=q
 refine oR Z (ZQ Z Z bP Z zL zC (wFJ h6) (wFT h6)) (oL Z (aX.ldC (f:=0) bR (v:=jV x5) Z Z zO Z) (oA Z Z (oA Z Z (eN (zH (sR fL2 Z (oM Z Z (oR Z (ZR Z Z Z) (eN (ifc cn ?_ ?_))))))))))
 intro ap bZ
 refine cT Z ap (sR fL1 Z (oA Z Z (eN (zM (zN ?_)))))
 cases bZ
 exact ⟨rfl,_,(zi rfl),U,_,(aX.pick [] _ (by decide) rfl),rfl,rfl⟩
 intro ap cd
 refine cF Z ap (kN (zH (sR fL3 Z (oM Z Z (oR Z (zy Z Z zL) (oM Z Z (eN (zV (bnK cd fun ct bX cg=>?_)))))))))
 have q:=wBr bX
 obtain ⟨ba,bY⟩:=q
 replace ba:=zI ba
 refine CK.forN' (fun ag bB σ_ w_=>∃ (U_:PHeap),σ_ 19=jV (↑ag:Int)/\σ_ 3=.pointer (some ⟨b2,0,none⟩)/\σ_ 7=jV x5/\σ_ 8=jV bB/\σ_ 17=.slice be p1.length bg/\σ_ 18=jV (↑p1.length:Int)/\PHeap.Le U U_/\sW w U U_ [.blk b2 29 B0] w_) bY ?_ ?_ ?_
 exact ⟨U,Z,Z,Z,Z,Z,Z,(zU _),aX⟩
 rintro ag bB cH cJ cx aZ ⟨bi,ai,bm,au,bp,av,aw,bb,aY⟩ cr
 have bk:Hid ((↑ag:Int) < (↑p1.length:Int)):=zI (wBq aZ)
 replace aZ:=zI aZ
 have bw:Hid (w64 ((↑ag:Int) + 1)=(↑(ag + 1):Int)):=zI (by have h1:=ba.out;have h2:=bk.out;rw [wAT] <;> omega)
 refine sR fL1 Z (oR Z (ze Z ai aw) (eN (zH (cT Z bk (kN (zH (zV (sR fL3 Z (bnK cr fun x44 br ci=>?_)))))))))
 have bK:=bu.le bb
 have q:=bK.el (fun _=>rfl) (wBD br)
 obtain ⟨cy,cC,bQ,bS⟩:=q
 refine oR Z (ZZ Z av bQ ai zL zC (wDB br)) (oL Z (aY.ldC (f:=0) bS (v:=jV x44) Z Z zO Z) (oA Z Z (eN (sR fL3 Z (oM Z Z (oM Z au (oR Z (ZR Z Z Z) (eN (ifc ci ?_ ?_)))))))))
 intro aq cj
 refine cT Z aq (rR fL3 Z (oM Z bp (oR Z (zZ Z Z Z) (oA Z Z (zk (zh (zJ (rR fL2 Z (oR Z (zw (zZ Z ai Z) (congrArg (jV) bw.out)) (oM Z Z (zk ?_)))))))))))
 cases cj
 exact zJ ⟨Z,⟨bi,Z,bm,au,Z,av,aw,bb,aY⟩⟩
 intro aq cm
 refine cF Z aq (Zd (zh (zJ (rR fL2 Z (oR Z (zw (zZ Z ai Z) (congrArg (jV) bw.out)) (oM Z Z (zk ?_)))))))
 cases cm
 exact zJ ⟨Z,⟨bi,Z,bm,au,bp,av,aw,bb,aY⟩⟩
 rintro cK bD ⟨bC,bJ,bG,bH,bq,cA,bI,bz,bs⟩
 have bF:Hid (¬ ((↑(((↑p1.length:Int):Int) - 0).toNat:Int) < (↑p1.length:Int))):=zI (wBH)
 refine sR fL1 Z (oR Z (ze Z bJ bI) (eN (zH (cF Z bF (ZD (zb (zb (zz (zJ (sR (wDq (.fx 3 (wTZ (.nil)) .stop)) Z (oL Z (bs.ldBA (j:=0) Z Z bG ZG zX (vs:=B0) Z Z) (oM Z bH (oM Z bq ?_)))))))))))))
 have bL:=bV.le bz
 have bM:=bW.le bz
 refine bnK cg fun cG bN cp=>zG 0 Z Z Z Z (zF Z Z Tryz.call103 (zA Z (zA Z (zA Z zK))) Z) bs (fun hs=>wIt p0 aj am ak an x5 ct bD bC hs bL bM bN) (.inr Z) ?_
 rintro bj cu cE bE cB bT ⟨rfl,rfl⟩
 have bU:sW w U bj [.blk b2 29 B0] bE:=bT
 refine oM Z bq (bnK cp fun x83 bO cq=>oR Z (Runs.quo Z Z Z bO) (oA Z Z (eN (zM ?_))))
 have hE:=nB cq;first | subst r | cases hE
 exact ⟨rfl,_,(zi rfl),bj,_,(bU.pick [] _ (by decide) rfl),rfl,rfl⟩
theorem wGd (p0:Int) (p1:Int) (p2:wAQ) (bq:Nat) (aj:Option Addr) (ak:Nat) (ag:Option Addr) (ah:Nat) (p3:Int) (br:Nat) (w:World) (U:PHeap) (hS:St0 w U []) (am:Cl U bq 0 [jV p2.Cup.Skiers,jV p2.Cup.Races,jV p2.Cup.Best,.slice aj p2.Cup.Points.length ak,.slice ag p2.Cup.Done.length ah]) (bm:Sl U 1 aj ak p2.Cup.Points.length (nA KL.encI p2.Cup.Points)) (an:SlR U wEH ag ah p2.Cup.Done) (bp:Cl U br 0 [jV p3]) {r:Int} (hm:wBS p0 p1 p2 p3=some r):Gv Tryz.prog 102 [jV p0,jV p1,.pointer (some ⟨bq,0,none⟩),.pointer (some ⟨br,0,none⟩)] w (wBW w [] U (fun U_ L_ v=>v=jV r/\L_=[])):=by
 unfold wBS at hm
 refine Gv.of Tryz.func102 rfl Tryz.ntmps102 Tryz.results102 rfl (sR fL1 rfl (Ze rfl rfl rfl rfl rfl rfl (eN (zH (ZT ZH [3,1,3,3,1,3,3,1,1,2,3,1,3,3,1,3,3,1,1,2,2,3] (wQt (wTb (.fx 9 (.fx 19 (.fx 20 (.fl 21 .nil) .stop) .stop) .stop))) (by kernel_rfl) ?_)))))
 have ae:=hS.drew
 generalize hw_W2:({ w with drawn:=w.drawn + 1 }:World)=W2 at ae ⊢
 refine oR Z (zD Z Z zt Z zX) (oL Z (ae.ldCA (f:=0) am Z Z ZG zX (us:=[jV p2.Cup.Skiers,jV p2.Cup.Races,jV p2.Cup.Best,.slice aj p2.Cup.Points.length ak,.slice ag p2.Cup.Done.length ah]) Z Z) (oR Z (zD Z Z zt Z zX) (oR Z (zD Z Z zY Z ZV) (oL Z (ae.ldC (f:=4) am (v:=.slice ag p2.Cup.Done.length ah) Z Z Zq Z) (oM Z Z (bnK hm fun x3 h4 bT=>?_))))))
 have q:=an.el (wBD h4)
 obtain ⟨b6,bY,cr,bJ,au,bV⟩:=q
 obtain ⟨aX,aZ,rfl,bA⟩:=bV
 replace au:Cl U b6 (bY + p1.toNat * 1) [.slice aX x3.length aZ]:=au
 refine oR Z (ZQ Z Z bJ Z zx Zc (wFJ h4) (wFT h4)) (oL Z (ae.ldC (f:=0) au (v:=.slice aX x3.length aZ) Z Z yB Z) (oL Z (ae.ldC (f:=0) bp (v:=jV p3) Z Z zO Z) (oR Z (zD Z Z zt Z zX) (oL Z (ae.ldCA (f:=0) am Z Z ZG zX (us:=[jV p2.Cup.Skiers,jV p2.Cup.Races,jV p2.Cup.Best,.slice aj p2.Cup.Points.length ak,.slice ag p2.Cup.Done.length ah]) Z Z) (oR Z (zD Z Z zt Z zX) (oR Z (zD Z Z zY Z ZV) (oL Z (ae.ldC (f:=4) am (v:=.slice ag p2.Cup.Done.length ah) Z Z Zq Z) (oM Z Z (bnK bT fun bb ao bQ=>?_)))))))))
 have q:=an.el (wBD ao)
 obtain ⟨bw,bX,ct,bI,aq,bW⟩:=q
 obtain ⟨aY,ba,rfl,bB⟩:=bW
 replace aq:Cl U bw (bX + p0.toNat * 1) [.slice aY bb.length ba]:=aq
 refine oR Z (ZQ Z Z bI Z zx Zc (wFJ ao) (wFT ao)) (oL Z (ae.ldC (f:=0) aq (v:=.slice aY bb.length ba) Z Z yB Z) (oL Z (ae.ldC (f:=0) bp (v:=jV p3) Z Z zO Z) (bnK bQ fun bZ bC bR=>zG 0 Z Z Z Z (zF Z Z Tryz.call70 (zA Z (zA Z (zA Z zK))) Z) ae (fun hs=>wEs p2.Cup aj ak ag ah x3 aX aZ p3 W2 U hs bm an bA bC) (.inr Z) ?_)))
 rintro bg cd cn bj av bK ⟨rfl,rfl⟩
 have bL:sW w U bg [] bj:=bK
 have bD:=bm.le av
 have bE:=an.le av
 have bF:=bB.le av
 refine bnK bR fun x40 bG bS=>zG 0 Z Z Z Z (zF Z Z Tryz.call70 (zA Z (zA Z (zA Z zK))) Z) bL (fun hs=>wEs p2.Cup aj ak ag ah bb aY ba p3 bj bg hs bD bE bF bG) (.inr Z) ?_
 rintro bh cg cp bk cj bM ⟨rfl,rfl⟩
 have bN:sW w U bh [] bk:=bM
 refine bnK bS fun x50 bH bU=>zG 0 Z Z Z Z (zF Z Z Tryz.call33 (zA Z (zA Z zK)) Z) bN (fun hs=>wCR bZ x40 bk bh hs bH) (.inr Z) ?_
 rintro bi ci cq bu cm bO ⟨rfl,rfl⟩
 have bP:sW w U bi [] bu:=bO
 refine oA Z Z (eN (zM ?_))
 have hE:=nB bU;first | subst r | cases hE
 exact ⟨Z,_,(zi Z),bi,_,bP,Z,Z⟩
theorem wCe (p0:List Int) (ah:Option Addr) (ai:Nat) (p1:Int) (p2:Int) (p3:((Int × Int)->Option Int)) (bh:Value) (w:World) (U:PHeap) (hS:St0 w U [.row ah ai 3 1 (nA KL.encI p0)]) (cm:FnOK Tryz.prog U bh wTp wTq p3) {r:(List Int)} (hm:wBG p0 p1 p2 p3=some r):Gv Tryz.prog 166 [.slice ah p0.length ai,jV p1,jV p2,bh] w (wBW w [.row ah ai 3 1 (nA KL.encI p0)] U (fun U_ L_ v=>v=.tuple #[]/\L_=[.row ah ai 3 1 (nA KL.encI r)]/\r.length=p0.length)):=by
 unfold wBG at hm
 refine Gv.of Tryz.func166 Z Tryz.ntmps166 Tryz.results166 Z (sR fL3 Z (oM Z Z (oR Z (zZ Z Z Z) (oA Z Z (eN (zV ?_))))))
 let B0:Res:=.row ah ai 3 1 (nA KL.encI p0)
 refine yI (fun (l8,x9) σ_ w_=>∃ (U_:PHeap),σ_ 0=.slice ah l8.length ai/\σ_ 1=jV p1/\σ_ 2=jV p2/\σ_ 3=bh/\σ_ 8=jV x9/\PHeap.Le U U_/\SW w [B0] U U_ [.row ah ai 3 1 (nA KL.encI l8)] w_/\l8.length=p0.length) hm ?_ ?_
 exact ⟨U,Z,Z,Z,Z,Z,(zU _),hS,Z⟩
 rintro ⟨l8,x9⟩ cS cV cM ⟨bj,bS,bT,bB,bU,bp,bz,bD,bC⟩ bu cn
 try dsimp only at bu
 refine zH (sR fL3 Z (oM Z bp (oM Z bB (oR Z (ze Z Z Z) (eN ?_)))))
 by_cases an:x9 < p2
 have bI:=bu;rw [if_pos an] at bI;replace an:=zI an
 refine cT Z an (kN (zH (zV (sR fL2 Z (oM Z bp (oA Z Z (eN (zV (yI (fun (aa,ag) σ_ w_=>∃ (U_:PHeap),σ_ 0=.slice ah aa.length ai/\σ_ 1=jV p1/\σ_ 2=jV p2/\σ_ 3=bh/\σ_ 8=jV x9/\σ_ 9=jV ag/\PHeap.Le bj U_/\SW w [B0] U U_ [.row ah ai 3 1 (nA KL.encI aa)] w_/\aa.length=p0.length) bI ?_ ?_)))))))))
 exact ⟨bj,bS,bT,bB,bU,bp,Z,(zU _),bD,bC⟩
 rintro ⟨aa,ag⟩ cU cW bA ⟨bM,am,aZ,bq,ba,br,ao,bg,bY,bs⟩ bw bF
 try dsimp only at bw
 refine zH (zH (ZT ZH [3,3,3,3,3,3,3,3,1,3,3,3,3,1,2,3,3] (wPk gBm) (by kernel_rfl) ?_))
 have au:=bY.drew
 generalize hw_W54:({ bA with drawn:=bA.drawn + 1 }:World)=cN at au ⊢
 refine oM Z ao (oM Z aZ (oR Z (Zz Z Z Z) (oM Z Z ?_)))
 by_cases ae:p1 < ag
 have bJ:=bw;rw [if_pos ae] at bJ;replace ae:=zI ae
 refine zQ Z Z Z (wT Z ae) Z ba (zQ Z Z Z (wT Z ae) Z am (zQ Z Z Z (wT Z ae) Z ao (bnK bJ fun _ ak cz=>?_)))
 have q:=au.rowSome (j:=0) rfl (by rw [wAF (f:=KL.encI) (sz:=1) (fun _=>rfl) aa];have hz:=wAR ak;omega)
 obtain ⟨cQ,aj⟩:=q
 refine rU Z (wT Z ae) (ZQ Z Z aj Z zL zC (wBk ak) (wBl ak)) ?_
 have cp:=wBt (xs:=aa) (wAR ak)
 refine zr rfl rfl rfl (zS rfl rfl (ZU ae.out)) (au.ldR (j:=0) rfl aj rfl rfl zO (wAs (sz:=1) (fun _=>rfl) _ _ 0 _ cp (by first | omega | rfl | simp) rfl)) rfl (zQ rfl rfl rfl (zS rfl rfl (ZU ae.out)) rfl am (zQ rfl rfl rfl (zS rfl rfl (ZU ae.out)) rfl ao (za rfl rfl rfl (zS rfl rfl (ZU ae.out)) (fun _=>Zj rfl rfl rfl) (bnK cz fun _ aq cA=>za rfl rfl rfl (zS rfl rfl (ZU ae.out)) (fun _=>ZQ rfl rfl aj rfl zL zC (wBk aq) (wBl aq)) ?_))))
 have cq:=wBt (xs:=aa) (wAR aq)
 refine zr rfl rfl rfl (zS rfl rfl (ZU ae.out)) (au.ldR (j:=0) rfl aj rfl rfl zO (wAs (sz:=1) (fun _=>rfl) _ _ 0 _ cq (by first | omega | rfl | simp) rfl)) rfl (bnK cA fun x65 bV cB=>?_)
 have bW:=cm.le bz
 have bX:=bW.le bg
 refine yF (a:=((gd aa ag.toNat),(gd aa (w64 (ag - 1)).toNat))) Z Z Z (wT Z ae) Z Z (zA Z (zA Z zK)) au bX Z bV ?_
 rintro aw cL cR bk bK bZ ⟨rfl,rfl⟩
 have bE:SW w [B0] U aw [.row ah ai 3 1 (nA KL.encI aa)] bk:=bZ
 refine rU Z (wT Z ae) (ze Z Z Z) (oR Z (zj Z (ZU ae.out) Z) (eN (ifc cB ?_ ?_)))
 intro bm cC
 refine cT Z bm (kN (zH (zV (ZT ZH [3,3,3,3,3,3,3,3,3,1,3,3,3,1,3,0,3,0] (wND gBn) (by kernel_rfl) ?_))))
 have bb:=bE.drew
 generalize hw_W80:({ bk with drawn:=bk.drawn + 1 }:World)=cP at bb ⊢
 refine oM Z am (oM Z ao (oM Z am (oM Z ao (oR Z (Zj Z Z Z) (oM Z am (oM Z ao (oR Z (Zj Z Z Z) (oR Z (ZQ Z Z aj Z zL zC (wBk aq) (wBl aq)) ?_))))))))
 have cr:=wBt (xs:=aa) (wAR aq)
 refine zr rfl rfl rfl rfl (bb.ldR (j:=0) rfl aj rfl rfl zO (wAs (sz:=1) (fun _=>rfl) _ _ 0 _ cr (by first | omega | rfl | simp) rfl)) rfl (zQ rfl rfl rfl rfl rfl am (zQ rfl rfl rfl rfl rfl ao (za rfl rfl rfl rfl (fun _=>ZQ rfl rfl aj rfl zL zC (wBk ak) (wBl ak)) ?_)))
 have ct:=wBt (xs:=aa) (wAR ak)
 refine zr rfl rfl rfl rfl (bb.ldR (j:=0) rfl aj rfl rfl zO (wAs (sz:=1) (fun _=>rfl) _ _ 0 _ ct (by first | omega | rfl | simp) rfl)) rfl (za rfl rfl rfl rfl (fun _=>ZQ rfl rfl aj rfl zL zC (wBk ak) (wBl ak)) ?_)
 have cu:=wBt (xs:=aa) (wAR ak)
 refine yX (j:=0) (vs:=[jV (gd aa (w64 (ag - 1)).toNat)]) (cs':=nA KL.encI (nE aa ag.toNat (gd aa (w64 (ag - 1)).toNat))) rfl rfl rfl rfl bb rfl aj rfl rfl rfl zC (by rw [wAF (f:=KL.encI) (sz:=1) (fun _=>rfl)];have hz:=wAR ak;show _ + 1 <= _;first | omega | (simp only [nJ];omega) | (simp only [nI,nG,nH];omega)) rfl (wEW (sz:=1) (fo:=0) (fun _=>rfl) _ _ _ _ cu (by first | omega | (simp only [nJ];omega) | (simp only [nI,nG,nH];omega)) (zB rfl) rfl) rfl ?_
 intro bN cd
 have cg:SW w [B0] U aw [.row ah ai 3 1 (nA KL.encI (nE aa ag.toNat (gd aa (w64 (ag - 1)).toNat)))] bN:=cd
 refine bnK cC fun _ az cD=>za rfl rfl rfl rfl (fun _=>ZQ rfl (nL (b:=(.slice ah aa.length ai:Value)) (c:=(.slice ah ((nE aa ag.toNat (gd aa (w64 (ag - 1)).toNat)).length) ai:Value)) rfl (by simp only [nD])) aj rfl zL zC (wBk az) (wBl az)) ?_
 have cw:=wBt (xs:=(nE aa ag.toNat (gd aa (w64 (ag - 1)).toNat))) (by first | exact wAR az | (have hz:=wAR az;simpa only [nD] using hz))
 refine yX (j:=0) (vs:=[jV (gd aa ag.toNat)]) (cs':=nA KL.encI (nE (nE aa ag.toNat (gd aa (w64 (ag - 1)).toNat)) (w64 (ag - 1)).toNat (gd aa ag.toNat))) rfl rfl rfl rfl cg rfl aj rfl rfl rfl zC (by rw [wAF (f:=KL.encI) (sz:=1) (fun _=>rfl)];have hz:=wAR az;show _ + 1 <= _;first | omega | (simp only [nD];omega) | (simp only [nI,nG,nH,nD];omega) | (simp only [nJ];omega) | (simp only [nI,nG,nH];omega)) rfl (wEW (sz:=1) (fo:=0) (fun _=>rfl) _ _ _ _ cw (by first | omega | (simp only [nJ];omega) | (simp only [nI,nG,nH];omega)) (zB rfl) rfl) rfl ?_
 intro bO ci
 have cj:SW w [B0] U aw [.row ah ai 3 1 (nA KL.encI (nE (nE aa ag.toNat (gd aa (w64 (ag - 1)).toNat)) (w64 (ag - 1)).toNat (gd aa ag.toNat)))] bO:=ci
 refine zk (zh (zJ (rR fL3 Z (oM Z ao (oR Z (Zj Z Z Z) (oA Z Z (zk ?_)))))))
 have q:=nB cD
 obtain rfl:=q
 exact zJ ⟨rfl,_,rfl,⟨aw,(nL (b:=(.slice ah ((nE aa ag.toNat (gd aa (w64 (ag - 1)).toNat)).length) ai:Value)) (c:=(.slice ah ((nE (nE aa ag.toNat (gd aa (w64 (ag - 1)).toNat)) (w64 (ag - 1)).toNat (gd aa ag.toNat)).length) ai:Value)) (nL (b:=(.slice ah aa.length ai:Value)) (c:=(.slice ah ((nE aa ag.toNat (gd aa (w64 (ag - 1)).toNat)).length) ai:Value)) am (by simp only [nD])) (by simp only [nD])),aZ,bq,ba,br,rfl,(bg.trans bK),cj,((nD.trans nD).trans bs)⟩⟩
 intro bm cE
 refine cF Z bm (ZD (zb ?_))
 have q:=wAS cE
 obtain ⟨cK,cG,bR⟩:=q
 have q:=bF cK bR
 obtain rfl:=q
 refine zb (zz (zh (zJ (rR fL3 Z (oM Z br (oR Z (zZ Z Z Z) (oA Z Z (zk ?_))))))))
 have q:=nB cG
 obtain rfl:=q
 exact zJ ⟨Z,_,Z,⟨aw,am,aZ,bq,ba,Z,((bz.trans bg).trans bK),bE,bs⟩⟩
 have bG:=bw;rw [if_neg ae] at bG;replace ae:=zI ae
 refine oF Z ae (oF Z ae (oF Z ae (oF Z ae (oF Z ae (oF Z ae (oF Z ae (oF Z ae (oF Z ae (oF Z ae (ZO Z Z Z (zW Z Z (ZI ae.out) Z) (oF Z ae (oR Z (zR Z (ZI ae.out) Z) (eN (zn Z (ZD (zb ?_))))))))))))))))
 have q:=wAS bG
 obtain ⟨cH,cx,bP⟩:=q
 have q:=bF cH bP
 obtain rfl:=q
 refine zb (zz (zh (zJ (rR fL3 Z (oM Z br (oR Z (zZ Z Z Z) (oA Z Z (zk ?_))))))))
 have q:=nB cx
 obtain rfl:=q
 exact zJ ⟨Z,_,Z,⟨bM,am,aZ,bq,ba,Z,(bz.trans bg),au,bs⟩⟩
 have bH:=bu;rw [if_neg an] at bH;replace an:=zI an
 refine cF Z an (ZD (zb ?_))
 have q:=wAS bH
 obtain ⟨cJ,cy,bQ⟩:=q
 have q:=cn cJ bQ
 obtain rfl:=q
 refine zb (zz ?_)
 have hE:=nB cy;first | subst r | cases hE
 exact ⟨Z,_,(wNE),bj,_,bD,Z,Z,bC⟩
theorem wFI (p0:List Int) (aa:Option Addr) (ae:Nat) (p1:Int) (p2:((Int × Int)->Option Int)) (ai:Value) (w:World) (U:PHeap) (hS:St0 w U [.row aa ae 3 1 (nA KL.encI p0)]) (bM:FnOK Tryz.prog U ai wTp wTq p2) {r:(List Int)} (hm:wCW p0 p1 p2=some r):Gv Tryz.prog 131 [.slice aa p0.length ae,jV p1,ai] w (wBW w [.row aa ae 3 1 (nA KL.encI p0)] U (fun U_ L_ v=>v=.tuple #[]/\L_=[.row aa ae 3 1 (nA KL.encI r)]/\r.length=p0.length)):=by
 unfold wCW at hm
 refine Gv.of Tryz.func131 Z Tryz.ntmps131 Tryz.results131 Z (sR fL1 Z (oA Z Z (eN (sR fL3 Z (oM Z Z (oA Z Z (oA Z Z (eN ?_))))))))
 have q:=bnd hm
 obtain ⟨⟨l2,x3⟩,cU,bT⟩:=q
 try dsimp only at bT
 let B0:Res:=.row aa ae 3 1 (nA KL.encI p0)
 refine CK.cut (fun σ_ w_=>∃ (U_:PHeap),σ_ 0=.slice aa l2.length ae/\σ_ 1=jV p1/\σ_ 2=ai/\σ_ 6=jV 20/\σ_ 7=jV x3/\PHeap.Le U U_/\SW w [B0] U U_ [.row aa ae 3 1 (nA KL.encI l2)] w_/\l2.length=p0.length) ?_ ?_
 refine zV (yI (fun (ao,x17,aX) σ_ w_=>∃ (U_:PHeap),σ_ 0=.slice aa ao.length ae/\σ_ 1=jV p1/\σ_ 2=ai/\σ_ 6=jV 20/\σ_ 7=jV x17/\σ_ 8=jV aX/\PHeap.Le U U_/\SW w [B0] U U_ [.row aa ae 3 1 (nA KL.encI ao)] w_/\ao.length=p0.length) cU ?_ ?_)
 exact ⟨U,Z,Z,Z,Z,Z,Z,(zU _),hS,Z⟩
 rintro ⟨ao,x17,aX⟩ dz dD bY ⟨bp,ba,bb,be,bg,bC,aw,bm,bK,bH⟩ bj cL
 try dsimp only at bj
 refine zH (sR fL3 Z (oM Z aw (oM Z bb (oR Z (yP Z Z Z) (eN ?_)))))
 by_cases ak:aX <= p1
 have bR:=bj;rw [if_pos ak] at bR;replace ak:=zI ak
 refine cT Z ak (kN (zV (sR (wET (.fx 4 .nil .stop)) Z (oM Z ba (oM Z bC (oM Z aw (oM Z be ?_)))))))
 have cx:=bM.le bm
 refine bnK bR fun x39 cy cQ=>zG 1 Z Z Z Z (zF Z Z Tryz.call166 (zA Z (zA Z (zA Z (zA Z zK)))) Z) bK (fun hs=>wCe ao aa ae x17 aX p2 ai bY bp hs cx cy) (.inl Z) ?_
 rintro bq de dw bZ cX cD ⟨rfl,rfl,bI⟩
 have cE:SW w [B0] U bq [.row aa ae 3 1 (nA KL.encI x39)] bZ:=cD
 refine eN (sR fL2 Z (oM Z aw (oA Z Z (eN (rR fL4 Z (oM Z aw (oM Z bg (oR Z (zZ Z Z Z) (oA Z Z (zk (zh ?_)))))))))))
 have q:=nB cQ
 obtain rfl:=q
 exact zJ ⟨rfl,_,rfl,⟨bq,(nL (b:=(.slice aa ao.length ae:Value)) (c:=(.slice aa x39.length ae:Value)) ba (by rw [bI])),bb,be,bg,rfl,rfl,(bm.trans cX),cE,(bI.trans bH)⟩⟩
 have bS:=bj;rw [if_neg ak] at bS;replace ak:=zI ak
 refine cF Z ak (ZD (zb ?_))
 have q:=wAS bS
 obtain ⟨db,cR,cm⟩:=q
 have q:=cL db cm
 obtain rfl:=q
 refine zb (zz ?_)
 cases cR
 exact zJ ⟨Z,⟨bp,ba,bb,be,bg,bC,bm,bK,bH⟩⟩
 rintro dE cd ⟨bX,bD,bE,bF,cr,ct,cY,cG,cz⟩
 refine sR (wET (.fx 4 .nil .stop)) Z (oM Z bD (oM Z ct (oM Z bE (oM Z bF ?_))))
 have cA:=bM.le cY
 refine bnK bT fun aq cB cS=>zG 1 Z Z Z Z (zF Z Z Tryz.call166 (zA Z (zA Z (zA Z (zA Z zK)))) Z) cG (fun hs=>wCe l2 aa ae x3 p1 p2 ai cd bX hs cA cB) (.inl Z) ?_
 rintro aY df dx cg du cH ⟨rfl,rfl,bJ⟩
 let B1:Res:=.row aa ae 3 1 (nA KL.encI aq)
 have cJ:SW w [B0] U aY [B1] cg:=cH
 refine eN (zV (yI (fun _ σ_ w_=>∃ (U_:PHeap),σ_ 0=.slice aa aq.length ae/\σ_ 1=jV p1/\σ_ 2=ai/\σ_ 6=jV 20/\PHeap.Le aY U_/\SW w [B0] U U_ [B1] w_) cS ?_ ?_))
 exact ⟨aY,(nL (b:=(.slice aa l2.length ae:Value)) (c:=(.slice aa aq.length ae:Value)) bD (by rw [bJ])),bE,bF,cr,(zU _),cJ⟩
 rintro ⟨⟩ dA dF dp ⟨av,cu,bG,cw,bh,dv,bL⟩ bk cM
 try dsimp only at bk
 refine zH (sR fL3 Z (oM Z bh (oM Z bG (oR Z (ze Z Z Z) (eN ?_)))))
 by_cases ah:20 < p1
 have bU:=bk;rw [if_pos ah] at bU;replace ah:=zI ah
 refine cT Z ah (kN (zV (sR fL4 rfl (zQ rfl rfl rfl rfl rfl bh (za rfl rfl rfl rfl (fun _=>zw (yW rfl rfl rfl) (congrArg (jV) (show w64 (2 * 20)=40 by decide))) (Ze rfl rfl rfl rfl rfl rfl (Ze rfl rfl rfl rfl rfl rfl (eN ?_))))))))
 have q:=bnd bU
 obtain ⟨⟨⟩,cV,bN⟩:=q
 try dsimp only at bN
 refine CK.cut (fun σ_ w_=>∃ (U_:PHeap),σ_ 0=.slice aa aq.length ae/\σ_ 1=jV p1/\σ_ 2=ai/\σ_ 6=jV 20/\σ_ 7=jV 0/\PHeap.Le av U_/\SW w [B0] U U_ [B1] w_) ?_ ?_
 refine zV (yI (fun _ σ_ w_=>∃ (U_:PHeap),σ_ 0=.slice aa aq.length ae/\σ_ 1=jV p1/\σ_ 2=ai/\σ_ 6=jV 20/\σ_ 7=jV 0/\σ_ 8=jV 40/\PHeap.Le av U_/\SW w [B0] U U_ [B1] w_) cV ?_ ?_)
 exact ⟨av,cu,bG,cw,bh,Z,Z,(zU _),bL⟩
 rintro ⟨⟩ dy dB dh ⟨bW,br,bs,bu,bw,aZ,bz,cW,cC⟩ bi cK
 try dsimp only at bi
 refine zH (sR fL3 Z (oM Z bz (oM Z bs (oR Z (yP Z Z Z) (eN ?_)))))
 by_cases aj:40 <= p1
 have bO:=bi;rw [if_pos aj] at bO;replace aj:=zI aj
 refine cT Z aj (kN (zV (sR (wML (.fx 7 .nil .stop)) rfl (zQ rfl rfl rfl rfl rfl br (zQ rfl rfl rfl rfl rfl aZ (zQ rfl rfl rfl rfl rfl aZ (zQ rfl rfl rfl rfl rfl bw (za rfl rfl rfl rfl (fun _=>zw (zZ rfl rfl rfl) (congrArg (jV) (show w64 (0 + 20)=20 by decide))) (zQ rfl rfl rfl rfl rfl bz (zQ rfl rfl rfl rfl rfl bu ?_))))))))))
 cases bO
 have bP:=bi;rw [if_neg aj] at bP;replace aj:=zI aj
 refine cF Z aj (ZD (zb ?_))
 have q:=wAS bP
 obtain ⟨cZ,cN,ci⟩:=q
 have q:=cK cZ ci
 obtain rfl:=q
 refine zb (zz ?_)
 cases cN
 exact zJ ⟨Z,⟨bW,br,bs,bu,bw,aZ,cW,cC⟩⟩
 rintro dC dm ⟨dg,cn,bA,cp,cq,bB,dt,dr⟩
 refine zH (sR fL4 rfl (zQ rfl rfl rfl rfl rfl bB (zQ rfl rfl rfl rfl rfl cq (za rfl rfl rfl rfl (fun _=>zw (zZ rfl rfl rfl) (congrArg (jV) (show w64 (0 + 20)=20 by decide))) (Ze rfl rfl rfl rfl rfl rfl (eN (sR fL3 rfl (zQ rfl rfl rfl rfl rfl rfl (zQ rfl rfl rfl rfl rfl bA (za rfl rfl rfl rfl (fun _=>ze rfl rfl rfl) (eN (cT Z ah (rR (wID (.fx 5 .nil .stop)) rfl (zQ rfl rfl rfl rfl rfl cn (zQ rfl rfl rfl rfl rfl bB (zQ rfl rfl rfl rfl rfl rfl (zQ rfl rfl rfl rfl rfl bA (zQ rfl rfl rfl rfl rfl cp ?_))))))))))))))))))
 cases bN
 have bQ:=bk;rw [if_neg ah] at bQ;replace ah:=zI ah
 refine cF Z ah (ZD (zb ?_))
 have q:=wAS bQ
 obtain ⟨da,cP,cj⟩:=q
 have q:=cM da cj
 obtain rfl:=q
 refine zb (zz ?_)
 have hE:=nB cP;first | subst r | cases hE
 exact ⟨Z,_,(wNE),av,_,bL,Z,Z,(bJ.trans cz)⟩
set_option maxHeartbeats 4000000
theorem wEb (p0:List Int) (ae:Option Addr) (ag:Nat) (p1:((Int × Int)->Option Int)) (ai:Value) (w:World) (U:PHeap) (hS:St0 w U [.row ae ag 3 1 (nA KL.encI p0)]) (aq:FnOK Tryz.prog U ai wTp wTq p1) {r:(List Int)} (hm:wBO p0 p1=some r):Gv Tryz.prog 101 [.slice ae p0.length ag,ai] w (wBW w [.row ae ag 3 1 (nA KL.encI p0)] U (fun U_ L_ v=>v=.tuple #[]/\L_=[.row ae ag 3 1 (nA KL.encI r)]/\r.length=p0.length)):=by
 unfold wBO at hm
 refine Gv.of Tryz.func101 Z Tryz.ntmps101 Tryz.results101 Z (rR (wET (.fx 4 .nil .stop)) Z (oM Z Z (oM Z Z (oR Z (zy Z Z zL) (oM Z Z (bnK hm fun x2 h3 au=>zG 1 Z Z Z Z (zF Z Z Tryz.call131 (zA Z (zA Z (zA Z zK))) Z) hS (fun hs=>wFI p0 ae ag (↑p0.length:Int) p1 ai w U hs aq h3) (.inl Z) ?_))))))
 rintro U5 L6 v7 W8 az ao ⟨rfl,rfl,am⟩
 have ap:SW w [.row ae ag 3 1 (nA KL.encI p0)] U U5 [.row ae ag 3 1 (nA KL.encI x2)] W8:=ao
 refine zk ?_
 have hE:=nB au;first | subst r | cases hE
 exact ⟨Z,_,(wNE),U5,_,ap,Z,Z,am⟩
theorem wHQ (p0:wAQ) (aX:Option Addr) (aY:Nat) (ap:Option Addr) (aq:Nat) (p1:Int) (w:World) (U:PHeap) (hS:St0 w U []) (cU:Sl U 1 aX aY p0.Cup.Points.length (nA KL.encI p0.Cup.Points)) (cV:SlR U wEH ap aq p0.Cup.Done) {r:(List Int)} (hm:wCb p0 p1=some r):Gv Tryz.prog 68 [.agg #[jV p0.Cup.Skiers,jV p0.Cup.Races,jV p0.Cup.Best,.slice aX p0.Cup.Points.length aY,.slice ap p0.Cup.Done.length aq],jV p1] w (wBW w [] U (fun U_ L_ v=>∃ (A0:Option Addr) (c0:Nat),v=.slice A0 r.length c0/\L_=[.row A0 c0 3 1 (nA KL.encI r)])):=by
 unfold wCb at hm
 refine Gv.of Tryz.func68 Z Tryz.ntmps68 Tryz.results68 Z (sR gBo Z ?_)
 let B0:List Value:=[jV p0.Cup.Skiers,jV p0.Cup.Races,jV p0.Cup.Best,.slice aX p0.Cup.Points.length aY,.slice ap p0.Cup.Done.length aq]
 refine ZA (cs:=B0) rfl rfl rfl rfl rfl rfl (by rfl) hS ?_
 intro W1 b2 cJ
 have q:=cJ.freeze (k:=0) rfl
 obtain ⟨U5,bL,an,cQ⟩:=q
 replace an:=Cl.of an
 have cS:sW w U U5 [] W1:=cQ
 replace an:Cl U5 b2 0 B0:=an
 refine ZA (cs:=[jV p1]) rfl rfl rfl rfl rfl rfl (by rfl) cS ?_
 intro bP aj cB
 have q:=cB.freeze (k:=0) rfl
 obtain ⟨av,bk,am,cH⟩:=q
 replace am:=Cl.of am
 have bJ:sW w U av [] bP:=cH
 replace am:Cl av aj 0 [jV p1]:=am
 refine oA Z Z (eN (sR fL1 Z (oA Z Z (eN (zH (sR fL5 Z (oR Z (zD Z Z zt Z zX) (oR Z (zD Z Z zY Z ZV) ?_))))))))
 have bH:=an.le bk
 refine oL Z (bJ.ldC (f:=4) bH (v:=.slice ap p0.Cup.Done.length aq) Z Z Zq Z) (oR Z (zy Z Z zx) (oM Z Z (eN (zV (bnK hm fun bm cY dg=>?_)))))
 have q:=wBr cY
 obtain ⟨bj,cZ⟩:=q
 replace bj:=zI bj
 refine CK.forN' (fun ah ao σ_ w_=>∃ (U_:PHeap) (au:Option Addr) (aw:Nat),σ_ 11=jV (↑ah:Int)/\σ_ 2=.pointer (some ⟨b2,0,none⟩)/\σ_ 3=.pointer (some ⟨aj,0,none⟩)/\σ_ 5=.slice au ao.length aw/\σ_ 10=jV (↑p0.Cup.Done.length:Int)/\PHeap.Le av U_/\sW w U U_ [.row au aw 3 1 (nA KL.encI ao)] w_) cZ ?_ ?_ ?_
 have cK:=bJ.nilrow 3 1
 exact ⟨av,none,0,Z,Z,Z,Z,Z,(zU _),cK⟩
 rintro ah ao dE dF dy bi ⟨ba,au,aw,bg,bW,bX,bY,bD,du,cL⟩ dr
 have bB:Hid ((↑ah:Int) < (↑p0.Cup.Done.length:Int)):=zI (wBq bi)
 replace bi:=zI bi
 have da:Hid (w64 ((↑ah:Int) + 1)=(↑(ah + 1):Int)):=zI (by have h1:=bj.out;have h2:=bB.out;rw [wAT] <;> omega)
 refine sR fL1 Z (oR Z (ze Z bg bD) (eN (zH (cT Z bB (kN (zH (zV (sR fL2 Z (oM Z bg (oA Z Z (eN (rR (.fl 0 (.fl 1 (.fx 2 gBj .stop))) Z (oM Z bY (oM Z Z (ZM (pv:=[(0,jV (↑ah:Int))]) (zs:=[jV 0]) (cs:=[jV (↑ah:Int)]) Z Z Z Z Z (wAK Z wAb) zL zC Zx Z Z Z Z Z cL ?_)))))))))))))))
 intro bR bU cM
 let B1:Res:=.row (some ⟨bU,0,none⟩) 1 3 1 (nA KL.encI [(↑ah:Int)])
 have bK:sW w U ba [B1,.row au aw 3 1 (nA KL.encI ao)] bR:=cM
 refine bnK dr fun x66 cr dh=>Zv (j:=1) (enc:=KL.encI) (xs:=ao) (ys:=[(↑ah:Int)]) (zs:=x66) rfl rfl rfl rfl rfl yK wJz rfl rfl rfl rfl rfl rfl bK rfl rfl rfl (bK.srcR (j:=0) rfl (by decide) (wAF (f:=KL.encI) (sz:=1) (fun _=>rfl) [(↑ah:Int)])) (fun _=>rfl) (fun _=>rfl) cr rfl ?_
 intro bq bC bS cN
 have cP:sW w U ba [B1,.row bq bC 3 1 (nA KL.encI x66)] bS:=cN
 refine oA Z Z (zk (zh (zJ (rR fL2 Z (oR Z (zw (zZ Z bg Z) (congrArg (jV) da.out)) (oM Z Z (zk ?_)))))))
 cases dh
 exact zJ ⟨rfl,⟨ba,bq,bC,rfl,bW,bX,rfl,bD,du,(cP.pick [1] _ (by decide) rfl)⟩⟩
 rintro dG bT ⟨bz,ae,ag,cg,bE,bZ,be,cd,az,cR⟩
 have bV:Hid (¬ ((↑(((↑p0.Cup.Done.length:Int):Int) - 0).toNat:Int) < (↑p0.Cup.Done.length:Int))):=zI (wBH)
 refine sR fL1 Z (oR Z (ze Z cg cd) (eN (zH (cF Z bV (ZD (zb (zb (zz (zJ (sR gBt Z (oM Z be (oR Z (yD Z zK (zA bE (zA bZ zK))) ?_))))))))))))
 have bI:=bH.le az
 have ct:=cU.le bL
 have cu:=ct.le bk
 have cw:=cu.le az
 have cx:=cV.le bL
 have cy:=cx.le bk
 have ci:=cy.le az
 have cj:=am.le az
 have cz:FnOK Tryz.prog bz (.func (.func 102) #[] #[.pointer (some ⟨b2,0,none⟩),.pointer (some ⟨aj,0,none⟩)]) wTp wTq (fun x=>wBS x.1 x.2 p0 p1):=⟨102,[],[.pointer (some ⟨b2,0,none⟩),.pointer (some ⟨aj,0,none⟩)],rfl,Tryz.call102,fun U1 w1 x y vs le hs ha hm=>by obtain rfl:=ha;exact wGd x.1 x.2 p0 b2 aX aY ap aq p1 aj w1 U1 hs (bI.le le) (cw.le le) (ci.le le) (cj.le le) hm⟩
 refine bnK dg fun x103 cm db=>zG 1 Z Z Z Z (zF Z Z Tryz.call101 (zA Z (zA Z zK)) Z) cR (fun hs=>wEb bm ae ag (fun x=>wBS x.1 x.2 p0 p1) (.func (.func 102) #[] #[.pointer (some ⟨b2,0,none⟩),.pointer (some ⟨aj,0,none⟩)]) bT bz hs cz cm) (.inl Z) ?_
 rintro aZ dw dC bb dt cA ⟨rfl,rfl,bF⟩
 have bh:sW w U aZ [.row ae ag 3 1 (nA KL.encI x103)] bb:=cA
 refine eN (sR fL9 rfl (zQ rfl rfl rfl rfl rfl (nL (b:=(.slice ae bm.length ag:Value)) (c:=(.slice ae x103.length ag:Value)) be (by rw [bF])) (zQ rfl rfl rfl rfl rfl (nL (b:=(.slice ae bm.length ag:Value)) (c:=(.slice ae x103.length ag:Value)) be (by rw [bF])) (za rfl rfl rfl rfl (fun _=>zy rfl rfl zL) (za rfl rfl rfl rfl (fun _=>zD rfl bE zt rfl zX) (za rfl rfl rfl rfl (fun _=>zD rfl rfl zY rfl zC) ?_))))))
 have cn:=bI.le dt
 refine oL Z (bh.ldC (f:=2) cn (v:=jV p0.Cup.Best) Z Z zO Z) (oR Z (Runs.min Z Z Z) (bnK db fun x115 bG de=>?_))
 have q:=wMS bG
 obtain ⟨dz,cW,cX,dA,dm⟩:=q
 have dp:=bh.rowCap (j:=0) rfl (by decide) (wAF (f:=KL.encI) (sz:=1) (fun _=>rfl) x103)
 refine za (v:=.slice ae x115.length ag) rfl rfl rfl rfl (fun _=>zw (Runs.slc (sz:=1) (a:=0) (b:=(min (↑x103.length:Int) p0.Cup.Best)) rfl rfl (.inr ⟨rfl,rfl⟩) (.inl ⟨_,rfl,rfl⟩) zL zC (nQ _) cW cX dp) (slcK.trans (by rw [dm]))) ?_
 have cC:=bh.cutRowC (enc:=KL.encI) (k:=0) rfl bG
 have cD:sW w U aZ [.row ae ag 3 1 (nA KL.encI x115)] bb:=cC
 refine oA Z Z (eN (sR gBh Z (oM Z Z (bnK de fun bM cp df=>zG 1 Z Z Z Z (zF Z Z Tryz.call100 (zA Z zK) Z) cD (fun hs=>wEj x115 ae ag bb aZ hs cp) (.inl Z) ?_))))
 rintro bu dx dD bQ dB cE ⟨rfl,rfl,cq⟩
 have cG:sW w U bu [.row ae ag 3 1 (nA KL.encI bM)] bQ:=cE
 refine eN (sR fL2 rfl (zQ rfl rfl rfl rfl rfl (nL (b:=(.slice ae x115.length ag:Value)) (c:=(.slice ae bM.length ag:Value)) rfl (by rw [cq])) (Ze rfl rfl rfl rfl rfl rfl (eN (zM ?_)))))
 have hE:=nB df;first | subst r | cases hE
 exact ⟨Z,_,(zi Z),bu,_,cG,ae,ag,Z,Z⟩
theorem wEP (p0:wAQ) (bb:Option Addr) (be:Nat) (ap:Option Addr) (aq:Nat) (p1:Int) (w:World) (U:PHeap) (hS:St0 w U []) (cA:Sl U 1 bb be p0.Cup.Points.length (nA KL.encI p0.Cup.Points)) (bF:SlR U wEH ap aq p0.Cup.Done) {r:wCB} (hm:wBY p0 p1=some r):Gv Tryz.prog 29 [.agg #[jV p0.Cup.Skiers,jV p0.Cup.Races,jV p0.Cup.Best,.slice bb p0.Cup.Points.length be,.slice ap p0.Cup.Done.length aq],jV p1] w (wBW w [] U (fun U_ L_ v=>v=.agg (([jV r.total]:List Go.Value) ++ (nA KL.encI r.places.l)).toArray/\L_=[])):=by
 unfold wBY at hm
 refine Gv.of Tryz.func29 Z Tryz.ntmps29 Tryz.results29 Z (sR gBk Z ?_)
 let B0:List Value:=[jV p0.Cup.Skiers,jV p0.Cup.Races,jV p0.Cup.Best,.slice bb p0.Cup.Points.length be,.slice ap p0.Cup.Done.length aq]
 refine ZA (cs:=B0) rfl rfl rfl rfl rfl rfl (by rfl) hS ?_
 intro W1 b2 dT
 refine zq (cs:=([jV 0]:List Go.Value) ++ (nA KL.encI (Arr.fill 61 0).l)) Z Z Z Z Z Tryz.zeroValue94 Z dT ?_
 intro W5 b6 dU
 have dW:sW w U U [.blk b6 94 (([jV 0]:List Go.Value) ++ (nA KL.encI (Arr.fill 61 0).l)),.blk b2 87 B0] W5:=dU
 refine eN (sR (.fx 0 .nil .stop) Z (zq (cs:=([jV 0]:List Go.Value) ++ (nA KL.encI (Arr.fill 61 0).l)) Z Z Z Z Z Tryz.zeroValue94 Z dW ?_))
 intro bW ag dN
 have cx:sW w U U [.blk ag 94 (([jV 0]:List Go.Value) ++ (nA KL.encI (Arr.fill 61 0).l)),.blk b6 94 (([jV 0]:List Go.Value) ++ (nA KL.encI (Arr.fill 61 0).l)),.blk b2 87 B0] bW:=dN
 refine eN (zH (sR gBw Z (oL Z (cx.ldBA (j:=2) Z Z Z Zo ZP (vs:=B0) Z Z) (oM Z Z (bnK hm fun ao dt eG=>zG 0 Z Z Z Z (zF Z Z Tryz.call68 (zA Z (zA Z zK)) Z) cx (fun hs=>wHQ p0 bb be ap aq p1 bW U hs cA bF dt) (.inr Z) ?_)))))
 rintro bm ff fH cN bM dR ⟨bQ,cd,rfl,rfl⟩
 let B1:Res:=.row bQ cd 3 1 (nA KL.encI ao)
 have dS:sW w U bm [B1,.blk ag 94 (([jV 0]:List Go.Value) ++ (nA KL.encI (Arr.fill 61 0).l)),.blk b6 94 (([jV 0]:List Go.Value) ++ (nA KL.encI (Arr.fill 61 0).l)),.blk b2 87 B0] cN:=dR
 refine oR Z (zy Z Z zL) (oM Z Z (eN (zV (bnK eG fun ak eu eM=>?_))))
 have q:=wBr eu
 obtain ⟨bK,ew⟩:=q
 replace bK:=zI bK
 refine CK.forN' (fun aZ x33 σ_ w_=>∃ (U_:PHeap),σ_ 14=jV (↑aZ:Int)/\σ_ 1=jV p1/\σ_ 2=.pointer (some ⟨b2,0,none⟩)/\σ_ 4=.pointer (some ⟨b6,0,none⟩)/\σ_ 5=.pointer (some ⟨ag,0,none⟩)/\σ_ 12=.slice bQ ao.length cd/\σ_ 13=jV (↑ao.length:Int)/\PHeap.Le bm U_/\sW w U U_ [.blk ag 94 (([jV x33]:List Go.Value) ++ (nA KL.encI (Arr.fill 61 0).l)),.blk b6 94 (([jV 0]:List Go.Value) ++ (nA KL.encI (Arr.fill 61 0).l)),.blk b2 87 B0,B1] w_) ew ?_ ?_ ?_
 exact ⟨bm,rfl,rfl,rfl,rfl,rfl,rfl,rfl,(zU _),(dS.pick [1,2,3,0] _ (by decide) rfl)⟩
 rintro aZ x33 fN fR bX bH ⟨bT,bz,cm,bu,dh,bw,cn,cp,bN,bE⟩ eV
 have cg:Hid ((↑aZ:Int) < (↑ao.length:Int)):=zI (wBq bH)
 replace bH:=zI bH
 have eC:Hid (w64 ((↑aZ:Int) + 1)=(↑(aZ + 1):Int)):=zI (by have h1:=bK.out;have h2:=cg.out;rw [wAT] <;> omega)
 refine sR fL1 Z (oR Z (ze Z bz cp) (eN (zH (cT Z cg (kN (zH (zV (sR fL3 Z (bnK eV fun _ bA eO=>?_)))))))))
 have q:=bE.rowSome (j:=3) rfl (by rw [wAF (f:=KL.encI) (sz:=1) (fun _=>rfl) ao];have hz:=wAR bA;omega)
 obtain ⟨fy,cu⟩:=q
 refine oR Z (ZZ Z cn cu bz zL zC (wAR bA)) ?_
 have eB:=wBt (xs:=ao) (wAR bA)
 refine zr rfl rfl rfl rfl (bE.ldR (j:=3) rfl cu rfl rfl zO (wAs (sz:=1) (fun _=>rfl) _ _ 0 _ eB (by first | omega | rfl | simp) rfl)) rfl (Ze rfl rfl rfl rfl rfl rfl (eN (ZT ZH [3,1,3,1,3,3,1,3,3,1,3,2,2,2,3,0] (wRj (.fx 11 (.fx 12 (.fx 13 (.fl 14 (.fx 15 .nil .stop)) .stop) .stop) .stop)) (by kernel_rfl) ?_)))
 have aX:=bE.drew
 generalize hw_W64:({ bX with drawn:=bX.drawn + 1 }:World)=cR at aX ⊢
 refine oR Z (zD Z bw ZL Z zC) (oL Z (aX.ldB (j:=0) Z Z Z zO (v:=jV x33) Z) (oR Z (zD Z bu zt Z zX) (oL Z (aX.ldBA (j:=2) Z Z Z ZG zX (vs:=B0) Z Z) (oR Z (zD Z bu zt Z zX) (oR Z (zD Z Z zY Z ZV) (oL Z (aX.ldB (j:=2) Z Z Z Zq (v:=.slice ap p0.Cup.Done.length aq) Z) (oM Z Z (bnK eO fun x65 bB eP=>?_))))))))
 have dx:=bF.le bM
 have ct:=dx.le bN
 have q:=ct.el (wBD bB)
 obtain ⟨cV,fc,fL,dF,bD,eS⟩:=q
 obtain ⟨bO,bP,rfl,dy⟩:=eS
 replace bD:Cl bT cV (fc + (gd ao aZ).toNat * 1) [.slice bO x65.length bP]:=bD
 refine oR Z (ZQ Z Z dF Z zx Zc (wFJ bB) (wFT bB)) (oL Z (aX.ldC (f:=0) bD (v:=.slice bO x65.length bP) Z Z yB Z) (oM Z cm ?_))
 have dz:=cA.le bM
 have dA:=dz.le bN
 refine bnK eP fun x81 dB eQ=>zG 0 Z Z Z Z (zF Z Z Tryz.call70 (zA Z (zA Z (zA Z zK))) Z) aX (fun hs=>wEs p0.Cup bb be ap aq x65 bO bP p1 cR bT hs dA ct dy dB) (.inr Z) ?_
 rintro bU fg fJ cS eY dV ⟨rfl,rfl⟩
 have dX:sW w U bU [.blk ag 94 (([jV x33]:List Go.Value) ++ (nA KL.encI (Arr.fill 61 0).l)),.blk b6 94 (([jV 0]:List Go.Value) ++ (nA KL.encI (Arr.fill 61 0).l)),.blk b2 87 B0,B1] cS:=dV
 refine ZM (pv:=[(0,jV x33),(1,jV x81)]) (zs:=[jV 0,jV 0]) (cs:=[jV x33,jV x81]) Z Z Z Z Z (wAK Z (wAK Z wAb)) zL zC Zx Z Z Z Z Z dX ?_
 intro bp bY dY
 have dZ:sW w U bU [.row (some ⟨bY,0,none⟩) 2 3 1 (nA KL.encI [x33,x81]),.blk ag 94 (([jV x33]:List Go.Value) ++ (nA KL.encI (Arr.fill 61 0).l)),.blk b6 94 (([jV 0]:List Go.Value) ++ (nA KL.encI (Arr.fill 61 0).l)),.blk b2 87 B0,B1] bp:=dY
 have q:=dZ.freezeR (k:=0) (n:=[x33,x81].length) rfl (wAF (f:=KL.encI) (sz:=1) (fun _=>rfl) [x33,x81]) (by decide)
 obtain ⟨bV,eZ,eT,eh⟩:=q
 have dI:sW w U bV [.blk ag 94 (([jV x33]:List Go.Value) ++ (nA KL.encI (Arr.fill 61 0).l)),.blk b6 94 (([jV 0]:List Go.Value) ++ (nA KL.encI (Arr.fill 61 0).l)),.blk b2 87 B0,B1] bp:=eh
 refine bnK eQ fun x101 dr eD=>zG 0 Z Z Z Z (zF Z Z Tryz.call69 (zA Z zK) Z) dI (fun hs=>wLD [x33,x81] (some ⟨bY,0,none⟩) 2 bp bV hs eT dr) (.inr Z) ?_
 rintro bk fd fG cK eW dJ ⟨rfl,rfl⟩
 have dK:sW w U bk [.blk ag 94 (([jV x33]:List Go.Value) ++ (nA KL.encI (Arr.fill 61 0).l)),.blk b6 94 (([jV 0]:List Go.Value) ++ (nA KL.encI (Arr.fill 61 0).l)),.blk b2 87 B0,B1] cK:=dJ
 refine za rfl rfl rfl rfl (fun _=>zD rfl bw ZL rfl zC) (zo (j:=0) (vs:=[jV x101]) rfl rfl rfl rfl dK rfl rfl rfl rfl zC (by simp) rfl rfl rfl ?_)
 intro cL dL
 have dM:sW w U bk [.blk ag 94 (([jV x101]:List Go.Value) ++ (nA KL.encI (Arr.fill 61 0).l)),.blk b6 94 (([jV 0]:List Go.Value) ++ (nA KL.encI (Arr.fill 61 0).l)),.blk b2 87 B0,B1] cL:=dL
 refine zk (zh (zJ (rR fL2 Z (oR Z (zw (zZ Z bz Z) (congrArg (jV) eC.out)) (oM Z Z (zk ?_))))))
 cases eD
 exact zJ ⟨Z,⟨bk,Z,cm,bu,dh,bw,cn,cp,(((bN.trans eY).trans eZ).trans eW),dM⟩⟩
 rintro fO fj ⟨bR,dm,cY,cZ,da,db,fz,de,eX,cw⟩
 have cW:Hid (¬ ((↑(((↑ao.length:Int):Int) - 0).toNat:Int) < (↑ao.length:Int))):=zI (wBH)
 refine sR fL1 Z (oR Z (ze Z dm de) (eN (zH (cF Z cW (ZD (zb (zb (zz (zJ (zH (sR fL5 Z (oR Z (zD Z cZ zt Z zX) (oR Z (zD Z Z zY Z ZV) (oL Z (cw.ldB (j:=2) Z Z Z Zq (v:=.slice ap p0.Cup.Done.length aq) Z) (oR Z (zy Z Z zx) (oM Z Z (eN (zV (bnK eM fun aj ep eE=>?_)))))))))))))))))))
 have q:=wBr ep
 obtain ⟨bJ,er⟩:=q
 replace bJ:=zI bJ
 refine CK.forN' (fun aY an σ_ w_=>∃ (U_:PHeap),σ_ 38=jV (↑aY:Int)/\σ_ 1=jV p1/\σ_ 4=.pointer (some ⟨b6,0,none⟩)/\σ_ 5=.pointer (some ⟨ag,0,none⟩)/\σ_ 36=.slice ap p0.Cup.Done.length aq/\σ_ 37=jV (↑p0.Cup.Done.length:Int)/\PHeap.Le bR U_/\sW w U U_ [.blk ag 94 (([jV ak]:List Go.Value) ++ (nA KL.encI an.l)),.blk b6 94 (([jV 0]:List Go.Value) ++ (nA KL.encI (Arr.fill 61 0).l)),.blk b2 87 B0] w_) er ?_ ?_ ?_
 exact ⟨bR,rfl,cY,da,db,rfl,rfl,(zU _),(cw.pick [0,1,2] _ (by decide) rfl)⟩
 rintro aY an fM fP fk bG ⟨bg,bj,bh,ci,bi,br,bs,bL,az⟩ eU
 have bZ:Hid ((↑aY:Int) < (↑p0.Cup.Done.length:Int)):=zI (wBq bG)
 replace bG:=zI bG
 have cB:Hid (w64 ((↑aY:Int) + 1)=(↑(aY + 1):Int)):=zI (by have h1:=bJ.out;have h2:=bZ.out;rw [wAT] <;> omega)
 refine sR fL1 Z (oR Z (ze Z bj bs) (eN (zH (cT Z bZ (kN (zH (zV (sR fL3 Z (bnK eU fun cJ cq eF=>?_)))))))))
 have du:=bF.le bM
 have dv:=du.le eX
 have dw:=dv.le bL
 have q:=dw.el (wBD cq)
 obtain ⟨cU,fb,fK,dC,bC,eR⟩:=q
 obtain ⟨cG,cH,rfl,cr⟩:=eR
 replace bC:Cl bg cU (fb + aY * 1) [.slice cG cJ.length cH]:=bC
 refine oR Z (ZZ Z br dC bj zx Zc (wDB cq)) (oL Z (az.ldC (f:=0) bC (v:=.slice cG cJ.length cH) Z Z yB Z) (oA Z Z (eN (sR fL5 Z (oM Z Z (oM Z bh (bnK eF fun am aw eH=>?_)))))))
 have q:=cr.el (fun _=>rfl) (wBD aw)
 obtain ⟨ft,fD,dD,dG⟩:=q
 refine oR Z (ZQ Z Z dD Z zL zC (wFJ aw) (wFT aw)) (oL Z (az.ldC (f:=0) dG (v:=jV am) Z Z zO Z) (oR Z (Zz Z Z Z) (eN (ifc eH ?_ ?_))))
 intro bq eI
 refine cT Z bq (rR (wQu (.fx 10 .nil .stop)) Z (oM Z Z (oM Z bh ?_)))
 have q:=cr.el (fun _=>rfl) (wBD aw)
 obtain ⟨fw,fE,dE,dH⟩:=q
 refine oR Z (ZQ Z Z dE Z zL zC (wFJ aw) (wFT aw)) (oL Z (az.ldC (f:=0) dH (v:=jV am) Z Z zO Z) (oR Z (zD Z bi ZL Z yH) (bnK eI fun _ av eJ=>oR Z (Runs.iaA Z Z Z yJ zC (wBk av) (wBl av)) ?_)))
 have ey:=Arr.at_ an (k:=am.toNat) (by have hz0:=wAR av;omega)
 refine zr rfl rfl rfl rfl (az.ldB (j:=0) rfl rfl ((rfl:ev _ _=.pointer (some ⟨ag,1 + am.toNat * 1,none⟩)).trans (wIR (by omega))) zO (wJO (n:=1) rfl (wNH (sz:=1) (fun _=>rfl) _ _ 0 _ ey rfl))) rfl (za rfl rfl rfl rfl (fun _=>zZ rfl rfl rfl) (za rfl rfl rfl rfl (fun _=>zD rfl bi ZL rfl yH) (za rfl rfl rfl rfl (fun _=>Runs.iaA rfl rfl rfl yJ zC (wBk av) (wBl av)) ?_)))
 have eA:=Arr.at_ an (k:=am.toNat) (by have hz0:=wAR av;omega)
 refine zo (j:=0) (vs:=[jV (w64 ((an.get am.toNat) + 1))]) (cs':=([jV ak]:List Go.Value) ++ (nA KL.encI (an.set am.toNat (w64 ((an.get am.toNat) + 1))).l)) rfl rfl rfl rfl az rfl ((rfl:ev _ _=.pointer (some ⟨ag,1 + am.toNat * 1,none⟩)).trans (wIR (by omega))) rfl rfl zC (by have hz0:=wAR av;simp only [nN,List.length_cons,List.length_nil,nJ,wBu (f:=KL.encI) (sz:=1) (N:=61) an (fun _=>rfl) rfl];omega) rfl (wPv (n:=1) rfl (setN0 (sz:=1) (fo:=0) (fun _=>rfl) _ _ _ _ eA (zB rfl) rfl)) rfl ?_
 intro cM dO
 have dP:sW w U bg [.blk ag 94 (([jV ak]:List Go.Value) ++ (nA KL.encI (an.set am.toNat (w64 ((an.get am.toNat) + 1))).l)),.blk b6 94 (([jV 0]:List Go.Value) ++ (nA KL.encI (Arr.fill 61 0).l)),.blk b2 87 B0] cM:=dO
 refine zk (zh (zJ (rR fL2 Z (oR Z (zw (zZ Z bj Z) (congrArg (jV) cB.out)) (oM Z Z (zk ?_))))))
 cases eJ
 exact zJ ⟨Z,⟨bg,Z,bh,ci,bi,br,bs,bL,dP⟩⟩
 intro bq eK
 refine cF Z bq (Zd (zh (zJ (rR fL2 Z (oR Z (zw (zZ Z bj Z) (congrArg (jV) cB.out)) (oM Z Z (zk ?_)))))))
 cases eK
 exact zJ ⟨Z,⟨bg,Z,bh,ci,bi,br,bs,bL,az⟩⟩
 rintro fQ fm ⟨bS,dp,fA,cj,df,fB,dg,fC,cy⟩
 have cX:Hid (¬ ((↑(((↑p0.Cup.Done.length:Int):Int) - 0).toNat:Int) < (↑p0.Cup.Done.length:Int))):=zI (wBH)
 refine sR fL1 Z (oR Z (ze Z dp dg) (eN (zH (cF Z cX (ZD (zb (zb (zz (zJ (sR gBh Z ?_))))))))))
 have cC:(([jV ak]:List Go.Value) ++ (nA KL.encI aj.l):List Go.Value).length=62:=by rw [nN,wBu (f:=KL.encI) (sz:=1) (N:=61) aj (fun _=>rfl) rfl];rfl
 refine oL Z (cy.ldBA (j:=0) Z Z df Tryz.isAgg94 yN (vs:=([jV ak]:List Go.Value) ++ (nA KL.encI aj.l)) (nO (nP cC)) cC) ?_
 have bI:=(show (([jV ak]:List Go.Value) ++ (nA KL.encI aj.l):List Go.Value).length=62 by rw [nN,wBu (f:=KL.encI) (sz:=1) (N:=61) aj (fun _=>rfl) rfl];rfl)
 have cD:=(show (([jV 0]:List Go.Value) ++ (nA KL.encI (Arr.fill 61 0).l):List Go.Value).length=62 by rw [nN,wBu (f:=KL.encI) (sz:=1) (N:=61) (Arr.fill 61 0) (fun _=>rfl) rfl];rfl)
 refine zo (j:=1) (vs:=([jV ak]:List Go.Value) ++ (nA KL.encI aj.l)) rfl rfl rfl rfl cy rfl cj rfl rfl (fun w=>by rw [bI];exact yN w) (by rw [bI,cD];exact zB rfl) (by rw [List.all_append,wFK (fun _=>rfl)];rfl) (wIF _ _ (bI.trans cD.symm)) rfl ?_
 intro cP dQ
 have cz:sW w U bS [.blk ag 94 (([jV ak]:List Go.Value) ++ (nA KL.encI aj.l)),.blk b6 94 (([jV ak]:List Go.Value) ++ (nA KL.encI aj.l)),.blk b2 87 B0] cP:=dQ
 refine eN (zM ?_)
 cases eE
 have cE:(([jV ak]:List Go.Value) ++ (nA KL.encI aj.l):List Go.Value).length=62:=by rw [nN,wBu (f:=KL.encI) (sz:=1) (N:=61) aj (fun _=>rfl) rfl];rfl
 exact ⟨rfl,_,(wJg (v:=.agg (([jV ak]:List Go.Value) ++ (nA KL.encI aj.l)).toArray) ⟨⟨_,cj,(wEL Tryz.isAgg94 yN (cz.blkAt (k:=1) rfl) (vs:=([jV ak]:List Go.Value) ++ (nA KL.encI aj.l)) (nO (nP cE)) cE)⟩,trivial⟩),bS,_,(cz.pick [] _ (by decide) rfl),rfl,rfl⟩
theorem wGu {S E:Type} (PY:S->PHeap->List Res->Prop) (PE:E->PHeap->List Res->Prop) (f:S->(Int × wCB)->Option (S ⊕ E)) (y:Nat) (s0:S) (p1:wAQ) (bi:Nat) (aq:Option Addr) (av:Nat) (au:Option Addr) (aw:Nat) (p2:Int) (bj:Nat) (w:World) (L:List Res) (U:PHeap) (hS:St ⟨w,L,U⟩ U L w) (hP:PY s0 U L) (hY:YOK Tryz.prog y wUv PY PE f U) (bs:Cl U bi 0 [jV p1.Cup.Skiers,jV p1.Cup.Races,jV p1.Cup.Best,.slice aq p1.Cup.Points.length av,.slice au p1.Cup.Done.length aw]) (bY:Sl U 1 aq av p1.Cup.Points.length (nA KL.encI p1.Cup.Points)) (bZ:SlR U wEH au aw p1.Cup.Done) (cd:Cl U bj 0 [jV p2]) {r:S ⊕ E} (hm:wCU f s0 p1 p2=some r):Gv Tryz.prog 104 [.func (.yield y) #[] #[],.pointer (some ⟨bi,0,none⟩),.pointer (some ⟨bj,0,none⟩)] w (ItS w L U PY PE r):=by
 unfold wCU at hm
 refine Gv.of Tryz.func104 Z Tryz.ntmps104 Tryz.results104 Z (sR fL4 Z (oR Z (zD Z Z zt Z zX) (oR Z (zD Z Z zY Z zC) (oL Z (hS.ldC (f:=0) bs (v:=jV p1.Cup.Skiers) Z Z zO Z) (oM Z Z (eN (zV ?_)))))))
 have q:=wDo hm
 obtain ⟨cJ,be⟩:=q
 have q:=wDn be
 obtain ⟨bh,cj⟩:=q
 replace bh:=zI bh
 refine yS (fun ag bC σ_ w_=>∃ (U_:PHeap) (ai:List Res),σ_ 8=jV (↑ag:Int)/\σ_ 0=.func (.yield y) #[] #[]/\σ_ 1=.pointer (some ⟨bi,0,none⟩)/\σ_ 2=.pointer (some ⟨bj,0,none⟩)/\σ_ 7=jV p1.Cup.Skiers/\PHeap.Le U U_/\St ⟨w,L,U⟩ U_ ai w_/\PY bC U_ ai) cj ?_ ?_ ?_
 exact ⟨U,L,Z,Z,Z,Z,Z,(zU _),hS,hP⟩
 rintro ag bC cL cN bF bg ⟨aX,ai,ak,aY,aZ,ba,bb,ah,an,bq⟩ bA cg
 have bp:Hid ((↑ag:Int) < p1.Cup.Skiers):=zI (wBq bg)
 replace bg:=zI bg
 have bu:Hid (w64 ((↑ag:Int) + 1)=(↑(ag + 1):Int)):=zI (by have h1:=bh.out;have h2:=bp.out;rw [wAT] <;> omega)
 refine sR fL1 Z (oR Z (ze Z ak bb) (eN (zH (cT Z bp (kN (zH (zV (sR fL2 Z (oM Z ak (oA Z Z (eN (sR (wPj (.fx 8 (.fx 9 (.fl 10 (.fl 11 .nil)) .stop) .stop)) Z (oM Z Z ?_)))))))))))))
 have bK:=cd.le ah
 refine oL Z (an.ldC (f:=0) bK (v:=jV p2) Z ba zO Z) (oR Z (Zs Z Z Z) (oM Z Z ?_))
 by_cases aa:(↑ag:Int)=p2
 have bw:=bA;rw [if_pos aa] at bw;replace aa:=zI aa
 refine zp Z Z Z (zW Z Z (ZI (fun h=>h aa.out)) Z) (zp Z Z Z (zW Z Z (ZI (fun h=>h aa.out)) Z) (zp Z Z Z (zW Z Z (ZI (fun h=>h aa.out)) Z) (zp Z Z Z (zW Z Z (ZI (fun h=>h aa.out)) Z) (ZO Z Z Z (zW Z Z (ZI (fun h=>h aa.out)) Z) (ZO Z Z Z (zW Z Z (ZI (fun h=>h aa.out)) Z) (zp Z Z Z (zW Z Z (ZI (fun h=>h aa.out)) Z) (oR Z (zR Z (ZI (fun h=>h aa.out)) Z) (eN (zn Z (Zd (zh (zJ (rR fL2 Z (oR Z (zw (zZ Z ak Z) (congrArg (jV) bu.out)) (oM Z Z (zk ?_))))))))))))))))
 have q:=nB bw
 obtain rfl:=q
 exact zJ ⟨Z,_,Z,⟨aX,ai,Z,aY,aZ,ba,bb,ah,an,bq⟩⟩
 have bz:=bA;rw [if_neg aa] at bz;replace aa:=zI aa
 refine zQ Z Z Z (wT Z aa) Z aY (zQ Z Z Z (wT Z aa) Z Z ?_)
 have bL:=bs.le ah
 refine zr Z Z Z (wT Z aa) (an.ldCA (f:=0) bL Z aZ Zo ZP (us:=[jV p1.Cup.Skiers,jV p1.Cup.Races,jV p1.Cup.Best,.slice aq p1.Cup.Points.length av,.slice au p1.Cup.Done.length aw]) Z Z) Z (zQ Z Z Z (wT Z aa) Z Z ?_)
 have bM:=bY.le ah
 have bN:=bZ.le ah
 refine bnK bz fun x43 bO cm=>zG 0 Z Z Z (wT Z aa) (zF Z Z Tryz.call29 (zA Z (zA Z zK)) Z) an (fun hs=>wEP p1 aq av au aw (↑ag:Int) bF aX hs bM bN bO) (.inr Z) ?_
 rintro bD cz cK bk ct bR ⟨rfl,rfl⟩
 have bS:St ⟨w,L,U⟩ bD ai bk:=bR
 have bT:=bS.cutb ct ah
 have bU:St ⟨w,L,U⟩ aX ai bk:=bT
 refine bnK cm fun cy bP ao=>OKS.yieldT 0 (a:=((↑ag:Int),x43)) Z Z Z (wT Z aa) Z Z (zA Z (zA Z zK)) bU hY ah bq Z bP Z ?_
 rintro aj az cC bm cu br am
 rcases cy with cw | cw
 try dsimp only at ao am
 obtain ⟨rfl,cq⟩:=am
 have bV:St ⟨w,L,U⟩ aj az bm:=br
 refine rU Z (wT Z aa) (ZX Z Z) (oR Z (zj Z (ZU aa.out) Z) (eN (zn Z (Zd (zh (zJ (rR fL2 Z (oR Z (zw (zZ Z ak Z) (congrArg (jV) bu.out)) (oM Z Z (zk ?_))))))))))
 have q:=nB ao
 obtain rfl:=q
 exact zJ ⟨Z,_,Z,⟨aj,az,Z,aY,aZ,ba,bb,(ah.trans cu),bV,cq⟩⟩
 try dsimp only at ao am
 obtain ⟨rfl,cr⟩:=am
 have bW:St ⟨w,L,U⟩ aj az bm:=br
 refine rU Z (wT Z aa) (ZX Z Z) (oR Z (zj Z (ZU aa.out) Z) (eN (zu Z (zM (zf (zN ?_))))))
 have q:=wAS ao
 obtain ⟨cx,cn,bH⟩:=q
 have q:=wCa hm be (cg cx bH)
 obtain rfl:=q
 refine zN (zf ?_)
 cases cn
 exact ⟨Z,_,(wNE),aj,_,bW,cr⟩
 rintro cM cP cB ⟨bE,cA,bJ,cD,cE,cG,bI,cH,bX,bQ⟩ ci
 have cp:=wEt hm be ci
 have bG:Hid (¬ ((↑((p1.Cup.Skiers:Int) - 0).toNat:Int) < p1.Cup.Skiers)):=zI (wBH)
 refine sR fL1 Z (oR Z (ze Z bJ bI) (eN (zH (cF Z bG (ZD (zb (zb (zz ?_))))))))
 cases cp
 exact ⟨Z,_,(wNE),bE,_,bX,bQ⟩
theorem wHi (p0:wAQ) (ai:Option Addr) (ak:Nat) (aj:Option Addr) (am:Nat) (p1:Int) (w:World) (U:PHeap) (hS:St0 w U []) (bj:Sl U 1 ai ak p0.Cup.Points.length (nA KL.encI p0.Cup.Points)) (bk:SlR U wEH aj am p0.Cup.Done) {r:Unit} (hm:wDf p0 p1=some r):Gv Tryz.prog 71 [.agg #[jV p0.Cup.Skiers,jV p0.Cup.Races,jV p0.Cup.Best,.slice ai p0.Cup.Points.length ak,.slice aj p0.Cup.Done.length am],jV p1] w (wBW w [] U (fun U_ L_ v=>∃ (b0:Nat) (b1:Nat),v=.func (.func 104) #[] #[.pointer (some ⟨b0,0,none⟩),.pointer (some ⟨b1,0,none⟩)]/\L_=[]/\Cl U_ b0 0 [jV p0.Cup.Skiers,jV p0.Cup.Races,jV p0.Cup.Best,.slice ai p0.Cup.Points.length ak,.slice aj p0.Cup.Done.length am]/\Cl U_ b1 0 [jV p1])):=by
 unfold wDf at hm
 refine Gv.of Tryz.func71 Z Tryz.ntmps71 Tryz.results71 Z (sR gBo Z ?_)
 let B0:List Value:=[jV p0.Cup.Skiers,jV p0.Cup.Races,jV p0.Cup.Best,.slice ai p0.Cup.Points.length ak,.slice aj p0.Cup.Done.length am]
 refine ZA (cs:=B0) rfl rfl rfl rfl rfl rfl (by rfl) hS ?_
 intro W1 b2 be
 have q:=be.freeze (k:=0) rfl
 obtain ⟨U5,bm,ag,bg⟩:=q
 replace ag:=Cl.of ag
 have bh:sW w U U5 [] W1:=bg
 replace ag:Cl U5 b2 0 B0:=ag
 refine ZA (cs:=[jV p1]) rfl rfl rfl rfl rfl rfl (by rfl) bh ?_
 intro aX av aZ
 have q:=aZ.freeze (k:=0) rfl
 obtain ⟨an,bi,ae,ba⟩:=q
 replace ae:=Cl.of ae
 have bb:sW w U an [] aX:=ba
 replace ae:Cl an av 0 [jV p1]:=ae
 refine oA Z Z (eN (sR fL2 Z (oR Z (yD Z zK (zA Z (zA Z zK))) (oA Z Z (eN (zM ?_))))))
 have aY:=ag.le bi
 cases hm
 exact ⟨Z,_,(zi Z),an,_,bb,b2,av,Z,Z,aY,ae⟩
theorem wHj (p0:wCB) (p1:wCB) (w:World) (U:PHeap) (hS:St0 w U [])  {r:Bool} (hm:wCQ p0 p1=some r):Gv Tryz.prog 72 [.agg (([jV p0.total]:List Go.Value) ++ (nA KL.encI p0.places.l)).toArray,.agg (([jV p1.total]:List Go.Value) ++ (nA KL.encI p1.places.l)).toArray] w (wBW w [] U (fun U_ L_ v=>v=.bool r/\L_=[])):=by
 unfold wCQ at hm
 refine Gv.of Tryz.func72 rfl Tryz.ntmps72 Tryz.results72 rfl (sR gBo rfl (ZA (cs:=([jV p0.total]:List Go.Value) ++ (nA KL.encI p0.places.l)) rfl rfl rfl rfl rfl rfl (by rfl) hS ?_))
 intro W1 b2 bD
 have bF:sW w U U [.blk b2 94 (([jV p0.total]:List Go.Value) ++ (nA KL.encI p0.places.l))] W1:=bD
 refine ZA (cs:=([jV p1.total]:List Go.Value) ++ (nA KL.encI p1.places.l)) rfl rfl rfl rfl rfl rfl (by rfl) bF ?_
 intro W6 b7 bH
 have ah:sW w U U [.blk b7 94 (([jV p1.total]:List Go.Value) ++ (nA KL.encI p1.places.l)),.blk b2 94 (([jV p0.total]:List Go.Value) ++ (nA KL.encI p0.places.l))] W6:=bH
 refine oA Z Z (eN (zH (sR fL10 Z ?_)))
 have bj:(([jV p0.total]:List Go.Value) ++ (nA KL.encI p0.places.l):List Go.Value).length=62:=by rw [nN,wBu (f:=KL.encI) (sz:=1) (N:=61) p0.places (fun _=>rfl) rfl];rfl
 refine oL Z (ah.ldBA (j:=1) Z Z Z Tryz.isAgg94 yN (vs:=([jV p0.total]:List Go.Value) ++ (nA KL.encI p0.places.l)) (nO (nP bj)) bj) ?_
 have bk:(([jV p1.total]:List Go.Value) ++ (nA KL.encI p1.places.l):List Go.Value).length=62:=by rw [nN,wBu (f:=KL.encI) (sz:=1) (N:=61) p1.places (fun _=>rfl) rfl];rfl
 refine oL Z (ah.ldBA (j:=0) Z Z Z Tryz.isAgg94 yN (vs:=([jV p1.total]:List Go.Value) ++ (nA KL.encI p1.places.l)) (nO (nP bk)) bk) (oR Z (Runs.eqS (enc:=(fun p:wCB=>([jV p.total]:List Go.Value) ++ nA KL.encI p.places.l)) (a:=p0) (b:=p1) Z Z Z eqT94 eqG94) (oM Z Z ?_))
 by_cases ag:p0=p1
 have ba:=hm;rw [if_pos ag] at ba;replace ag:=zI ag
 refine oT Z ag (oT Z ag (oT Z ag (oT Z ag (oT Z ag (oR Z (zj Z (ZU ag.out) Z) (eN (zu Z (sR fL6 Z (oR Z (zD Z Z ZL Z zC) (oL Z (ah.ldB (j:=1) Z Z Z zO (v:=jV p0.total) Z) (oR Z (zD Z Z ZL Z zC) (oL Z (ah.ldB (j:=0) Z Z Z zO (v:=jV p1.total) Z) (oR Z (Zz Z Z Z) (oA Z Z (eN (zM (zN ?_)))))))))))))))))
 first | (obtain rfl:=nB ba) | cases ba
 exact ⟨rfl,_,(zi rfl),U,_,(ah.pick [] _ (by decide) rfl),rfl,rfl⟩
 have bm:=hm;rw [if_neg ag] at bm;replace ag:=zI ag
 refine rU Z (wF Z ag) (zD Z Z ZL Z zC) (zr Z Z Z (wF Z ag) (ah.ldB (j:=1) Z Z Z zO (v:=jV p0.total) Z) Z (rU Z (wF Z ag) (zD Z Z ZL Z zC) (zr Z Z Z (wF Z ag) (ah.ldB (j:=0) Z Z Z zO (v:=jV p1.total) Z) Z (rU Z (wF Z ag) (Zs Z Z Z) (oR Z (zR Z (ZI ag.out) Z) (eN (ifc bm ?_ ?_)))))))
 intro aq bQ
 refine zn (ZI (fun h=>h aq.out)) (kN (zH (sR fL5 Z (oR Z (zD Z Z ZL Z yH) (oL Z (ah.ldBA (j:=1) Z Z Z Tryz.isAgg92 yH (vs:=nA KL.encI p0.places.l) (wUB p0.places (fun _=>Z) Z) (wBu p0.places (fun _=>Z) Z)) (oR Z (zD Z Z ZL Z yH) (oL Z (ah.ldBA (j:=0) Z Z Z Tryz.isAgg92 yH (vs:=nA KL.encI p1.places.l) (wUB p1.places (fun _=>Z) Z) (wBu p1.places (fun _=>Z) Z)) (oR Z (Runs.eqS (enc:=(fun p:Arr Int 61=>nA KL.encI p.l)) (a:=p0.places) (b:=p1.places) Z Z Z eqT92 eqG92) (eN (ifc bQ ?_ ?_))))))))))
 intro au bR
 refine cT Z au (sR fL1 Z (oA Z Z (eN (zM (zN ?_)))))
 have hE:=nB bR;first | subst r | cases hE
 exact ⟨rfl,_,(zi rfl),U,_,(ah.pick [] _ (by decide) rfl),rfl,rfl⟩
 intro au bb
 refine cF Z au (kN (zH (sR fL1 Z (oA Z Z (eN (zV ?_))))))
 have q:=wDo bb
 obtain ⟨ci,aX⟩:=q
 have q:=wDn aX
 obtain ⟨aZ,bK⟩:=q
 replace aZ:=zI aZ
 refine yS (fun ai _ σ_ w_=>∃ (U_:PHeap),σ_ 5=jV (1 + ↑ai:Int)/\σ_ 2=.pointer (some ⟨b2,0,none⟩)/\σ_ 3=.pointer (some ⟨b7,0,none⟩)/\PHeap.Le U U_/\sW w U U_ [.blk b7 94 (([jV p1.total]:List Go.Value) ++ (nA KL.encI p1.places.l)),.blk b2 94 (([jV p0.total]:List Go.Value) ++ (nA KL.encI p0.places.l))] w_) bK ?_ ?_ ?_
 exact ⟨U,Z,Z,Z,(zU _),ah⟩
 rintro ai ⟨⟩ cj cm bg aY ⟨be,am,aw,az,bV,bE⟩ bs bI
 try dsimp only at bs
 have bi:Hid ((1 + ↑ai:Int) <= 60):=zI (lp_le aY)
 replace aY:=zI aY
 have bP:Hid (w64 ((1 + ↑ai:Int) + 1)=(1 + ↑(ai + 1):Int)):=zI (by have h1:=aZ.out;have h2:=bi.out;rw [wAT] <;> omega)
 refine zH (sR fL2 rfl (zQ rfl rfl rfl rfl rfl am (za rfl rfl rfl rfl (fun _=>yP rfl rfl rfl) (eN (cT Z bi (kN (zH (zV (zH (ZT ZH [3,3,3,1,3,3,3,1,3] fL9 (by kernel_rfl) ?_))))))))))
 have ao:=bE.drew
 generalize hw_W42:({ bg with drawn:=bg.drawn + 1 }:World)=bh at ao ⊢
 refine oM Z am (oR Z (zD Z aw ZL Z yH) (bnK bs fun _ aj bS=>oR Z (Runs.iaA Z Z Z yJ zC (wBk aj) (wBl aj)) ?_))
 have bL:=Arr.at_ p0.places (k:=((1 + ↑ai:Int).toNat)) (by have hz0:=wAR aj;omega)
 refine zr rfl rfl rfl rfl (ao.ldB (j:=1) rfl rfl ((rfl:ev _ _=.pointer (some ⟨b2,1 + (1 + ↑ai:Int).toNat * 1,none⟩)).trans (wIR (by omega))) zO (wJO (n:=1) rfl (wNH (sz:=1) (fun _=>rfl) _ _ 0 _ bL rfl))) rfl (zQ rfl rfl rfl rfl rfl am (za rfl rfl rfl rfl (fun _=>zD rfl az ZL rfl yH) (za rfl rfl rfl rfl (fun _=>Runs.iaA rfl rfl rfl yJ zC (wBk aj) (wBl aj)) ?_)))
 have bM:=Arr.at_ p1.places (k:=((1 + ↑ai:Int).toNat)) (by have hz0:=wAR aj;omega)
 refine zr rfl rfl rfl rfl (ao.ldB (j:=0) rfl rfl ((rfl:ev _ _=.pointer (some ⟨b7,1 + (1 + ↑ai:Int).toNat * 1,none⟩)).trans (wIR (by omega))) zO (wJO (n:=1) rfl (wNH (sz:=1) (fun _=>rfl) _ _ 0 _ bM rfl))) rfl (za rfl rfl rfl rfl (fun _=>Zs rfl rfl rfl) (eN (ifc bS ?_ ?_)))
 intro av bT
 refine zn (ZI (fun h=>h av.out)) (Zd (zh (zJ (rR fL3 Z (oM Z am (oR Z (zw (zZ Z Z Z) (congrArg (jV) bP.out)) (oA Z Z (zk ?_))))))))
 have q:=nB bT
 obtain rfl:=q
 exact zJ ⟨Z,_,Z,⟨be,Z,aw,az,bV,ao⟩⟩
 intro av bU
 refine cT Z av (zH (ZT ZH [3,3,3,1,3,3,3,1,3,3] fL10 (by kernel_rfl) ?_))
 have ap:=ao.drew
 generalize hw_W51:({ bh with drawn:=bh.drawn + 1 }:World)=bX at ap ⊢
 refine oM Z am (oR Z (zD Z aw ZL Z yH) (oR Z (Runs.iaA Z Z Z yJ zC (wBk aj) (wBl aj)) ?_))
 have bN:=Arr.at_ p0.places (k:=((1 + ↑ai:Int).toNat)) (by have hz0:=wAR aj;omega)
 refine zr rfl rfl rfl rfl (ap.ldB (j:=1) rfl rfl ((rfl:ev _ _=.pointer (some ⟨b2,1 + (1 + ↑ai:Int).toNat * 1,none⟩)).trans (wIR (by omega))) zO (wJO (n:=1) rfl (wNH (sz:=1) (fun _=>rfl) _ _ 0 _ bN rfl))) rfl (zQ rfl rfl rfl rfl rfl am (za rfl rfl rfl rfl (fun _=>zD rfl az ZL rfl yH) (za rfl rfl rfl rfl (fun _=>Runs.iaA rfl rfl rfl yJ zC (wBk aj) (wBl aj)) ?_)))
 have bO:=Arr.at_ p1.places (k:=((1 + ↑ai:Int).toNat)) (by have hz0:=wAR aj;omega)
 refine zr rfl rfl rfl rfl (ap.ldB (j:=0) rfl rfl ((rfl:ev _ _=.pointer (some ⟨b7,1 + (1 + ↑ai:Int).toNat * 1,none⟩)).trans (wIR (by omega))) zO (wJO (n:=1) rfl (wNH (sz:=1) (fun _=>rfl) _ _ 0 _ bO rfl))) rfl (za rfl rfl rfl rfl (fun _=>Zz rfl rfl rfl) (Ze rfl rfl rfl rfl rfl rfl (eN (zM (zf (zN ?_))))))
 have q:=wAS bU
 obtain ⟨bW,bp,bB⟩:=q
 have q:=wCa bb aX (bI bW bB)
 obtain rfl:=q
 refine zN (zf (zN ?_))
 first | (obtain rfl:=nB bp) | cases bp
 exact ⟨rfl,_,(zi rfl),be,_,(ap.pick [] _ (by decide) rfl),rfl,rfl⟩
 rintro ⟨⟩ cn bY ⟨bu,bC,bZ,cd,cg,bG⟩ bJ
 have bq:=wEt bb aX bJ
 try dsimp only at bq
 have bA:Hid (¬ ((1 + ↑(((60 + 1):Int) - 1).toNat:Int) <= 60)):=zI (wNu)
 refine zH (sR fL2 Z (oM Z bC (oR Z (yP Z Z Z) (eN (cF Z bA (ZD (zb (zb (zz (zJ (sR fL1 Z (oA Z Z (eN (zM ?_))))))))))))))
 have hE:=nB bq;first | subst r | cases hE
 exact ⟨rfl,_,(zi rfl),bu,_,(bG.pick [] _ (by decide) rfl),rfl,rfl⟩
 intro aq br
 refine cT Z aq (sR fL6 Z (oR Z (zD Z Z ZL Z zC) (oL Z (ah.ldB (j:=1) Z Z Z zO (v:=jV p0.total) Z) (oR Z (zD Z Z ZL Z zC) (oL Z (ah.ldB (j:=0) Z Z Z zO (v:=jV p1.total) Z) (oR Z (Zz Z Z Z) (oA Z Z (eN (zM (zN ?_))))))))))
 first | (obtain rfl:=nB br) | cases br
 exact ⟨rfl,_,(zi rfl),U,_,(ah.pick [] _ (by decide) rfl),rfl,rfl⟩
end Go.Proofs.YtlkkhhcfemmmdaaGreat
