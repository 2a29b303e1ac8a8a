import Derived.Test.YtabadkdjndnliaaGreatS7
import Derived.Test.YtabadkdjndnliaaGreatS6
import Derived.Test.YtabadkdjndnliaaGreatS8
import Derived.Test.YtabadkdjndnliaaGreatS9
set_option linter.all false
open List renaming flatMap->nA,getElem_cons_succ->nH,getElem_cons_zero->nI,getElem_toArray->nJ,length_set->nK,set->nM
open Option.some renaming inj->nD
open Go.Value renaming bool->nE
open Bool renaming eq_false_iff->nG
open Int renaming toNat_natCast->nL
open Eq renaming trans->nN
open Option renaming map->nO
namespace Go.Proofs.YtabadkdjndnliaaGreat
open Go.KL
def gAa:Sch:=.fx 0 (.fl 1 .nil) .stop
def gAb:Sch:=.fx 9 (.fx 10 .nil .stop) .stop
def gAc:Sch:=.fx 1 (.fl 2 .nil) .stop
def gAd:Sch:=.fx 7 (.fl 8 .nil) .stop
def gAe:Sch:=.fx 3 (.fl 4 .nil) .stop
def gAf:Sch:=.fx 6 (.fl 7 .nil) .stop
def gAg:Sch:=.fx 5 (.fx 6 .nil .stop) .stop
def gAh:Sch:=.fx 10 (.fx 11 (.fl 12 .nil) .stop) .stop
def gAi:Sch:=.fx 0 gAc .stop
def gAj:Sch:=.fl 0 gAc
def gAk:Sch:=.fx 0 (.fl 1 (.fl 2 .nil)) .stop
def gAl:Sch:=.fx 5 gAf .stop
def gAm:Sch:=.fx 3 (.fl 4 (.fx 5 .nil .stop)) .stop
def gAn:Sch:=.fl 0 (.fl 1 (.fx 2 gAe .stop))
set_option maxHeartbeats 4000000
theorem wEz (p0:wAT) (b4:Option Addr) (cd:Nat) (bu:Option Addr) (bv:Nat) (p1:Int) (p2:Int) (p3:Int) (w:World) (U:PHeap) (hS:St0 w U []) (gw:Sl U 1 b4 cd p0.Rules.Classes.length (nA KL.encI p0.Rules.Classes)) (eX:SlR U wGH bu bv p0.Teams) {r:Int} (hm:wCf p0 p1 p2 p3=some r):Gv Tryz.prog 166 [.agg #[.slice b4 p0.Rules.Classes.length cd,jV p0.Rules.Each,jV p0.Rules.Laps,jV p0.Rules.Spare,jV p0.Rules.Loop,jV p0.Rules.Unused,jV p0.Start,.slice bu p0.Teams.length bv],jV p1,jV p2,jV p3] w (wBp w [] U (fun U_ L_ v=>v=jV r/\L_=[])):=by
 unfold wCf at hm
 refine Gv.of Tryz.func166 Z Tryz.ntmps166 Tryz.results166 Z (sR gAa Z ?_)
 let B0:List Value:=[.slice b4 p0.Rules.Classes.length cd,jV p0.Rules.Each,jV p0.Rules.Laps,jV p0.Rules.Spare,jV p0.Rules.Loop,jV p0.Rules.Unused,jV p0.Start,.slice bu p0.Teams.length bv]
 refine ZX (cs:=B0) rfl rfl rfl rfl rfl rfl (by rfl) hS ?_
 intro W1 b2 cK
 refine oA Z Z (eN (sR fL3 Z (oR Z (zD Z Z zj Z zC) (oL Z (cK.ldB (j:=0) Z Z Z zM (v:=jV p0.Start) Z) (oA Z Z (eN (zG (sR fL1 Z (oA Z Z (eN (zR (bnK hm fun gL eY fk=>?_))))))))))))
 have q:=wAw eY
 obtain ⟨bW,eZ⟩:=q
 replace bW:=zI bW
 refine CK.forN' (fun an cS σ_ w_=>∃ (U_:PHeap),σ_ 10=jV (↑an:Int)/\σ_ 1=jV p1/\σ_ 2=jV p2/\σ_ 3=jV p3/\σ_ 4=.pointer (some ⟨b2,0,none⟩)/\σ_ 9=jV cS/\PHeap.Le U U_/\sW w U U_ [.blk b2 34 B0] w_) eZ ?_ ?_ ?_
 exact ⟨U,Z,Z,Z,Z,Z,Z,(zN _),cK⟩
 rintro an cS gJ gP gb bU ⟨au,be,bI,bo,bJ,bK,cA,bZ,br⟩ fK
 have ct:Hid ((↑an:Int) <= p2):=zI (wRb bU)
 replace bU:=zI bU
 have cN:Hid (w64 ((↑an:Int) + 1)=(↑(an + 1):Int)):=zI (by have h1:=bW.out;have h2:=ct.out;rw [wAQ] <;> omega)
 refine zG (sR fL3 Z (oM Z be (oM Z bo (oR Z (Runs.leq Z Z Z) (eN (cT Z ct (kN (zG (zR (sR (wML gAb) Z (oR Z (zD Z bK zj Z Zd) (oL Z (br.ldB (j:=0) Z Z Z Zk (v:=.slice bu p0.Teams.length bv) Z) (oM Z bI (bnK fK fun bw bN fA=>?_))))))))))))))
 have dZ:=eX.le bZ
 have q:=dZ.el (wAK bN)
 obtain ⟨dq,fS,gG,ep,bQ,fH⟩:=q
 obtain ⟨fU,fV,cQ,cR,rfl,gv,d6⟩:=fH
 replace bQ:Cl au dq (fS + p1.toNat * 3) [jV bw.Bib,.slice fU bw.Classes.length fV,.slice cQ bw.Legs.length cR]:=bQ
 refine oR Z (zx Z Z ep Z ZJ Ze (wAi bN) (wAj bN)) (oR Z (zD Z Z zt Z Zi) (oL Z (br.ldC (f:=2) bQ (v:=.slice cQ bw.Legs.length cR) Z Z Zm Z) (oM Z be (bnK fA fun ag cH fB=>?_))))
 have q:=d6.el (wAK cH)
 obtain ⟨dr,fT,gH,eu,bR,fI⟩:=q
 obtain ⟨bb,bd,bh,bi,rfl,cI,cJ⟩:=fI
 replace bR:Cl au dr (fT + an * 3) [jV ag.Skier,.slice bb ag.Loops.length bd,.slice bh ag.Bouts.length bi]:=bR
 refine oR Z (ZC Z Z eu Z ZP Zz (wAg cH)) (oL Z (br.ldCA (f:=0) bR Z Z Tryz.isAgg206 Zz (us:=[jV ag.Skier,.slice bb ag.Loops.length bd,.slice bh ag.Bouts.length bi]) Z Z) (ZB (cs:=[jV 0,.slice none 0 0,.slice none 0 0]) Z Z Z Z Z Tryz.zeroValue206 Z br ?_))
 intro gg aj eV
 let B1:List Value:=[jV ag.Skier,.slice bb ag.Loops.length bd,.slice bh ag.Bouts.length bi]
 refine ZK (j:=0) (vs:=B1) Z Z Z Z eV Z Z Z Z Zz (zJ Z) Z Z Z ?_
 intro dg eW
 have bS:sW w U au [.blk aj 206 B1,.blk b2 34 B0] dg:=eW
 refine eN (sR fL4 Z (oR Z (zD Z Z Zg Z zT) (oL Z (bS.ldB (j:=0) Z Z Z ze (v:=.slice bb ag.Loops.length bd) Z) (oR Z (zW Z Z zA) (oA Z Z (eN (zG (sR fL3 Z (oM Z be (oM Z bo (oR Z (yJ Z Z Z) (eN (ifc fB ?_ ?_)))))))))))))
 intro bF fC
 refine cT Z bF (rR fL2 Z (oM Z bJ (oA Z Z (eN (sR fL1 Z (oA Z Z (eN (zR (bnK fC fun gN fe fD=>?_)))))))))
 have q:=wAw fe
 obtain ⟨bY,ff⟩:=q
 replace bY:=zI bY
 refine CK.forN' (fun a7 cV σ_ w_=>∃ (U_:PHeap),σ_ 13=jV (↑a7:Int)/\σ_ 1=jV p1/\σ_ 2=jV p2/\σ_ 3=jV p3/\σ_ 4=.pointer (some ⟨b2,0,none⟩)/\σ_ 9=jV cV/\σ_ 10=jV (↑an:Int)/\σ_ 11=.pointer (some ⟨aj,0,none⟩)/\σ_ 12=jV p3/\PHeap.Le au U_/\sW w U U_ [.blk aj 206 B1,.blk b2 34 B0] w_) ff ?_ ?_ ?_
 exact ⟨au,Z,bI,bo,bJ,bK,cA,be,Z,Z,(zN _),bS⟩
 rintro a7 cV gK gT dh bV ⟨bC,aw,cB,cC,cD,bp,dw,cu,bj,bG,bt,ay⟩ fL
 have cp:Hid ((↑a7:Int) < p3):=zI (wAo bV)
 replace bV:=zI bV
 have cL:Hid (w64 ((↑a7:Int) + 1)=(↑(a7 + 1):Int)):=zI (by have h1:=bY.out;have h2:=cp.out;rw [wAQ] <;> omega)
 refine zG (sR fL3 Z (oM Z aw (oM Z bG (oR Z (zV Z Z Z) (eN (cT Z cp (kN (zG (zR (sR fL8 Z (oM Z dw (oR Z (zD Z bj Zg Z zT) (oL Z (ay.ldB (j:=0) Z Z Z ze (v:=.slice bb ag.Loops.length bd) Z) (oM Z aw (bnK fL fun fW cE fg=>?_)))))))))))))))
 have dR:=cI.le bt
 have q:=dR.el (fun _=>rfl) (wAK cE)
 obtain ⟨gh,gy,d7,eA⟩:=q
 refine oR Z (ZC Z Z d7 Z zA zC (wAg cE)) (oL Z (ay.ldC (f:=0) eA (v:=jV fW) Z Z zM Z) (oR Z (zY Z Z Z) (oA Z Z (eN (sR fL2 Z (oM Z aw (oR Z (yP Z Z Z) (eN (ifc fg ?_ ?_)))))))))
 intro bD fh
 refine cT Z bD (sR (wIo (.fx 6 (wQy gAh) .stop)) Z (oR Z (zD Z bj Zg Z yH) (oL Z (ay.ldB (j:=0) Z Z Z yQ (v:=.slice bh ag.Bouts.length bi) Z) (oM Z aw (oR Z (yA Z Z Z) (bnK fh fun ci bL fj=>?_))))))
 have dS:=cJ.le bt
 have q:=dS.el (wAK bL)
 obtain ⟨di,fQ,gD,d8,bO,fE⟩:=q
 obtain ⟨ca,cg,rfl,dT⟩:=fE
 replace bO:Cl bC di (fQ + (w64 ((↑a7:Int) - 1)).toNat * 1) [.slice ca ci.length cg]:=bO
 refine oR Z (zx Z Z d8 Z ZL Zv (wAi bL) (wAj bL)) (oL Z (ay.ldC (f:=0) bO (v:=.slice ca ci.length cg) Z Z yb Z) ?_)
 have q:=bnd fj
 obtain ⟨⟨ap,fY⟩,dU,cO⟩:=q
 try dsimp only at cO
 refine zP 0 Z Z Z Z (zQ Z Z Tryz.call174 (zH Z zZ) Z) ay (fun hs=>wDt ci ca cg dh bC hs dT dU) (.inr Z) ?_
 rintro bx f4 gA cZ fM eC ⟨rfl,rfl⟩
 have eD:sW w U bx [.blk aj 206 B1,.blk b2 34 B0] cZ:=eC
 refine oM Z Z (oR Z (ZF Z Z (v:=.agg #[jV ap.Spares,jV ap.Loops,jV ap.Unused]) Z) (oR Z (ZF Z Z (v:=jV fY) Z) (ZB (cs:=[jV 0,jV 0,jV 0]) Z Z Z Z Z yt Z eD ?_)))
 intro f8 dm eG
 let B2:List Value:=[jV ap.Spares,jV ap.Loops,jV ap.Unused]
 refine ZK (j:=0) (vs:=B2) Z Z Z Z eG Z Z Z Z yp (zJ Z) Z Z Z ?_
 intro c9 eH
 have bf:sW w U bx [.blk dm 323 B2,.blk aj 206 B1,.blk b2 34 B0] c9:=eH
 refine oA Z Z (eN (rR fL16 Z (oM Z Z (oR Z (zD Z Z YS Z zC) (oL Z (bf.ldB (j:=0) Z Z Z zM (v:=jV ap.Spares) Z) (oR Z (zD Z bp zj Z yX) (oR Z (zD Z Z Zh Z zC) (oL Z (bf.ldB (j:=2) Z Z Z zM (v:=jV p0.Rules.Spare) Z) (oR Z (YW Z Z Z) (oR Z (zY Z Z Z) (oR Z (zD Z Z YS Z zC) (oL Z (bf.ldB (j:=0) Z Z Z zM (v:=jV ap.Loops) Z) (oR Z (zD Z bp zj Z yX) (oR Z (zD Z Z Zh Z zC) (oL Z (bf.ldB (j:=2) Z Z Z zM (v:=jV p0.Rules.Loop) Z) (oR Z (YW Z Z Z) (oR Z (zY Z Z Z) (oA Z Z (zg (zd (zF (rR fL3 Z (oM Z aw (oR Z (zz (zY Z Z Z) (congrArg (jV) cL.out)) (oA Z Z (zg ?_))))))))))))))))))))))))))
 cases cO
 exact zF ⟨rfl,⟨bx,rfl,cB,cC,cD,bp,rfl,cu,bj,bG,(bt.trans fM),(bf.pick [1,2] _ (by decide) rfl)⟩⟩
 intro bD fm
 refine cF Z bD (ZO (zd (zF (rR fL3 Z (oM Z aw (oR Z (zz (zY Z Z Z) (congrArg (jV) cL.out)) (oA Z Z (zg ?_))))))))
 cases fm
 exact zF ⟨Z,⟨bC,Z,cB,cC,cD,bp,Z,cu,bj,bG,bt,ay⟩⟩
 rintro gO f9 ⟨cW,dO,dx,dy,dz,dA,dB,dC,gj,dD,fN,eI⟩
 have dt:Hid (¬ ((↑((p3:Int) - 0).toNat:Int) < p3)):=zI (wAc)
 refine zG (sR fL3 Z (oM Z dO (oM Z dD (oR Z (zV Z Z Z) (eN (cF Z dt (ZD (zb (zb (zr (zd (zF (rR fL3 Z (oM Z dC (oR Z (zz (zY Z Z Z) (congrArg (jV) cN.out)) (oA Z Z (zg ?_)))))))))))))))))
 cases fD
 exact zF ⟨rfl,⟨cW,rfl,dx,dy,dz,dA,dB,(bZ.trans fN),(eI.pick [1] _ (by decide) rfl)⟩⟩
 intro bF fq
 refine cF Z bF (kN (sR fL1 Z (oA Z Z (eN (zR (bnK fq fun gM fc ft=>?_))))))
 have q:=wAw fc
 obtain ⟨bX,fd⟩:=q
 replace bX:=zI bX
 refine CK.forN' (fun az cU σ_ w_=>∃ (U_:PHeap),σ_ 13=jV (↑az:Int)/\σ_ 1=jV p1/\σ_ 2=jV p2/\σ_ 3=jV p3/\σ_ 4=.pointer (some ⟨b2,0,none⟩)/\σ_ 9=jV cU/\σ_ 10=jV (↑an:Int)/\σ_ 11=.pointer (some ⟨aj,0,none⟩)/\σ_ 12=jV (↑ag.Loops.length:Int)/\PHeap.Le au U_/\sW w U U_ [.blk aj 206 B1,.blk b2 34 B0] w_) fd ?_ ?_ ?_
 exact ⟨au,Z,bI,bo,bJ,bK,cA,be,Z,Z,(zN _),bS⟩
 rintro az cU gI gQ dd bT ⟨bz,av,cw,cx,cy,bm,dE,cz,bn,bH,bs,ax⟩ fJ
 have cr:Hid ((↑az:Int) < (↑ag.Loops.length:Int)):=zI (wAo bT)
 replace bT:=zI bT
 have cM:Hid (w64 ((↑az:Int) + 1)=(↑(az + 1):Int)):=zI (by have h1:=bX.out;have h2:=cr.out;rw [wAQ] <;> omega)
 refine zG (sR fL3 Z (oM Z av (oM Z bH (oR Z (zV Z Z Z) (eN (cT Z cr (kN (zG (zR (sR fL8 Z (oM Z dE (oR Z (zD Z bn Zg Z zT) (oL Z (ax.ldB (j:=0) Z Z Z ze (v:=.slice bb ag.Loops.length bd) Z) (oM Z av (bnK fJ fun fZ cG fu=>?_)))))))))))))))
 have dV:=cI.le bs
 have q:=dV.el (fun _=>rfl) (wAK cG)
 obtain ⟨gi,gz,d9,eB⟩:=q
 refine oR Z (ZC Z Z d9 Z zA zC (wAg cG)) (oL Z (ax.ldC (f:=0) eB (v:=jV fZ) Z Z zM Z) (oR Z (zY Z Z Z) (oA Z Z (eN (sR fL2 Z (oM Z av (oR Z (yP Z Z Z) (eN (ifc fu ?_ ?_)))))))))
 intro bE fw
 refine cT Z bE (sR (wIo (.fx 6 (wQy gAh) .stop)) Z (oR Z (zD Z bn Zg Z yH) (oL Z (ax.ldB (j:=0) Z Z Z yQ (v:=.slice bh ag.Bouts.length bi) Z) (oM Z av (oR Z (yA Z Z Z) (bnK fw fun cj bM fy=>?_))))))
 have dW:=cJ.le bs
 have q:=dW.el (wAK bM)
 obtain ⟨dn,fR,gE,eh,bP,fG⟩:=q
 obtain ⟨cc,ch,rfl,dX⟩:=fG
 replace bP:Cl bz dn (fR + (w64 ((↑az:Int) - 1)).toNat * 1) [.slice cc cj.length ch]:=bP
 refine oR Z (zx Z Z eh Z ZL Zv (wAi bM) (wAj bM)) (oL Z (ax.ldC (f:=0) bP (v:=.slice cc cj.length ch) Z Z yb Z) ?_)
 have q:=bnd fy
 obtain ⟨⟨aq,f0⟩,dY,cP⟩:=q
 try dsimp only at cP
 refine zP 0 Z Z Z Z (zQ Z Z Tryz.call174 (zH Z zZ) Z) ax (fun hs=>wDt cj cc ch dd bz hs dX dY) (.inr Z) ?_
 rintro bA f5 gC de fO eJ ⟨rfl,rfl⟩
 have eK:sW w U bA [.blk aj 206 B1,.blk b2 34 B0] de:=eJ
 refine oM Z Z (oR Z (ZF Z Z (v:=.agg #[jV aq.Spares,jV aq.Loops,jV aq.Unused]) Z) (oR Z (ZF Z Z (v:=jV f0) Z) (ZB (cs:=[jV 0,jV 0,jV 0]) Z Z Z Z Z yt Z eK ?_)))
 intro gc dp eM
 let B3:List Value:=[jV aq.Spares,jV aq.Loops,jV aq.Unused]
 refine ZK (j:=0) (vs:=B3) Z Z Z Z eM Z Z Z Z yp (zJ Z) Z Z Z ?_
 intro df eP
 have bg:sW w U bA [.blk dp 323 B3,.blk aj 206 B1,.blk b2 34 B0] df:=eP
 refine oA Z Z (eN (rR fL16 Z (oM Z Z (oR Z (zD Z Z YS Z zC) (oL Z (bg.ldB (j:=0) Z Z Z zM (v:=jV aq.Spares) Z) (oR Z (zD Z bm zj Z yX) (oR Z (zD Z Z Zh Z zC) (oL Z (bg.ldB (j:=2) Z Z Z zM (v:=jV p0.Rules.Spare) Z) (oR Z (YW Z Z Z) (oR Z (zY Z Z Z) (oR Z (zD Z Z YS Z zC) (oL Z (bg.ldB (j:=0) Z Z Z zM (v:=jV aq.Loops) Z) (oR Z (zD Z bm zj Z yX) (oR Z (zD Z Z Zh Z zC) (oL Z (bg.ldB (j:=2) Z Z Z zM (v:=jV p0.Rules.Loop) Z) (oR Z (YW Z Z Z) (oR Z (zY Z Z Z) (oA Z Z (zg (zd (zF (rR fL3 Z (oM Z av (oR Z (zz (zY Z Z Z) (congrArg (jV) cM.out)) (oA Z Z (zg ?_))))))))))))))))))))))))))
 cases cP
 exact zF ⟨rfl,⟨bA,rfl,cw,cx,cy,bm,rfl,cz,bn,bH,(bs.trans fO),(bg.pick [1,2] _ (by decide) rfl)⟩⟩
 intro bE fz
 refine cF Z bE (ZO (zd (zF (rR fL3 Z (oM Z av (oR Z (zz (zY Z Z Z) (congrArg (jV) cM.out)) (oA Z Z (zg ?_))))))))
 cases fz
 exact zF ⟨Z,⟨bz,Z,cw,cx,cy,bm,Z,cz,bn,bH,bs,ax⟩⟩
 rintro gR ge ⟨cX,dP,dF,dG,dH,dI,dJ,dK,gm,dL,fP,eQ⟩
 have du:Hid (¬ ((↑(((↑ag.Loops.length:Int):Int) - 0).toNat:Int) < (↑ag.Loops.length:Int))):=zI (wAc)
 refine zG (sR fL3 Z (oM Z dP (oM Z dL (oR Z (zV Z Z Z) (eN (cF Z du (ZD (zb (zb (zr (zd (zF (rR fL3 Z (oM Z dK (oR Z (zz (zY Z Z Z) (congrArg (jV) cN.out)) (oA Z Z (zg ?_)))))))))))))))))
 cases ft
 exact zF ⟨rfl,⟨cX,rfl,dF,dG,dH,dI,dJ,(bZ.trans fP),(eQ.pick [1] _ (by decide) rfl)⟩⟩
 rintro gS gf ⟨cY,dQ,gq,dM,gr,gu,dN,gx,eS⟩
 have dv:Hid (¬ ((↑(((p2 + 1):Int) - 0).toNat:Int) <= p2)):=zI (wNF)
 refine zG (sR fL3 Z (oM Z dQ (oM Z dM (oR Z (Runs.leq Z Z Z) (eN (cF Z dv (ZD (zb (zb (zr (zF (sR fL2 Z (oM Z dN (oA Z Z (eN (zS ?_))))))))))))))))
 have hE:=nD fk;first | subst r | cases hE
 exact ⟨rfl,_,(zw rfl),cY,_,(eS.pick [] _ (by decide) rfl),rfl,rfl⟩
theorem wFS (p0:wAT) (bt:Option Addr) (bu:Nat) (ay:Option Addr) (az:Nat) (w:World) (U:PHeap) (hS:St0 w U []) (dg:Sl U 1 bt bu p0.Rules.Classes.length (nA KL.encI p0.Rules.Classes)) (dh:SlR U wGH ay az p0.Teams) {r:wAn × Int} (hm:wBd p0=some r):Gv Tryz.prog 88 [.agg #[.slice bt p0.Rules.Classes.length bu,jV p0.Rules.Each,jV p0.Rules.Laps,jV p0.Rules.Spare,jV p0.Rules.Loop,jV p0.Rules.Unused,jV p0.Start,.slice ay p0.Teams.length az]] w (wBp w [] U (fun U_ L_ v=>∃ (cz:Option Addr) (cH:Nat) (cA:Option Addr) (cI:Nat) (cK:List Value),v=.tuple #[.agg #[jV r.1.Laps,.slice cz r.1.Bibs.length cH,.slice cA r.1.Times.length cI],jV r.2]/\L_=[.row cz cH 3 1 (nA KL.encI r.1.Bibs),.row cA cI 22 1 cK]/\RlL U_ wDe r.1.Times cK)):=by
 unfold wBd at hm
 refine Gv.of Tryz.func88 Z Tryz.ntmps88 Tryz.results88 Z (sR gAi Z ?_)
 let B0:List Value:=[.slice bt p0.Rules.Classes.length bu,jV p0.Rules.Each,jV p0.Rules.Laps,jV p0.Rules.Spare,jV p0.Rules.Loop,jV p0.Rules.Unused,jV p0.Start,.slice ay p0.Teams.length az]
 refine ZX (cs:=B0) rfl rfl rfl rfl rfl rfl (by rfl) hS ?_
 intro W1 b2 ft
 let B1:List Value:=[jV 0,.slice none 0 0,.slice none 0 0]
 refine ZB (cs:=B1) Z Z Z Z Z YV Z ft ?_
 intro W5 b6 df
 refine oA Z Z (eN (zG (sR gAj Z (oL Z (df.ldBA (j:=1) Z Z Z yg yO (vs:=B0) Z Z) (bnK hm fun x9 dZ fJ=>zP 0 Z Z Z Z (zQ Z Z Tryz.call91 (zH Z zZ) Z) df (fun hs=>wEy p0 bt bu ay az W5 U hs dg dh dZ) (.inr Z) ?_)))))
 rintro bn gD gR dB dr eQ ⟨rfl,rfl⟩
 have bU:sW w U bn [.blk b6 211 B1,.blk b2 34 B0] dB:=eQ
 refine oA Z Z (eN (sR fL2 Z (oM Z Z (oR Z (ZU Z Z Z) (eN (ifc fJ ?_ ?_))))))
 intro cc fN
 refine zn (zo (fun h=>h cc.out)) (kN (sR (wML gAb) Z (oR Z (zD Z Z zj Z yX) (oR Z (zD Z Z Zh Z zT) (oL Z (bU.ldB (j:=1) Z Z Z ze (v:=.slice bt p0.Rules.Classes.length bu) Z) (oR Z (zW Z Z zA) (oR Z (zD Z Z zj Z yX) (oR Z (zD Z Z Zh Z zC) (oL Z (bU.ldB (j:=1) Z Z Z zM (v:=jV p0.Rules.Laps) Z) (oR Z (YW Z Z Z) ?_))))))))))
 let B2:List Value:=[jV (w64 ((↑p0.Rules.Classes.length:Int) * p0.Rules.Laps)),.slice none 0 0,.slice none 0 0]
 refine oR Z (ZT (pv:=[(0,jV (w64 ((↑p0.Rules.Classes.length:Int) * p0.Rules.Laps)))]) (z:=B1) (cs:=B2) Z (wAA Z wAO) YV wKq Z Z) (ZB (cs:=B1) Z Z Z Z Z YV Z bU ?_)
 intro gH au eX
 refine ZK (j:=0) (vs:=B2) Z Z Z Z eX Z Z Z Z yY (zJ Z) Z Z Z ?_
 intro dG fc
 have fe:sW w U bn [.blk au 211 B2,.blk b6 211 B1,.blk b2 34 B0] dG:=fc
 refine eN (zG (sR fL1 Z (oA Z Z (eN (zR (yM (fun (ax,be,a7) σ_ w_=>∃ (U_:PHeap) (aq:Option Addr) (av:Nat) (an:Option Addr) (ap:Nat) (bp:List Value),σ_ 1=.pointer (some ⟨b2,0,none⟩)/\σ_ 2=.pointer (some ⟨b6,0,none⟩)/\σ_ 5=.pointer (some ⟨au,0,none⟩)/\σ_ 6=jV a7/\PHeap.Le bn U_/\sW w U U_ [.row aq av 3 1 (nA KL.encI ax),.row an ap 22 1 bp,.blk au 211 [jV (w64 ((↑p0.Rules.Classes.length:Int) * p0.Rules.Laps)),.slice aq ax.length av,.slice an be.length ap],.blk b6 211 B1,.blk b2 34 B0] w_/\RlL U_ wDe be bp) fN ?_ ?_))))))
 have fD:=fe.nilrow 3 1
 have fE:=fD.nilrow 22 1
 exact ⟨bn,none,0,none,0,[],rfl,rfl,rfl,rfl,(zN _),(fE.pick [1,0,2,3,4] _ (by decide) rfl),RlL.nil⟩
 rintro ⟨ax,be,a7⟩ g6 g9 gJ ⟨bN,aq,av,an,ap,bp,cR,ci,cS,cU,cw,bV,cW⟩ cu fI
 try dsimp only at cu
 refine zG (sR fL5 Z (oM Z cU (oR Z (zD Z cR zj Z Zd) (oL Z (bV.ldB (j:=4) Z Z Z Zk (v:=.slice ay p0.Teams.length az) Z) (oR Z (zW Z Z ZJ) (oR Z (zV Z Z Z) (eN ?_)))))))
 by_cases bd:a7 < (↑p0.Teams.length:Int)
 have dm:=cu;rw [if_pos bd] at dm;replace bd:=zI bd
 refine cT Z bd (kN (zG (zR (sR fL1 Z (oA Z Z (eN (zG (sR fL1 Z (oA Z Z (eN (zR ?_)))))))))))
 let B3:Res:=.blk au 211 [jV (w64 ((↑p0.Rules.Classes.length:Int) * p0.Rules.Laps)),.slice aq ax.length av,.slice an be.length ap]
 let B4:Res:=.row aq av 3 1 (nA KL.encI ax)
 let B5:Res:=.row an ap 22 1 bp
 refine yM (fun (am,bG) σ_ w_=>∃ (U_:PHeap) (a8:Option Addr) (bb:Nat),σ_ 1=.pointer (some ⟨b2,0,none⟩)/\σ_ 2=.pointer (some ⟨b6,0,none⟩)/\σ_ 5=.pointer (some ⟨au,0,none⟩)/\σ_ 6=jV a7/\σ_ 7=.slice a8 am.length bb/\σ_ 8=jV bG/\PHeap.Le bN U_/\sW w U U_ [B4,B5,B3,.blk b6 211 B1,.blk b2 34 B0,.row a8 bb 3 1 (nA KL.encI am)] w_) dm ?_ ?_
 have eP:=bV.nilrow 3 1
 exact ⟨bN,none,0,cR,ci,cS,cU,rfl,rfl,(zN _),(eP.pick [1,2,3,4,5,0] _ (by decide) rfl)⟩
 rintro ⟨am,bG⟩ gY g7 cE ⟨bh,a8,bb,bO,cL,br,bP,cM,cN,bF,bT⟩ dp fG
 try dsimp only at dp
 refine zG (sR fL9 Z (oM Z cN (oR Z (zD Z bO zj Z Zd) (oL Z (bT.ldB (j:=4) Z Z Z Zk (v:=.slice ay p0.Teams.length az) Z) (oM Z bP (bnK dp fun ak aw fK=>?_))))))
 have d6:=dh.le dr
 have d7:=d6.le cw
 have cj:=d7.le bF
 have q:=cj.el (wAK aw)
 obtain ⟨dP,gc,gT,eI,co,f0⟩:=q
 obtain ⟨gh,gr,du,dx,rfl,gK,gL⟩:=f0
 replace co:Cl bh dP (gc + a7.toNat * 3) [jV ak.Bib,.slice gh ak.Classes.length gr,.slice du ak.Legs.length dx]:=co
 refine oR Z (zx Z Z eI Z ZJ Ze (wAi aw) (wAj aw)) (oR Z (zD Z Z zt Z Zi) (oL Z (bT.ldC (f:=2) co (v:=.slice du ak.Legs.length dx) Z Z Zm Z) (oR Z (zW Z Z ZP) (oR Z (zV Z Z Z) (eN (ifc fK ?_ ?_))))))
 intro ca fL
 refine cT Z ca (kN (zG (zR (sR fL1 Z (oA Z Z (eN (zR (yM (fun (bE,cx) σ_ w_=>∃ (U_:PHeap) (bv:Option Addr) (bz:Nat),σ_ 1=.pointer (some ⟨b2,0,none⟩)/\σ_ 2=.pointer (some ⟨b6,0,none⟩)/\σ_ 5=.pointer (some ⟨au,0,none⟩)/\σ_ 6=jV a7/\σ_ 7=.slice bv bE.length bz/\σ_ 8=jV bG/\σ_ 9=jV cx/\PHeap.Le bh U_/\sW w U U_ [B4,B5,B3,.blk b6 211 B1,.blk b2 34 B0,.row bv bz 3 1 (nA KL.encI bE)] w_) fL ?_ ?_))))))))
 exact ⟨bh,a8,bb,bO,cL,br,bP,cM,cN,Z,(zN _),bT⟩
 rintro ⟨bE,cx⟩ gZ g8 dC ⟨bL,bv,bz,bQ,cO,cP,bR,cQ,bS,ch,bW,bs⟩ dq fH
 try dsimp only at dq
 refine zG (sR fL13 Z (oM Z ch (oR Z (zD Z bQ zj Z Zd) (oL Z (bs.ldB (j:=4) Z Z Z Zk (v:=.slice ay p0.Teams.length az) Z) (oM Z bR ?_)))))
 have cV:=cj.le bW
 have q:=cV.el (wAK aw)
 obtain ⟨dQ,ge,gU,eJ,cp,f4⟩:=q
 obtain ⟨gi,gu,dv,dy,rfl,gM,d8⟩:=f4
 replace cp:Cl bL dQ (ge + a7.toNat * 3) [jV ak.Bib,.slice gi ak.Classes.length gu,.slice dv ak.Legs.length dy]:=cp
 refine oR Z (zx Z Z eJ Z ZJ Ze (wAi aw) (wAj aw)) (oR Z (zD Z Z zt Z Zi) (oL Z (bs.ldC (f:=2) cp (v:=.slice dv ak.Legs.length dy) Z Z Zm Z) (oM Z bS (bnK dq fun bX cm fM=>?_))))
 have q:=d8.el (wAK cm)
 obtain ⟨dR,gf,gV,eK,cr,f5⟩:=q
 obtain ⟨dw,dz,gj,gv,rfl,gN,gO⟩:=f5
 replace cr:Cl bL dR (gf + bG.toNat * 3) [jV bX.Skier,.slice dw bX.Loops.length dz,.slice gj bX.Bouts.length gv]:=cr
 refine oR Z (zx Z Z eK Z ZP Zz (wAi cm) (wAj cm)) (oR Z (zD Z Z Zg Z zT) (oL Z (bs.ldC (f:=1) cr (v:=.slice dw bX.Loops.length dz) Z Z ze Z) (oR Z (zW Z Z zA) (oR Z (Runs.leq Z Z Z) (eN (ifc fM ?_ ?_))))))
 intro cd fO
 refine cT Z cd (kN (zG (zR (rR (wGD (.fx 5 (.fx 6 gAd .stop) .stop)) Z (oM Z cQ (oL Z (bs.ldBA (j:=4) Z Z bQ yg yO (vs:=B0) Z Z) (oM Z bR (oM Z bS (oM Z ch ?_)))))))))
 have d9:=dg.le dr
 have eh:=d9.le cw
 have ep:=eh.le bF
 have eu:=ep.le bW
 refine bnK fO fun bH eA fP=>zP 0 Z Z Z Z (zQ Z Z Tryz.call166 (zH Z (zH Z (zH Z (zH Z zZ)))) Z) bs (fun hs=>wEz p0 bt bu ay az a7 bG cx dC bL hs eu cV eA) (.inr Z) ?_
 rintro bM gE gS dD gb eS ⟨rfl,rfl⟩
 let B6:Res:=.row bv bz 3 1 (nA KL.encI bE)
 have eV:sW w U bM [B4,B5,B3,.blk b6 211 B1,.blk b2 34 B0,B6] dD:=eS
 refine zk (pv:=[(0,jV bH)]) (zs:=[jV 0]) (cs:=[jV bH]) Z Z Z Z Z (wAA Z wAO) zA zC ZM Z Z Z Z Z eV ?_
 intro dE dS eW
 let B7:Res:=.row (some ⟨dS,0,none⟩) 1 3 1 (nA KL.encI [bH])
 have cX:sW w U bM [B7,B4,B5,B3,.blk b6 211 B1,.blk b2 34 B0,B6] dE:=eW
 refine bnK fP fun dA eB fQ=>yE (j:=6) (enc:=KL.encI) (xs:=bE) (ys:=[bH]) (zs:=dA) rfl rfl rfl rfl rfl Zy wFN rfl rfl rfl rfl rfl rfl cX rfl rfl rfl (cX.srcR (j:=0) rfl (by decide) (wAC (f:=KL.encI) (sz:=1) (fun _=>rfl) [bH])) (fun _=>rfl) (fun _=>rfl) eB rfl ?_
 intro cB cJ dF eY
 have eZ:sW w U bM [B7,B4,B5,B3,.blk b6 211 B1,.blk b2 34 B0,.row cB cJ 3 1 (nA KL.encI dA)] dF:=eY
 refine oA Z Z (zg (zd (zF (rR fL3 Z (oM Z ch (oR Z (zY Z Z Z) (oA Z Z (zg ?_))))))))
 have q:=nD fQ
 obtain rfl:=q
 exact zF ⟨rfl,_,rfl,⟨bM,cB,cJ,bQ,cO,cP,bR,rfl,bS,rfl,(bW.trans gb),(eZ.pick [1,2,3,4,5,6] _ (by decide) rfl)⟩⟩
 intro cd fR
 refine cF Z cd (ZD (zb ?_))
 have q:=wAM fR
 obtain ⟨gy,fS,dW⟩:=q
 have q:=fH gy dW
 obtain rfl:=q
 refine zb (zr (zd (zF (rR fL3 Z (oM Z bS (oR Z (zY Z Z Z) (oA Z Z (zg ?_))))))))
 have q:=nD fS
 obtain rfl:=q
 exact zF ⟨Z,_,Z,⟨bL,bv,bz,bQ,cO,cP,bR,cQ,Z,(bF.trans bW),bs⟩⟩
 intro ca fT
 refine cF Z ca (ZD (zb ?_))
 have q:=wAM fT
 obtain ⟨gz,fU,dX⟩:=q
 have q:=fG gz dX
 obtain rfl:=q
 refine zb (zr (zF (zG (ZY ZQ [3,1,3,1,3,3,3,1,2,0,3,0] (wNd (.fx 8 (.fx 9 (.fl 10 (.fx 11 .nil .stop)) .stop) .stop)) (by kernel_rfl) ?_))))
 have bD:=bT.drew
 generalize hw_W251:({ cE with drawn:=cE.drawn + 1 }:World)=gI at bD ⊢
 refine oR Z (zD Z br ZE Z zT) (oL Z (bD.ldB (j:=2) Z Z Z ze (v:=.slice aq ax.length av) Z) (oR Z (zD Z bO zj Z Zd) (oL Z (bD.ldB (j:=4) Z Z Z Zk (v:=.slice ay p0.Teams.length az) Z) (oM Z bP ?_))))
 have q:=cj.el (wAK aw)
 obtain ⟨dT,gg,gW,eM,ct,f7⟩:=q
 obtain ⟨gm,gw,gq,gx,rfl,gP,gQ⟩:=f7
 replace ct:Cl bh dT (gg + a7.toNat * 3) [jV ak.Bib,.slice gm ak.Classes.length gw,.slice gq ak.Legs.length gx]:=ct
 refine oR Z (zx Z Z eM Z ZJ Ze (wAi aw) (wAj aw)) (oR Z (zD Z Z zt Z zC) (oL Z (bD.ldC (f:=0) ct (v:=jV ak.Bib) Z Z zM Z) (zk (pv:=[(0,jV ak.Bib)]) (zs:=[jV 0]) (cs:=[jV ak.Bib]) Z Z Z Z Z (wAA Z wAO) zA zC ZM Z Z Z Z Z bD ?_)))
 intro dH dU fd
 let B8:Res:=.row (some ⟨dU,0,none⟩) 1 3 1 (nA KL.encI [ak.Bib])
 let B9:Res:=.row a8 bb 3 1 (nA KL.encI am)
 have cY:sW w U bh [B8,B4,B5,B3,.blk b6 211 B1,.blk b2 34 B0,B9] dH:=fd
 refine bnK fU fun bI eC fV=>yE (j:=1) (enc:=KL.encI) (xs:=ax) (ys:=[ak.Bib]) (zs:=bI) rfl rfl rfl rfl rfl Zy wFN rfl rfl rfl rfl rfl rfl cY rfl rfl rfl (cY.srcR (j:=0) rfl (by decide) (wAC (f:=KL.encI) (sz:=1) (fun _=>rfl) [ak.Bib])) (fun _=>rfl) (fun _=>rfl) eC rfl ?_
 intro bw bA dI ff
 let bi:Res:=.row bw bA 3 1 (nA KL.encI bI)
 have fg:sW w U bh [B8,bi,B5,B3,.blk b6 211 B1,.blk b2 34 B0,B9] dI:=ff
 refine oR Z (zD Z br ZE Z zT) (ZK (j:=3) (vs:=[.slice bw bI.length bA]) Z Z Z Z fg Z Z Z Z zT (zJ Z) Z Z Z ?_)
 intro cG fh
 let bJ:Res:=.blk au 211 [jV (w64 ((↑p0.Rules.Classes.length:Int) * p0.Rules.Laps)),.slice bw bI.length bA,.slice an be.length ap]
 have cZ:sW w U bh [B8,bi,B5,bJ,.blk b6 211 B1,.blk b2 34 B0,B9] cG:=fh
 refine eN (rR (wDw (.fx 3 (.fx 4 (.fl 5 (.fx 6 .nil .stop)) .stop) .stop)) Z (oR Z (zD Z br ZE Z ZV) (oL Z (cZ.ldB (j:=3) Z Z Z Zj (v:=.slice an be.length ap) Z) (oM Z cM ?_))))
 have q:=cZ.freezeR (k:=6) (n:=am.length) rfl (wAC (f:=KL.encI) (sz:=1) (fun _=>rfl) am) (by decide)
 obtain ⟨bo,dt,f9,fk⟩:=q
 have fm:sW w U bo [B8,bi,B5,bJ,.blk b6 211 B1,.blk b2 34 B0] cG:=fk
 let bK:List Value:=[.slice a8 am.length bb]
 refine zk (pv:=[(0,.slice a8 am.length bb)]) (zs:=[.slice none 0 0]) (cs:=bK) Z Z Z Z Z (wAA Z wAO) zm zT yz Z Z Z Z Z fm ?_
 intro dJ dV fj
 have dn:RlL bo wDe [am] bK:=(RlL.cons (R:=wDe) (x:=am) (vs:=bK) ⟨a8,bb,rfl,f9⟩ RlL.nil)
 let bY:Res:=.row (some ⟨dV,0,none⟩) 1 22 1 bK
 have c9:sW w U bo [bY,B8,bi,B5,bJ,.blk b6 211 B1,.blk b2 34 B0] dJ:=fj
 refine bnK fV fun cy eD fW=>?_
 have eG:=cW.le bF
 have eH:=eG.le dt
 refine YP (R:=wDe) (j:=3) (xs:=be) (ys:=[am]) (zs:=cy) rfl rfl rfl rfl rfl Tryz.underlying46 wJs rfl rfl rfl rfl rfl rfl rfl c9 rfl rfl rfl eH dn (c9.srcR (j:=0) rfl (by decide) (RlL.len dn)) eD rfl ?_
 intro bx bC cg dK fq f8
 have fu:sW w U bo [bY,B8,bi,.row bx bC 22 1 cg,bJ,.blk b6 211 B1,.blk b2 34 B0] dK:=fq
 refine oR Z (zD Z br ZE Z ZV) (ZK (j:=4) (vs:=[.slice bx cy.length bC]) Z Z Z Z fu Z Z Z Z ZV (zJ Z) Z Z Z ?_)
 intro dL fw
 have fy:sW w U bo [bY,B8,bi,.row bx bC 22 1 cg,.blk au 211 [jV (w64 ((↑p0.Rules.Classes.length:Int) * p0.Rules.Laps)),.slice bw bI.length bA,.slice bx cy.length bC],.blk b6 211 B1,.blk b2 34 B0] dL:=fw
 refine zg (zd (zF (rR fL3 Z (oM Z bP (oR Z (zY Z Z Z) (oA Z Z (zg ?_)))))))
 have q:=nD fW
 obtain rfl:=q
 exact zF ⟨rfl,_,rfl,⟨bo,bw,bA,bx,bC,cg,bO,cL,br,rfl,((cw.trans bF).trans dt),(fy.pick [2,3,4,5,6] _ (by decide) rfl),f8⟩⟩
 have di:=cu;rw [if_neg bd] at di;replace bd:=zI bd
 refine cF Z bd (ZD (zb ?_))
 have q:=wAM di
 obtain ⟨gA,fY,dY⟩:=q
 have q:=fI gA dY
 obtain rfl:=q
 refine zb (zr (zF (sR gAj Z ?_)))
 let bj:List Value:=[jV (w64 ((↑p0.Rules.Classes.length:Int) * p0.Rules.Laps)),.slice aq ax.length av,.slice an be.length ap]
 refine oL Z (bV.ldBA (j:=2) Z Z cS YD yY (vs:=bj) Z Z) (ZK (j:=3) (vs:=bj) Z Z Z Z bV Z ci Z Z yY (zJ Z) Z Z Z ?_)
 intro dM fz
 have dd:sW w U bN [.row aq av 3 1 (nA KL.encI ax),.row an ap 22 1 bp,.blk au 211 bj,.blk b6 211 bj,.blk b2 34 B0] dM:=fz
 refine oA Z Z (eN (zS ?_))
 cases fY
 exact ⟨rfl,_,(wJg (rs:=[.cell 2 211,.tmp 3]) (vs:=[.agg bj.toArray,jV 0]) ⟨⟨_,ci,(wEv YD yY (dd.blkAt (k:=3) rfl) (vs:=bj) rfl rfl)⟩,⟨rfl,trivial⟩⟩ rfl),bN,_,(dd.pick [0,1] _ (by decide) rfl),aq,av,an,ap,bp,rfl,rfl,cW⟩
 intro cc fZ
 refine cT Z cc (sR (.fl 0 (.fl 1 (.fx 2 (.fl 3 .nil) .stop))) Z (oR Z (ZT (pv:=[]) (z:=B1) (cs:=B1) Z wAO YV wKq Z Z) (oM Z Z (ZK (j:=0) (vs:=B1) Z Z Z Z bU Z Z Z Z yY (zJ Z) Z Z Z ?_))))
 intro dN fA
 have fB:sW w U bn [.blk b6 211 B1,.blk b2 34 B0] dN:=fA
 refine oA Z Z (eN (zS (zK ?_)))
 have fC:=fB.nilrow 3 1
 have de:=fC.nilrow 22 1
 cases fZ
 exact ⟨rfl,_,(wJg (rs:=[.cell 2 211,.tmp 3]) (vs:=[.agg B1.toArray,jV x9]) ⟨⟨_,rfl,(wEv YD yY (de.blkAt (k:=2) rfl) (vs:=B1) rfl rfl)⟩,⟨rfl,trivial⟩⟩ rfl),bn,_,(de.pick [1,0] _ (by decide) rfl),none,0,none,0,[],rfl,rfl,RlL.nil⟩
set_option maxHeartbeats 4000000
theorem wEd (p0:Int) (p1:Int) (p2:Int) (w:World) (U:PHeap) (hS:St0 w U [])  {r:Bool} (hm:wBK p0 p1 p2=some r):Gv Tryz.prog 248 [jV p0,jV p1,jV p2] w (wBp w [] U (fun U_ L_ v=>v=.bool r/\L_=[])):=by
 unfold wBK at hm
 refine Gv.of Tryz.func248 Z Tryz.ntmps248 Tryz.results248 Z (sR fL1 Z (oA Z Z (eN (sR fL9 Z (oM Z Z (oM Z Z (oR Z (zV Z Z Z) (oM Z Z ?_))))))))
 by_cases c1:p0 < p1
 have aj:=hm;rw [if_pos c1] at aj;replace c1:=zI c1
 refine oT Z c1 (oT Z c1 (oT Z c1 (oR Z (zX Z (Zl c1.out) Z) (oA Z Z (eN (zS ?_))))))
 have hE:=nD aj;first | subst r | cases hE
 exact ⟨Z,_,(zw Z),U,_,hS,Z,Z⟩
 have ag:=hm;rw [if_neg c1] at ag;replace c1:=zI c1
 refine zh Z Z Z (wF Z c1) Z Z (zh Z Z Z (wF Z c1) Z Z (rU Z (wF Z c1) (yP Z Z Z) (oR Z (za Z (zo c1.out) Z) (oA Z Z (eN (zS ?_))))))
 first | (obtain rfl:=nD ag) | cases ag
 exact ⟨Z,_,(zw Z),U,_,hS,Z,Z⟩
theorem wGm (p0:List Int) (aj:Option Addr) (ak:Nat) (w:World) (U:PHeap) (hS:St0 w U []) (bN:Sl U 1 aj ak p0.length (nA KL.encI p0)) {r:Bool} (hm:wCP p0=some r):Gv Tryz.prog 249 [.slice aj p0.length ak] w (wBp w [] U (fun U_ L_ v=>v=.bool r/\L_=[])):=by
 unfold wCP at hm
 refine Gv.of Tryz.func249 Z Tryz.ntmps249 Tryz.results249 Z (sR fL1 Z (oA Z Z (eN (zG (sR fL1 Z (oA Z Z (eN (zR ?_))))))))
 have q:=wBQ hm
 obtain ⟨r3,au⟩:=q
 have q:=wBP au
 obtain ⟨ay,bT⟩:=q
 replace ay:=zI ay
 refine yF (fun k2 _ σ_ w_=>∃ (U_:PHeap),σ_ 3=jV (↑k2:Int)/\σ_ 0=.slice aj p0.length ak/\PHeap.Le U U_/\sW w U U_ [] w_) bT ?_ ?_ ?_
 exact ⟨U,Z,Z,(zN _),hS⟩
 rintro k2 ⟨⟩ cB cE W8 av ⟨az,bg,be,bp,bJ⟩ ai bO
 try dsimp only at ai
 have bb:Hid ((↑k2:Int) < (↑p0.length:Int)):=zI (wAo av)
 replace av:=zI av
 have bU:Hid (w64 ((↑k2:Int) + 1)=(↑(k2 + 1):Int)):=zI (by have h1:=ay.out;have h2:=bb.out;rw [wAQ] <;> omega)
 refine zG (sR fL4 Z (oM Z bg (oM Z be (oR Z (zW Z Z zA) (oR Z (zV Z Z Z) (eN (cT Z bb (kN (zG (zR (sR fL1 Z (oA Z Z (eN (zR ?_))))))))))))))
 have q:=wBQ ai
 obtain ⟨cy,aq⟩:=q
 have q:=wBP aq
 obtain ⟨ax,bS⟩:=q
 replace ax:=zI ax
 refine yF (fun ah _ σ_ w_=>∃ (U_:PHeap),σ_ 4=jV (↑ah:Int)/\σ_ 0=.slice aj p0.length ak/\σ_ 3=jV (↑k2:Int)/\PHeap.Le az U_/\sW w U U_ [] w_) bS ?_ ?_ ?_
 exact ⟨az,Z,be,bg,(zN _),bJ⟩
 rintro ah ⟨⟩ cA cC a8 aw ⟨a7,ap,an,ao,br,bK⟩ bo bP
 try dsimp only at bo
 have bd:Hid ((↑ah:Int) < (↑k2:Int)):=zI (wAo aw)
 replace aw:=zI aw
 have bV:Hid (w64 ((↑ah:Int) + 1)=(↑(ah + 1):Int)):=zI (by have h1:=ax.out;have h2:=bd.out;rw [wAQ] <;> omega)
 refine zG (sR fL3 rfl (zh rfl rfl rfl rfl rfl ap (zh rfl rfl rfl rfl rfl ao (zf rfl rfl rfl rfl (fun _=>zV rfl rfl rfl) (eN (cT Z bd (kN (zG (zR (zG (ZY ZQ [3,3,3,1,3,3,3,1,3] fL9 (by kernel_rfl) ?_)))))))))))
 have ag:=bK.drew
 generalize hw_W41:({ a8 with drawn:=a8.drawn + 1 }:World)=cj at ag ⊢
 refine oM Z an (oM Z ao (bnK bo fun ch bh bW=>?_))
 have bE:=bN.le bp
 have bi:=bE.le br
 have q:=bi.el (fun _=>rfl) (wAK bh)
 obtain ⟨cr,cw,bF,bH⟩:=q
 refine oR Z (ZC Z Z bF Z zA zC (wAg bh)) (oL Z (ag.ldC (f:=0) bH (v:=jV ch) Z Z zM Z) (oM Z an (oM Z ap (bnK bW fun ci bj bX=>?_))))
 have q:=bi.el (fun _=>rfl) (wAK bj)
 obtain ⟨ct,cx,bG,bI⟩:=q
 refine oR Z (ZC Z Z bG Z zA zC (wAg bj)) (oL Z (ag.ldC (f:=0) bI (v:=jV ci) Z Z zM Z) (oR Z (yJ Z Z Z) (eN (ifc bX ?_ ?_))))
 intro am bY
 refine cT Z am (sR fL1 Z (oA Z Z (eN (zS (zU (zK ?_))))))
 have q:=wAM bY
 obtain ⟨cd,bZ,bw⟩:=q
 have q:=wBI ai aq (bP cd bw)
 obtain rfl:=q
 refine zK (zU (zU (zK ?_)))
 have q:=wAM bZ
 obtain ⟨cg,b4,bx⟩:=q
 have q:=wBI hm au (bO cg bx)
 obtain rfl:=q
 refine zK (zU (zK ?_))
 have hE:=nD b4;first | subst r | cases hE
 exact ⟨Z,_,(zw Z),a7,_,ag,Z,Z⟩
 intro am ca
 refine cF Z am (ZO (zd (zF (rR fL3 Z (oM Z ap (oR Z (zz (zY Z Z Z) (congrArg (jV) bV.out)) (oA Z Z (zg ?_))))))))
 have q:=nD ca
 obtain rfl:=q
 exact zF ⟨Z,_,Z,⟨a7,Z,an,ao,br,ag⟩⟩
 rintro ⟨⟩ cD cm ⟨bs,bC,bz,bf,cc,bL⟩ bQ
 have bm:=wCg ai aq bQ
 try dsimp only at bm
 have bu:Hid (¬ ((↑(((↑k2:Int):Int) - 0).toNat:Int) < (↑k2:Int))):=zI (wAc)
 refine zG (sR fL3 Z (oM Z bC (oM Z bf (oR Z (zV Z Z Z) (eN (cF Z bu (ZD (zb (zb (zr (zd (zF (rR fL3 Z (oM Z bf (oR Z (zz (zY Z Z Z) (congrArg (jV) bU.out)) (oA Z Z (zg ?_)))))))))))))))))
 have q:=nD bm
 obtain rfl:=q
 exact zF ⟨Z,_,Z,⟨bs,Z,bz,(bp.trans cc),bL⟩⟩
 rintro ⟨⟩ cG co ⟨bt,bD,bA,cu,bM⟩ bR
 have bn:=wCg hm au bR
 try dsimp only at bn
 have bv:Hid (¬ ((↑(((↑p0.length:Int):Int) - 0).toNat:Int) < (↑p0.length:Int))):=zI (wAc)
 refine zG (sR fL4 Z (oM Z bD (oM Z bA (oR Z (zW Z Z zA) (oR Z (zV Z Z Z) (eN (cF Z bv (ZD (zb (zb (zr (zF (sR fL1 Z (oA Z Z (eN (zS ?_))))))))))))))))
 have hE:=nD bn;first | subst r | cases hE
 exact ⟨Z,_,(zw Z),bt,_,bM,Z,Z⟩
theorem wEX (p0:wAn) (ap:Option Addr) (aq:Nat) (ai:Option Addr) (aj:Nat) (w:World) (U:PHeap) (hS:St0 w U []) (cB:Sl U 1 ap aq p0.Bibs.length (nA KL.encI p0.Bibs)) (cg:SlR U wDe ai aj p0.Times) {r:Int} (hm:wBX p0=some r):Gv Tryz.prog 167 [.agg #[jV p0.Laps,.slice ap p0.Bibs.length aq,.slice ai p0.Times.length aj]] w (wBp w [] U (fun U_ L_ v=>v=jV r/\L_=[])):=by
 unfold wBX at hm
 refine Gv.of Tryz.func167 Z Tryz.ntmps167 Tryz.results167 Z (sR gAa Z ?_)
 let B0:List Value:=[jV p0.Laps,.slice ap p0.Bibs.length aq,.slice ai p0.Times.length aj]
 refine ZX (cs:=B0) rfl rfl rfl rfl rfl rfl (by rfl) hS ?_
 intro W1 b2 cA
 refine oA Z Z (eN (zG (sR (.fl 0 (.fl 1 (.fx 2 (wSM (.nil)) .stop))) Z (oR Z (zD Z Z ZE Z zC) (oL Z (cA.ldB (j:=0) Z Z Z zM (v:=jV p0.Laps) Z) (bnK hm fun x5 h6 f9=>zP 0 Z Z Z Z (zQ Z Z Tryz.call248 (zH Z (zH Z (zH Z zZ))) Z) cA (fun hs=>wEd p0.Laps 1 20 W1 U hs h6) (.inr Z) ?_))))))
 rintro U8 L9 ij dt bp fe ⟨rfl,rfl⟩
 have ay:sW w U U8 [.blk b2 211 B0] dt:=fe
 refine oM Z Z (ifc f9 ?_ ?_)
 intro ak fu
 refine zc Z Z Z (zO Z Z (congrArg nE ak.out) Z) (zc Z Z Z (zO Z Z (congrArg nE ak.out) Z) (zc Z Z Z (zO Z Z (congrArg nE ak.out) Z) (zc Z Z Z (zO Z Z (congrArg nE ak.out) Z) (oR Z (zX Z (congrArg nE ak.out) Z) (oM Z Z (oN Z (oN Z (oN Z (oN Z (oN Z (oN Z (oN Z (oR Z (zX Z Z Z) (eN (ZA Z (sR fL1 Z (oA Z Z (eN (zS (zK ?_))))))))))))))))))))
 cases fu
 exact ⟨rfl,_,(zw rfl),U8,_,(ay.pick [] _ (by decide) rfl),rfl,rfl⟩
 intro ak fy
 refine zf Z Z Z (zL Z Z (congrArg nE (nG.2 ak.out))) (fun _=>zD Z Z ZE Z zT) (zy Z Z Z (zL Z Z (congrArg nE (nG.2 ak.out))) (ay.ldB (j:=0) Z Z Z ze (v:=.slice ap p0.Bibs.length aq) Z) Z (zf Z Z Z (zL Z Z (congrArg nE (nG.2 ak.out))) (fun _=>zW Z Z zA) (zf Z Z Z (zL Z Z (congrArg nE (nG.2 ak.out))) (fun _=>yP Z Z Z) (oR Z (za Z (congrArg nE (nG.2 ak.out)) Z) (oM Z Z (ifc fy ?_ ?_))))))
 intro ag fG
 refine oT Z ag (oT Z ag (oT Z ag (oT Z ag (oT Z ag (oT Z ag (oT Z ag (oR Z (zX Z (Zl ag.out) Z) (eN (ZA Z (sR fL1 Z (oA Z Z (eN (zS (zK ?_))))))))))))))
 cases fG
 exact ⟨rfl,_,(zw rfl),U8,_,(ay.pick [] _ (by decide) rfl),rfl,rfl⟩
 intro ag fJ
 refine rU Z (wF Z ag) (zD Z Z ZE Z ZV) (zy Z Z Z (wF Z ag) (ay.ldB (j:=0) Z Z Z Zj (v:=.slice ai p0.Times.length aj) Z) Z (rU Z (wF Z ag) (zW Z Z zm) (rU Z (wF Z ag) (zD Z Z ZE Z zT) (zy Z Z Z (wF Z ag) (ay.ldB (j:=0) Z Z Z ze (v:=.slice ap p0.Bibs.length aq) Z) Z (rU Z (wF Z ag) (zW Z Z zA) (rU Z (wF Z ag) (ZU Z Z Z) (oR Z (za Z (zo ag.out) Z) (eN (ifc fJ ?_ ?_)))))))))
 intro bJ fM
 refine zn (zo (fun h=>h bJ.out)) (kN (zG (sR fL1 Z (oA Z Z (eN (zR (yM (fun bC σ_ w_=>∃ (U_:PHeap),σ_ 1=.pointer (some ⟨b2,0,none⟩)/\σ_ 3=jV bC/\PHeap.Le U8 U_/\sW w U U_ [.blk b2 211 B0] w_) fM ?_ ?_)))))))
 exact ⟨U8,Z,Z,(zN _),ay⟩
 rintro bC iC iH cp ⟨bi,bn,bO,bf,cd⟩ cO cG
 refine zG (sR fL5 Z (oM Z bO (oR Z (zD Z bn ZE Z ZV) (oL Z (cd.ldB (j:=0) Z Z Z Zj (v:=.slice ai p0.Times.length aj) Z) (oR Z (zW Z Z zm) (oR Z (zV Z Z Z) (eN ?_)))))))
 by_cases av:bC < (↑p0.Times.length:Int)
 have cK:=cO;rw [if_pos av] at cK;replace av:=zI av
 refine cT Z av (kN (zG (zR (zG (ZY ZQ [3,1,3,3,1,3,3,1,3] fL9 (by kernel_rfl) ?_)))))
 have bd:=cd.drew
 generalize hw_W42:({ cp with drawn:=cp.drawn + 1 }:World)=gW at bd ⊢
 refine oR Z (zD Z bn ZE Z ZV) (oL Z (bd.ldB (j:=0) Z Z Z Zj (v:=.slice ai p0.Times.length aj) Z) (oM Z bO (bnK cK fun dn bU f0=>?_)))
 have ep:=cg.le bp
 have eu:=ep.le bf
 have q:=eu.el (wAK bU)
 obtain ⟨dC,gA,iu,eV,ca,gj⟩:=q
 obtain ⟨cY,dg,rfl,ib⟩:=gj
 replace ca:Cl bi dC (gA + bC.toNat * 1) [.slice cY dn.length dg]:=ca
 refine oR Z (zx Z Z eV Z zm zT (wAi bU) (wAj bU)) (oL Z (bd.ldC (f:=0) ca (v:=.slice cY dn.length dg) Z Z ze Z) (oR Z (zW Z Z zA) (oR Z (zD Z bn ZE Z zC) (oL Z (bd.ldB (j:=0) Z Z Z zM (v:=jV p0.Laps) Z) (oR Z (yP Z Z Z) (eN (ifc f0 ?_ ?_)))))))
 intro bM f4
 refine cT Z bM (sR fL1 Z (oA Z Z (eN (zS (zU (zK ?_))))))
 have q:=wAM f4
 obtain ⟨gM,f5,dM⟩:=q
 have q:=cG gM dM
 obtain rfl:=q
 refine zK (zU (zK ?_))
 cases f5
 exact ⟨rfl,_,(zw rfl),bi,_,(bd.pick [] _ (by decide) rfl),rfl,rfl⟩
 intro bM f7
 refine cF Z bM (ZO (zd (zF (rR fL3 Z (oM Z bO (oR Z (zY Z Z Z) (oA Z Z (zg ?_))))))))
 have q:=nD f7
 obtain rfl:=q
 exact zF ⟨Z,_,Z,⟨bi,bn,Z,bf,bd⟩⟩
 have cL:=cO;rw [if_neg av] at cL;replace av:=zI av
 refine cF Z av (ZD (zb ?_))
 have q:=wAM cL
 obtain ⟨gN,f8,dN⟩:=q
 have q:=cG gN dN
 obtain rfl:=q
 refine zb (zr (zF (zG (sR fL1 Z (oA Z Z (eN (zR (yM (fun bh σ_ w_=>∃ (U_:PHeap),σ_ 1=.pointer (some ⟨b2,0,none⟩)/\σ_ 4=jV bh/\PHeap.Le bi U_/\sW w U U_ [.blk b2 211 B0] w_) f8 ?_ ?_))))))))
 exact ⟨bi,bn,Z,(zN _),cd⟩
 rintro bh iD iI cr ⟨cm,bo,bP,br,be⟩ cP ch
 refine zG (sR fL5 Z (oM Z bP (oR Z (zD Z bo ZE Z zT) (oL Z (be.ldB (j:=0) Z Z Z ze (v:=.slice ap p0.Bibs.length aq) Z) (oR Z (zW Z Z zA) (oR Z (zV Z Z Z) (eN ?_)))))))
 by_cases aw:bh < (↑p0.Bibs.length:Int)
 have cM:=cP;rw [if_pos aw] at cM;replace aw:=zI aw
 refine cT Z aw (kN (zG (zR (zG (sR (wGD (.fx 5 .nil .stop)) Z (oR Z (zD Z bo ZE Z zT) (oL Z (be.ldB (j:=0) Z Z Z ze (v:=.slice ap p0.Bibs.length aq) Z) (oM Z bP (bnK cM fun dp bV gb=>?_)))))))))
 have eB:=cB.le bp
 have eC:=eB.le bf
 have eD:=eC.le br
 have q:=eD.el (fun _=>rfl) (wAK bV)
 obtain ⟨g7,ii,eW,fc⟩:=q
 refine oR Z (zx Z Z eW Z zA zC (wAi bV) (wAj bV)) (oL Z (be.ldC (f:=0) fc (v:=jV dp) Z Z zM Z) (bnK gb fun iy eG gc=>zP 0 Z Z Z Z (zQ Z Z Tryz.call248 (zH Z (zH Z (zH Z zZ))) Z) be (fun hs=>wEd dp 1 999 cr cm hs eG) (.inr Z) ?_))
 rintro bu gQ ik dr cQ fd ⟨rfl,rfl⟩
 have cx:sW w U bu [.blk b2 211 B0] dr:=fd
 refine eN (ifc gc ?_ ?_)
 intro bF fh
 refine ZA (congrArg nE bF.out) (sR fL1 Z (oA Z Z (eN (zS (zK (zU (zK ?_)))))))
 have q:=wAM fh
 obtain ⟨gC,fj,dD⟩:=q
 have q:=ch gC dD
 obtain rfl:=q
 refine zK (zU (zK ?_))
 cases fj
 exact ⟨rfl,_,(zw rfl),bu,_,(cx.pick [] _ (by decide) rfl),rfl,rfl⟩
 intro bF fk
 refine zn (congrArg nE (nG.2 bF.out)) (kN (sR fL1 Z (oA Z Z (eN (zR (yM (fun dh σ_ w_=>∃ (U_:PHeap),σ_ 1=.pointer (some ⟨b2,0,none⟩)/\σ_ 4=jV bh/\σ_ 5=jV dh/\PHeap.Le bu U_/\sW w U U_ [.blk b2 211 B0] w_) fk ?_ ?_))))))
 exact ⟨bu,bo,bP,Z,(zN _),cx⟩
 rintro dh iz iE du ⟨bs,bv,bw,bN,ci,ax⟩ gm cC
 refine zG (sR fL8 Z (oM Z bN (oR Z (zD Z bv ZE Z ZV) (oL Z (ax.ldB (j:=0) Z Z Z Zj (v:=.slice ai p0.Times.length aj) Z) (oM Z bw (bnK gm fun bA bb fm=>?_))))))
 have dO:=cg.le bp
 have dP:=dO.le bf
 have dQ:=dP.le br
 have dR:=dQ.le cQ
 have cw:=dR.le ci
 have q:=cw.el (wAK bb)
 obtain ⟨dx,gv,io,eH,bW,ge⟩:=q
 obtain ⟨cS,cZ,rfl,g8⟩:=ge
 replace bW:Cl bs dx (gv + bh.toNat * 1) [.slice cS bA.length cZ]:=bW
 refine oR Z (zx Z Z eH Z zm zT (wAi bb) (wAj bb)) (oL Z (ax.ldC (f:=0) bW (v:=.slice cS bA.length cZ) Z Z ze Z) (oR Z (zW Z Z zA) (oR Z (zV Z Z Z) (eN (ifc fm ?_ ?_)))))
 intro bG fq
 refine cT Z bG (kN (zG (zR (sR (wNd (.fx 8 .nil .stop)) Z (oR Z (zD Z bv ZE Z ZV) (oL Z (ax.ldB (j:=0) Z Z Z Zj (v:=.slice ai p0.Times.length aj) Z) (oM Z bw ?_)))))))
 have q:=cw.el (wAK bb)
 obtain ⟨dy,gw,ip,eI,bX,gf⟩:=q
 obtain ⟨cU,c9,rfl,dS⟩:=gf
 replace bX:Cl bs dy (gw + bh.toNat * 1) [.slice cU bA.length c9]:=bX
 refine oR Z (zx Z Z eI Z zm zT (wAi bb) (wAj bb)) (oL Z (ax.ldC (f:=0) bX (v:=.slice cU bA.length c9) Z Z ze Z) (oM Z bN (bnK fq fun di bQ ft=>?_)))
 have q:=dS.el (fun _=>rfl) (wAK bQ)
 obtain ⟨gY,ic,eJ,eX⟩:=q
 refine oR Z (zx Z Z eJ Z zA zC (wAi bQ) (wAj bQ)) (oL Z (ax.ldC (f:=0) eX (v:=jV di) Z Z zM Z) (bnK ft fun iv dT fw=>zP 0 Z Z Z Z (zQ Z Z Tryz.call248 (zH Z (zH Z (zH Z zZ))) Z) ax (fun hs=>wEd di 0 360000 du bs hs dT) (.inr Z) ?_))
 rintro bD gR il dv gr ff ⟨rfl,rfl⟩
 have cy:sW w U bD [.blk b2 211 B0] dv:=ff
 refine eN (ifc fw ?_ ?_)
 intro bH fz
 refine ZA (congrArg nE bH.out) (sR fL1 Z (oA Z Z (eN (zS (zU (zK ?_))))))
 have q:=wAM fz
 obtain ⟨gD,fA,dE⟩:=q
 have q:=cC gD dE
 obtain rfl:=q
 refine zK (zU (zU (zK ?_)))
 have q:=wAM fA
 obtain ⟨gE,fB,dF⟩:=q
 have q:=ch gE dF
 obtain rfl:=q
 refine zK (zU (zK ?_))
 cases fB
 exact ⟨rfl,_,(zw rfl),bD,_,(cy.pick [] _ (by decide) rfl),rfl,rfl⟩
 intro bH fC
 refine zn (congrArg nE (nG.2 bH.out)) (ZO (zd (zF (rR fL3 Z (oM Z bN (oR Z (zY Z Z Z) (oA Z Z (zg ?_))))))))
 have q:=nD fC
 obtain rfl:=q
 exact zF ⟨Z,_,Z,⟨bD,bv,bw,Z,(ci.trans gr),cy⟩⟩
 intro bG fD
 refine cF Z bG (ZD (zb ?_))
 have q:=wAM fD
 obtain ⟨gG,fE,dG⟩:=q
 have q:=cC gG dG
 obtain rfl:=q
 refine zb (zr (zd (zF (rR fL3 Z (oM Z bw (oR Z (zY Z Z Z) (oA Z Z (zg ?_))))))))
 have q:=nD fE
 obtain rfl:=q
 exact zF ⟨Z,_,Z,⟨bs,bv,Z,((br.trans cQ).trans ci),ax⟩⟩
 have cH:=cP;rw [if_neg aw] at cH;replace aw:=zI aw
 refine cF Z aw (ZD (zb ?_))
 have q:=wAM cH
 obtain ⟨gH,fH,dH⟩:=q
 have q:=ch gH dH
 obtain rfl:=q
 refine zb (zr (zF (zG (sR (.fl 0 (.fl 1 (.fx 2 .nil .stop))) Z (oR Z (zD Z bo ZE Z zT) (oL Z (be.ldB (j:=0) Z Z Z ze (v:=.slice ap p0.Bibs.length aq) Z) ?_))))))
 have dU:=cB.le bp
 have dV:=dU.le bf
 have dW:=dV.le br
 refine bnK fH fun iw dX fI=>zP 0 Z Z Z Z (zQ Z Z Tryz.call249 (zH Z zZ) Z) be (fun hs=>wGm p0.Bibs ap aq cr cm hs dW dX) (.inr Z) ?_
 rintro bt gS im dw gu fg ⟨rfl,rfl⟩
 have cz:sW w U bt [.blk b2 211 B0] dw:=fg
 refine eN (ifc fI ?_ ?_)
 intro bI fK
 refine ZA (congrArg nE bI.out) (sR fL1 Z (oA Z Z (eN (zS (zK ?_)))))
 cases fK
 exact ⟨rfl,_,(zw rfl),bt,_,(cz.pick [] _ (by decide) rfl),rfl,rfl⟩
 intro bI fL
 refine zn (congrArg nE (nG.2 bI.out)) (kN (zG (sR fL1 Z (oA Z Z (eN (zR (yM (fun az σ_ w_=>∃ (U_:PHeap),σ_ 1=.pointer (some ⟨b2,0,none⟩)/\σ_ 6=jV az/\PHeap.Le bt U_/\sW w U U_ [.blk b2 211 B0] w_) fL ?_ ?_)))))))
 exact ⟨bt,bo,Z,(zN _),cz⟩
 rintro az iA iF gU ⟨bE,ct,cu,cR,cc⟩ cN cD
 refine zG (sR fL5 Z (oM Z cu (oR Z (zD Z ct ZE Z ZV) (oL Z (cc.ldB (j:=0) Z Z Z Zj (v:=.slice ai p0.Times.length aj) Z) (oR Z (zW Z Z zm) (oR Z (zV Z Z Z) (eN ?_)))))))
 by_cases au:az < (↑p0.Times.length:Int)
 have cI:=cN;rw [if_pos au] at cI;replace au:=zI au
 refine cT Z au (kN (zG (zR (sR fL1 Z (oA Z Z (eN (zR (yM (fun dm σ_ w_=>∃ (U_:PHeap),σ_ 1=.pointer (some ⟨b2,0,none⟩)/\σ_ 6=jV az/\σ_ 7=jV dm/\PHeap.Le bE U_/\sW w U U_ [.blk b2 211 B0] w_) cI ?_ ?_))))))))
 exact ⟨bE,ct,cu,Z,(zN _),cc⟩
 rintro dm iB iG co ⟨a7,bj,bm,bx,cj,bz⟩ gq cE
 refine zG (sR fL8 Z (oM Z bx (oR Z (zD Z bj ZE Z ZV) (oL Z (bz.ldB (j:=0) Z Z Z Zj (v:=.slice ai p0.Times.length aj) Z) (oM Z bm (bnK gq fun bg an fN=>?_))))))
 have dY:=cg.le bp
 have dZ:=dY.le bf
 have d6:=dZ.le br
 have d7:=d6.le gu
 have d8:=d7.le cR
 have bR:=d8.le cj
 have q:=bR.el (wAK an)
 obtain ⟨dz,gx,iq,eK,bY,gg⟩:=q
 obtain ⟨cV,dd,rfl,g9⟩:=gg
 replace bY:Cl a7 dz (gx + az.toNat * 1) [.slice cV bg.length dd]:=bY
 refine oR Z (zx Z Z eK Z zm zT (wAi an) (wAj an)) (oL Z (bz.ldC (f:=0) bY (v:=.slice cV bg.length dd) Z Z ze Z) (oR Z (zW Z Z zA) (oR Z (zV Z Z Z) (eN (ifc fN ?_ ?_)))))
 intro bK fO
 refine cT Z bK (kN (zG (zR (zG (ZY ZQ [3,1,3,3,1,3,3,1,3,1,3,3,1,3,3,3,1,3] fL18 (by kernel_rfl) ?_)))))
 have ao:=bz.drew
 generalize hw_W265:({ co with drawn:=co.drawn + 1 }:World)=gV at ao ⊢
 refine oR Z (zD Z bj ZE Z ZV) (oL Z (ao.ldB (j:=0) Z Z Z Zj (v:=.slice ai p0.Times.length aj) Z) (oM Z bm ?_))
 have q:=bR.el (wAK an)
 obtain ⟨dA,gy,ir,eM,bZ,gh⟩:=q
 obtain ⟨cW,de,rfl,d9⟩:=gh
 replace bZ:Cl a7 dA (gy + az.toNat * 1) [.slice cW bg.length de]:=bZ
 refine oR Z (zx Z Z eM Z zm zT (wAi an) (wAj an)) (oL Z (ao.ldC (f:=0) bZ (v:=.slice cW bg.length de) Z Z ze Z) (oM Z bx (bnK fO fun gO bS fP=>?_)))
 have q:=d9.el (fun _=>rfl) (wAK bS)
 obtain ⟨gZ,ie,eP,eY⟩:=q
 refine oR Z (zx Z Z eP Z zA zC (wAi bS) (wAj bS)) (oL Z (ao.ldC (f:=0) eY (v:=jV gO) Z Z zM Z) (oR Z (zD Z bj ZE Z ZV) (oL Z (ao.ldB (j:=0) Z Z Z Zj (v:=.slice ai p0.Times.length aj) Z) (oM Z bm ?_))))
 have q:=bR.el (wAK an)
 obtain ⟨dB,gz,it,eQ,b4,gi⟩:=q
 obtain ⟨cX,df,rfl,eh⟩:=gi
 replace b4:Cl a7 dB (gz + az.toNat * 1) [.slice cX bg.length df]:=b4
 refine oR Z (zx Z Z eQ Z zm zT (wAi an) (wAj an)) (oL Z (ao.ldC (f:=0) b4 (v:=.slice cX bg.length df) Z Z ze Z) (oM Z bx (oR Z (yA Z Z Z) (bnK fP fun gP bT fQ=>?_))))
 have q:=eh.el (fun _=>rfl) (wAK bT)
 obtain ⟨g6,ig,eS,eZ⟩:=q
 refine oR Z (zx Z Z eS Z zA zC (wAi bT) (wAj bT)) (oL Z (ao.ldC (f:=0) eZ (v:=jV gP) Z Z zM Z) (oR Z (Runs.leq Z Z Z) (eN (ifc fQ ?_ ?_))))
 intro bL fR
 refine cT Z bL (sR fL1 Z (oA Z Z (eN (zS (zU (zK ?_))))))
 have q:=wAM fR
 obtain ⟨gI,fS,dI⟩:=q
 have q:=cE gI dI
 obtain rfl:=q
 refine zK (zU (zU (zK ?_)))
 have q:=wAM fS
 obtain ⟨gJ,fT,dJ⟩:=q
 have q:=cD gJ dJ
 obtain rfl:=q
 refine zK (zU (zK ?_))
 cases fT
 exact ⟨rfl,_,(zw rfl),a7,_,(ao.pick [] _ (by decide) rfl),rfl,rfl⟩
 intro bL fU
 refine cF Z bL (ZO (zd (zF (rR fL3 Z (oM Z bx (oR Z (zY Z Z Z) (oA Z Z (zg ?_))))))))
 have q:=nD fU
 obtain rfl:=q
 exact zF ⟨Z,_,Z,⟨a7,bj,bm,Z,cj,ao⟩⟩
 intro bK fV
 refine cF Z bK (ZD (zb ?_))
 have q:=wAM fV
 obtain ⟨gK,fW,dK⟩:=q
 have q:=cE gK dK
 obtain rfl:=q
 refine zb (zr (zd (zF (rR fL3 Z (oM Z bm (oR Z (zY Z Z Z) (oA Z Z (zg ?_))))))))
 have q:=nD fW
 obtain rfl:=q
 exact zF ⟨Z,_,Z,⟨a7,bj,Z,(cR.trans cj),bz⟩⟩
 have cJ:=cN;rw [if_neg au] at cJ;replace au:=zI au
 refine cF Z au (ZD (zb ?_))
 have q:=wAM cJ
 obtain ⟨gL,fY,dL⟩:=q
 have q:=cD gL dL
 obtain rfl:=q
 refine zb (zr (zF (sR fL1 Z (oA Z Z (eN (zS ?_))))))
 cases fY
 exact ⟨rfl,_,(zw rfl),bE,_,(cc.pick [] _ (by decide) rfl),rfl,rfl⟩
 intro bJ fZ
 refine cT Z bJ (sR fL1 Z (oA Z Z (eN (zS (zK ?_)))))
 cases fZ
 exact ⟨rfl,_,(zw rfl),U8,_,(ay.pick [] _ (by decide) rfl),rfl,rfl⟩
theorem wDu (p0:List Int) (bb:Option Addr) (bd:Nat) (p1:Int) (p2:Int) (w:World) (U:PHeap) (hS:St0 w U []) (bv:Sl U 1 bb bd p0.length (nA KL.encI p0)) {r:Int} (hm:wAr p0 p1 p2=some r):Gv Tryz.prog 178 [.slice bb p0.length bd,jV p1,jV p2] w (wBp w [] U (fun U_ L_ v=>v=jV r/\L_=[])):=by
 unfold wAr at hm
 refine Gv.of Tryz.func178 Z Tryz.ntmps178 Tryz.results178 Z (sR fL1 Z (oA Z Z (eN (sR fL1 Z (oA Z Z (eN (zG (sR fL1 Z (oA Z Z (eN (zR (bnK hm fun bT bx bH=>?_))))))))))))
 have q:=wAw bx
 obtain ⟨az,bw⟩:=q
 replace az:=zI az
 refine CK.forN' (fun k7 x6 σ_ w_=>∃ (U_:PHeap),σ_ 8=jV (↑k7:Int)/\σ_ 0=.slice bb p0.length bd/\σ_ 1=jV p1/\σ_ 2=jV p2/\σ_ 7=jV x6/\PHeap.Le U U_/\sW w U U_ [] w_) bw ?_ ?_ ?_
 exact ⟨U,Z,Z,Z,Z,Z,(zN _),hS⟩
 rintro k7 x6 bS bU bJ ay ⟨aq,aj,ai,an,ak,au,ap,am⟩ bI
 have be:Hid ((↑k7:Int) < (↑p0.length:Int)):=zI (wAo ay)
 replace ay:=zI ay
 have aw:Hid (w64 ((↑k7:Int) + 1)=(↑(k7 + 1):Int)):=zI (by have h1:=az.out;have h2:=be.out;rw [wAQ] <;> omega)
 refine zG (sR fL4 Z (oM Z aj (oM Z ai (oR Z (zW Z Z zA) (oR Z (zV Z Z Z) (eN (cT Z be (kN (zG (zR (sR fL18 Z (oM Z ai (oM Z aj (bnK bI fun bg av bz=>?_))))))))))))))
 have bf:=bv.le ap
 have q:=bf.el (fun _=>rfl) (wAK av)
 obtain ⟨bL,bQ,bp,bs⟩:=q
 refine oR Z (ZC Z Z bp Z zA zC (wAg av)) (oL Z (am.ldC (f:=0) bs (v:=jV bg) Z Z zM Z) (oM Z an (oR Z (Runs.leq Z Z Z) (oM Z Z (ifc bz ?_ ?_)))))
 intro ag bA
 refine zh Z Z Z (wT Z ag) Z ak (rU Z (wT Z ag) (zV Z Z Z) (zh Z Z Z (wT Z ag) Z Z (ifc bA ?_ ?_)))
 intro af bC
 refine oT Z af (oT Z af (oT Z af (oT Z af (oT Z af (oT Z af (rU Z (wT Z ag) (zX Z (Zl af.out) Z) (oR Z (zX Z (Zl ag.out) Z) (eN (ZA Z (rR fL3 Z (oM Z au (oR Z (zY Z Z Z) (oA Z Z (zg (zd (zF (rR fL3 Z (oM Z aj (oR Z (zz (zY Z Z Z) (congrArg (jV) aw.out)) (oA Z Z (zg ?_)))))))))))))))))))))
 cases bC
 exact zF ⟨Z,⟨aq,Z,ai,an,ak,Z,ap,am⟩⟩
 intro af bD
 refine zh Z Z Z (wF Z af) Z ai (zh Z Z Z (wF Z af) Z aj ?_)
 have q:=bf.el (fun _=>rfl) (wAK av)
 obtain ⟨bM,bR,br,bt⟩:=q
 refine rU Z (wF Z af) (ZC Z Z br Z zA zC (wAg av)) (zy Z Z Z (wF Z af) (am.ldC (f:=0) bt (v:=jV bg) Z Z zM Z) Z (zh Z Z Z (wF Z af) Z ak (rU Z (wF Z af) (Runs.leq Z Z Z) (rU Z (wT Z ag) (za Z (zo af.out) Z) (oR Z (zX Z (Zl ag.out) Z) (eN (ifc bD ?_ ?_)))))))
 intro ax bE
 refine cT Z ax (rR fL3 Z (oM Z au (oR Z (zY Z Z Z) (oA Z Z (zg (zd (zF (rR fL3 Z (oM Z aj (oR Z (zz (zY Z Z Z) (congrArg (jV) aw.out)) (oA Z Z (zg ?_))))))))))))
 cases bE
 exact zF ⟨Z,⟨aq,Z,ai,an,ak,Z,ap,am⟩⟩
 intro ax bF
 refine cF Z ax (ZO (zd (zF (rR fL3 Z (oM Z aj (oR Z (zz (zY Z Z Z) (congrArg (jV) aw.out)) (oA Z Z (zg ?_))))))))
 cases bF
 exact zF ⟨Z,⟨aq,Z,ai,an,ak,au,ap,am⟩⟩
 intro ag bG
 refine oF Z ag (oF Z ag (oF Z ag (zc Z Z Z (wAP Z Z Z) (zc Z Z Z (wAP Z Z Z) (zc Z Z Z (wAP Z Z Z) (zc Z Z Z (wAP Z Z Z) (zc Z Z Z (wAP Z Z Z) (zc Z Z Z (wAP Z Z Z) (oF Z ag (oR Z (za Z (zo ag.out) Z) (eN (zn Z (ZO (zd (zF (rR fL3 Z (oM Z aj (oR Z (zz (zY Z Z Z) (congrArg (jV) aw.out)) (oA Z Z (zg ?_))))))))))))))))))))
 cases bG
 exact zF ⟨Z,⟨aq,Z,ai,an,ak,au,ap,am⟩⟩
 rintro bV bK ⟨bi,bo,bm,bN,bO,bn,bP,bu⟩
 have bj:Hid (¬ ((↑(((↑p0.length:Int):Int) - 0).toNat:Int) < (↑p0.length:Int))):=zI (wAc)
 refine zG (sR fL4 Z (oM Z bo (oM Z bm (oR Z (zW Z Z zA) (oR Z (zV Z Z Z) (eN (cF Z bj (ZD (zb (zb (zr (zF (sR fL2 Z (oM Z bn (oA Z Z (eN (zS ?_)))))))))))))))))
 have hE:=nD bH;first | subst r | cases hE
 exact ⟨Z,_,(zw Z),bi,_,bu,Z,Z⟩
theorem wFd (p0:wAn) (bb:Option Addr) (bd:Nat) (bw:Option Addr) (bx:Nat) (w:World) (U:PHeap) (hS:St0 w U []) (dD:Sl U 1 bb bd p0.Bibs.length (nA KL.encI p0.Bibs)) (gD:SlR U wDe bw bx p0.Times) {r:(List wAf) × (List Int)} (hm:wDA p0=some r):Gv Tryz.prog 168 [.agg #[jV p0.Laps,.slice bb p0.Bibs.length bd,.slice bw p0.Times.length bx]] w (wBp w [] U (fun U_ L_ v=>∃ (A0:Option Addr) (c0:Nat) (A1:Option Addr) (c1:Nat),v=.tuple #[.slice A0 r.1.length c0,.slice A1 r.2.length c1]/\L_=[.row A0 c0 44 4 (nA wAI r.1),.row A1 c1 3 1 (nA KL.encI r.2)])):=by
 unfold wDA at hm
 refine Gv.of Tryz.func168 Z Tryz.ntmps168 Tryz.results168 Z (sR gAk Z ?_)
 let B0:List Value:=[jV p0.Laps,.slice bb p0.Bibs.length bd,.slice bw p0.Times.length bx]
 refine ZX (cs:=B0) rfl rfl rfl rfl rfl rfl (by rfl) hS ?_
 intro W1 b2 gx
 refine oA Z Z (oA Z Z (eN (sR (wDw gAe) Z (oR Z (zD Z Z ZE Z zT) (oL Z (gx.ldB (j:=0) Z Z Z ze (v:=.slice bb p0.Bibs.length bd) Z) (oR Z (zW Z Z zA) (bnK hm fun x5 h6 oz=>yq (enc:=KL.encI) (z:=(0:Int)) (v:=jV 0) Z Z Z Z Z (wDO zA) wFN Z Z Z Z Z Z h6 gx ?_)))))))
 intro W8 b9 lx
 have ly:sW w U U [.row (some ⟨b9,0,none⟩) x5.length 3 1 (nA KL.encI x5),.blk b2 211 B0] W8:=lx
 refine oA Z Z (eN (zG (sR fL1 Z (oA Z Z (eN (zR (yM (fun (bn,cD) σ_ w_=>∃ (U_:PHeap),σ_ 1=.pointer (some ⟨b2,0,none⟩)/\σ_ 4=.slice (some ⟨b9,0,none⟩) bn.length x5.length/\σ_ 5=jV cD/\PHeap.Le U U_/\sW w U U_ [.blk b2 211 B0,.row (some ⟨b9,0,none⟩) x5.length 3 1 (nA KL.encI bn)] w_/\bn.length=x5.length) oz ?_ ?_)))))))
 exact ⟨U,rfl,rfl,rfl,(zN _),(ly.pick [1,0] _ (by decide) rfl),rfl⟩
 rintro ⟨bn,cD⟩ qc ql pq ⟨dg,fY,du,eA,bV,gy,gq⟩ fj l6
 try dsimp only at fj
 refine zG (sR fL4 Z (oM Z eA (oM Z du (oR Z (zW Z Z zA) (oR Z (zV Z Z Z) (eN ?_))))))
 by_cases bE:cD < (↑bn.length:Int)
 have gK:=fj;rw [if_pos bE] at gK;replace bE:=zI bE
 refine cT Z bE (kN (zG (zR (rR (wDw (.fx 3 .nil .stop)) Z (oM Z du (oM Z eA (bnK gK fun _ dx mW=>oR Z (zx Z Z Z Z zA zC (wCQ dx) (wCR dx)) ?_)))))))
 have ml:=wBO (xs:=bn) (wAY dx)
 refine OKS.stR (j:=1) (vs:=[jV (-1)]) (cs':=nA KL.encI (nM bn cD.toNat (-1))) rfl rfl rfl rfl gy rfl rfl rfl rfl rfl zC (by rw [wAC (f:=KL.encI) (sz:=1) (fun _=>rfl)];have hz:=wAY dx;show _ + 1 <= _;first | omega | (simp only [nL];omega) | (simp only [nJ,nH,nI];omega)) rfl (wES (sz:=1) (fo:=0) (fun _=>rfl) _ _ _ _ ml (by first | omega | (simp only [nL];omega) | (simp only [nJ,nH,nI];omega)) (zJ rfl) rfl) rfl ?_
 intro ir lD
 have lE:sW w U dg [.blk b2 211 B0,.row (some ⟨b9,0,none⟩) x5.length 3 1 (nA KL.encI (nM bn cD.toNat (-1)))] ir:=lD
 refine zg (zd (zF (rR fL3 Z (oM Z eA (oR Z (zY Z Z Z) (oA Z Z (zg ?_)))))))
 have q:=nD mW
 obtain rfl:=q
 exact zF ⟨rfl,_,rfl,⟨dg,fY,(nN (b:=(.slice (some ⟨b9,0,none⟩) bn.length x5.length:Value)) (c:=(.slice (some ⟨b9,0,none⟩) ((nM bn cD.toNat (-1)).length) x5.length:Value)) du (by simp only [nK])),rfl,bV,lE,(nK.trans gq)⟩⟩
 have gM:=fj;rw [if_neg bE] at gM;replace bE:=zI bE
 refine cF Z bE (ZD (zb ?_))
 have q:=wAM gM
 obtain ⟨o7,n4,iN⟩:=q
 have q:=l6 o7 iN
 obtain rfl:=q
 refine zb (zr (zF (sR fL1 Z (oA Z Z (eN (sR fL1 Z (oA Z Z (eN (zR (yM (fun (aq,bp,dH) σ_ w_=>∃ (U_:PHeap) (az:Option Addr) (a7:Nat),σ_ 1=.pointer (some ⟨b2,0,none⟩)/\σ_ 4=.slice (some ⟨b9,0,none⟩) aq.length x5.length/\σ_ 6=.slice az bp.length a7/\σ_ 7=jV dH/\PHeap.Le dg U_/\sW w U U_ [.blk b2 211 B0,.row (some ⟨b9,0,none⟩) x5.length 3 1 (nA KL.encI aq),.row az a7 44 4 (nA wAI bp)] w_/\aq.length=x5.length) n4 ?_ ?_))))))))))
 have lU:=gy.nilrow 44 4
 exact ⟨dg,none,0,fY,du,rfl,rfl,(zN _),(lU.pick [1,2,0] _ (by decide) rfl),gq⟩
 rintro ⟨aq,bp,dH⟩ qi qt pD ⟨fN,az,a7,jc,jd,je,jf,bX,lV,j6⟩ gU md
 try dsimp only at gU
 refine zR (sR fL1 Z (oA Z Z (eN (zG (sR fL1 Z (oA Z Z (eN (zR ?_))))))))
 let B1:Res:=.row (some ⟨b9,0,none⟩) x5.length 3 1 (nA KL.encI aq)
 let B2:Res:=.row az a7 44 4 (nA wAI bp)
 refine yM (fun (ai,cH) σ_ w_=>∃ (U_:PHeap),σ_ 1=.pointer (some ⟨b2,0,none⟩)/\σ_ 4=.slice (some ⟨b9,0,none⟩) aq.length x5.length/\σ_ 6=.slice az bp.length a7/\σ_ 7=jV dH/\σ_ 8=jV ai/\σ_ 9=jV cH/\PHeap.Le fN U_/\sW w U U_ [.blk b2 211 B0,B1,B2] w_) gU ?_ ?_
 exact ⟨fN,jc,jd,je,jf,Z,Z,(zN _),lV⟩
 rintro ⟨ai,cH⟩ qj qu pE ⟨cL,dX,dY,dZ,iR,dm,fV,bI,dC⟩ fg l3
 try dsimp only at fg
 refine zG (sR fL5 Z (oM Z fV (oR Z (zD Z dX ZE Z ZV) (oL Z (dC.ldB (j:=0) Z Z Z Zj (v:=.slice bw p0.Times.length bx) Z) (oR Z (zW Z Z zm) (oR Z (zV Z Z Z) (eN ?_)))))))
 by_cases bA:cH < (↑p0.Times.length:Int)
 have gG:=fg;rw [if_pos bA] at gG;replace bA:=zI bA
 refine cT Z bA (kN (zG (zR (sR fL1 Z (oA Z Z (eN (zR (yM (fun (ib,ic) σ_ w_=>∃ (U_:PHeap),σ_ 1=.pointer (some ⟨b2,0,none⟩)/\σ_ 4=.slice (some ⟨b9,0,none⟩) aq.length x5.length/\σ_ 6=.slice az bp.length a7/\σ_ 7=jV dH/\σ_ 8=jV ib/\σ_ 9=jV cH/\σ_ 10=jV ic/\PHeap.Le cL U_/\sW w U U_ [.blk b2 211 B0,B1,B2] w_) gG ?_ ?_))))))))
 exact ⟨cL,dX,dY,dZ,iR,dm,fV,Z,(zN _),dC⟩
 rintro ⟨ib,ic⟩ qb qk pp ⟨bM,bO,cN,cO,cc,cP,bP,cd,cB,bm⟩ gT l4
 try dsimp only at gT
 refine zG (sR fL8 Z (oM Z cd (oR Z (zD Z bO ZE Z ZV) (oL Z (bm.ldB (j:=0) Z Z Z Zj (v:=.slice bw p0.Times.length bx) Z) (oM Z bP (bnK gT fun dF cp ms=>?_))))))
 have jh:=gD.le bV
 have ji:=jh.le bX
 have jj:=ji.le bI
 have gi:=jj.le cB
 have q:=gi.el (wAK cp)
 obtain ⟨iB,oU,p6,j7,eV,oH⟩:=q
 obtain ⟨gY,g7,rfl,pO⟩:=oH
 replace eV:Cl bM iB (oU + cH.toNat * 1) [.slice gY dF.length g7]:=eV
 refine oR Z (zx Z Z j7 Z zm zT (wAi cp) (wAj cp)) (oL Z (bm.ldC (f:=0) eV (v:=.slice gY dF.length g7) Z Z ze Z) (oR Z (zW Z Z zA) (oR Z (zV Z Z Z) (eN (ifc ms ?_ ?_)))))
 intro dO mw
 refine cT Z dO (kN (zG (zR (sR fL9 Z (oR Z (zD Z bO ZE Z ZV) (oL Z (bm.ldB (j:=0) Z Z Z Zj (v:=.slice bw p0.Times.length bx) Z) (oM Z bP ?_)))))))
 have q:=gi.el (wAK cp)
 obtain ⟨iC,oV,p7,j8,eW,oI⟩:=q
 obtain ⟨gZ,g8,rfl,jk⟩:=oI
 replace eW:Cl bM iC (oV + cH.toNat * 1) [.slice gZ dF.length g8]:=eW
 refine oR Z (zx Z Z j8 Z zm zT (wAi cp) (wAj cp)) (oL Z (bm.ldC (f:=0) eW (v:=.slice gZ dF.length g8) Z Z ze Z) (oM Z cd (bnK mw fun pb eG mx=>?_)))
 have q:=jk.el (fun _=>rfl) (wAK eG)
 obtain ⟨pF,pR,j9,lk⟩:=q
 refine oR Z (zx Z Z j9 Z zA zC (wAi eG) (wAj eG)) (oL Z (bm.ldC (f:=0) lk (v:=jV pb) Z Z zM Z) (oA Z Z (eN (sR fL12 Z (oM Z Z (oM Z cc (oR Z (yP Z Z Z) (oM Z Z (ifc mx ?_ ?_)))))))))
 intro av my
 refine zh Z Z Z (wT Z av) Z cP (rU Z (wT Z av) (zV Z Z Z) (zh Z Z Z (wT Z av) Z Z (ifc my ?_ ?_)))
 intro bt mz
 refine oT Z bt (oT Z bt (oT Z bt (rU Z (wT Z av) (zX Z (Zl bt.out) Z) (oR Z (zX Z (Zl av.out) Z) (eN (ZA Z (rR fL2 Z (oM Z Z (oA Z Z (zg (zd (zF (rR fL3 Z (oM Z cd (oR Z (zY Z Z Z) (oA Z Z (zg ?_)))))))))))))))))
 have q:=nD mz
 obtain rfl:=q
 exact zF ⟨Z,_,Z,⟨bM,bO,cN,cO,cc,Z,bP,Z,cB,bm⟩⟩
 intro bt mA
 refine zh Z Z Z (wF Z bt) Z Z (zh Z Z Z (wF Z bt) Z cP (rU Z (wF Z bt) (zV Z Z Z) (rU Z (wT Z av) (za Z (zo bt.out) Z) (oR Z (zX Z (Zl av.out) Z) (eN (ifc mA ?_ ?_))))))
 intro dP mB
 refine cT Z dP (rR fL2 Z (oM Z Z (oA Z Z (zg (zd (zF (rR fL3 Z (oM Z cd (oR Z (zY Z Z Z) (oA Z Z (zg ?_)))))))))))
 have q:=nD mB
 obtain rfl:=q
 exact zF ⟨Z,_,Z,⟨bM,bO,cN,cO,cc,Z,bP,Z,cB,bm⟩⟩
 intro dP mC
 refine cF Z dP (ZO (zd (zF (rR fL3 Z (oM Z cd (oR Z (zY Z Z Z) (oA Z Z (zg ?_))))))))
 have q:=nD mC
 obtain rfl:=q
 exact zF ⟨Z,_,Z,⟨bM,bO,cN,cO,cc,cP,bP,Z,cB,bm⟩⟩
 intro av mD
 refine oF Z av (oF Z av (oF Z av (zc Z Z Z (wAP Z Z Z) (zc Z Z Z (wAP Z Z Z) (zc Z Z Z (wAP Z Z Z) (oF Z av (oR Z (za Z (zo av.out) Z) (eN (zn Z (ZO (zd (zF (rR fL3 Z (oM Z cd (oR Z (zY Z Z Z) (oA Z Z (zg ?_)))))))))))))))))
 have q:=nD mD
 obtain rfl:=q
 exact zF ⟨Z,_,Z,⟨bM,bO,cN,cO,cc,cP,bP,Z,cB,bm⟩⟩
 intro dO mE
 refine cF Z dO (ZD (zb ?_))
 have q:=wAM mE
 obtain ⟨o0,mF,iJ⟩:=q
 have q:=l4 o0 iJ
 obtain rfl:=q
 refine zb (zr (zd (zF (rR fL3 Z (oM Z bP (oR Z (zY Z Z Z) (oA Z Z (zg ?_))))))))
 have q:=nD mF
 obtain rfl:=q
 exact zF ⟨Z,_,Z,⟨bM,bO,cN,cO,cc,cP,Z,(bI.trans cB),bm⟩⟩
 have gH:=fg;rw [if_neg bA] at gH;replace bA:=zI bA
 refine cF Z bA (ZD (zb ?_))
 have q:=wAM gH
 obtain ⟨o3,mG,iK⟩:=q
 have q:=l3 o3 iK
 obtain rfl:=q
 refine zb (zr (zF (zG (sR fL2 Z (oM Z dm (oR Z (zV Z Z Z) (eN (ifc mG ?_ ?_))))))))
 intro dQ mH
 refine cT Z dQ (sR fL4 Z (oM Z dZ (oM Z dY (oA Z Z (oA Z Z (eN (zS (zK (zU ?_)))))))))
 have q:=wAM mH
 obtain ⟨o5,mI,iL⟩:=q
 have q:=md o5 iL
 obtain rfl:=q
 refine zK (zU ?_)
 cases mI
 exact ⟨rfl,_,(wFA rfl rfl),cL,_,(dC.pick [2,1] _ (by decide) rfl),az,a7,(some ⟨b9,0,none⟩),x5.length,rfl,rfl⟩
 intro dQ mJ
 refine cF Z dQ (kN (sR fL2 Z (oM Z dm (oA Z Z (eN (sR fL1 Z (oA Z Z (eN (zG (sR fL1 Z (oA Z Z (eN (zR (yM (fun (bH,bY) σ_ w_=>∃ (U_:PHeap) (bh:Option Addr) (bi:Nat),σ_ 1=.pointer (some ⟨b2,0,none⟩)/\σ_ 4=.slice (some ⟨b9,0,none⟩) aq.length x5.length/\σ_ 6=.slice az bp.length a7/\σ_ 7=jV ai/\σ_ 8=jV ai/\σ_ 12=.slice bh bH.length bi/\σ_ 13=jV bY/\PHeap.Le cL U_/\sW w U U_ [.blk b2 211 B0,B1,B2,.row bh bi 44 4 (nA wAI bH)] w_) mJ ?_ ?_))))))))))))))
 have lz:=dC.nilrow 44 4
 exact ⟨cL,none,0,dX,dY,dZ,rfl,dm,rfl,rfl,(zN _),(lz.pick [1,2,3,0] _ (by decide) rfl)⟩
 rintro ⟨bH,bY⟩ qd qm im ⟨cM,bh,bi,cQ,dn,d6,d7,dp,d8,cR,bu,bU⟩ fh l5
 try dsimp only at fh
 refine zG (sR fL5 Z (oM Z cR (oR Z (zD Z cQ ZE Z zT) (oL Z (bU.ldB (j:=0) Z Z Z ze (v:=.slice bb p0.Bibs.length bd) Z) (oR Z (zW Z Z zA) (oR Z (zV Z Z Z) (eN ?_)))))))
 by_cases bC:bY < (↑p0.Bibs.length:Int)
 have gI:=fh;rw [if_pos bC] at gI;replace bC:=zI bC
 refine cT Z bC (kN (zG (zR (zG (sR fL5 Z (oM Z dn (oM Z cR (bnK gI fun _ eH mK=>oR Z (zx Z Z Z Z zA zC (wCQ eH) (wCR eH)) ?_))))))))
 have mh:=wBO (xs:=aq) (wAY eH)
 refine zy rfl rfl rfl rfl (bU.ldR (j:=1) rfl rfl rfl rfl zM (wAZ (sz:=1) (fun _=>rfl) _ _ 0 _ mh (by first | omega | rfl | simp) rfl)) rfl (zf rfl rfl rfl rfl (fun _=>YM rfl rfl rfl) (eN (ifc mK ?_ ?_)))
 intro dR mL
 refine cT Z dR (ZD (zb (zr (zF (rR fL3 Z (oM Z cR (oR Z (zY Z Z Z) (oA Z Z (zg ?_)))))))))
 have q:=nD mL
 obtain rfl:=q
 exact zF ⟨Z,_,Z,⟨cM,bh,bi,cQ,dn,d6,d7,dp,d8,Z,bu,bU⟩⟩
 intro dR mM
 refine cF Z dR (kN (sR (wIo gAf) Z (oR Z (zD Z cQ ZE Z ZV) (oL Z (bU.ldB (j:=0) Z Z Z Zj (v:=.slice bw p0.Times.length bx) Z) (oM Z cR (bnK mM fun fA eI mN=>?_))))))
 have jl:=gD.le bV
 have jm:=jl.le bX
 have jo:=jm.le bI
 have gj:=jo.le bu
 have q:=gj.el (wAK eI)
 obtain ⟨iD,oW,p8,k6,eX,oJ⟩:=q
 obtain ⟨fu,fy,rfl,jp⟩:=oJ
 replace eX:Cl cM iD (oW + bY.toNat * 1) [.slice fu fA.length fy]:=eX
 refine oR Z (zx Z Z k6 Z zm zT (wAi eI) (wAj eI)) (oL Z (bU.ldC (f:=0) eX (v:=.slice fu fA.length fy) Z Z ze Z) (oM Z dp (bnK mN fun bJ jq mO=>zP 0 Z Z Z Z (zQ Z Z Tryz.call178 (zH Z (zH Z (zH Z zZ))) Z) bU (fun hs=>wDu fA fu fy ai (-1) im cM hs jp jq) (.inr Z) ?_)))
 rintro dM pj pY io cC lA ⟨rfl,rfl⟩
 let B3:Res:=.row bh bi 44 4 (nA wAI bH)
 have lB:sW w U dM [.blk b2 211 B0,B1,B2,B3] io:=lA
 refine oA Z Z (eN (sR fL1 Z (oA Z Z (eN (zG (sR fL1 Z (oA Z Z (eN (zR (yM (fun (bK,bL) σ_ w_=>∃ (U_:PHeap),σ_ 1=.pointer (some ⟨b2,0,none⟩)/\σ_ 4=.slice (some ⟨b9,0,none⟩) aq.length x5.length/\σ_ 6=.slice az bp.length a7/\σ_ 7=jV ai/\σ_ 8=jV ai/\σ_ 12=.slice bh bH.length bi/\σ_ 13=jV bY/\σ_ 14=jV bJ/\σ_ 15=jV bK/\σ_ 16=jV bL/\PHeap.Le dM U_/\sW w U U_ [.blk b2 211 B0,B1,B2,B3] w_) mO ?_ ?_))))))))))
 exact ⟨dM,cQ,dn,d6,d7,dp,d8,cR,Z,Z,Z,(zN _),lB⟩
 rintro ⟨bK,bL⟩ qe qn fO ⟨bN,cg,dq,d9,eh,cS,ep,dr,fW,eu,dt,bW,cw⟩ fk l7
 try dsimp only at fk
 refine zG (sR fL5 Z (oM Z dt (oR Z (zD Z cg ZE Z zT) (oL Z (cw.ldB (j:=0) Z Z Z ze (v:=.slice bb p0.Bibs.length bd) Z) (oR Z (zW Z Z zA) (oR Z (zV Z Z Z) (eN ?_)))))))
 by_cases bD:bL < (↑p0.Bibs.length:Int)
 have gJ:=fk;rw [if_pos bD] at gJ;replace bD:=zI bD
 refine cT Z bD (kN (bnK gJ fun pd oP mP=>CK.cut (fun σ_ w_=>∃ (U_:PHeap),σ_ 1=.pointer (some ⟨b2,0,none⟩)/\σ_ 4=.slice (some ⟨b9,0,none⟩) aq.length x5.length/\σ_ 6=.slice az bp.length a7/\σ_ 7=jV ai/\σ_ 8=jV ai/\σ_ 12=.slice bh bH.length bi/\σ_ 13=jV bY/\σ_ 14=jV bJ/\σ_ 15=jV pd/\σ_ 16=jV bL/\PHeap.Le bN U_/\sW w U U_ [.blk b2 211 B0,B1,B2,B3] w_) ?_ ?_))
 refine zR (zG (ZY ZQ [3,1,3,3,1,3,3,3,3,1,2,3] (wNe (.fx 10 (.fl 11 .nil) .stop)) (by kernel_rfl) ?_))
 have c9:=cw.drew
 generalize hw_W318:({ fO with drawn:=fO.drawn + 1 }:World)=ip at c9 ⊢
 refine oR Z (zD Z cg ZE Z ZV) (oL Z (c9.ldB (j:=0) Z Z Z Zj (v:=.slice bw p0.Times.length bx) Z) (oM Z dt (bnK oP fun df cr mQ=>?_)))
 have jr:=gj.le cC
 have gm:=jr.le bW
 have q:=gm.el (wAK cr)
 obtain ⟨iE,oX,p9,k8,eY,oK⟩:=q
 obtain ⟨fw,fz,rfl,jt⟩:=oK
 replace eY:Cl bN iE (oX + bL.toNat * 1) [.slice fw df.length fz]:=eY
 refine oR Z (zx Z Z k8 Z zm zT (wAi cr) (wAj cr)) (oL Z (c9.ldC (f:=0) eY (v:=.slice fw df.length fz) Z Z ze Z) (oM Z cS (oM Z dq (oM Z dt (bnK mQ fun _ ct mR=>oR Z (zx Z Z Z Z zA zC (wCQ ct) (wCR ct)) ?_)))))
 have mi:=wBO (xs:=aq) (wAY ct)
 refine zy rfl rfl rfl rfl (c9.ldR (j:=1) rfl rfl rfl rfl zM (wAZ (sz:=1) (fun _=>rfl) _ _ 0 _ mi (by first | omega | rfl | simp) rfl)) rfl (bnK mR fun pe ju mS=>zP 0 rfl rfl rfl rfl (zQ rfl rfl Tryz.call178 (zH rfl (zH rfl (zH rfl zZ))) rfl) c9 (fun hs=>wDu df fw fz ai (gd aq bL.toNat) ip bN hs jt ju) (.inr rfl) ?_)
 rintro bz pm pZ iq bv lC ⟨rfl,rfl⟩
 have ap:sW w U bz [.blk b2 211 B0,B1,B2,B3] iq:=lC
 refine oA Z Z (eN (zG (yu fun bg a8=>?_)))
 have bj:bg 1=.pointer (some ⟨b2,0,none⟩):=(a8 1).trans cg
 have bQ:bg 4=.slice (some ⟨b9,0,none⟩) aq.length x5.length:=(a8 4).trans dq
 have ch:bg 6=.slice az bp.length a7:=(a8 6).trans d9
 have ci:bg 7=jV ai:=(a8 7).trans eh
 have bR:bg 8=jV ai:=(a8 8).trans cS
 have cj:bg 12=.slice bh bH.length bi:=(a8 12).trans ep
 have cm:bg 13=jV bY:=(a8 13).trans dr
 have bS:bg 14=jV bJ:=(a8 14).trans fW
 have co:bg 15=jV bK:=(a8 15).trans eu
 have bf:bg 16=jV bL:=(a8 16).trans dt
 have fZ:bg 17=jV pe:=(a8 17).trans rfl
 clear a8
 refine rR fL37 Z (oM Z bQ (oM Z bf (oR Z (zx Z Z Z Z zA zC (wCQ ct) (wCR ct)) ?_)))
 have mj:=wBO (xs:=aq) (wAY ct)
 refine zy rfl rfl rfl rfl (ap.ldR (j:=1) rfl rfl rfl rfl zM (wAZ (sz:=1) (fun _=>rfl) _ _ 0 _ mj (by first | omega | rfl | simp) rfl)) rfl (zf rfl rfl rfl rfl (fun _=>zV rfl rfl rfl) (zh rfl rfl rfl rfl rfl rfl (ifc mS ?_ ?_)))
 intro be mT
 refine zh Z Z Z (wT Z be) Z fZ (zh Z Z Z (wT Z be) Z bS (rU Z (wT Z be) (zY Z Z Z) (rU Z (wT Z be) (YM Z Z Z) (oR Z (zX Z (Zl be.out) Z) (oM Z Z (ifc mT ?_ ?_))))))
 intro am mU
 refine rU Z (wT Z am) (zD Z bj ZE Z ZV) (zy Z Z Z (wT Z am) (ap.ldB (j:=0) Z Z Z Zj (v:=.slice bw p0.Times.length bx) Z) Z (zh Z Z Z (wT Z am) Z bf ?_))
 have jv:=gm.le bv
 have q:=jv.el (wAK cr)
 obtain ⟨iF,oY,qa,k9,eZ,oO⟩:=q
 obtain ⟨g6,g9,rfl,jw⟩:=oO
 replace eZ:Cl bz iF (oY + bL.toNat * 1) [.slice g6 df.length g9]:=eZ
 refine rU Z (wT Z am) (zx Z Z k9 Z zm zT (wAi cr) (wAj cr)) (zy Z Z Z (wT Z am) (ap.ldC (f:=0) eZ (v:=.slice g6 df.length g9) Z Z ze Z) Z (zh Z Z Z (wT Z am) Z fZ (rU Z (wT Z am) (yA Z Z Z) (bnK mU fun pg eJ mV=>?_))))
 have q:=jw.el (fun _=>rfl) (wAK eJ)
 obtain ⟨pG,pS,lb,lm⟩:=q
 refine rU Z (wT Z am) (zx Z Z lb Z zA zC (wAi eJ) (wAj eJ)) (zy Z Z Z (wT Z am) (ap.ldC (f:=0) lm (v:=jV pg) Z Z zM Z) Z (zh Z Z Z (wT Z am) Z bR (rU Z (wT Z am) (yJ Z Z Z) (oR Z (zX Z (Zl am.out) Z) (oM Z Z (ifc mV ?_ ?_))))))
 intro aw mX
 refine zh Z Z Z (wT Z aw) Z co (rU Z (wT Z aw) (yJ Z Z Z) (zh Z Z Z (wT Z aw) Z Z (ifc mX ?_ ?_)))
 intro ao mY
 refine oT Z ao (oT Z ao (oT Z ao (oT Z ao (oT Z ao (oT Z ao (oT Z ao (rU Z (wT Z aw) (zX Z (Zl ao.out) Z) (oR Z (zX Z (Zl aw.out) Z) (eN (ZA Z (rR fL6 Z (oR Z (zD Z bj ZE Z zT) (oL Z (ap.ldB (j:=0) Z Z Z ze (v:=.slice bb p0.Bibs.length bd) Z) (oM Z bf (bnK mY fun ph eK mZ=>?_)))))))))))))))
 have jx:=dD.le bV
 have jy:=jx.le bX
 have jz:=jy.le bI
 have jA:=jz.le bu
 have jB:=jA.le cC
 have jC:=jB.le bW
 have jD:=jC.le bv
 have q:=jD.el (fun _=>rfl) (wAK eK)
 obtain ⟨pH,pT,lc,lq⟩:=q
 refine oR Z (zx Z Z lc Z zA zC (wAi eK) (wAj eK)) (oL Z (ap.ldC (f:=0) lq (v:=jV ph) Z Z zM Z) (oA Z Z (zg (zd ?_))))
 cases mZ
 exact zF ⟨Z,⟨bz,bj,bQ,ch,ci,bR,cj,cm,bS,Z,bf,bv,ap⟩⟩
 intro ao m3
 refine rU Z (wF Z ao) (zD Z bj ZE Z zT) (zy Z Z Z (wF Z ao) (ap.ldB (j:=0) Z Z Z ze (v:=.slice bb p0.Bibs.length bd) Z) Z (zh Z Z Z (wF Z ao) Z bf (bnK m3 fun ie cu m4=>?_)))
 have jE:=dD.le bV
 have jF:=jE.le bX
 have jG:=jF.le bI
 have jH:=jG.le bu
 have jI:=jH.le cC
 have jJ:=jI.le bW
 have gr:=jJ.le bv
 have q:=gr.el (fun _=>rfl) (wAK cu)
 obtain ⟨pI,pU,lg,ls⟩:=q
 refine rU Z (wF Z ao) (zx Z Z lg Z zA zC (wAi cu) (wAj cu)) (zy Z Z Z (wF Z ao) (ap.ldC (f:=0) ls (v:=jV ie) Z Z zM Z) Z (zh Z Z Z (wF Z ao) Z co (rU Z (wF Z ao) (zV Z Z Z) (rU Z (wT Z aw) (za Z (zo ao.out) Z) (oR Z (zX Z (Zl aw.out) Z) (eN (ifc m4 ?_ ?_)))))))
 intro dS m5
 refine cT Z dS (rR fL6 Z (oR Z (zD Z bj ZE Z zT) (oL Z (ap.ldB (j:=0) Z Z Z ze (v:=.slice bb p0.Bibs.length bd) Z) (oM Z bf ?_))))
 have q:=gr.el (fun _=>rfl) (wAK cu)
 obtain ⟨pJ,pV,lh,lu⟩:=q
 refine oR Z (zx Z Z lh Z zA zC (wAi cu) (wAj cu)) (oL Z (ap.ldC (f:=0) lu (v:=jV ie) Z Z zM Z) (oA Z Z (zg (zd ?_))))
 cases m5
 exact zF ⟨Z,⟨bz,bj,bQ,ch,ci,bR,cj,cm,bS,Z,bf,bv,ap⟩⟩
 intro dS m6
 refine cF Z dS (ZO (zd ?_))
 cases m6
 exact zF ⟨Z,⟨bz,bj,bQ,ch,ci,bR,cj,cm,bS,co,bf,bv,ap⟩⟩
 intro aw m7
 refine oF Z aw (oF Z aw (oF Z aw (zc Z Z Z (wAP Z Z Z) (zc Z Z Z (wAP Z Z Z) (zc Z Z Z (wAP Z Z Z) (zc Z Z Z (wAP Z Z Z) (zc Z Z Z (wAP Z Z Z) (zc Z Z Z (wAP Z Z Z) (zc Z Z Z (wAP Z Z Z) (oF Z aw (oR Z (za Z (zo aw.out) Z) (eN (zn Z (ZO (zd ?_)))))))))))))))
 cases m7
 exact zF ⟨Z,⟨bz,bj,bQ,ch,ci,bR,cj,cm,bS,co,bf,bv,ap⟩⟩
 intro am m8
 refine oF Z am (oF Z am (oF Z am (oF Z am (oF Z am (oF Z am (oF Z am (oF Z am (oF Z am (oF Z am (oF Z am (oR Z (za Z (zo am.out) Z) (oM Z Z (oN Z (oN Z (oN Z (zc Z Z Z (wAP Z Z Z) (zc Z Z Z (wAP Z Z Z) (zc Z Z Z (wAP Z Z Z) (zc Z Z Z (wAP Z Z Z) (zc Z Z Z (wAP Z Z Z) (zc Z Z Z (wAP Z Z Z) (zc Z Z Z (wAP Z Z Z) (oN Z (oR Z (za Z Z Z) (eN (zn Z (ZO (zd ?_))))))))))))))))))))))))))))
 cases m8
 exact zF ⟨Z,⟨bz,bj,bQ,ch,ci,bR,cj,cm,bS,co,bf,bv,ap⟩⟩
 intro be m9
 refine oF Z be (oF Z be (oF Z be (oF Z be (oR Z (za Z (zo be.out) Z) (oM Z Z (oN Z (oN Z (oN Z (oN Z (oN Z (oN Z (oN Z (oN Z (oN Z (oN Z (oN Z (oR Z (za Z Z Z) (oM Z Z (oN Z (oN Z (oN Z (zc Z Z Z (wAP Z Z Z) (zc Z Z Z (wAP Z Z Z) (zc Z Z Z (wAP Z Z Z) (zc Z Z Z (wAP Z Z Z) (zc Z Z Z (wAP Z Z Z) (zc Z Z Z (wAP Z Z Z) (zc Z Z Z (wAP Z Z Z) (oN Z (oR Z (za Z Z Z) (eN (zn Z (ZO (zd ?_))))))))))))))))))))))))))))))))))
 cases m9
 exact zF ⟨Z,⟨bz,bj,bQ,ch,ci,bR,cj,cm,bS,co,bf,bv,ap⟩⟩
 rintro qo pt ⟨il,iS,iT,iU,iV,iW,iX,iY,iZ,i2,i4,oS,lG⟩
 refine rR fL3 Z (oM Z i4 (oR Z (zY Z Z Z) (oA Z Z (zg ?_))))
 have q:=nD mP
 obtain rfl:=q
 exact zF ⟨Z,_,Z,⟨il,iS,iT,iU,iV,iW,iX,iY,iZ,i2,Z,(bW.trans oS),lG⟩⟩
 have gL:=fk;rw [if_neg bD] at gL;replace bD:=zI bD
 refine cF Z bD (ZD (zb ?_))
 have q:=wAM gL
 obtain ⟨o6,n1,iM⟩:=q
 have q:=l7 o6 iM
 obtain rfl:=q
 refine zb (zr (zF (sR fL2 Z (oM Z eu (oR Z (yP Z Z Z) (eN (ifc n1 ?_ ?_)))))))
 intro dT n2
 refine cT Z dT (rR (wNe gAh) Z (oM Z ep (oR Z (zD Z cg ZE Z zT) (oL Z (cw.ldB (j:=0) Z Z Z ze (v:=.slice bb p0.Bibs.length bd) Z) (oM Z dr (bnK n2 fun cE eM n3=>?_))))))
 have jK:=dD.le bV
 have jL:=jK.le bX
 have jM:=jL.le bI
 have jN:=jM.le bu
 have jO:=jN.le cC
 have jP:=jO.le bW
 have q:=jP.el (fun _=>rfl) (wAK eM)
 obtain ⟨pK,pW,li,lv⟩:=q
 refine oR Z (zx Z Z li Z zA zC (wAi eM) (wAj eM)) (oL Z (cw.ldC (f:=0) lv (v:=jV cE) Z Z zM Z) (oM Z fW (oM Z cS (oM Z eu ?_))))
 let B4:List Value:=[jV cE,jV bJ,jV ai,jV bK]
 let B5:List Value:=[jV 0,jV 0,jV 0,jV 0]
 refine oR Z (ZT (pv:=[(0,jV cE),(1,jV bJ),(2,jV ai),(3,jV bK)]) (z:=B5) (cs:=B4) Z (wAA Z (wAA Z (wAA Z (wAA Z wAO)))) Tryz.zeroValue44 wOy Z Z) (zk (pv:=[(0,.agg B4.toArray)]) (zs:=B5) (cs:=B4) Z Z Z Z Z (wAA Z wAO) Zs yr Tryz.zeroValue44 Z Z Z Z Z cw ?_)
 intro it iG lH
 let B6:Res:=.row (some ⟨iG,0,none⟩) 1 44 4 (nA wAI [(⟨cE,bJ,ai,bK⟩:wAf)])
 have gz:sW w U bN [B6,.blk b2 211 B0,B1,B2,B3] it:=lH
 refine bnK n3 fun ig jQ n5=>yE (j:=4) (enc:=wAI) (xs:=bH) (ys:=[(⟨cE,bJ,ai,bK⟩:wAf)]) (zs:=ig) rfl rfl rfl rfl rfl Tryz.underlying40 wOF rfl rfl rfl rfl rfl rfl gz rfl rfl rfl (gz.srcR (j:=0) rfl (by decide) (wAC (f:=wAI) (sz:=4) (fun _=>rfl) [(⟨cE,bJ,ai,bK⟩:wAf)])) (fun _=>rfl) (fun _=>rfl) jQ rfl ?_
 intro fE fS iu lI
 have lJ:sW w U bN [B6,.blk b2 211 B0,B1,B2,.row fE fS 44 4 (nA wAI ig)] iu:=lI
 refine oA Z Z (zg (zd (zF (rR fL3 Z (oM Z dr (oR Z (zY Z Z Z) (oA Z Z (zg ?_))))))))
 have q:=nD n5
 obtain rfl:=q
 exact zF ⟨rfl,_,rfl,⟨bN,fE,fS,cg,dq,d9,eh,cS,rfl,rfl,((bu.trans cC).trans bW),(lJ.pick [1,2,3,4] _ (by decide) rfl)⟩⟩
 intro dT n7
 refine cF Z dT (ZO (zd (zF (rR fL3 Z (oM Z dr (oR Z (zY Z Z Z) (oA Z Z (zg ?_))))))))
 have q:=nD n7
 obtain rfl:=q
 exact zF ⟨Z,_,Z,⟨bN,bh,bi,cg,dq,d9,eh,cS,ep,Z,((bu.trans cC).trans bW),cw⟩⟩
 have gN:=fh;rw [if_neg bC] at gN;replace bC:=zI bC
 refine cF Z bC (ZD (zb ?_))
 have q:=wAM gN
 obtain ⟨o8,n8,iO⟩:=q
 have q:=l5 o8 iO
 obtain rfl:=q
 refine zb (zr (zF (zR (yM (fun (cz,cA,ak) σ_ w_=>∃ (U_:PHeap) (bZ:Option Addr) (ca:Nat) (au:Option Addr) (ax:Nat),σ_ 1=.pointer (some ⟨b2,0,none⟩)/\σ_ 4=.slice (some ⟨b9,0,none⟩) cz.length x5.length/\σ_ 6=.slice bZ cA.length ca/\σ_ 7=jV ai/\σ_ 8=jV ai/\σ_ 12=.slice au ak.length ax/\PHeap.Le cM U_/\sW w U U_ [.blk b2 211 B0,.row (some ⟨b9,0,none⟩) x5.length 3 1 (nA KL.encI cz),.row bZ ca 44 4 (nA wAI cA),.row au ax 44 4 (nA wAI ak)] w_/\cz.length=x5.length) n8 ?_ ?_))))
 exact ⟨cM,az,a7,bh,bi,cQ,dn,d6,d7,dp,d8,(zN _),bU,j6⟩
 rintro ⟨cz,cA,ak⟩ qf qp pu ⟨dN,bZ,ca,au,ax,f0,f4,f5,f7,i6,f8,ft,gA,gu⟩ fm l8
 try dsimp only at fm
 refine zG (sR fL3 Z (oM Z f8 (oR Z (zW Z Z Zs) (oR Z (yP Z Z Z) (eN ?_)))))
 by_cases bF:0 < (↑ak.length:Int)
 have gO:=fm;rw [if_pos bF] at gO;replace bF:=zI bF
 refine cT Z bF (kN (zR (sR fL1 Z (oA Z Z (eN (zG (sR fL1 Z (oA Z Z (eN (zR (bnK gO fun ay me n9=>?_)))))))))))
 have q:=wAw me
 obtain ⟨ff,mg⟩:=q
 replace ff:=zI ff
 let B7:Res:=.row au ax 44 4 (nA wAI ak)
 let B8:Res:=.row (some ⟨b9,0,none⟩) x5.length 3 1 (nA KL.encI cz)
 let B9:Res:=.row bZ ca 44 4 (nA wAI cA)
 refine CK.forN' (fun de ii σ_ w_=>∃ (U_:PHeap),σ_ 19=jV (1 + ↑de:Int)/\σ_ 1=.pointer (some ⟨b2,0,none⟩)/\σ_ 4=.slice (some ⟨b9,0,none⟩) cz.length x5.length/\σ_ 6=.slice bZ cA.length ca/\σ_ 7=jV ai/\σ_ 8=jV ai/\σ_ 12=.slice au ak.length ax/\σ_ 18=jV ii/\PHeap.Le dN U_/\sW w U U_ [.blk b2 211 B0,B8,B9,B7] w_) mg ?_ ?_ ?_
 exact ⟨dN,Z,f0,f4,f5,f7,i6,f8,Z,(zN _),gA⟩
 rintro de ii qg qq fP fe ⟨fM,cZ,f9,gb,gc,ge,gf,cU,gg,gV,lK⟩ oQ
 have fT:Hid ((1 + ↑de:Int) < (↑ak.length:Int)):=zI (wRa fe)
 replace fe:=zI fe
 have gE:Hid (w64 ((1 + ↑de:Int) + 1)=(1 + ↑(de + 1):Int)):=zI (by have h1:=ff.out;have h2:=fT.out;rw [wAQ] <;> omega)
 refine zG (sR fL4 rfl (zh rfl rfl rfl rfl rfl cZ (zh rfl rfl rfl rfl rfl cU (zf rfl rfl rfl rfl (fun _=>zW rfl rfl Zs) (zf rfl rfl rfl rfl (fun _=>zV rfl rfl rfl) (eN (cT Z fT (kN (zG (zR (zG (ZY ZQ [3,3,3,3,1,3,3,3,3,1,3] fL11 (by kernel_rfl) ?_))))))))))))
 have cx:=lK.drew
 generalize hw_W571:({ fP with drawn:=fP.drawn + 1 }:World)=py at cx ⊢
 refine oM Z cU (oM Z cZ (bnK oQ fun _ dy od=>?_))
 obtain ⟨pL,dA⟩:=cx.rowSome (j:=3) rfl (by rw [wAC (f:=wAI) (sz:=4) (fun _=>rfl) ak];have hz:=wAY dy;omega)
 refine oR Z (zx Z Z dA Z Zs yr (wCQ dy) (wCR dy)) (oR Z (zD Z Z Tryz.runUnderlying44 Z zC) ?_)
 have mm:=wBO (xs:=ak) (wAY dy)
 refine zy rfl rfl rfl rfl (cx.ldR (j:=3) rfl dA rfl rfl zM (wAZ (sz:=4) (fun _=>rfl) _ _ 0 _ mm (by first | omega | rfl | simp) rfl)) rfl (zh rfl rfl rfl rfl rfl cU (zh rfl rfl rfl rfl rfl gg (bnK od fun _ eP oe=>zf rfl rfl rfl rfl (fun _=>zx rfl rfl dA rfl Zs yr (wCQ eP) (wCR eP)) (zf rfl rfl rfl rfl (fun _=>zD rfl rfl Tryz.runUnderlying44 rfl zC) ?_))))
 have mn:=wBO (xs:=ak) (wAY eP)
 refine zy rfl rfl rfl rfl (cx.ldR (j:=3) rfl dA rfl rfl zM (wAZ (sz:=4) (fun _=>rfl) _ _ 0 _ mn (by first | omega | rfl | simp) rfl)) rfl (zf rfl rfl rfl rfl (fun _=>zV rfl rfl rfl) (eN (ifc oe ?_ ?_)))
 intro dU og
 refine cT Z dU (rR fL2 Z (oM Z cZ (oA Z Z (zg (zd (zF (rR fL3 Z (oM Z cZ (oR Z (zz (zY Z Z Z) (congrArg (jV) gE.out)) (oA Z Z (zg ?_)))))))))))
 cases og
 exact zF ⟨Z,⟨fM,Z,f9,gb,gc,ge,gf,cU,Z,gV,cx⟩⟩
 intro dU oh
 refine cF Z dU (ZO (zd (zF (rR fL3 Z (oM Z cZ (oR Z (zz (zY Z Z Z) (congrArg (jV) gE.out)) (oA Z Z (zg ?_))))))))
 cases oh
 exact zF ⟨Z,⟨fM,Z,f9,gb,gc,ge,gf,cU,gg,gV,cx⟩⟩
 rintro qr pz ⟨dh,jg,i7,i8,i9,ja,jb,eB,gh,gW,fc⟩
 have iI:Hid (¬ ((1 + ↑(((↑ak.length:Int):Int) - 1).toNat:Int) < (↑ak.length:Int))):=zI (wPq)
 refine zG (sR fL4 Z (oM Z jg (oM Z eB (oR Z (zW Z Z Zs) (oR Z (zV Z Z Z) (eN (cF Z iI (ZD (zb (zb (zr (zF (sR (wGD gAl) Z (oM Z i9 (oM Z eB (oM Z gh (bnK n9 fun _ bT oj=>?_)))))))))))))))))
 obtain ⟨pM,dB⟩:=fc.rowSome (j:=3) rfl (by rw [wAC (f:=wAI) (sz:=4) (fun _=>rfl) ak];have hz:=wAY bT;omega)
 refine oR Z (zx Z Z dB Z Zs yr (wCQ bT) (wCR bT)) ?_
 have mp:=wBO (xs:=ak) (wAY bT)
 let dJ:List Value:=[jV ((gd ak ay.toNat).Bib),jV ((gd ak ay.toNat).Done),jV ((gd ak ay.toNat).Time),jV ((gd ak ay.toNat).By)]
 refine zy rfl rfl rfl rfl (fc.ldRA (j:=3) rfl dB rfl rfl Tryz.isAgg44 yr (vs:=dJ) (wEi (sz:=4) (fun _=>rfl) _ _ _ mp (by first | omega | rfl | simp) rfl) rfl) rfl (zk (pv:=[(0,.agg dJ.toArray)]) (zs:=[jV 0,jV 0,jV 0,jV 0]) (cs:=dJ) rfl rfl rfl rfl rfl (wAA rfl wAO) Zs yr Tryz.zeroValue44 rfl rfl rfl rfl rfl fc ?_)
 intro iv iH lL
 let fH:Res:=.row (some ⟨iH,0,none⟩) 1 44 4 (nA wAI [(gd ak ay.toNat)])
 have gC:sW w U dh [fH,.blk b2 211 B0,B8,B9,B7] iv:=lL
 refine bnK oj fun fB jS om=>yE (j:=3) (enc:=wAI) (xs:=cA) (ys:=[(gd ak ay.toNat)]) (zs:=fB) rfl rfl rfl rfl rfl Tryz.underlying40 wOF rfl rfl rfl rfl rfl rfl gC rfl rfl rfl (gC.srcR (j:=0) rfl (by decide) (wAC (f:=wAI) (sz:=4) (fun _=>rfl) [(gd ak ay.toNat)])) (fun _=>rfl) (fun _=>rfl) jS rfl ?_
 intro dI dV iw lM
 let cI:Res:=.row dI dV 44 4 (nA wAI fB)
 have lN:sW w U dh [fH,.blk b2 211 B0,B8,cI,B7] iw:=lM
 refine oA Z Z (eN (zG (sR fL1 Z (oA Z Z (eN (zR (yM (fun (bo,cG) σ_ w_=>∃ (U_:PHeap),σ_ 1=.pointer (some ⟨b2,0,none⟩)/\σ_ 4=.slice (some ⟨b9,0,none⟩) bo.length x5.length/\σ_ 6=.slice dI fB.length dV/\σ_ 7=jV ai/\σ_ 8=jV ai/\σ_ 12=.slice au ak.length ax/\σ_ 18=jV ay/\σ_ 20=jV cG/\PHeap.Le dh U_/\sW w U U_ [.blk b2 211 B0,.row (some ⟨b9,0,none⟩) x5.length 3 1 (nA KL.encI bo),cI,B7] w_/\bo.length=x5.length) om ?_ ?_)))))))
 exact ⟨dh,i7,i8,rfl,ja,jb,eB,gh,rfl,(zN _),(lN.pick [1,2,3,4] _ (by decide) rfl),gu⟩
 rintro ⟨bo,cG⟩ qh qs di ⟨b4,cV,dv,eC,eD,dw,cW,cX,cY,dE,fd,eQ⟩ fq ma
 try dsimp only at fq
 refine zG (sR fL5 Z (oM Z cY (oR Z (zD Z cV ZE Z zT) (oL Z (fd.ldB (j:=0) Z Z Z ze (v:=.slice bb p0.Bibs.length bd) Z) (oR Z (zW Z Z zA) (oR Z (zV Z Z Z) (eN ?_)))))))
 by_cases bG:cG < (↑p0.Bibs.length:Int)
 have gP:=fq;rw [if_pos bG] at gP;replace bG:=zI bG
 refine cT Z bG (kN (zG (zR (zG (ZY ZQ [3,1,3,3,1,3,3,3,3,1,3] fL11 (by kernel_rfl) ?_)))))
 have cy:=fd.drew
 generalize hw_W649:({ di with drawn:=di.drawn + 1 }:World)=pC at cy ⊢
 refine oR Z (zD Z cV ZE Z zT) (oL Z (cy.ldB (j:=0) Z Z Z ze (v:=.slice bb p0.Bibs.length bd) Z) (oM Z cY (bnK gP fun pi eS oq=>?_)))
 have jT:=dD.le bV
 have jU:=jT.le bX
 have jW:=jU.le bI
 have jX:=jW.le bu
 have jY:=jX.le ft
 have jZ:=jY.le gW
 have j4:=jZ.le dE
 have q:=j4.el (fun _=>rfl) (wAK eS)
 obtain ⟨pN,pX,lj,lw⟩:=q
 refine oR Z (zx Z Z lj Z zA zC (wAi eS) (wAj eS)) (oL Z (cy.ldC (f:=0) lw (v:=jV pi) Z Z zM Z) (oM Z cW (oM Z cX (oR Z (zx Z Z dB Z Zs yr (wCQ bT) (wCR bT)) (oR Z (zD Z Z Tryz.runUnderlying44 Z zC) ?_)))))
 have mq:=wBO (xs:=ak) (wAY bT)
 refine zy rfl rfl rfl rfl (cy.ldR (j:=3) rfl dB rfl rfl zM (wAZ (sz:=4) (fun _=>rfl) _ _ 0 _ mq (by first | omega | rfl | simp) rfl)) rfl (zf rfl rfl rfl rfl (fun _=>yJ rfl rfl rfl) (eN (ifc oq ?_ ?_)))
 intro dW ot
 refine cT Z dW (rR (wHD (.fx 4 .nil .stop)) Z (oM Z dv (oM Z cY (oM Z dw (bnK ot fun _ dz ou=>oR Z (zx Z Z Z Z zA zC (wCQ dz) (wCR dz)) ?_)))))
 have mr:=wBO (xs:=bo) (wAY dz)
 refine OKS.stR (j:=1) (vs:=[jV ai]) (cs':=nA KL.encI (nM bo cG.toNat ai)) rfl rfl rfl rfl cy rfl rfl rfl rfl rfl zC (by rw [wAC (f:=KL.encI) (sz:=1) (fun _=>rfl)];have hz:=wAY dz;show _ + 1 <= _;first | omega | (simp only [nL];omega) | (simp only [nJ,nH,nI];omega)) rfl (wES (sz:=1) (fo:=0) (fun _=>rfl) _ _ _ _ mr (by first | omega | (simp only [nL];omega) | (simp only [nJ,nH,nI];omega)) (zJ rfl) rfl) rfl ?_
 intro ix lO
 have lP:sW w U b4 [.blk b2 211 B0,.row (some ⟨b9,0,none⟩) x5.length 3 1 (nA KL.encI (nM bo cG.toNat ai)),cI,B7] ix:=lO
 refine zg (zd (zF (rR fL3 Z (oM Z cY (oR Z (zY Z Z Z) (oA Z Z (zg ?_)))))))
 have q:=nD ou
 obtain rfl:=q
 exact zF ⟨rfl,_,rfl,⟨b4,cV,(nN (b:=(.slice (some ⟨b9,0,none⟩) bo.length x5.length:Value)) (c:=(.slice (some ⟨b9,0,none⟩) ((nM bo cG.toNat ai).length) x5.length:Value)) dv (by simp only [nK])),eC,eD,dw,cW,cX,rfl,dE,lP,(nK.trans eQ)⟩⟩
 intro dW ov
 refine cF Z dW (ZO (zd (zF (rR fL3 Z (oM Z cY (oR Z (zY Z Z Z) (oA Z Z (zg ?_))))))))
 have q:=nD ov
 obtain rfl:=q
 exact zF ⟨Z,_,Z,⟨b4,cV,dv,eC,eD,dw,cW,cX,Z,dE,cy,eQ⟩⟩
 have gQ:=fq;rw [if_neg bG] at gQ;replace bG:=zI bG
 refine cF Z bG (ZD (zb ?_))
 have q:=wAM gQ
 obtain ⟨o9,ow,iP⟩:=q
 have q:=ma o9 iP
 obtain rfl:=q
 refine zb (zr (zF (ZY ZQ [3,3,3,3,3,3,3,0,3] (wMK gAd) (by kernel_rfl) ?_)))
 have dd:=fd.drew
 generalize hw_W683:({ di with drawn:=di.drawn + 1 }:World)=iy at dd ⊢
 refine oM Z cW (oM Z cX (bnK ow fun dG gv ox=>?_))
 have q:=wKj gv
 obtain ⟨lW,lZ,mb,pP,oD⟩:=q
 have oG:=dd.rowCap (j:=3) rfl (by decide) (wAC (f:=wAI) (sz:=4) (fun _=>rfl) ak)
 refine zf (v:=.slice (if ax=(0:Int).toNat then au else nO (fun q:Addr=>q.add ((0:Int).toNat * 4)) (au:Option Addr)) dG.length (ax - (0:Int).toNat)) rfl rfl rfl rfl (fun _=>zz (Runs.slc (sz:=4) (a:=0) (b:=ay) rfl rfl (.inr ⟨rfl,rfl⟩) (.inl ⟨_,rfl,rfl⟩) Zs yr lW lZ mb oG) (by rw [oD])) (zh rfl rfl rfl rfl rfl cW (zh rfl rfl rfl rfl rfl cX (zf rfl rfl rfl rfl (fun _=>zY rfl rfl rfl) (bnK ox fun ij gw oy=>?_))))
 have q:=wKj gw
 obtain ⟨lY,l0,mc,pQ,oE⟩:=q
 have gS:=dd.rowCap (j:=3) rfl (by decide) (wAC (f:=wAI) (sz:=4) (fun _=>rfl) ak)
 refine zf (v:=.slice (if ax=((w64 (ay + 1)):Int).toNat then au else nO (fun q:Addr=>q.add (((w64 (ay + 1)):Int).toNat * 4)) (au:Option Addr)) ij.length (ax - ((w64 (ay + 1)):Int).toNat)) rfl rfl rfl rfl (fun _=>zz (Runs.slc (sz:=4) (a:=(w64 (ay + 1))) (b:=(↑(ak.length):Int)) rfl rfl (.inl ⟨_,rfl,rfl⟩) (.inr ⟨rfl,rfl⟩) Zs yr lY l0 mc gS) (by rw [oE])) ?_
 have oZ:=dd.srcCutD (f:=wAI) (j:=3) rfl (fun _=>rfl) (by decide) gw gS
 have lQ:=dd.cutRowC (enc:=wAI) (k:=3) rfl gv
 let fI:Res:=.row (some ⟨b9,0,none⟩) x5.length 3 1 (nA KL.encI bo)
 have lS:sW w U b4 [.blk b2 211 B0,fI,cI,.row au ax 44 4 (nA wAI dG)] iy:=lQ
 refine bnK oy fun ik j5 oB=>yE (j:=3) (enc:=wAI) (xs:=dG) (ys:=ij) (zs:=ik) Z Z Z Z Z Tryz.underlying40 wOF Z Z Z Z Z Z lS Z (nN (b:=(.slice (if ax=(0:Int).toNat then au else nO (fun q:Addr=>q.add ((0:Int).toNat * 4)) (au:Option Addr)) dG.length (ax - (0:Int).toNat):Value)) Z slcK) Z oZ (fun _=>Z) (fun _=>Z) j5 Z ?_
 intro fG fU iz lR
 have lT:sW w U b4 [.blk b2 211 B0,fI,cI,.row fG fU 44 4 (nA wAI ik)] iz:=lR
 refine oA Z Z (zg (zd ?_))
 have q:=nD oB
 obtain rfl:=q
 exact zF ⟨Z,_,Z,⟨b4,dI,dV,fG,fU,cV,dv,eC,eD,dw,Z,((ft.trans gW).trans dE),lT,eQ⟩⟩
 have gR:=fm;rw [if_neg bF] at gR;replace bF:=zI bF
 refine cF Z bF (ZD (zb ?_))
 have q:=wAM gR
 obtain ⟨pa,oC,iQ⟩:=q
 have q:=l8 pa iQ
 obtain rfl:=q
 refine zb (zr (zd ?_))
 have q:=nD oC
 obtain rfl:=q
 exact zF ⟨rfl,_,rfl,⟨dN,bZ,ca,f0,f4,f5,f7,(((bX.trans bI).trans bu).trans ft),(gA.pick [0,1,2] _ (by decide) rfl),gu⟩⟩
set_option maxHeartbeats 4000000
theorem wEq (p0:wAn) (ah:Option Addr) (aj:Nat) (ai:Option Addr) (ak:Nat) (w:World) (U:PHeap) (hS:St0 w U []) (bb:Sl U 1 ah aj p0.Bibs.length (nA KL.encI p0.Bibs)) (bd:SlR U wDe ai ak p0.Times) {r:(List wAf) × Int} (hm:wAv p0=some r):Gv Tryz.prog 89 [.agg #[jV p0.Laps,.slice ah p0.Bibs.length aj,.slice ai p0.Times.length ak]] w (wBp w [] U (fun U_ L_ v=>∃ (A0:Option Addr) (c0:Nat),v=.tuple #[.slice A0 r.1.length c0,jV r.2]/\L_=[.row A0 c0 44 4 (nA wAI r.1)])):=by
 unfold wAv at hm
 refine Gv.of Tryz.func89 Z Tryz.ntmps89 Tryz.results89 Z (sR gAk Z ?_)
 let B0:List Value:=[jV p0.Laps,.slice ah p0.Bibs.length aj,.slice ai p0.Times.length ak]
 refine ZX (cs:=B0) rfl rfl rfl rfl rfl rfl (by rfl) hS ?_
 intro W1 b2 a8
 refine oA Z Z (oA Z Z (eN (zG (sR gAj Z (oL Z (a8.ldBA (j:=0) Z Z Z YD yY (vs:=B0) Z Z) (bnK hm fun x5 h6 bx=>zP 0 Z Z Z Z (zQ Z Z Tryz.call167 (zH Z zZ) Z) a8 (fun hs=>wEX p0 ah aj ai ak W1 U hs bb bd h6) (.inr Z) ?_))))))
 rintro U8 L9 bD ax bf br ⟨rfl,rfl⟩
 have aq:sW w U U8 [.blk b2 211 B0] ax:=br
 refine oA Z Z (eN (sR fL2 Z (oM Z Z (oR Z (ZU Z Z Z) (eN (ifc bx ?_ ?_))))))
 intro ao bv
 refine zn (zo (fun h=>h ao.out)) (kN (sR (.fl 0 (.fx 1 (wFp (.nil)) .stop)) Z (oL Z (aq.ldBA (j:=0) Z Z Z YD yY (vs:=B0) Z Z) ?_)))
 have bm:=bb.le bf
 have bn:=bd.le bf
 have q:=bnd bv
 obtain ⟨⟨bg,bh⟩,bo,be⟩:=q
 try dsimp only at be
 refine zP 0 Z Z Z Z (zQ Z Z Tryz.call168 (zH Z zZ) Z) aq (fun hs=>wFd p0 ah aj ai ak ax U8 hs bm bn bo) (.inr Z) ?_
 rintro aw bz bE bj bC bs ⟨am,ap,av,a7,rfl,rfl⟩
 have bt:sW w U aw [.row am ap 44 4 (nA wAI bg),.row av a7 3 1 (nA KL.encI bh),.blk b2 211 B0] bj:=bs
 refine oM Z Z (oR Z (ZF Z Z (v:=.slice am bg.length ap) Z) (oR Z (ZF Z Z (v:=.slice av bh.length a7) Z) (oA Z Z (oA Z Z (eN (sR fL3 Z (oM Z Z (oA Z Z (oA Z Z (eN (zS ?_)))))))))))
 cases be
 exact ⟨rfl,_,(wFA rfl rfl),aw,_,(bt.pick [0] _ (by decide) rfl),am,ap,rfl,rfl⟩
 intro ao bw
 refine cT Z ao (sR fL3 Z (oM Z Z (oA Z Z (oA Z Z (eN (zS (zK ?_)))))))
 have bu:=aq.nilrow 44 4
 cases bw
 exact ⟨rfl,_,(wFA rfl rfl),U8,_,(bu.pick [0] _ (by decide) rfl),none,0,rfl,rfl⟩
theorem wHo (p0:wAT) (au:Option Addr) (aw:Nat) (av:Option Addr) (ax:Nat) (w:World) (U:PHeap) (hS:St0 w U []) (bN:Sl U 1 au aw p0.Rules.Classes.length (nA KL.encI p0.Rules.Classes)) (bO:SlR U wGH av ax p0.Teams) {r:(List wAf) × Int} (hm:wDd p0=some r):Gv Tryz.prog 17 [.agg #[.slice au p0.Rules.Classes.length aw,jV p0.Rules.Each,jV p0.Rules.Laps,jV p0.Rules.Spare,jV p0.Rules.Loop,jV p0.Rules.Unused,jV p0.Start,.slice av p0.Teams.length ax]] w (wBp w [] U (fun U_ L_ v=>∃ (A0:Option Addr) (c0:Nat),v=.tuple #[.slice A0 r.1.length c0,jV r.2]/\L_=[.row A0 c0 44 4 (nA wAI r.1)])):=by
 unfold wDd at hm
 refine Gv.of Tryz.func17 Z Tryz.ntmps17 Tryz.results17 Z (sR gAk Z ?_)
 let B0:List Value:=[.slice au p0.Rules.Classes.length aw,jV p0.Rules.Each,jV p0.Rules.Laps,jV p0.Rules.Spare,jV p0.Rules.Loop,jV p0.Rules.Unused,jV p0.Start,.slice av p0.Teams.length ax]
 refine ZX (cs:=B0) rfl rfl rfl rfl rfl rfl (by rfl) hS ?_
 intro W1 b2 bj
 refine oA Z Z (oA Z Z (eN (sR (.fl 0 (.fx 1 (wMM gAl) .stop)) Z (oL Z (bj.ldBA (j:=0) Z Z Z yg yO (vs:=B0) Z Z) ?_))))
 have q:=bnd hm
 obtain ⟨⟨x5,x6⟩,h7,bn⟩:=q
 try dsimp only at bn
 refine zP 0 Z Z Z Z (zQ Z Z Tryz.call88 (zH Z zZ) Z) bj (fun hs=>wFS p0 au aw av ax W1 U hs bN bO h7) (.inr Z) ?_
 rintro U9 bX cc bs b4 bC ⟨ak,ap,am,aq,bu,rfl,rfl,bv⟩
 let B1:Res:=.row ak ap 3 1 (nA KL.encI x5.Bibs)
 let B2:Res:=.row am aq 22 1 bu
 have bD:sW w U U9 [B1,B2,.blk b2 34 B0] bs:=bC
 refine oM Z Z (oR Z (ZF Z Z (v:=.agg #[jV x5.Laps,.slice ak x5.Bibs.length ap,.slice am x5.Times.length aq]) Z) (oR Z (ZF Z Z (v:=jV x6) Z) (ZB (cs:=[jV 0,.slice none 0 0,.slice none 0 0]) Z Z Z Z Z YV Z bD ?_)))
 intro bZ ao bE
 let B3:List Value:=[jV x5.Laps,.slice ak x5.Bibs.length ap,.slice am x5.Times.length aq]
 refine ZK (j:=0) (vs:=B3) Z Z Z Z bE Z Z Z Z yY (zJ Z) Z Z Z ?_
 intro an bF
 have bd:sW w U U9 [.blk ao 211 B3,B1,B2,.blk b2 34 B0] an:=bF
 refine oA Z Z (eN (zG (sR fL2 Z (oM Z Z (oR Z (ZU Z Z Z) (eN (ifc bn ?_ ?_)))))))
 intro a8 bP
 refine zn (zo (fun h=>h a8.out)) (kN (sR (.fl 0 (.fx 1 (fC2_5 (.nil)) .stop)) Z (oL Z (bd.ldBA (j:=0) Z Z Z YD yY (vs:=B3) Z Z) ?_)))
 have q:=bd.freezeR (k:=1) (n:=x5.Bibs.length) rfl (wAC (f:=KL.encI) (sz:=1) (fun _=>rfl) x5.Bibs) (by decide)
 obtain ⟨bp,bT,bR,bG⟩:=q
 have bH:sW w U bp [.blk ao 211 B3,B2,.blk b2 34 B0] an:=bG
 have bw:=bv.le bT
 have q:=bH.freezeRR (R:=wDe) (k:=1) rfl bw rfl (by decide)
 obtain ⟨bg,bU,bS,bI⟩:=q
 have bJ:sW w U bg [.blk ao 211 B3,.blk b2 34 B0] an:=bI
 have bx:=bR.le bU
 have q:=bnd bP
 obtain ⟨⟨bo,bV⟩,bz,bm⟩:=q
 try dsimp only at bm
 refine zP 0 Z Z Z Z (zQ Z Z Tryz.call89 (zH Z zZ) Z) bJ (fun hs=>wEq x5 ak ap am aq an bg hs bx bS bz) (.inr Z) ?_
 rintro bh bY cd bt ca bK ⟨ay,bb,rfl,rfl⟩
 have bL:sW w U bh [.row ay bb 44 4 (nA wAI bo),.blk ao 211 B3,.blk b2 34 B0] bt:=bK
 refine oR Z (ZF Z Z (v:=.slice ay bo.length bb) Z) (oR Z (ZF Z Z (v:=jV bV) Z) (oA Z Z (oA Z Z (eN (zS ?_)))))
 cases bm
 exact ⟨rfl,_,(wFA rfl rfl),bh,_,(bL.pick [0] _ (by decide) rfl),ay,bb,rfl,rfl⟩
 intro a8 bQ
 refine cT Z a8 (sR fL3 Z (oM Z Z (oA Z Z (oA Z Z (eN (zS (zK ?_)))))))
 have bM:=bd.nilrow 44 4
 cases bQ
 exact ⟨rfl,_,(wFA rfl rfl),U9,_,(bM.pick [0] _ (by decide) rfl),none,0,rfl,rfl⟩
theorem wGn (p0:wAT) (bv:Option Addr) (bw:Nat) (bj:Option Addr) (bm:Nat) (w:World) (U:PHeap) (hS:St0 w U []) (dh:Sl U 1 bv bw p0.Rules.Classes.length (nA KL.encI p0.Rules.Classes)) (di:SlR U wGH bj bm p0.Teams) {r:(List (List Int)) × Int} (hm:wBe p0=some r):Gv Tryz.prog 19 [.agg #[.slice bv p0.Rules.Classes.length bw,jV p0.Rules.Each,jV p0.Rules.Laps,jV p0.Rules.Spare,jV p0.Rules.Loop,jV p0.Rules.Unused,jV p0.Start,.slice bj p0.Teams.length bm]] w (wBp w [] U (fun U_ L_ v=>∃ (A0:Option Addr) (c0:Nat) (cH:List Value),v=.tuple #[.slice A0 r.1.length c0,jV r.2]/\L_=[.row A0 c0 22 1 cH]/\RlL U_ wDe r.1 cH)):=by
 unfold wBe at hm
 refine Gv.of Tryz.func19 Z Tryz.ntmps19 Tryz.results19 Z (sR gAk Z ?_)
 let B0:List Value:=[.slice bv p0.Rules.Classes.length bw,jV p0.Rules.Each,jV p0.Rules.Laps,jV p0.Rules.Spare,jV p0.Rules.Loop,jV p0.Rules.Unused,jV p0.Start,.slice bj p0.Teams.length bm]
 refine ZX (cs:=B0) rfl rfl rfl rfl rfl rfl (by rfl) hS ?_
 intro W1 b2 df
 refine oA Z Z (oA Z Z (eN (zG (sR gAj Z (oL Z (df.ldBA (j:=0) Z Z Z yg yO (vs:=B0) Z Z) (bnK hm fun x5 h6 f4=>zP 0 Z Z Z Z (zQ Z Z Tryz.call91 (zH Z zZ) Z) df (fun hs=>wEy p0 bv bw bj bm W1 U hs dh di h6) (.inr Z) ?_))))))
 rintro U8 L9 gZ dB du eX ⟨rfl,rfl⟩
 have c9:sW w U U8 [.blk b2 34 B0] dB:=eX
 refine oA Z Z (eN (sR fL2 Z (oM Z Z (oR Z (ZU Z Z Z) (eN (ifc f4 ?_ ?_))))))
 intro bL fI
 refine zn (zo (fun h=>h bL.out)) (kN (sR fL1 Z (oA Z Z (eN (zG (sR fL1 Z (oA Z Z (eN (zR (yM (fun (bh,bn) σ_ w_=>∃ (U_:PHeap) (a8:Option Addr) (bb:Nat) (br:List Value),σ_ 1=.pointer (some ⟨b2,0,none⟩)/\σ_ 5=.slice a8 bh.length bb/\σ_ 6=jV bn/\PHeap.Le U8 U_/\sW w U U_ [.blk b2 34 B0,.row a8 bb 22 1 br] w_/\RlL U_ wDe bh br) fI ?_ ?_))))))))))
 have fw:=c9.nilrow 22 1
 exact ⟨U8,none,0,[],rfl,rfl,rfl,(zN _),(fw.pick [1,0] _ (by decide) rfl),RlL.nil⟩
 rintro ⟨bh,bn⟩ ig im gM ⟨bp,a8,bb,br,bR,cV,bS,cm,bu,cY⟩ ci fC
 try dsimp only at ci
 refine zG (sR fL5 Z (oM Z bS (oR Z (zD Z bR zj Z Zd) (oL Z (bu.ldB (j:=0) Z Z Z Zk (v:=.slice bj p0.Teams.length bm) Z) (oR Z (zW Z Z ZJ) (oR Z (zV Z Z Z) (eN ?_)))))))
 by_cases az:bn < (↑p0.Teams.length:Int)
 have dr:=ci;rw [if_pos az] at dr;replace az:=zI az
 refine cT Z az (kN (zG (zR (sR (wGD gAg) Z (oR Z (zD Z bR zj Z Zd) (oL Z (bu.ldB (j:=0) Z Z Z Zk (v:=.slice bj p0.Teams.length bm) Z) (oM Z bS (bnK dr fun aj bX f0=>?_))))))))
 have eD:=di.le du
 have eG:=eD.le cm
 have q:=eG.el (wAK bX)
 obtain ⟨dP,gi,g9,eQ,ca,gb⟩:=q
 obtain ⟨bF,bG,be,bf,rfl,eH,cZ⟩:=gb
 replace ca:Cl bp dP (gi + bn.toNat * 3) [jV aj.Bib,.slice bF aj.Classes.length bG,.slice be aj.Legs.length bf]:=ca
 refine oR Z (zx Z Z eQ Z ZJ Ze (wAi bX) (wAj bX)) (oL Z (bu.ldCA (f:=0) ca Z Z Tryz.isAgg205 Ze (us:=[jV aj.Bib,.slice bF aj.Classes.length bG,.slice be aj.Legs.length bf]) Z Z) (ZB (cs:=[jV 0,.slice none 0 0,.slice none 0 0]) Z Z Z Z Z YK Z bu ?_))
 intro gN an fy
 let B1:List Value:=[jV aj.Bib,.slice bF aj.Classes.length bG,.slice be aj.Legs.length bf]
 refine ZK (j:=0) (vs:=B1) Z Z Z Z fy Z Z Z Z Ze (zJ Z) Z Z Z ?_
 intro dI fz
 let B2:Res:=.row a8 bb 22 1 br
 have fA:sW w U bp [.blk an 205 B1,.blk b2 34 B0,B2] dI:=fz
 refine eN (sR fL1 Z (oA Z Z (eN (zG (sR fL1 Z (oA Z Z (eN (zR (yM (fun (am,ah) σ_ w_=>∃ (U_:PHeap) (aq:Option Addr) (av:Nat),σ_ 1=.pointer (some ⟨b2,0,none⟩)/\σ_ 5=.slice a8 bh.length bb/\σ_ 6=jV bn/\σ_ 7=.pointer (some ⟨an,0,none⟩)/\σ_ 8=.slice aq am.length av/\σ_ 9=jV ah/\PHeap.Le bp U_/\sW w U U_ [.blk an 205 B1,.blk b2 34 B0,B2,.row aq av 3 1 (nA KL.encI am)] w_) f0 ?_ ?_)))))))))
 have eW:=fA.nilrow 3 1
 exact ⟨bp,none,0,bR,cV,bS,rfl,rfl,rfl,(zN _),(eW.pick [1,2,3,0] _ (by decide) rfl)⟩
 rintro ⟨am,ah⟩ ic ij dA ⟨cy,aq,av,cJ,cK,cL,cM,cN,cO,aw,cc⟩ ch fB
 try dsimp only at ch
 refine zG (sR fL5 Z (oM Z cO (oR Z (zD Z cM zt Z Zi) (oL Z (cc.ldB (j:=0) Z Z Z Zm (v:=.slice be aj.Legs.length bf) Z) (oR Z (zW Z Z ZP) (oR Z (zV Z Z Z) (eN ?_)))))))
 by_cases ay:ah < (↑aj.Legs.length:Int)
 have dn:=ch;rw [if_pos ay] at dn;replace ay:=zI ay
 refine cT Z ay (kN (zG (zR (sR fL1 Z (oA Z Z (eN (zG (sR fL1 Z (oA Z Z (eN (zR (bnK dn fun ii fD fG=>?_))))))))))))
 have q:=wAw fD
 obtain ⟨cg,fE⟩:=q
 replace cg:=zI cg
 let B3:Res:=.row aq av 3 1 (nA KL.encI am)
 refine CK.forN' (fun bg dw σ_ w_=>∃ (U_:PHeap),σ_ 11=jV (↑bg:Int)/\σ_ 1=.pointer (some ⟨b2,0,none⟩)/\σ_ 5=.slice a8 bh.length bb/\σ_ 6=jV bn/\σ_ 7=.pointer (some ⟨an,0,none⟩)/\σ_ 8=.slice aq am.length av/\σ_ 9=jV ah/\σ_ 10=jV dw/\PHeap.Le cy U_/\sW w U U_ [.blk an 205 B1,.blk b2 34 B0,B2,B3] w_) fE ?_ ?_ ?_
 exact ⟨cy,Z,cJ,cK,cL,cM,cN,cO,Z,(zN _),cc⟩
 rintro bg dw ie ik cz cd ⟨bz,bE,cP,cQ,cR,bC,cS,bD,cU,cj,eY⟩ ge
 have cC:Hid ((↑bg:Int) < ah):=zI (wAo cd)
 replace cd:=zI cd
 have dm:Hid (w64 ((↑bg:Int) + 1)=(↑(bg + 1):Int)):=zI (by have h1:=cg.out;have h2:=cC.out;rw [wAQ] <;> omega)
 refine zG (sR fL3 rfl (zh rfl rfl rfl rfl rfl bE (zh rfl rfl rfl rfl rfl bD (zf rfl rfl rfl rfl (fun _=>zV rfl rfl rfl) (eN (cT Z cC (kN (zG (zR (zG (ZY ZQ [3,1,3,3,3,1,3,1,3,3,3,1,3] fL13 (by kernel_rfl) ?_)))))))))))
 have bd:=eY.drew
 generalize hw_W153:({ cz with drawn:=cz.drawn + 1 }:World)=gK at bd ⊢
 refine oR Z (zD Z bC zt Z Zi) (oL Z (bd.ldB (j:=0) Z Z Z Zm (v:=.slice be aj.Legs.length bf) Z) (oM Z bE (bnK ge fun bH cW fH=>?_)))
 have dV:=cZ.le aw
 have cX:=dV.le cj
 have q:=cX.el (wAK cW)
 obtain ⟨dJ,gf,g6,eI,bY,f5⟩:=q
 obtain ⟨gj,gw,gm,gx,rfl,gQ,gR⟩:=f5
 replace bY:Cl bz dJ (gf + bg * 3) [jV bH.Skier,.slice gj bH.Loops.length gw,.slice gm bH.Bouts.length gx]:=bY
 refine oR Z (ZC Z Z eI Z ZP Zz (wAg cW)) (oR Z (zD Z Z Zg Z zC) (oL Z (bd.ldC (f:=0) bY (v:=jV bH.Skier) Z Z zM Z) (oR Z (zD Z bC zt Z Zi) (oL Z (bd.ldB (j:=0) Z Z Z Zm (v:=.slice be aj.Legs.length bf) Z) (oM Z bD (bnK fH fun bI bT fJ=>?_))))))
 have q:=cX.el (wAK bT)
 obtain ⟨dK,gg,g7,eJ,bZ,f7⟩:=q
 obtain ⟨gq,gy,gr,gz,rfl,gS,gT⟩:=f7
 replace bZ:Cl bz dK (gg + ah.toNat * 3) [jV bI.Skier,.slice gq bI.Loops.length gy,.slice gr bI.Bouts.length gz]:=bZ
 refine oR Z (zx Z Z eJ Z ZP Zz (wAi bT) (wAj bT)) (oR Z (zD Z Z Zg Z zC) (oL Z (bd.ldC (f:=0) bZ (v:=jV bI.Skier) Z Z zM Z) (oR Z (yJ Z Z Z) (eN (ifc fJ ?_ ?_)))))
 intro bM fK
 refine cT Z bM (rR fL3 Z (oM Z cU (oR Z (zY Z Z Z) (oA Z Z (zg (zd (zF (rR fL3 Z (oM Z bE (oR Z (zz (zY Z Z Z) (congrArg (jV) dm.out)) (oA Z Z (zg ?_))))))))))))
 cases fK
 exact zF ⟨Z,⟨bz,Z,cP,cQ,cR,bC,cS,bD,Z,cj,bd⟩⟩
 intro bM fL
 refine cF Z bM (ZO (zd (zF (rR fL3 Z (oM Z bE (oR Z (zz (zY Z Z Z) (congrArg (jV) dm.out)) (oA Z Z (zg ?_))))))))
 cases fL
 exact zF ⟨Z,⟨bz,Z,cP,cQ,cR,bC,cS,bD,cU,cj,bd⟩⟩
 rintro il cA ⟨ax,dU,bs,bO,bP,bt,bQ,a7,dT,bi,eZ⟩
 have dQ:Hid (¬ ((↑((ah:Int) - 0).toNat:Int) < ah)):=zI (wAc)
 refine zG (sR fL3 rfl (zh rfl rfl rfl rfl rfl dU (zh rfl rfl rfl rfl rfl a7 (zf rfl rfl rfl rfl (fun _=>zV rfl rfl rfl) (eN (cF Z dQ (ZD (zb (zb (zr (zF (zG (ZY ZQ [3,3,3,1,3,3,3,1,3,1,3,3,3,1,3,1,3,3,1,3,3,1,3,3] fL24 (by kernel_rfl) ?_)))))))))))))
 have ap:=eZ.drew
 generalize hw_W208:({ cA with drawn:=cA.drawn + 1 }:World)=gL at ap ⊢
 refine oM Z dT (oR Z (zD Z bs zj Z yX) (oR Z (zD Z Z Zh Z zC) (oL Z (ap.ldB (j:=1) Z Z Z zM (v:=jV p0.Rules.Each) Z) (oR Z (YM Z Z Z) (oM Z Z (ifc fG ?_ ?_))))))
 intro af fM
 refine oT Z af (oT Z af (oT Z af (oT Z af (oT Z af (oT Z af (oT Z af (oT Z af (oT Z af (oT Z af (oT Z af (oT Z af (oT Z af (oT Z af (oT Z af (oT Z af (oT Z af (oR Z (zX Z (Zl af.out) Z) (eN (ZA Z (rR gAn Z (oM Z bQ (oM Z a7 (zk (pv:=[(0,jV ah)]) (zs:=[jV 0]) (cs:=[jV ah]) Z Z Z Z Z (wAA Z wAO) zA zC ZM Z Z Z Z Z ap ?_)))))))))))))))))))))))
 intro dC dL fc
 let B4:Res:=.row (some ⟨dL,0,none⟩) 1 3 1 (nA KL.encI [ah])
 have dd:sW w U ax [B4,.blk an 205 B1,.blk b2 34 B0,B2,B3] dC:=fc
 refine bnK fM fun dx dW fN=>yE (j:=4) (enc:=KL.encI) (xs:=am) (ys:=[ah]) (zs:=dx) rfl rfl rfl rfl rfl Zy wFN rfl rfl rfl rfl rfl rfl dd rfl rfl rfl (dd.srcR (j:=0) rfl (by decide) (wAC (f:=KL.encI) (sz:=1) (fun _=>rfl) [ah])) (fun _=>rfl) (fun _=>rfl) dW rfl ?_
 intro cp cD dD fd
 have fe:sW w U ax [B4,.blk an 205 B1,.blk b2 34 B0,B2,.row cp cD 3 1 (nA KL.encI dx)] dD:=fd
 refine oA Z Z (zg (zd (zF (rR fL3 Z (oM Z a7 (oR Z (zY Z Z Z) (oA Z Z (zg ?_))))))))
 have q:=nD fN
 obtain rfl:=q
 exact zF ⟨rfl,_,rfl,⟨ax,cp,cD,bs,bO,bP,bt,rfl,rfl,(aw.trans bi),(fe.pick [1,2,3,4] _ (by decide) rfl)⟩⟩
 intro af fO
 refine rU Z (wF Z af) (zD Z bt zt Z zT) (zy Z Z Z (wF Z af) (ap.ldB (j:=0) Z Z Z ze (v:=.slice bF aj.Classes.length bG) Z) Z (rU Z (wF Z af) (zD Z bt zt Z Zi) (zy Z Z Z (wF Z af) (ap.ldB (j:=0) Z Z Z Zm (v:=.slice be aj.Legs.length bf) Z) Z (zh Z Z Z (wF Z af) Z a7 (bnK fO fun bJ bU fP=>?_)))))
 have dX:=cZ.le aw
 have dY:=dX.le bi
 have q:=dY.el (wAK bU)
 obtain ⟨dM,gh,g8,eK,b4,f8⟩:=q
 obtain ⟨gu,gA,gv,gC,rfl,gU,gV⟩:=f8
 replace b4:Cl ax dM (gh + ah.toNat * 3) [jV bJ.Skier,.slice gu bJ.Loops.length gA,.slice gv bJ.Bouts.length gC]:=b4
 refine rU Z (wF Z af) (zx Z Z eK Z ZP Zz (wAi bU) (wAj bU)) (rU Z (wF Z af) (zD Z Z Zg Z zC) (zy Z Z Z (wF Z af) (ap.ldC (f:=0) b4 (v:=jV bJ.Skier) Z Z zM Z) Z (bnK fP fun gG bV fQ=>?_)))
 have dZ:=eH.le aw
 have d6:=dZ.le bi
 have q:=d6.el (fun _=>rfl) (wAK bV)
 obtain ⟨gO,gW,eM,eS⟩:=q
 refine rU Z (wF Z af) (zx Z Z eM Z zA zC (wAi bV) (wAj bV)) (zy Z Z Z (wF Z af) (ap.ldC (f:=0) eS (v:=jV gG) Z Z zM Z) Z (rU Z (wF Z af) (zD Z bs zj Z yX) (rU Z (wF Z af) (zD Z Z Zh Z zT) (zy Z Z Z (wF Z af) (ap.ldB (j:=1) Z Z Z ze (v:=.slice bv p0.Rules.Classes.length bw) Z) Z (zh Z Z Z (wF Z af) Z a7 (bnK fQ fun gH bW fR=>?_))))))
 have d7:=dh.le du
 have d8:=d7.le cm
 have d9:=d8.le aw
 have eh:=d9.le bi
 have q:=eh.el (fun _=>rfl) (wAK bW)
 obtain ⟨gP,gY,eP,eV⟩:=q
 refine rU Z (wF Z af) (zx Z Z eP Z zA zC (wAi bW) (wAj bW)) (zy Z Z Z (wF Z af) (ap.ldC (f:=0) eV (v:=jV gH) Z Z zM Z) Z (rU Z (wF Z af) (ZU Z Z Z) (oR Z (za Z (zo af.out) Z) (eN (ifc fR ?_ ?_)))))
 intro bN fS
 refine zn (zo (fun h=>h bN.out)) (ZO (zd (zF (rR fL3 Z (oM Z a7 (oR Z (zY Z Z Z) (oA Z Z (zg ?_))))))))
 have q:=nD fS
 obtain rfl:=q
 exact zF ⟨Z,_,Z,⟨ax,aq,av,bs,bO,bP,bt,bQ,Z,(aw.trans bi),ap⟩⟩
 intro bN fT
 refine cT Z bN (rR gAn Z (oM Z bQ (oM Z a7 (zk (pv:=[(0,jV ah)]) (zs:=[jV 0]) (cs:=[jV ah]) Z Z Z Z Z (wAA Z wAO) zA zC ZM Z Z Z Z Z ap ?_))))
 intro dE dN ff
 let B5:Res:=.row (some ⟨dN,0,none⟩) 1 3 1 (nA KL.encI [ah])
 have de:sW w U ax [B5,.blk an 205 B1,.blk b2 34 B0,B2,B3] dE:=ff
 refine bnK fT fun dy ep fU=>yE (j:=4) (enc:=KL.encI) (xs:=am) (ys:=[ah]) (zs:=dy) rfl rfl rfl rfl rfl Zy wFN rfl rfl rfl rfl rfl rfl de rfl rfl rfl (de.srcR (j:=0) rfl (by decide) (wAC (f:=KL.encI) (sz:=1) (fun _=>rfl) [ah])) (fun _=>rfl) (fun _=>rfl) ep rfl ?_
 intro cr cE dF fg
 have fh:sW w U ax [B5,.blk an 205 B1,.blk b2 34 B0,B2,.row cr cE 3 1 (nA KL.encI dy)] dF:=fg
 refine oA Z Z (zg (zd (zF (rR fL3 Z (oM Z a7 (oR Z (zY Z Z Z) (oA Z Z (zg ?_))))))))
 have q:=nD fU
 obtain rfl:=q
 exact zF ⟨rfl,_,rfl,⟨ax,cr,cE,bs,bO,bP,bt,rfl,rfl,(aw.trans bi),(fh.pick [1,2,3,4] _ (by decide) rfl)⟩⟩
 have dp:=ch;rw [if_neg ay] at dp;replace ay:=zI ay
 refine cF Z ay (ZD (zb ?_))
 have q:=wAM dp
 obtain ⟨gD,fV,dR⟩:=q
 have q:=fB gD dR
 obtain rfl:=q
 refine zb (zr (zF (rR gAn Z (oM Z cK (oM Z cN ?_)))))
 have q:=cc.freezeR (k:=3) (n:=am.length) rfl (wAC (f:=KL.encI) (sz:=1) (fun _=>rfl) am) (by decide)
 obtain ⟨bo,dv,gc,fk⟩:=q
 have fm:sW w U bo [.blk an 205 B1,.blk b2 34 B0,B2] dA:=fk
 let B6:List Value:=[.slice aq am.length av]
 refine zk (pv:=[(0,.slice aq am.length av)]) (zs:=[.slice none 0 0]) (cs:=B6) Z Z Z Z Z (wAA Z wAO) zm zT yz Z Z Z Z Z fm ?_
 intro dG dO fj
 have dt:RlL bo wDe [am] B6:=(RlL.cons (R:=wDe) (x:=am) (vs:=B6) ⟨aq,av,rfl,gc⟩ RlL.nil)
 let B7:Res:=.row (some ⟨dO,0,none⟩) 1 22 1 B6
 have dg:sW w U bo [B7,.blk an 205 B1,.blk b2 34 B0,B2] dG:=fj
 refine bnK fV fun gI eu fW=>?_
 have eA:=cY.le aw
 have eB:=eA.le dv
 refine YP (R:=wDe) (j:=3) (xs:=bh) (ys:=[am]) (zs:=gI) rfl rfl rfl rfl rfl Tryz.underlying46 wJs rfl rfl rfl rfl rfl rfl rfl dg rfl rfl rfl eB dt (dg.srcR (j:=0) rfl (by decide) (RlL.len dt)) eu rfl ?_
 intro ct cG cI dH fq f9
 have ft:sW w U bo [B7,.blk an 205 B1,.blk b2 34 B0,.row ct cG 22 1 cI] dH:=fq
 refine oA Z Z (zg (zd (zF (rR fL3 Z (oM Z cL (oR Z (zY Z Z Z) (oA Z Z (zg ?_))))))))
 have q:=nD fW
 obtain rfl:=q
 exact zF ⟨rfl,_,rfl,⟨bo,ct,cG,cI,cJ,rfl,rfl,((cm.trans aw).trans dv),(ft.pick [2,3] _ (by decide) rfl),f9⟩⟩
 have dq:=ci;rw [if_neg az] at dq;replace az:=zI az
 refine cF Z az (ZD (zb ?_))
 have q:=wAM dq
 obtain ⟨gE,fY,dS⟩:=q
 have q:=fC gE dS
 obtain rfl:=q
 refine zb (zr (zF (sR fL3 Z (oM Z cV (oA Z Z (oA Z Z (eN (zS ?_))))))))
 cases fY
 exact ⟨rfl,_,(wFA rfl rfl),bp,_,(bu.pick [1] _ (by decide) rfl),a8,bb,br,rfl,rfl,cY⟩
 intro bL fZ
 refine cT Z bL (sR fL3 Z (oM Z Z (oA Z Z (oA Z Z (eN (zS (zK ?_)))))))
 have fu:=c9.nilrow 22 1
 cases fZ
 exact ⟨rfl,_,(wFA rfl rfl),U8,_,(fu.pick [0] _ (by decide) rfl),none,0,[],rfl,rfl,RlL.nil⟩
theorem wGX (p0:wAn) (ap:Option Addr) (au:Nat) (aq:Option Addr) (av:Nat) (w:World) (U:PHeap) (hS:St0 w U []) (bK:Sl U 1 ap au p0.Bibs.length (nA KL.encI p0.Bibs)) (bL:SlR U wDe aq av p0.Times) {r:(List Int) × Int} (hm:wBE p0=some r):Gv Tryz.prog 99 [.agg #[jV p0.Laps,.slice ap p0.Bibs.length au,.slice aq p0.Times.length av]] w (wBp w [] U (fun U_ L_ v=>∃ (A0:Option Addr) (c0:Nat),v=.tuple #[.slice A0 r.1.length c0,jV r.2]/\L_=[.row A0 c0 3 1 (nA KL.encI r.1)])):=by
 unfold wBE at hm
 refine Gv.of Tryz.func99 Z Tryz.ntmps99 Tryz.results99 Z (sR gAk Z ?_)
 let B0:List Value:=[jV p0.Laps,.slice ap p0.Bibs.length au,.slice aq p0.Times.length av]
 refine ZX (cs:=B0) rfl rfl rfl rfl rfl rfl (by rfl) hS ?_
 intro W1 b2 bH
 refine oA Z Z (oA Z Z (eN (zG (sR gAj Z (oL Z (bH.ldBA (j:=0) Z Z Z YD yY (vs:=B0) Z Z) (bnK hm fun x5 h6 cK=>zP 0 Z Z Z Z (zQ Z Z Tryz.call167 (zH Z zZ) Z) bH (fun hs=>wEX p0 ap au aq av W1 U hs bK bL h6) (.inr Z) ?_))))))
 rintro U8 L9 cY bx bP cu ⟨rfl,rfl⟩
 have bo:sW w U U8 [.blk b2 211 B0] bx:=cu
 refine oA Z Z (eN (sR fL2 Z (oM Z Z (oR Z (ZU Z Z Z) (eN (ifc cK ?_ ?_))))))
 intro bi cI
 refine zn (zo (fun h=>h bi.out)) (kN (sR (.fl 0 (.fx 1 (wFp (.nil)) .stop)) Z (oL Z (bo.ldBA (j:=0) Z Z Z YD yY (vs:=B0) Z Z) ?_)))
 have b4:=bK.le bP
 have bF:=bL.le bP
 have q:=bnd cI
 obtain ⟨⟨bR,aw⟩,ca,bN⟩:=q
 try dsimp only at bN
 refine zP 0 Z Z Z Z (zQ Z Z Tryz.call168 (zH Z zZ) Z) bo (fun hs=>wFd p0 ap au aq av bx U8 hs b4 bF ca) (.inr Z) ?_
 rintro az cU cZ bU cP cw ⟨bv,bC,be,bj,rfl,rfl⟩
 let B1:Res:=.row be bj 3 1 (nA KL.encI aw)
 let B2:Res:=.row bv bC 44 4 (nA wAI bR)
 have bI:sW w U az [B2,B1,.blk b2 211 B0] bU:=cw
 refine oM Z Z (oR Z (ZF Z Z (v:=.slice bv bR.length bC) Z) (oR Z (ZF Z Z (v:=.slice be aw.length bj) Z) (oA Z Z (oA Z Z (eN (sR (wDw gAe) Z (oR Z (zD Z Z ZE Z zT) (oL Z (bI.ldB (j:=2) Z Z Z ze (v:=.slice ap p0.Bibs.length au) Z) (oR Z (zW Z Z zA) (bnK bN fun ah cc cJ=>yq (enc:=KL.encI) (z:=(0:Int)) (v:=jV 0) Z Z Z Z Z (wDO zA) wFN Z Z Z Z Z Z cc bI ?_))))))))))
 intro bV aj cx
 have cy:sW w U az [.row (some ⟨aj,0,none⟩) ah.length 3 1 (nA KL.encI ah),B2,B1,.blk b2 211 B0] bV:=cx
 refine oA Z Z (eN (zG (sR fL1 Z (oA Z Z (eN (zR (yM (fun (ag,am) σ_ w_=>∃ (U_:PHeap),σ_ 1=.pointer (some ⟨b2,0,none⟩)/\σ_ 6=.slice be aw.length bj/\σ_ 7=.slice (some ⟨aj,0,none⟩) ag.length ah.length/\σ_ 8=jV am/\PHeap.Le az U_/\sW w U U_ [.blk b2 211 B0,B1,.row (some ⟨aj,0,none⟩) ah.length 3 1 (nA KL.encI ag)] w_/\ag.length=ah.length) cJ ?_ ?_)))))))
 exact ⟨az,rfl,rfl,rfl,rfl,(zN _),(cy.pick [3,2,0] _ (by decide) rfl),rfl⟩
 rintro ⟨ag,am⟩ df dg bz ⟨bf,bD,bE,a7,ay,bQ,bJ,cg⟩ bp cB
 try dsimp only at bp
 refine zG (sR fL4 Z (oM Z ay (oM Z a7 (oR Z (zW Z Z zA) (oR Z (zV Z Z Z) (eN ?_))))))
 by_cases ak:am < (↑ag.length:Int)
 have bO:=bp;rw [if_pos ak] at bO;replace ak:=zI ak
 refine cT Z ak (kN (zG (zR (ZY ZQ [3,3,3,1,3,3,1,3,3,3,1,2,3,0] (wSF (.fx 11 (.fl 12 (.fx 13 .nil .stop)) .stop)) (by kernel_rfl) ?_))))
 have ao:=bJ.drew
 generalize hw_W70:({ bz with drawn:=bz.drawn + 1 }:World)=bW at ao ⊢
 refine oM Z a7 (oM Z ay (oR Z (zD Z bD ZE Z ZV) (oL Z (ao.ldB (j:=0) Z Z Z Zj (v:=.slice aq p0.Times.length av) Z) (oM Z ay (bnK bO fun bt bm cL=>?_)))))
 have ch:=bF.le cP
 have ci:=ch.le bQ
 have q:=ci.el (wAK bm)
 obtain ⟨bY,cR,dd,co,bn,cO⟩:=q
 obtain ⟨br,bs,rfl,cj⟩:=cO
 replace bn:Cl bf bY (cR + am.toNat * 1) [.slice br bt.length bs]:=bn
 refine oR Z (zx Z Z co Z zm zT (wAi bm) (wAj bm)) (oL Z (ao.ldC (f:=0) bn (v:=.slice br bt.length bs) Z Z ze Z) (oM Z bE (oM Z ay (bnK cL fun _ bb cM=>?_))))
 obtain ⟨cX,bG⟩:=ao.rowSome (j:=1) rfl (by rw [wAC (f:=KL.encI) (sz:=1) (fun _=>rfl) aw];have hz:=wAY bb;omega)
 refine oR Z (zx Z Z bG Z zA zC (wCQ bb) (wCR bb)) ?_
 have cD:=wBO (xs:=aw) (wAY bb)
 refine zy rfl rfl rfl rfl (ao.ldR (j:=1) rfl bG rfl rfl zM (wAZ (sz:=1) (fun _=>rfl) _ _ 0 _ cD (by first | omega | rfl | simp) rfl)) rfl (bnK cM fun bd cm cN=>zP 0 rfl rfl rfl rfl (zQ rfl rfl Tryz.call178 (zH rfl (zH rfl (zH rfl zZ))) rfl) ao (fun hs=>wDu bt br bs 360000 (gd aw am.toNat) bW bf hs cj cm) (.inr rfl) ?_)
 rintro bh cW c9 bX cQ cz ⟨rfl,rfl⟩
 have cA:sW w U bh [.blk b2 211 B0,B1,.row (some ⟨aj,0,none⟩) ah.length 3 1 (nA KL.encI ag)] bX:=cz
 refine bnK cN fun _ a8 cE=>oR Z (zx Z Z Z Z zA zC (wCQ a8) (wCR a8)) ?_
 have cC:=wBO (xs:=ag) (wAY a8)
 refine OKS.stR (j:=2) (vs:=[jV bd]) (cs':=nA KL.encI (nM ag am.toNat bd)) rfl rfl rfl rfl cA rfl rfl rfl rfl rfl zC (by rw [wAC (f:=KL.encI) (sz:=1) (fun _=>rfl)];have hz:=wAY a8;show _ + 1 <= _;first | omega | (simp only [nL];omega) | (simp only [nJ,nH,nI];omega)) rfl (wES (sz:=1) (fo:=0) (fun _=>rfl) _ _ _ _ cC (by first | omega | (simp only [nL];omega) | (simp only [nJ,nH,nI];omega)) (zJ rfl) rfl) rfl ?_
 intro bT cp
 have cr:sW w U bh [.blk b2 211 B0,B1,.row (some ⟨aj,0,none⟩) ah.length 3 1 (nA KL.encI (nM ag am.toNat bd))] bT:=cp
 refine zg (zd (zF (rR fL3 Z (oM Z ay (oR Z (zY Z Z Z) (oA Z Z (zg ?_)))))))
 have q:=nD cE
 obtain rfl:=q
 exact zF ⟨rfl,_,rfl,⟨bh,bD,bE,(nN (b:=(.slice (some ⟨aj,0,none⟩) ag.length ah.length:Value)) (c:=(.slice (some ⟨aj,0,none⟩) ((nM ag am.toNat bd).length) ah.length:Value)) a7 (by simp only [nK])),rfl,(bQ.trans cQ),cr,(nK.trans cg)⟩⟩
 have bM:=bp;rw [if_neg ak] at bM;replace ak:=zI ak
 refine cF Z ak (ZD (zb ?_))
 have q:=wAM bM
 obtain ⟨cS,cG,bZ⟩:=q
 have q:=cB cS bZ
 obtain rfl:=q
 refine zb (zr (zF (sR fL3 Z (oM Z a7 (oA Z Z (oA Z Z (eN (zS ?_))))))))
 cases cG
 exact ⟨rfl,_,(wFA rfl rfl),bf,_,(bJ.pick [2] _ (by decide) rfl),(some ⟨aj,0,none⟩),ah.length,rfl,rfl⟩
 intro bi cH
 refine cT Z bi (sR fL3 Z (oM Z Z (oA Z Z (oA Z Z (eN (zS (zK ?_)))))))
 have ct:=bo.nilrow 3 1
 cases cH
 exact ⟨rfl,_,(wFA rfl rfl),U8,_,(ct.pick [0] _ (by decide) rfl),none,0,rfl,rfl⟩
theorem wDk (p0:wAT) (be:Option Addr) (bf:Nat) (ay:Option Addr) (az:Nat) (p1:Int) (w:World) (U:PHeap) (hS:St0 w U []) (cP:Sl U 1 be bf p0.Rules.Classes.length (nA KL.encI p0.Rules.Classes)) (bP:SlR U wGH ay az p0.Teams) {r:Int} (hm:wAl p0 p1=some r):Gv Tryz.prog 100 [.agg #[.slice be p0.Rules.Classes.length bf,jV p0.Rules.Each,jV p0.Rules.Laps,jV p0.Rules.Spare,jV p0.Rules.Loop,jV p0.Rules.Unused,jV p0.Start,.slice ay p0.Teams.length az],jV p1] w (wBp w [] U (fun U_ L_ v=>v=jV r/\L_=[])):=by
 unfold wAl at hm
 refine Gv.of Tryz.func100 Z Tryz.ntmps100 Tryz.results100 Z (sR gAa Z ?_)
 let B0:List Value:=[.slice be p0.Rules.Classes.length bf,jV p0.Rules.Each,jV p0.Rules.Laps,jV p0.Rules.Spare,jV p0.Rules.Loop,jV p0.Rules.Unused,jV p0.Start,.slice ay p0.Teams.length az]
 refine ZX (cs:=B0) rfl rfl rfl rfl rfl rfl (by rfl) hS ?_
 intro W1 b2 bw
 refine oA Z Z (eN (sR (wGD gAg) Z (oR Z (zD Z Z zj Z Zd) (oL Z (bw.ldB (j:=0) Z Z Z Zk (v:=.slice ay p0.Teams.length az) Z) (oM Z Z (bnK hm fun x5 h6 cZ=>?_))))))
 have q:=bP.el (wAK h6)
 obtain ⟨b8,dp,dM,cC,bs,df⟩:=q
 obtain ⟨bD,bF,ap,aq,rfl,dI,cy⟩:=df
 replace bs:Cl U b8 (dp + p1.toNat * 3) [jV x5.Bib,.slice bD x5.Classes.length bF,.slice ap x5.Legs.length aq]:=bs
 refine oR Z (zx Z Z cC Z ZJ Ze (wAi h6) (wAj h6)) (oL Z (bw.ldCA (f:=0) bs Z Z Tryz.isAgg205 Ze (us:=[jV x5.Bib,.slice bD x5.Classes.length bF,.slice ap x5.Legs.length aq]) Z Z) (ZB (cs:=[jV 0,.slice none 0 0,.slice none 0 0]) Z Z Z Z Z YK Z bw ?_))
 intro dD aj cL
 let B1:List Value:=[jV x5.Bib,.slice bD x5.Classes.length bF,.slice ap x5.Legs.length aq]
 refine ZK (j:=0) (vs:=B1) Z Z Z Z cL Z Z Z Z Ze (zJ Z) Z Z Z ?_
 intro bJ cM
 have bb:sW w U U [.blk aj 205 B1,.blk b2 34 B0] bJ:=cM
 refine eN (sR (wML (.fx 9 (.fl 10 .nil) .stop)) Z (oL Z (bb.ldBA (j:=1) Z Z Z yg yO (vs:=B0) Z Z) (oM Z Z (oR Z (zD Z Z zt Z Zi) (oL Z (bb.ldB (j:=0) Z Z Z Zm (v:=.slice ap x5.Legs.length aq) Z) (oR Z (zW Z Z ZP) (oR Z (yA Z Z Z) (oR Z (zD Z Z zj Z yX) (oR Z (zD Z Z Zh Z zC) (oL Z (bb.ldB (j:=1) Z Z Z zM (v:=jV p0.Rules.Laps) Z) (bnK cZ fun dP cz cY=>zP 0 Z Z Z Z (zQ Z Z Tryz.call166 (zH Z (zH Z (zH Z (zH Z zZ)))) Z) bb (fun hs=>wEz p0 be bf ay az p1 (w64 ((↑x5.Legs.length:Int) - 1)) p0.Rules.Laps bJ U hs cP bP cz) (.inr Z) ?_)))))))))))
 rintro bh dA dK cd di cN ⟨rfl,rfl⟩
 have cO:sW w U bh [.blk aj 205 B1,.blk b2 34 B0] cd:=cN
 refine oA Z Z (eN (zG (sR fL1 Z (oA Z Z (eN (zR (yM (fun (bZ,aw) σ_ w_=>∃ (U_:PHeap),σ_ 2=.pointer (some ⟨b2,0,none⟩)/\σ_ 5=.pointer (some ⟨aj,0,none⟩)/\σ_ 6=jV bZ/\σ_ 7=jV aw/\PHeap.Le bh U_/\sW w U U_ [.blk aj 205 B1,.blk b2 34 B0] w_) cY ?_ ?_)))))))
 exact ⟨bh,Z,Z,Z,Z,(zN _),cO⟩
 rintro ⟨bZ,aw⟩ dQ dS dE ⟨bi,ct,bK,bL,bM,bU,bx⟩ bz cQ
 try dsimp only at bz
 refine zG (sR fL5 Z (oM Z bM (oR Z (zD Z bK zt Z Zi) (oL Z (bx.ldB (j:=0) Z Z Z Zm (v:=.slice ap x5.Legs.length aq) Z) (oR Z (zW Z Z ZP) (oR Z (zV Z Z Z) (eN ?_)))))))
 by_cases ak:aw < (↑x5.Legs.length:Int)
 have bS:=bz;rw [if_pos ak] at bS;replace ak:=zI ak
 refine cT Z ak (kN (zG (zR (sR fL1 Z (oA Z Z (eN (zR (yM (fun (b4,bH) σ_ w_=>∃ (U_:PHeap),σ_ 2=.pointer (some ⟨b2,0,none⟩)/\σ_ 5=.pointer (some ⟨aj,0,none⟩)/\σ_ 6=jV b4/\σ_ 7=jV aw/\σ_ 8=jV bH/\PHeap.Le bi U_/\sW w U U_ [.blk aj 205 B1,.blk b2 34 B0] w_) bS ?_ ?_))))))))
 exact ⟨bi,ct,bK,bL,bM,Z,(zN _),bx⟩
 rintro ⟨b4,bH⟩ dR dT cg ⟨ax,bm,a7,bN,a8,bn,bA,ao⟩ bT cR
 try dsimp only at bT
 refine zG (sR fL9 Z (oM Z bn (oR Z (zD Z a7 zt Z Zi) (oL Z (ao.ldB (j:=0) Z Z Z Zm (v:=.slice ap x5.Legs.length aq) Z) (oM Z a8 (bnK bT fun am av c9=>?_))))))
 have cA:=cy.le di
 have cB:=cA.le bU
 have bO:=cB.le bA
 have q:=bO.el (wAK av)
 obtain ⟨co,dq,dO,cG,bu,dg⟩:=q
 obtain ⟨dt,dv,bW,bY,rfl,dF,dG⟩:=dg
 replace bu:Cl ax co (dq + aw.toNat * 3) [jV am.Skier,.slice dt am.Loops.length dv,.slice bW am.Bouts.length bY]:=bu
 refine oR Z (zx Z Z cG Z ZP Zz (wAi av) (wAj av)) (oR Z (zD Z Z Zg Z yH) (oL Z (ao.ldC (f:=2) bu (v:=.slice bW am.Bouts.length bY) Z Z yQ Z) (oR Z (zW Z Z ZL) (oR Z (zV Z Z Z) (eN (ifc c9 ?_ ?_))))))
 intro bj cS
 refine cT Z bj (kN (zG (zR (sR (wML (.fx 9 (wQz (.fx 13 (.fx 14 (.fl 15 .nil) .stop) .stop)) .stop)) Z (oR Z (zD Z a7 zt Z Zi) (oL Z (ao.ldB (j:=0) Z Z Z Zm (v:=.slice ap x5.Legs.length aq) Z) (oM Z a8 ?_)))))))
 have q:=bO.el (wAK av)
 obtain ⟨ch,dm,dL,cD,br,dd⟩:=q
 obtain ⟨dr,du,bV,bX,rfl,dH,cu⟩:=dd
 replace br:Cl ax ch (dm + aw.toNat * 3) [jV am.Skier,.slice dr am.Loops.length du,.slice bV am.Bouts.length bX]:=br
 refine oR Z (zx Z Z cD Z ZP Zz (wAi av) (wAj av)) (oR Z (zD Z Z Zg Z yH) (oL Z (ao.ldC (f:=2) br (v:=.slice bV am.Bouts.length bX) Z Z yQ Z) (oM Z bn (bnK cS fun bG bo cU=>?_))))
 have q:=cu.el (wAK bo)
 obtain ⟨ci,dn,dN,cE,bt,de⟩:=q
 obtain ⟨bC,bE,rfl,cw⟩:=de
 replace bt:Cl ax ci (dn + bH.toNat * 1) [.slice bC bG.length bE]:=bt
 refine oR Z (zx Z Z cE Z ZL Zv (wAi bo) (wAj bo)) (oL Z (ao.ldC (f:=0) bt (v:=.slice bC bG.length bE) Z Z yb Z) ?_)
 have q:=bnd cU
 obtain ⟨⟨au,dy⟩,cx,bQ⟩:=q
 try dsimp only at bQ
 refine zP 0 Z Z Z Z (zQ Z Z Tryz.call174 (zH Z zZ) Z) ao (fun hs=>wDt bG bC bE cg ax hs cw cx) (.inr Z) ?_
 rintro bg dz dJ ca dh cH ⟨rfl,rfl⟩
 have cI:sW w U bg [.blk aj 205 B1,.blk b2 34 B0] ca:=cH
 refine oM Z Z (oR Z (ZF Z Z (v:=.agg #[jV au.Spares,jV au.Loops,jV au.Unused]) Z) (oR Z (ZF Z Z (v:=jV dy) Z) (ZB (cs:=[jV 0,jV 0,jV 0]) Z Z Z Z Z yt Z cI ?_)))
 intro dC cj cJ
 let B2:List Value:=[jV au.Spares,jV au.Loops,jV au.Unused]
 refine ZK (j:=0) (vs:=B2) Z Z Z Z cJ Z Z Z Z yp (zJ Z) Z Z Z ?_
 intro cc cK
 have bv:sW w U bg [.blk cj 323 B2,.blk aj 205 B1,.blk b2 34 B0] cc:=cK
 refine oA Z Z (eN (rR fL9 Z (oM Z bN (oR Z (zD Z Z YS Z zC) (oL Z (bv.ldB (j:=0) Z Z Z zM (v:=jV au.Unused) Z) (oR Z (zD Z bm zj Z yX) (oR Z (zD Z Z Zh Z zC) (oL Z (bv.ldB (j:=2) Z Z Z zM (v:=jV p0.Rules.Unused) Z) (oR Z (YW Z Z Z) (oR Z (zY Z Z Z) (oA Z Z (zg (zd (zF (rR fL3 Z (oM Z bn (oR Z (zY Z Z Z) (oA Z Z (zg ?_)))))))))))))))))))
 have q:=nD bQ
 obtain rfl:=q
 exact zF ⟨rfl,_,rfl,⟨bg,bm,a7,rfl,a8,rfl,(bA.trans dh),(bv.pick [1,2] _ (by decide) rfl)⟩⟩
 intro bj cV
 refine cF Z bj (ZD (zb ?_))
 have q:=wAM cV
 obtain ⟨dw,cW,cp⟩:=q
 have q:=cR dw cp
 obtain rfl:=q
 refine zb (zr (zd (zF (rR fL3 Z (oM Z a8 (oR Z (zY Z Z Z) (oA Z Z (zg ?_))))))))
 have q:=nD cW
 obtain rfl:=q
 exact zF ⟨Z,_,Z,⟨ax,bm,a7,bN,Z,(bU.trans bA),ao⟩⟩
 have bR:=bz;rw [if_neg ak] at bR;replace ak:=zI ak
 refine cF Z ak (ZD (zb ?_))
 have q:=wAM bR
 obtain ⟨dx,cX,cr⟩:=q
 have q:=cQ dx cr
 obtain rfl:=q
 refine zb (zr (zF (sR fL2 Z (oM Z bL (oA Z Z (eN (zS ?_)))))))
 have hE:=nD cX;first | subst r | cases hE
 exact ⟨rfl,_,(zw rfl),bi,_,(bx.pick [] _ (by decide) rfl),rfl,rfl⟩
set_option maxHeartbeats 4000000
theorem wGY (p0:wAT) (cp:Option Addr) (cr:Nat) (ay:Option Addr) (az:Nat) (w:World) (U:PHeap) (hS:St0 w U []) (fD:Sl U 1 cp cr p0.Rules.Classes.length (nA KL.encI p0.Rules.Classes)) (dm:SlR U wGH ay az p0.Teams) {r:(List wAR) × Int} (hm:wBF p0=some r):Gv Tryz.prog 22 [.agg #[.slice cp p0.Rules.Classes.length cr,jV p0.Rules.Each,jV p0.Rules.Laps,jV p0.Rules.Spare,jV p0.Rules.Loop,jV p0.Rules.Unused,jV p0.Start,.slice ay p0.Teams.length az]] w (wBp w [] U (fun U_ L_ v=>∃ (A0:Option Addr) (c0:Nat),v=.tuple #[.slice A0 r.1.length c0,jV r.2]/\L_=[.row A0 c0 58 3 (nA wAV r.1)])):=by
 unfold wBF at hm
 refine Gv.of Tryz.func22 Z Tryz.ntmps22 Tryz.results22 Z (sR gAk Z ?_)
 let B0:List Value:=[.slice cp p0.Rules.Classes.length cr,jV p0.Rules.Each,jV p0.Rules.Laps,jV p0.Rules.Spare,jV p0.Rules.Loop,jV p0.Rules.Unused,jV p0.Start,.slice ay p0.Teams.length az]
 refine ZX (cs:=B0) rfl rfl rfl rfl rfl rfl (by rfl) hS ?_
 intro W1 b2 gH
 refine oA Z Z (oA Z Z (eN (sR (.fl 0 (.fx 1 (wMM gAl) .stop)) Z (oL Z (gH.ldBA (j:=0) Z Z Z yg yO (vs:=B0) Z Z) ?_))))
 have q:=bnd hm
 obtain ⟨⟨x5,x6⟩,h7,g7⟩:=q
 try dsimp only at g7
 refine zP 0 Z Z Z Z (zQ Z Z Tryz.call88 (zH Z zZ) Z) gH (fun hs=>wFS p0 cp cr ay az W1 U hs fD dm h7) (.inr Z) ?_
 rintro U9 qP rC io cP l4 ⟨cU,cZ,cH,cJ,iT,rfl,rfl,jG⟩
 let B1:Res:=.row cU cZ 3 1 (nA KL.encI x5.Bibs)
 let B2:Res:=.row cH cJ 22 1 iT
 have mc:sW w U U9 [B1,B2,.blk b2 34 B0] io:=l4
 refine oM Z Z (oR Z (ZF Z Z (v:=.agg #[jV x5.Laps,.slice cU x5.Bibs.length cZ,.slice cH x5.Times.length cJ]) Z) (oR Z (ZF Z Z (v:=jV x6) Z) (ZB (cs:=[jV 0,.slice none 0 0,.slice none 0 0]) Z Z Z Z Z YV Z mc ?_)))
 intro qZ aj mh
 let B3:List Value:=[jV x5.Laps,.slice cU x5.Bibs.length cZ,.slice cH x5.Times.length cJ]
 refine ZK (j:=0) (vs:=B3) Z Z Z Z mh Z Z Z Z yY (zJ Z) Z Z Z ?_
 intro dv mi
 have fA:sW w U U9 [.blk aj 211 B3,B1,B2,.blk b2 34 B0] dv:=mi
 refine oA Z Z (eN (zG (sR fL2 Z (oM Z Z (oR Z (ZU Z Z Z) (eN (ifc g7 ?_ ?_)))))))
 intro dV oD
 refine zn (zo (fun h=>h dV.out)) (kN (sR (.fl 0 (.fx 1 (wFp (.nil)) .stop)) Z (oL Z (fA.ldBA (j:=0) Z Z Z YD yY (vs:=B3) Z Z) ?_)))
 have q:=fA.freezeR (k:=1) (n:=x5.Bibs.length) rfl (wAC (f:=KL.encI) (sz:=1) (fun _=>rfl) x5.Bibs) (by decide)
 obtain ⟨ik,cB,pZ,mj⟩:=q
 have ml:sW w U ik [.blk aj 211 B3,B2,.blk b2 34 B0] dv:=mj
 have j6:=jG.le cB
 have q:=ml.freezeRR (R:=wDe) (k:=1) rfl j6 rfl (by decide)
 obtain ⟨fT,cC,g8,mm⟩:=q
 have mq:sW w U fT [.blk aj 211 B3,.blk b2 34 B0] dv:=mm
 have gz:=pZ.le cC
 have q:=bnd oD
 obtain ⟨⟨bw,qM⟩,k6,gU⟩:=q
 try dsimp only at gU
 refine zP 0 Z Z Z Z (zQ Z Z Tryz.call89 (zH Z zZ) Z) mq (fun hs=>wEq x5 cU cZ cH cJ dv fT hs gz g8 k6) (.inr Z) ?_
 rintro fV qS rF f0 cm mw ⟨dp,dx,rfl,rfl⟩
 let B4:Res:=.row dp dx 44 4 (nA wAI bw)
 have gJ:sW w U fV [B4,.blk aj 211 B3,.blk b2 34 B0] f0:=mw
 refine oM Z Z (oR Z (ZF Z Z (v:=.slice dp bw.length dx) Z) (oR Z (ZF Z Z (v:=jV qM) Z) (oA Z Z (oA Z Z (eN (sR (.fl 0 (.fx 1 (wFp (.nil)) .stop)) Z (oL Z (gJ.ldBA (j:=1) Z Z Z YD yY (vs:=B3) Z Z) ?_)))))))
 have lq:=gz.le cm
 have gD:=g8.le cm
 have q:=bnd gU
 obtain ⟨⟨bo,qO⟩,lH,gW⟩:=q
 try dsimp only at gW
 refine zP 0 Z Z Z Z (zQ Z Z Tryz.call99 (zH Z zZ) Z) gJ (fun hs=>wGX x5 cU cZ cH cJ f0 fV hs lq gD lH) (.inr Z) ?_
 rintro dt qU rH iA cD mK ⟨bz,bE,rfl,rfl⟩
 let B5:Res:=.row bz bE 3 1 (nA KL.encI bo)
 have gM:sW w U dt [B5,B4,.blk aj 211 B3,.blk b2 34 B0] iA:=mK
 refine oM Z Z (oR Z (ZF Z Z (v:=.slice bz bo.length bE) Z) (oR Z (ZF Z Z (v:=jV qO) Z) (oA Z Z (oA Z Z (eN (sR (wDw gAe) Z (oR Z (zD Z Z zj Z Zd) (oL Z (gM.ldB (j:=3) Z Z Z Zk (v:=.slice ay p0.Teams.length az) Z) (oR Z (zW Z Z ZJ) (bnK gW fun aq lR pR=>yq (enc:=KL.encT) (z:=false) (v:=.bool false) Z Z Z Z Z (wDO zq) wLk Z Z Z Z Z Z lR gM ?_))))))))))
 intro iH au mS
 have mT:sW w U dt [.row (some ⟨au,0,none⟩) aq.length 4 1 (nA KL.encT aq),B5,B4,.blk aj 211 B3,.blk b2 34 B0] iH:=mS
 refine oA Z Z (eN (zG (sR fL1 Z (oA Z Z (eN (zR (yM (fun (ap,bp) σ_ w_=>∃ (U_:PHeap),σ_ 1=.pointer (some ⟨b2,0,none⟩)/\σ_ 4=.pointer (some ⟨aj,0,none⟩)/\σ_ 6=.slice dp bw.length dx/\σ_ 8=.slice bz bo.length bE/\σ_ 10=.slice (some ⟨au,0,none⟩) ap.length aq.length/\σ_ 11=jV bp/\PHeap.Le dt U_/\sW w U U_ [.blk aj 211 B3,.blk b2 34 B0,B4,B5,.row (some ⟨au,0,none⟩) aq.length 4 1 (nA KL.encT ap)] w_/\ap.length=aq.length) pR ?_ ?_)))))))
 exact ⟨dt,rfl,rfl,rfl,rfl,rfl,rfl,(zN _),(mT.pick [3,4,2,1,0] _ (by decide) rfl),rfl⟩
 rintro ⟨ap,bp⟩ r0 sf f7 ⟨cw,eh,ep,iZ,ge,dy,dz,co,fy,jw⟩ fK mX
 try dsimp only at fK
 refine zG (sR fL4 Z (oM Z dz (oM Z dy (oR Z (zW Z Z zq) (oR Z (zV Z Z Z) (eN ?_))))))
 by_cases bZ:bp < (↑ap.length:Int)
 have gO:=fK;rw [if_pos bZ] at gO;replace bZ:=zI bZ
 refine cT Z bZ (kN (zG (zR (zG (ZY ZQ [3,3,3,1,3,3,1,3,3,1,3,3,0] (wSG (.fx 12 .nil .stop)) (by kernel_rfl) ?_)))))
 have dg:=fy.drew
 generalize hw_W111:({ f7 with drawn:=f7.drawn + 1 }:World)=qW at dg ⊢
 refine oM Z dy (oM Z dz (oR Z (zD Z ep ZE Z ZV) (oL Z (dg.ldB (j:=0) Z Z Z Zj (v:=.slice cH x5.Times.length cJ) Z) (oM Z dz (bnK gO fun cS eI oe=>?_)))))
 have jx:=gD.le cD
 have jy:=jx.le co
 have q:=jy.el (wAK eI)
 obtain ⟨iI,qb,rJ,lS,fj,pS⟩:=q
 obtain ⟨ic,ie,rfl,ri⟩:=pS
 replace fj:Cl cw iI (qb + bp.toNat * 1) [.slice ic cS.length ie]:=fj
 refine oR Z (zx Z Z lS Z zm zT (wAi eI) (wAj eI)) (oL Z (dg.ldC (f:=0) fj (v:=.slice ic cS.length ie) Z Z ze Z) (oR Z (zW Z Z zA) (oR Z (zD Z ep ZE Z zC) (oL Z (dg.ldB (j:=0) Z Z Z zM (v:=jV x5.Laps) Z) (oR Z (yJ Z Z Z) (bnK oe fun _ dG og=>oR Z (zx Z Z Z Z zq Zn (wCQ dG) (wCR dG)) ?_))))))
 have m3:=wBO (xs:=ap) (wAY dG)
 refine OKS.stR (j:=4) (vs:=[.bool (decide ((↑cS.length:Int)=x5.Laps))]) (cs':=nA KL.encT (nM ap bp.toNat (decide ((↑cS.length:Int)=x5.Laps)))) rfl rfl rfl rfl dg rfl rfl rfl rfl rfl Zn (by rw [wAC (f:=KL.encT) (sz:=1) (fun _=>rfl)];have hz:=wAY dG;show _ + 1 <= _;first | omega | (simp only [nL];omega) | (simp only [nJ,nH,nI];omega)) rfl (wES (sz:=1) (fo:=0) (fun _=>rfl) _ _ _ _ m3 (by first | omega | (simp only [nL];omega) | (simp only [nJ,nH,nI];omega)) (zJ rfl) rfl) rfl ?_
 intro ip l0
 have l3:sW w U cw [.blk aj 211 B3,.blk b2 34 B0,B4,B5,.row (some ⟨au,0,none⟩) aq.length 4 1 (nA KL.encT (nM ap bp.toNat (decide ((↑cS.length:Int)=x5.Laps))))] ip:=l0
 refine eN (sR fL1 Z (oA Z Z (eN (zR (bnK og fun r6 mY oh=>?_)))))
 have q:=wAw mY
 obtain ⟨fG,mZ⟩:=q
 replace fG:=zI fG
 refine CK.forN' (fun bX bn σ_ w_=>∃ (U_:PHeap),σ_ 12=jV (↑bX:Int)/\σ_ 1=.pointer (some ⟨b2,0,none⟩)/\σ_ 4=.pointer (some ⟨aj,0,none⟩)/\σ_ 6=.slice dp bw.length dx/\σ_ 8=.slice bz bo.length bE/\σ_ 10=.slice (some ⟨au,0,none⟩) bn.length aq.length/\σ_ 11=jV bp/\PHeap.Le cw U_/\sW w U U_ [.blk aj 211 B3,.blk b2 34 B0,B4,B5,.row (some ⟨au,0,none⟩) aq.length 4 1 (nA KL.encT bn)] w_/\bn.length=aq.length) mZ ?_ ?_ ?_
 exact ⟨cw,rfl,eh,ep,iZ,ge,(nN (b:=(.slice (some ⟨au,0,none⟩) ap.length aq.length:Value)) (c:=(.slice (some ⟨au,0,none⟩) ((nM ap bp.toNat (decide ((↑cS.length:Int)=x5.Laps))).length) aq.length:Value)) dy (by simp only [nK])),dz,(zN _),l3,(nK.trans jw)⟩
 rintro bX bn rW r7 fW fE ⟨cW,dF,eu,gf,dA,gg,dB,c9,fL,l5,gu⟩ p6
 have f9:Hid ((↑bX:Int) < (↑bw.length:Int)):=zI (wAo fE)
 replace fE:=zI fE
 have gN:Hid (w64 ((↑bX:Int) + 1)=(↑(bX + 1):Int)):=zI (by have h1:=fG.out;have h2:=f9.out;rw [wAQ] <;> omega)
 refine zG (sR fL4 rfl (zh rfl rfl rfl rfl rfl dF (zh rfl rfl rfl rfl rfl dA (zf rfl rfl rfl rfl (fun _=>zW rfl rfl Zs) (zf rfl rfl rfl rfl (fun _=>zV rfl rfl rfl) (eN (cT Z f9 (kN (zG (zR (ZY ZQ [3,3,3,3,3,1,3,3,3,3,3,1,3,1,3,3,3,1,3,3,3,0] (wSJ (.fx 21 .nil .stop)) (by kernel_rfl) ?_)))))))))))
 have cg:=l5.drew
 generalize hw_W164:({ fW with drawn:=fW.drawn + 1 }:World)=qX at cg ⊢
 refine oM Z dB (oM Z c9 (oM Z dB (oM Z c9 (bnK p6 fun _ bI oj=>oR Z (zx Z Z Z Z zq Zn (wCQ bI) (wCR bI)) ?_))))
 have m4:=wBO (xs:=bn) (wAY bI)
 refine zy rfl rfl rfl rfl (cg.ldR (j:=4) rfl rfl rfl rfl yh (wAZ (sz:=1) (fun _=>rfl) _ _ 0 _ m4 (by first | omega | rfl | simp) rfl)) rfl (zh rfl rfl rfl rfl rfl rfl (ifc oj ?_ ?_))
 intro ao om
 refine zh Z Z Z (zL Z Z (congrArg nE ao.out)) Z dA (zh Z Z Z (zL Z Z (congrArg nE ao.out)) Z dF (bnK om fun _ eJ oq=>?_))
 obtain ⟨re,gG⟩:=cg.rowSome (j:=2) rfl (by rw [wAC (f:=wAI) (sz:=4) (fun _=>rfl) bw];have hz:=wAY eJ;omega)
 refine zf Z Z Z (zL Z Z (congrArg nE ao.out)) (fun _=>ZC Z Z gG Z Zs yr (wAY eJ)) (zf Z Z Z (zL Z Z (congrArg nE ao.out)) (fun _=>zD Z Z Tryz.runUnderlying44 Z zC) ?_)
 have m5:=wBO (xs:=bw) (wAY eJ)
 refine zy rfl rfl rfl (zL rfl rfl (congrArg nE ao.out)) (cg.ldR (j:=2) rfl gG rfl rfl zM (wAZ (sz:=4) (fun _=>rfl) _ _ 0 _ m5 (by first | omega | rfl | simp) rfl)) rfl (zf rfl rfl rfl (zL rfl rfl (congrArg nE ao.out)) (fun _=>zD rfl eu zj rfl Zd) (zy rfl rfl rfl (zL rfl rfl (congrArg nE ao.out)) (cg.ldB (j:=1) rfl rfl rfl Zk (v:=.slice ay p0.Teams.length az) rfl) rfl (zh rfl rfl rfl (zL rfl rfl (congrArg nE ao.out)) rfl c9 (bnK oq fun ct eK ot=>?_))))
 have jz:=dm.le cP
 have jA:=jz.le cB
 have jB:=jA.le cC
 have jC:=jB.le cm
 have jD:=jC.le cD
 have jE:=jD.le co
 have jF:=jE.le fL
 have q:=jF.el (wAK eK)
 obtain ⟨iJ,qc,rK,lT,fk,pT⟩:=q
 obtain ⟨qi,qu,qj,qv,rfl,rj,rk⟩:=pT
 replace fk:Cl cW iJ (qc + bp.toNat * 3) [jV ct.Bib,.slice qi ct.Classes.length qu,.slice qj ct.Legs.length qv]:=fk
 refine zf Z Z Z (zL Z Z (congrArg nE ao.out)) (fun _=>zx Z Z lT Z ZJ Ze (wAi eK) (wAj eK)) (zf Z Z Z (zL Z Z (congrArg nE ao.out)) (fun _=>zD Z Z zt Z zC) (zy Z Z Z (zL Z Z (congrArg nE ao.out)) (cg.ldC (f:=0) fk (v:=jV ct.Bib) Z Z zM Z) Z (zf Z Z Z (zL Z Z (congrArg nE ao.out)) (fun _=>ZU Z Z Z) (oR Z (zX Z (congrArg nE ao.out) Z) (oR Z (zx Z Z Z Z zq Zn (wCQ bI) (wCR bI)) ?_)))))
 have m6:=wBO (xs:=bn) (wAY bI)
 refine OKS.stR (j:=4) (vs:=[.bool (decide (¬ (((gd bw bX).Bib)=ct.Bib)))]) (cs':=nA KL.encT (nM bn bp.toNat (decide (¬ (((gd bw bX).Bib)=ct.Bib))))) rfl rfl rfl rfl cg rfl rfl rfl rfl rfl Zn (by rw [wAC (f:=KL.encT) (sz:=1) (fun _=>rfl)];have hz:=wAY bI;show _ + 1 <= _;first | omega | (simp only [nL];omega) | (simp only [nJ,nH,nI];omega)) rfl (wES (sz:=1) (fo:=0) (fun _=>rfl) _ _ _ _ m6 (by first | omega | (simp only [nL];omega) | (simp only [nJ,nH,nI];omega)) (zJ rfl) rfl) rfl ?_
 intro iq l6
 have l7:sW w U cW [.blk aj 211 B3,.blk b2 34 B0,B4,B5,.row (some ⟨au,0,none⟩) aq.length 4 1 (nA KL.encT (nM bn bp.toNat (decide (¬ (((gd bw bX).Bib)=ct.Bib)))))] iq:=l6
 refine zg (zd (zF (rR fL3 Z (oM Z dF (oR Z (zz (zY Z Z Z) (congrArg (jV) gN.out)) (oA Z Z (zg ?_)))))))
 cases ot
 exact zF ⟨rfl,⟨cW,rfl,eu,gf,dA,gg,(nN (b:=(.slice (some ⟨au,0,none⟩) bn.length aq.length:Value)) (c:=(.slice (some ⟨au,0,none⟩) ((nM bn bp.toNat (decide (¬ (((gd bw bX).Bib)=ct.Bib)))).length) aq.length:Value)) dB (by simp only [nK])),c9,fL,l7,(nK.trans gu)⟩⟩
 intro ao ou
 refine zc Z Z Z (zO Z Z (congrArg nE (nG.2 ao.out)) Z) (zc Z Z Z (zO Z Z (congrArg nE (nG.2 ao.out)) Z) (zc Z Z Z (zO Z Z (congrArg nE (nG.2 ao.out)) Z) (zc Z Z Z (zO Z Z (congrArg nE (nG.2 ao.out)) Z) (zc Z Z Z (zO Z Z (congrArg nE (nG.2 ao.out)) Z) (zc Z Z Z (zO Z Z (congrArg nE (nG.2 ao.out)) Z) (zc Z Z Z (zO Z Z (congrArg nE (nG.2 ao.out)) Z) (zc Z Z Z (zO Z Z (congrArg nE (nG.2 ao.out)) Z) (zc Z Z Z (zO Z Z (congrArg nE (nG.2 ao.out)) Z) (zc Z Z Z (zO Z Z (congrArg nE (nG.2 ao.out)) Z) (zc Z Z Z (zO Z Z (congrArg nE (nG.2 ao.out)) Z) (zc Z Z Z (zO Z Z (congrArg nE (nG.2 ao.out)) Z) (oR Z (za Z (congrArg nE (nG.2 ao.out)) Z) (oR Z (zx Z Z Z Z zq Zn (wCQ bI) (wCR bI)) ?_)))))))))))))
 have m7:=wBO (xs:=bn) (wAY bI)
 refine OKS.stR (j:=4) (vs:=[.bool false]) (cs':=nA KL.encT (nM bn bp.toNat false)) rfl rfl rfl rfl cg rfl rfl rfl rfl rfl Zn (by rw [wAC (f:=KL.encT) (sz:=1) (fun _=>rfl)];have hz:=wAY bI;show _ + 1 <= _;first | omega | (simp only [nL];omega) | (simp only [nJ,nH,nI];omega)) rfl (wES (sz:=1) (fo:=0) (fun _=>rfl) _ _ _ _ m7 (by first | omega | (simp only [nL];omega) | (simp only [nJ,nH,nI];omega)) (zJ rfl) rfl) rfl ?_
 intro ir l8
 have ma:sW w U cW [.blk aj 211 B3,.blk b2 34 B0,B4,B5,.row (some ⟨au,0,none⟩) aq.length 4 1 (nA KL.encT (nM bn bp.toNat false))] ir:=l8
 refine zg (zd (zF (rR fL3 Z (oM Z dF (oR Z (zz (zY Z Z Z) (congrArg (jV) gN.out)) (oA Z Z (zg ?_)))))))
 cases ou
 exact zF ⟨rfl,⟨cW,rfl,eu,gf,dA,gg,(nN (b:=(.slice (some ⟨au,0,none⟩) bn.length aq.length:Value)) (c:=(.slice (some ⟨au,0,none⟩) ((nM bn bp.toNat false).length) aq.length:Value)) dB (by simp only [nK])),c9,fL,ma,(nK.trans gu)⟩⟩
 rintro r8 qY ⟨ij,jv,i2,i4,gh,i6,i7,i8,p9,mb,jH⟩
 have iU:Hid (¬ ((↑(((↑bw.length:Int):Int) - 0).toNat:Int) < (↑bw.length:Int))):=zI (wAc)
 refine zG (sR fL4 Z (oM Z jv (oM Z gh (oR Z (zW Z Z Zs) (oR Z (zV Z Z Z) (eN (cF Z iU (ZD (zb (zb (zr (zd (zF (rR fL3 Z (oM Z i8 (oR Z (zY Z Z Z) (oA Z Z (zg ?_))))))))))))))))))
 have q:=nD oh
 obtain rfl:=q
 exact zF ⟨Z,_,Z,⟨ij,i2,i4,gh,i6,i7,Z,(co.trans p9),mb,jH⟩⟩
 have gP:=fK;rw [if_neg bZ] at gP;replace bZ:=zI bZ
 refine cF Z bZ (ZD (zb ?_))
 have q:=wAM gP
 obtain ⟨qH,ov,iV⟩:=q
 have q:=mX qH iV
 obtain rfl:=q
 refine zb (zr (zF (sR fL1 Z (oA Z Z (eN (sR (wDw gAe) Z (oR Z (zD Z eh zj Z Zd) (oL Z (fy.ldB (j:=1) Z Z Z Zk (v:=.slice ay p0.Teams.length az) Z) (oR Z (zW Z Z ZJ) (bnK ov fun a7 jI ow=>yq (enc:=KL.encT) (z:=false) (v:=.bool false) Z Z Z Z Z (wDO zq) wLk Z Z Z Z Z Z jI fy ?_))))))))))
 intro it bf md
 let B6:Res:=.row (some ⟨au,0,none⟩) aq.length 4 1 (nA KL.encT ap)
 have me:sW w U cw [.row (some ⟨bf,0,none⟩) a7.length 4 1 (nA KL.encT a7),.blk aj 211 B3,.blk b2 34 B0,B4,B5,B6] it:=md
 refine oA Z Z (eN (zG (zR (yM (fun (br,ax) σ_ w_=>∃ (U_:PHeap) (bx:Option Addr) (bD:Nat),σ_ 1=.pointer (some ⟨b2,0,none⟩)/\σ_ 8=.slice bz bo.length bE/\σ_ 10=.slice (some ⟨au,0,none⟩) ap.length aq.length/\σ_ 13=.slice bx br.length bD/\σ_ 14=.slice (some ⟨bf,0,none⟩) ax.length a7.length/\PHeap.Le cw U_/\sW w U U_ [.blk aj 211 B3,.blk b2 34 B0,B5,B6,.row bx bD 58 3 (nA wAV br),.row (some ⟨bf,0,none⟩) a7.length 4 1 (nA KL.encT ax)] w_/\ax.length=a7.length) ow ?_ ?_))))
 have mg:=me.nilrow 58 3
 exact ⟨cw,none,0,eh,ge,dy,rfl,rfl,(zN _),(mg.pick [2,3,5,6,0,1] _ (by decide) rfl),rfl⟩
 rintro ⟨br,ax⟩ rX r9 q0 ⟨dS,bx,bD,gi,i9,ja,eA,jb,cA,fz,gv⟩ fH mU
 try dsimp only at fH
 refine zG (sR fL6 Z (oM Z eA (oR Z (zW Z Z Tryz.runUnderlying54) (oR Z (zD Z gi zj Z Zd) (oL Z (fz.ldB (j:=1) Z Z Z Zk (v:=.slice ay p0.Teams.length az) Z) (oR Z (zW Z Z ZJ) (oR Z (zV Z Z Z) (eN ?_))))))))
 by_cases b4:(↑br.length:Int) < (↑p0.Teams.length:Int)
 have gQ:=fH;rw [if_pos b4] at gQ;replace b4:=zI b4
 refine cT Z b4 (kN (zR (sR fL1 Z (oA Z Z (eN (zG (sR fL1 Z (oA Z Z (eN (zR ?_))))))))))
 let B7:Res:=.row bx bD 58 3 (nA wAV br)
 let B8:Res:=.row (some ⟨bf,0,none⟩) a7.length 4 1 (nA KL.encT ax)
 refine yM (fun (bb,bJ) σ_ w_=>∃ (U_:PHeap),σ_ 1=.pointer (some ⟨b2,0,none⟩)/\σ_ 8=.slice bz bo.length bE/\σ_ 10=.slice (some ⟨au,0,none⟩) ap.length aq.length/\σ_ 13=.slice bx br.length bD/\σ_ 14=.slice (some ⟨bf,0,none⟩) ax.length a7.length/\σ_ 15=jV bb/\σ_ 16=jV bJ/\PHeap.Le dS U_/\sW w U U_ [.blk aj 211 B3,.blk b2 34 B0,B5,B6,B7,B8] w_) gQ ?_ ?_
 exact ⟨dS,gi,i9,ja,eA,jb,Z,Z,(zN _),fz⟩
 rintro ⟨bb,bJ⟩ rY sa q5 ⟨bs,bQ,cK,bR,cL,cd,bL,cx,cj,bU⟩ fI mV
 try dsimp only at fI
 refine zG (sR fL5 Z (oM Z cx (oR Z (zD Z bQ zj Z Zd) (oL Z (bU.ldB (j:=1) Z Z Z Zk (v:=.slice ay p0.Teams.length az) Z) (oR Z (zW Z Z ZJ) (oR Z (zV Z Z Z) (eN ?_)))))))
 by_cases ca:bJ < (↑p0.Teams.length:Int)
 have gR:=fI;rw [if_pos ca] at gR;replace ca:=zI ca
 refine cT Z ca (kN (bnK gR fun qL p7 ox=>CK.cut (fun σ_ w_=>∃ (U_:PHeap),σ_ 1=.pointer (some ⟨b2,0,none⟩)/\σ_ 8=.slice bz bo.length bE/\σ_ 10=.slice (some ⟨au,0,none⟩) ap.length aq.length/\σ_ 13=.slice bx br.length bD/\σ_ 14=.slice (some ⟨bf,0,none⟩) ax.length a7.length/\σ_ 15=jV qL/\σ_ 16=jV bJ/\PHeap.Le bs U_/\sW w U U_ [.blk aj 211 B3,.blk b2 34 B0,B5,B6,B7,B8] w_) ?_ ?_))
 refine zR (zG (sR fL4 Z (oM Z cd (oM Z cx (bnK p7 fun _ eM oy=>oR Z (zx Z Z Z Z zq Zn (wCQ eM) (wCR eM)) ?_)))))
 have m8:=wBO (xs:=ax) (wAY eM)
 refine zy rfl rfl rfl rfl (bU.ldR (j:=5) rfl rfl rfl rfl yh (wAZ (sz:=1) (fun _=>rfl) _ _ 0 _ m8 (by first | omega | rfl | simp) rfl)) rfl (eN (ifc oy ?_ ?_))
 intro dW oz
 refine ZA (congrArg nE dW.out) (ZD (zb (zr ?_)))
 cases oz
 exact zF ⟨Z,⟨bs,bQ,cK,bR,cL,cd,bL,cx,(zN _),bU⟩⟩
 intro dW oB
 refine zn (congrArg nE (nG.2 dW.out)) (kN (zG (bnK oB fun iK g9 oC=>CK.cut (fun σ_ w_=>∃ (U_:PHeap),σ_ 1=.pointer (some ⟨b2,0,none⟩)/\σ_ 8=.slice bz bo.length bE/\σ_ 10=.slice (some ⟨au,0,none⟩) ap.length aq.length/\σ_ 13=.slice bx br.length bD/\σ_ 14=.slice (some ⟨bf,0,none⟩) ax.length a7.length/\σ_ 15=jV bb/\σ_ 16=jV bJ/\σ_ 123=.bool iK/\PHeap.Le bs U_/\sW w U U_ [.blk aj 211 B3,.blk b2 34 B0,B5,B6,B7,B8] w_) ?_ ?_)))
 refine rR fL15 Z (oM Z bL (oR Z (zV Z Z Z) (oM Z Z ?_)))
 by_cases av:bb < 0
 have gS:=g9;rw [if_pos av] at gS;replace av:=zI av
 refine oT Z av (oT Z av (oT Z av (oT Z av (oT Z av (zc Z Z Z (wAP Z Z Z) (zc Z Z Z (wAP Z Z Z) (zc Z Z Z (wAP Z Z Z) (zc Z Z Z (wAP Z Z Z) (zc Z Z Z (wAP Z Z Z) (oT Z av (oR Z (zX Z (Zl av.out) Z) (zg ?_))))))))))))
 cases gS
 exact zF ⟨Z,⟨bs,bQ,cK,bR,cL,cd,bL,cx,Z,(zN _),bU⟩⟩
 have gT:=g9;rw [if_neg av] at gT;replace av:=zI av
 refine zh Z Z Z (wF Z av) Z bR (zh Z Z Z (wF Z av) Z cx (bnK gT fun _ eP oE=>rU Z (wF Z av) (zx Z Z Z Z zq Zn (wCQ eP) (wCR eP)) ?_))
 have m9:=wBO (xs:=ap) (wAY eP)
 refine zy rfl rfl rfl (zL rfl rfl (zo av.out)) (bU.ldR (j:=3) rfl rfl rfl rfl yh (wAZ (sz:=1) (fun _=>rfl) _ _ 0 _ m9 (by first | omega | rfl | simp) rfl)) rfl (zh rfl rfl rfl (zL rfl rfl (zo av.out)) rfl rfl (ifc oE ?_ ?_))
 intro bt oG
 refine zh Z Z Z (zL Z Z (congrArg nE bt.out)) Z bR (zh Z Z Z (zL Z Z (congrArg nE bt.out)) Z bL (bnK oG fun _ eQ oH=>zf Z Z Z (zL Z Z (congrArg nE bt.out)) (fun _=>zx Z Z Z Z zq Zn (wCQ eQ) (wCR eQ)) ?_))
 have n1:=wBO (xs:=ap) (wAY eQ)
 refine zy rfl rfl rfl (zL rfl rfl (congrArg nE bt.out)) (bU.ldR (j:=3) rfl rfl rfl rfl yh (wAZ (sz:=1) (fun _=>rfl) _ _ 0 _ n1 (by first | omega | rfl | simp) rfl)) rfl (zf rfl rfl rfl (zL rfl rfl (congrArg nE bt.out)) (fun _=>Za rfl rfl) (zf rfl rfl rfl (zL rfl rfl (zo av.out)) (fun _=>zX rfl (congrArg nE bt.out) rfl) (zf rfl rfl rfl rfl (fun _=>za rfl (zo av.out) rfl) (zg ?_))))
 cases oH
 exact zF ⟨Z,⟨bs,bQ,cK,bR,cL,cd,bL,cx,Z,(zN _),bU⟩⟩
 intro bt oI
 refine zc Z Z Z (zO Z Z (congrArg nE (nG.2 bt.out)) Z) (zc Z Z Z (zO Z Z (congrArg nE (nG.2 bt.out)) Z) (zc Z Z Z (zO Z Z (congrArg nE (nG.2 bt.out)) Z) (zc Z Z Z (zO Z Z (congrArg nE (nG.2 bt.out)) Z) (zc Z Z Z (zO Z Z (congrArg nE (nG.2 bt.out)) Z) (rU Z (wF Z av) (za Z (congrArg nE (nG.2 bt.out)) Z) (oR Z (za Z (zo av.out) Z) (zg ?_)))))))
 cases oI
 exact zF ⟨Z,⟨bs,bQ,cK,bR,cL,cd,bL,cx,Z,(zN _),bU⟩⟩
 rintro sb q6 ⟨dr,eB,eC,dd,eD,eG,eH,de,gj,bv,dh⟩
 refine ifc oC ?_ ?_
 intro dX oJ
 refine ZA (gj.trans (congrArg nE dX.out)) (sR fL2 Z (oM Z de (oA Z Z (eN (ZD (zb (zr ?_)))))))
 cases oJ
 exact zF ⟨Z,⟨dr,eB,eC,dd,eD,eG,Z,de,bv,dh⟩⟩
 intro dX oK
 refine zn (gj.trans (congrArg nE (nG.2 dX.out))) (kN (zG (bnK oK fun iL p8 oO=>CK.cut (fun σ_ w_=>∃ (U_:PHeap),σ_ 1=.pointer (some ⟨b2,0,none⟩)/\σ_ 8=.slice bz bo.length bE/\σ_ 10=.slice (some ⟨au,0,none⟩) ap.length aq.length/\σ_ 13=.slice bx br.length bD/\σ_ 14=.slice (some ⟨bf,0,none⟩) ax.length a7.length/\σ_ 15=jV bb/\σ_ 16=jV bJ/\σ_ 135=.bool iL/\PHeap.Le dr U_/\sW w U U_ [.blk aj 211 B3,.blk b2 34 B0,B5,B6,B7,B8] w_) ?_ ?_)))
 refine rR fL11 Z (oM Z dd (oM Z eH (bnK p8 fun _ eS oP=>oR Z (zx Z Z Z Z zq Zn (wCQ eS) (wCR eS)) ?_)))
 have n2:=wBO (xs:=ap) (wAY eS)
 refine zy rfl rfl rfl rfl (dh.ldR (j:=3) rfl rfl rfl rfl yh (wAZ (sz:=1) (fun _=>rfl) _ _ 0 _ n2 (by first | omega | rfl | simp) rfl)) rfl (zh rfl rfl rfl rfl rfl rfl (ifc oP ?_ ?_))
 intro bu oQ
 refine zh Z Z Z (zL Z Z (congrArg nE bu.out)) Z dd (zh Z Z Z (zL Z Z (congrArg nE bu.out)) Z de (bnK oQ fun _ eV oS=>zf Z Z Z (zL Z Z (congrArg nE bu.out)) (fun _=>zx Z Z Z Z zq Zn (wCQ eV) (wCR eV)) ?_))
 have n3:=wBO (xs:=ap) (wAY eV)
 refine zy rfl rfl rfl (zL rfl rfl (congrArg nE bu.out)) (dh.ldR (j:=3) rfl rfl rfl rfl yh (wAZ (sz:=1) (fun _=>rfl) _ _ 0 _ n3 (by first | omega | rfl | simp) rfl)) rfl (zf rfl rfl rfl (zL rfl rfl (congrArg nE bu.out)) (fun _=>Za rfl rfl) (zf rfl rfl rfl rfl (fun _=>zX rfl (congrArg nE bu.out) rfl) (zg ?_)))
 cases oS
 exact zF ⟨Z,⟨dr,eB,eC,dd,eD,eG,eH,de,Z,(zN _),dh⟩⟩
 intro bu oU
 refine zc Z Z Z (zO Z Z (congrArg nE (nG.2 bu.out)) Z) (zc Z Z Z (zO Z Z (congrArg nE (nG.2 bu.out)) Z) (zc Z Z Z (zO Z Z (congrArg nE (nG.2 bu.out)) Z) (zc Z Z Z (zO Z Z (congrArg nE (nG.2 bu.out)) Z) (zc Z Z Z (zO Z Z (congrArg nE (nG.2 bu.out)) Z) (oR Z (za Z (congrArg nE (nG.2 bu.out)) Z) (zg ?_))))))
 cases oU
 exact zF ⟨Z,⟨dr,eB,eC,dd,eD,eG,eH,de,Z,(zN _),dh⟩⟩
 rintro sc fY ⟨bY,bm,bG,bM,bS,bT,bH,bg,gm,bF,gI⟩
 refine ifc oO ?_ ?_
 intro dY oV
 refine ZA (gm.trans (congrArg nE dY.out)) (ZD (zb (zr ?_)))
 cases oV
 exact zF ⟨Z,⟨bY,bm,bG,bM,bS,bT,bH,bg,(bv.trans bF),gI⟩⟩
 intro dY oW
 refine zn (gm.trans (congrArg nE (nG.2 dY.out))) (kN (zG (ZY ZQ [3,3,3,1,3,3,3,1,3,3] wNh (by kernel_rfl) ?_)))
 have cz:=gI.drew
 generalize hw_W384:({ fY with drawn:=fY.drawn + 1 }:World)=dw at cz ⊢
 refine oM Z bG (oM Z bH (bnK oW fun _ dH oX=>?_))
 obtain ⟨rf,dJ⟩:=cz.rowSome (j:=2) rfl (by rw [wAC (f:=KL.encI) (sz:=1) (fun _=>rfl) bo];have hz:=wAY dH;omega)
 refine oR Z (zx Z Z dJ Z zA zC (wCQ dH) (wCR dH)) ?_
 have n4:=wBO (xs:=bo) (wAY dH)
 refine zy rfl rfl rfl rfl (cz.ldR (j:=2) rfl dJ rfl rfl zM (wAZ (sz:=1) (fun _=>rfl) _ _ 0 _ n4 (by first | omega | rfl | simp) rfl)) rfl (zh rfl rfl rfl rfl rfl bG (zh rfl rfl rfl rfl rfl bg (bnK oX fun _ eW oY=>zf rfl rfl rfl rfl (fun _=>zx rfl rfl dJ rfl zA zC (wCQ eW) (wCR eW)) ?_)))
 have n5:=wBO (xs:=bo) (wAY eW)
 refine zy rfl rfl rfl rfl (cz.ldR (j:=2) rfl dJ rfl rfl zM (wAZ (sz:=1) (fun _=>rfl) _ _ 0 _ n5 (by first | omega | rfl | simp) rfl)) rfl (yw rfl rfl rfl rfl rfl rfl (yw rfl rfl rfl rfl rfl rfl (eN (zG (sR fL4 rfl (zh rfl rfl rfl rfl rfl bM (zh rfl rfl rfl rfl rfl bg (bnK oY fun _ eX oZ=>zf rfl rfl rfl rfl (fun _=>zx rfl rfl rfl rfl zq Zn (wCQ eX) (wCR eX)) ?_))))))))
 have n7:=wBO (xs:=ap) (wAY eX)
 refine zy rfl rfl rfl rfl (cz.ldR (j:=3) rfl rfl rfl rfl yh (wAZ (sz:=1) (fun _=>rfl) _ _ 0 _ n7 (by first | omega | rfl | simp) rfl)) rfl (eN (ifc oZ ?_ ?_))
 intro dZ o0
 refine ZA (congrArg nE dZ.out) (ZY ZQ [1,3,2,1,3,2,3,3] (.fl 0 (.fl 1 (.fl 3 (.fl 4 (.fx 2 (.fx 5 (.fl 6 (.fl 7 .nil)) .stop) .stop))))) (by kernel_rfl) ?_)
 have dK:=cz.drew
 generalize hw_W399:({ dw with drawn:=dw.drawn + 1 }:World)=iu at dK ⊢
 refine oL Z (dK.ldBA (j:=1) Z Z bm yg yO (vs:=B0) Z Z) (oM Z bg (oL Z (dK.ldBA (j:=1) Z Z bm yg yO (vs:=B0) Z Z) (oM Z bH ?_)))
 have jJ:=fD.le cP
 have jK:=jJ.le cB
 have jL:=jK.le cC
 have jM:=jL.le cm
 have jN:=jM.le cD
 have jO:=jN.le co
 have jP:=jO.le cA
 have jQ:=jP.le cj
 have jR:=jQ.le bv
 have gw:=jR.le bF
 have jS:=dm.le cP
 have jT:=jS.le cB
 have jU:=jT.le cC
 have jW:=jU.le cm
 have jX:=jW.le cD
 have jY:=jX.le co
 have jZ:=jY.le cA
 have j4:=jZ.le cj
 have j5:=j4.le bv
 have gx:=j5.le bF
 refine bnK o0 fun rS j7 o3=>zP 0 Z Z Z Z (zQ Z Z Tryz.call100 (zH Z (zH Z zZ)) Z) dK (fun hs=>wDk p0 cp cr ay az bJ iu bY hs gw gx j7) (.inr Z) ?_
 rintro fU qQ rD fZ cQ mn ⟨rfl,rfl⟩
 have mp:sW w U fU [.blk aj 211 B3,.blk b2 34 B0,B5,B6,B7,B8] fZ:=mn
 have j8:=gw.le cQ
 have gy:=gx.le cQ
 refine bnK o3 fun rT j9 o5=>zP 0 Z Z Z Z (zQ Z Z Tryz.call100 (zH Z (zH Z zZ)) Z) mp (fun hs=>wDk p0 cp cr ay az bb fZ fU hs j8 gy j9) (.inr Z) ?_
 rintro cu qR rE dU dn mr ⟨rfl,rfl⟩
 have ms:sW w U cu [.blk aj 211 B3,.blk b2 34 B0,B5,B6,B7,B8] dU:=mr
 refine yw rfl rfl rfl rfl rfl rfl (yw rfl rfl rfl rfl rfl rfl (eN (zG (ZY ZQ [3,3,3,3,3,3,3,3,3,1,3,3,3,1,3,1,3,3,3,1,3,3,3] fL23 (by kernel_rfl) ?_))))
 have bV:=ms.drew
 generalize hw_W443:({ dU with drawn:=dU.drawn + 1 }:World)=q7 at bV ⊢
 refine oM Z Z (oM Z Z (oR Z (zV Z Z Z) (oM Z Z (ifc o5 ?_ ?_))))
 intro bh o6
 refine oT Z bh (oT Z bh (oT Z bh (oT Z bh (zc Z Z Z (wAP Z Z Z) (zc Z Z Z (wAP Z Z Z) (zc Z Z Z (wAP Z Z Z) (zc Z Z Z (wAP Z Z Z) (zc Z Z Z (wAP Z Z Z) (zc Z Z Z (wAP Z Z Z) (zc Z Z Z (wAP Z Z Z) (zc Z Z Z (wAP Z Z Z) (zc Z Z Z (wAP Z Z Z) (zc Z Z Z (wAP Z Z Z) (zc Z Z Z (wAP Z Z Z) (zc Z Z Z (wAP Z Z Z) (zc Z Z Z (wAP Z Z Z) (oT Z bh (oR Z (zX Z (Zl bh.out) Z) (eN (ZA Z (yu fun cE ch=>?_)))))))))))))))))))))
 have jc:cE 1=.pointer (some ⟨b2,0,none⟩):=(ch 1).trans bm
 have jd:cE 8=.slice bz bo.length bE:=(ch 8).trans bG
 have je:cE 10=.slice (some ⟨au,0,none⟩) ap.length aq.length:=(ch 10).trans bM
 have jf:cE 13=.slice bx br.length bD:=(ch 13).trans bS
 have jg:cE 14=.slice (some ⟨bf,0,none⟩) ax.length a7.length:=(ch 14).trans bT
 have rg:cE 15=jV bb:=(ch 15).trans bH
 have gq:cE 16=jV bJ:=(ch 16).trans bg
 clear ch
 refine rR fL2 Z (oM Z gq (oA Z Z (zg (zd ?_))))
 cases o6
 exact zF ⟨Z,⟨cu,jc,jd,je,jf,jg,Z,gq,(((bv.trans bF).trans cQ).trans dn),bV⟩⟩
 intro bh o7
 refine zh Z Z Z (wF Z bh) Z Z (zh Z Z Z (wF Z bh) Z Z (rU Z (wF Z bh) (yJ Z Z Z) (zh Z Z Z (wF Z bh) Z Z (ifc o7 ?_ ?_))))
 intro ak o8
 refine rU Z (wT Z ak) (zD Z bm zj Z Zd) (zy Z Z Z (wT Z ak) (bV.ldB (j:=1) Z Z Z Zk (v:=.slice ay p0.Teams.length az) Z) Z (zh Z Z Z (wT Z ak) Z bg (bnK o8 fun dM eY o9=>?_)))
 have gA:=gy.le dn
 have q:=gA.el (wAK eY)
 obtain ⟨iM,qd,rL,lU,fm,pU⟩:=q
 obtain ⟨qk,qw,ql,qx,rfl,rn,ro⟩:=pU
 replace fm:Cl cu iM (qd + bJ.toNat * 3) [jV dM.Bib,.slice qk dM.Classes.length qw,.slice ql dM.Legs.length qx]:=fm
 refine rU Z (wT Z ak) (zx Z Z lU Z ZJ Ze (wAi eY) (wAj eY)) (rU Z (wT Z ak) (zD Z Z zt Z zC) (zy Z Z Z (wT Z ak) (bV.ldC (f:=0) fm (v:=jV dM.Bib) Z Z zM Z) Z (rU Z (wT Z ak) (zD Z bm zj Z Zd) (zy Z Z Z (wT Z ak) (bV.ldB (j:=1) Z Z Z Zk (v:=.slice ay p0.Teams.length az) Z) Z (zh Z Z Z (wT Z ak) Z bH (bnK o9 fun dN eZ pa=>?_))))))
 have q:=gA.el (wAK eZ)
 obtain ⟨iN,qe,rM,lV,fq,pV⟩:=q
 obtain ⟨qm,qy,qn,qz,rfl,rp,rq⟩:=pV
 replace fq:Cl cu iN (qe + bb.toNat * 3) [jV dN.Bib,.slice qm dN.Classes.length qy,.slice qn dN.Legs.length qz]:=fq
 refine rU Z (wT Z ak) (zx Z Z lV Z ZJ Ze (wAi eZ) (wAj eZ)) (rU Z (wT Z ak) (zD Z Z zt Z zC) (zy Z Z Z (wT Z ak) (bV.ldC (f:=0) fq (v:=jV dN.Bib) Z Z zM Z) Z (rU Z (wT Z ak) (zV Z Z Z) (rU Z (wF Z bh) (zX Z (Zl ak.out) Z) (oR Z (za Z (zo bh.out) Z) (eN (ifc pa ?_ ?_)))))))
 intro d6 pb
 refine cT Z d6 (yu fun cG ci=>?_)
 have jh:cG 1=.pointer (some ⟨b2,0,none⟩):=(ci 1).trans bm
 have ji:cG 8=.slice bz bo.length bE:=(ci 8).trans bG
 have jj:cG 10=.slice (some ⟨au,0,none⟩) ap.length aq.length:=(ci 10).trans bM
 have jk:cG 13=.slice bx br.length bD:=(ci 13).trans bS
 have jl:cG 14=.slice (some ⟨bf,0,none⟩) ax.length a7.length:=(ci 14).trans bT
 have rh:cG 15=jV bb:=(ci 15).trans bH
 have gr:cG 16=jV bJ:=(ci 16).trans bg
 clear ci
 refine rR fL2 Z (oM Z gr (oA Z Z (zg (zd ?_))))
 cases pb
 exact zF ⟨Z,⟨cu,jh,ji,jj,jk,jl,Z,gr,(((bv.trans bF).trans cQ).trans dn),bV⟩⟩
 intro d6 pd
 refine cF Z d6 (ZO (zd ?_))
 cases pd
 exact zF ⟨Z,⟨cu,bm,bG,bM,bS,bT,bH,bg,(((bv.trans bF).trans cQ).trans dn),bV⟩⟩
 intro ak pe
 refine oF Z ak (oF Z ak (oF Z ak (oF Z ak (oF Z ak (oF Z ak (oF Z ak (oF Z ak (oF Z ak (oF Z ak (oF Z ak (oF Z ak (oF Z ak (rU Z (wF Z bh) (za Z (zo ak.out) Z) (oR Z (za Z (zo bh.out) Z) (eN (zn Z (ZO (zd ?_))))))))))))))))))
 cases pe
 exact zF ⟨Z,⟨cu,bm,bG,bM,bS,bT,bH,bg,(((bv.trans bF).trans cQ).trans dn),bV⟩⟩
 intro dZ pg
 refine zn (congrArg nE (nG.2 dZ.out)) (kN (zG (ZY ZQ [3,3,3,3,3,3,3,3,3,1,3,3,3,1,3,1,3,3,3,1,3,3,3] fL23 (by kernel_rfl) ?_)))
 have bW:=cz.drew
 generalize hw_W508:({ dw with drawn:=dw.drawn + 1 }:World)=q8 at bW ⊢
 refine oM Z Z (oM Z Z (oR Z (zV Z Z Z) (oM Z Z (ifc pg ?_ ?_))))
 intro bi ph
 refine oT Z bi (oT Z bi (oT Z bi (oT Z bi (zc Z Z Z (wAP Z Z Z) (zc Z Z Z (wAP Z Z Z) (zc Z Z Z (wAP Z Z Z) (zc Z Z Z (wAP Z Z Z) (zc Z Z Z (wAP Z Z Z) (zc Z Z Z (wAP Z Z Z) (zc Z Z Z (wAP Z Z Z) (zc Z Z Z (wAP Z Z Z) (zc Z Z Z (wAP Z Z Z) (zc Z Z Z (wAP Z Z Z) (zc Z Z Z (wAP Z Z Z) (zc Z Z Z (wAP Z Z Z) (zc Z Z Z (wAP Z Z Z) (oT Z bi (oR Z (zX Z (Zl bi.out) Z) (eN (ZA Z (rR fL2 Z (oM Z bg (oA Z Z (zg (zd ?_)))))))))))))))))))))))))
 cases ph
 exact zF ⟨Z,⟨bY,bm,bG,bM,bS,bT,Z,bg,(bv.trans bF),bW⟩⟩
 intro bi pi
 refine zh Z Z Z (wF Z bi) Z Z (zh Z Z Z (wF Z bi) Z Z (rU Z (wF Z bi) (yJ Z Z Z) (zh Z Z Z (wF Z bi) Z Z (ifc pi ?_ ?_))))
 intro am pj
 refine rU Z (wT Z am) (zD Z bm zj Z Zd) (zy Z Z Z (wT Z am) (bW.ldB (j:=1) Z Z Z Zk (v:=.slice ay p0.Teams.length az) Z) Z (zh Z Z Z (wT Z am) Z bg (bnK pj fun dO fc pm=>?_)))
 have k8:=dm.le cP
 have k9:=k8.le cB
 have lb:=k9.le cC
 have lc:=lb.le cm
 have lg:=lc.le cD
 have lh:=lg.le co
 have li:=lh.le cA
 have lj:=li.le cj
 have lk:=lj.le bv
 have gC:=lk.le bF
 have q:=gC.el (wAK fc)
 obtain ⟨iO,qf,rN,lW,ft,pW⟩:=q
 obtain ⟨qo,qA,qp,qC,rfl,rt,ru⟩:=pW
 replace ft:Cl bY iO (qf + bJ.toNat * 3) [jV dO.Bib,.slice qo dO.Classes.length qA,.slice qp dO.Legs.length qC]:=ft
 refine rU Z (wT Z am) (zx Z Z lW Z ZJ Ze (wAi fc) (wAj fc)) (rU Z (wT Z am) (zD Z Z zt Z zC) (zy Z Z Z (wT Z am) (bW.ldC (f:=0) ft (v:=jV dO.Bib) Z Z zM Z) Z (rU Z (wT Z am) (zD Z bm zj Z Zd) (zy Z Z Z (wT Z am) (bW.ldB (j:=1) Z Z Z Zk (v:=.slice ay p0.Teams.length az) Z) Z (zh Z Z Z (wT Z am) Z bH (bnK pm fun dP fd pn=>?_))))))
 have q:=gC.el (wAK fd)
 obtain ⟨iP,qg,rP,lY,fu,pX⟩:=q
 obtain ⟨qq,qD,qr,qE,rfl,rv,rx⟩:=pX
 replace fu:Cl bY iP (qg + bb.toNat * 3) [jV dP.Bib,.slice qq dP.Classes.length qD,.slice qr dP.Legs.length qE]:=fu
 refine rU Z (wT Z am) (zx Z Z lY Z ZJ Ze (wAi fd) (wAj fd)) (rU Z (wT Z am) (zD Z Z zt Z zC) (zy Z Z Z (wT Z am) (bW.ldC (f:=0) fu (v:=jV dP.Bib) Z Z zM Z) Z (rU Z (wT Z am) (zV Z Z Z) (rU Z (wF Z bi) (zX Z (Zl am.out) Z) (oR Z (za Z (zo bi.out) Z) (eN (ifc pn ?_ ?_)))))))
 intro d7 pp
 refine cT Z d7 (rR fL2 Z (oM Z bg (oA Z Z (zg (zd ?_)))))
 cases pp
 exact zF ⟨Z,⟨bY,bm,bG,bM,bS,bT,Z,bg,(bv.trans bF),bW⟩⟩
 intro d7 pq
 refine cF Z d7 (ZO (zd ?_))
 cases pq
 exact zF ⟨Z,⟨bY,bm,bG,bM,bS,bT,bH,bg,(bv.trans bF),bW⟩⟩
 intro am pt
 refine oF Z am (oF Z am (oF Z am (oF Z am (oF Z am (oF Z am (oF Z am (oF Z am (oF Z am (oF Z am (oF Z am (oF Z am (oF Z am (rU Z (wF Z bi) (za Z (zo am.out) Z) (oR Z (za Z (zo bi.out) Z) (eN (zn Z (ZO (zd ?_))))))))))))))))))
 cases pt
 exact zF ⟨Z,⟨bY,bm,bG,bM,bS,bT,bH,bg,(bv.trans bF),bW⟩⟩
 rintro sd q9 ⟨il,jm,jo,jp,jq,jr,jt,ju,qa,mx⟩
 refine rR fL3 Z (oM Z ju (oR Z (zY Z Z Z) (oA Z Z (zg ?_))))
 have q:=nD ox
 obtain rfl:=q
 exact zF ⟨Z,_,Z,⟨il,jm,jo,jp,jq,jr,jt,Z,(cj.trans qa),mx⟩⟩
 have gV:=fI;rw [if_neg ca] at gV;replace ca:=zI ca
 refine cF Z ca (ZD (zb ?_))
 have q:=wAM gV
 obtain ⟨qI,pu,iW⟩:=q
 have q:=mV qI iW
 obtain rfl:=q
 refine zb (zr (zF (sR (wDw (.fx 3 .nil .stop)) Z (oM Z cd (oM Z bL (bnK pu fun _ dI py=>oR Z (zx Z Z Z Z zq Zn (wCQ dI) (wCR dI)) ?_))))))
 have n8:=wBO (xs:=ax) (wAY dI)
 refine OKS.stR (j:=5) (vs:=[.bool true]) (cs':=nA KL.encT (nM ax bb.toNat true)) rfl rfl rfl rfl bU rfl rfl rfl rfl rfl Zn (by rw [wAC (f:=KL.encT) (sz:=1) (fun _=>rfl)];have hz:=wAY dI;show _ + 1 <= _;first | omega | (simp only [nL];omega) | (simp only [nJ,nH,nI];omega)) rfl (wES (sz:=1) (fo:=0) (fun _=>rfl) _ _ _ _ n8 (by first | omega | (simp only [nL];omega) | (simp only [nJ,nH,nI];omega)) (zJ rfl) rfl) rfl ?_
 intro iv my
 let B9:Res:=.row (some ⟨bf,0,none⟩) a7.length 4 1 (nA KL.encT (nM ax bb.toNat true))
 have fB:sW w U bs [.blk aj 211 B3,.blk b2 34 B0,B5,B6,B7,B9] iv:=my
 refine eN (sR (wMK (.fx 7 (.fx 8 .nil .stop) .stop)) Z (oR Z (zD Z bQ zj Z Zd) (oL Z (fB.ldB (j:=1) Z Z Z Zk (v:=.slice ay p0.Teams.length az) Z) (oM Z bL (bnK py fun a8 fe pz=>?_)))))
 have lm:=dm.le cP
 have ls:=lm.le cB
 have lu:=ls.le cC
 have lv:=lu.le cm
 have lw:=lv.le cD
 have lx:=lw.le co
 have ly:=lx.le cA
 have ff:=ly.le cj
 have q:=ff.el (wAK fe)
 obtain ⟨iQ,qh,rQ,lZ,fw,pY⟩:=q
 obtain ⟨qs,qF,qt,qG,rfl,ry,rz⟩:=pY
 replace fw:Cl bs iQ (qh + bb.toNat * 3) [jV a8.Bib,.slice qs a8.Classes.length qF,.slice qt a8.Legs.length qG]:=fw
 refine oR Z (zx Z Z lZ Z ZJ Ze (wAi fe) (wAj fe)) (oR Z (zD Z Z zt Z zC) (oL Z (fB.ldC (f:=0) fw (v:=jV a8.Bib) Z Z zM Z) ?_))
 let bO:List Value:=[jV a8.Bib,jV 0,jV 0]
 let dq:List Value:=[jV 0,jV 0,jV 0]
 refine oR Z (ZT (pv:=[(0,jV a8.Bib)]) (z:=dq) (cs:=bO) Z (wAA Z wAO) Tryz.zeroValue58 wPA Z Z) (ZB (cs:=dq) Z Z Z Z Z Tryz.zeroValue58 Z fB ?_)
 intro rd bC mz
 refine ZK (j:=0) (vs:=bO) Z Z Z Z mz Z Z Z Z YZ (zJ Z) Z Z Z ?_
 intro f4 mA
 have di:sW w U bs [.blk bC 58 bO,.blk aj 211 B3,.blk b2 34 B0,B5,B6,B7,B9] f4:=mA
 refine eN (zG (sR fL4 Z (oM Z bR (oM Z bL (bnK pz fun _ fg pC=>oR Z (zx Z Z Z Z zq Zn (wCQ fg) (wCR fg)) ?_)))))
 have n9:=wBO (xs:=ap) (wAY fg)
 refine zy rfl rfl rfl rfl (di.ldR (j:=4) rfl rfl rfl rfl yh (wAZ (sz:=1) (fun _=>rfl) _ _ 0 _ n9 (by first | omega | rfl | simp) rfl)) rfl (eN (ifc pC ?_ ?_))
 intro d8 pD
 refine ZA (congrArg nE d8.out) (sR (.fl 0 (.fl 1 (.fx 2 (.fl 3 (.fx 4 .nil .stop)) .stop))) Z (oL Z (di.ldBA (j:=2) Z Z bQ yg yO (vs:=B0) Z Z) (oM Z bL ?_)))
 have lz:=fD.le cP
 have lA:=lz.le cB
 have lB:=lA.le cC
 have lC:=lB.le cm
 have lD:=lC.le cD
 have lE:=lD.le co
 have lG:=lE.le cA
 have gE:=lG.le cj
 refine bnK pD fun bK lI pE=>zP 0 Z Z Z Z (zQ Z Z Tryz.call100 (zH Z (zH Z zZ)) Z) di (fun hs=>wDk p0 cp cr ay az bb f4 bs hs gE ff lI) (.inr Z) ?_
 rintro cX qT rG iw fM mB ⟨rfl,rfl⟩
 have mC:sW w U cX [.blk bC 58 bO,.blk aj 211 B3,.blk b2 34 B0,B5,B6,B7,B9] iw:=mB
 refine oR Z (zD Z Z Tryz.runUnderlying58 Z zC) (ZK (j:=0) (vs:=[jV bK]) Z Z Z Z mC Z Z Z Z zC (zJ Z) Z Z Z ?_)
 intro ix mD
 have mE:sW w U cX [.blk bC 58 [jV a8.Bib,jV 0,jV bK],.blk aj 211 B3,.blk b2 34 B0,B5,B6,B7,B9] ix:=mD
 refine eN (sR (.fl 0 (.fx 1 .nil .stop)) Z (oR Z (zD Z Z Tryz.runUnderlying58 Z zC) (ZK (j:=0) (vs:=[jV 1]) Z Z Z Z mE Z Z Z Z zC (zJ Z) Z Z Z ?_)))
 intro iy mF
 have mG:sW w U cX [.blk bC 58 [jV a8.Bib,jV 1,jV bK],.blk aj 211 B3,.blk b2 34 B0,B5,B6,B7,B9] iy:=mF
 refine eN (sR fL1 Z (oA Z Z (eN (zR (yM (fun (bN,dQ) σ_ w_=>∃ (U_:PHeap),σ_ 1=.pointer (some ⟨b2,0,none⟩)/\σ_ 8=.slice bz bo.length bE/\σ_ 10=.slice (some ⟨au,0,none⟩) ap.length aq.length/\σ_ 13=.slice bx br.length bD/\σ_ 14=.slice (some ⟨bf,0,none⟩) ((nM ax bb.toNat true).length) a7.length/\σ_ 19=.pointer (some ⟨bC,0,none⟩)/\σ_ 20=jV dQ/\PHeap.Le cX U_/\sW w U U_ [.blk bC 58 [jV a8.Bib,jV bN,jV bK],.blk aj 211 B3,.blk b2 34 B0,B5,B6,B7,B9] w_) pE ?_ ?_)))))
 exact ⟨cX,bQ,cK,bR,cL,(nN (b:=(.slice (some ⟨bf,0,none⟩) ax.length a7.length:Value)) (c:=(.slice (some ⟨bf,0,none⟩) ((nM ax bb.toNat true).length) a7.length:Value)) cd (by simp only [nK])),rfl,rfl,(zN _),mG⟩
 rintro ⟨bN,dQ⟩ rZ se f5 ⟨cY,cM,dC,df,dD,dE,cy,cN,cR,dL⟩ fJ mW
 try dsimp only at fJ
 refine zG (sR fL5 Z (oM Z cN (oR Z (zD Z cM zj Z Zd) (oL Z (dL.ldB (j:=2) Z Z Z Zk (v:=.slice ay p0.Teams.length az) Z) (oR Z (zW Z Z ZJ) (oR Z (zV Z Z Z) (eN ?_)))))))
 by_cases cc:dQ < (↑p0.Teams.length:Int)
 have gY:=fJ;rw [if_pos cc] at gY;replace cc:=zI cc
 refine cT Z cc (kN (zG (zR (zG (ZY ZQ [3,3,3,1,3,1,3,2,3,1,3,3] (wMK (.fl 8 (.fl 9 (.fx 7 (.fl 10 (.fl 11 .nil)) .stop)))) (by kernel_rfl) ?_)))))
 have cO:=dL.drew
 generalize hw_W673:({ f5 with drawn:=f5.drawn + 1 }:World)=iz at cO ⊢
 refine oM Z df (oM Z cN (bnK gY fun _ fh pF=>oR Z (zx Z Z Z Z zq Zn (wCQ fh) (wCR fh)) ?_))
 have od:=wBO (xs:=ap) (wAY fh)
 refine zy rfl rfl rfl rfl (cO.ldR (j:=4) rfl rfl rfl rfl yh (wAZ (sz:=1) (fun _=>rfl) _ _ 0 _ od (by first | omega | rfl | simp) rfl)) rfl (zh rfl rfl rfl rfl rfl rfl (ifc pF ?_ ?_))
 intro bj pG
 refine zy Z Z Z (zL Z Z (congrArg nE bj.out)) (cO.ldBA (j:=2) Z Z cM yg yO (vs:=B0) Z Z) Z (zh Z Z Z (zL Z Z (congrArg nE bj.out)) Z cN (zf Z Z Z (zL Z Z (congrArg nE bj.out)) (fun _=>zD Z cy Tryz.runUnderlying58 Z zC) (zy Z Z Z (zL Z Z (congrArg nE bj.out)) (cO.ldB (j:=0) Z Z Z zM (v:=jV bK) Z) Z ?_)))
 have lJ:=gE.le fM
 have lK:=lJ.le cR
 have lL:=ff.le fM
 have lM:=lL.le cR
 refine bnK pG fun rV lN pH=>zP 0 Z Z Z (zL Z Z (congrArg nE bj.out)) (zQ Z Z Tryz.call100 (zH Z (zH Z zZ)) Z) cO (fun hs=>wDk p0 cp cr ay az dQ iz cY hs lK lM lN) (.inr Z) ?_
 rintro du qV rI iB ib mH ⟨rfl,rfl⟩
 have fC:sW w U du [.blk bC 58 [jV a8.Bib,jV bN,jV bK],.blk aj 211 B3,.blk b2 34 B0,B5,B6,B7,B9] iB:=mH
 refine zf Z Z Z (zL Z Z (congrArg nE bj.out)) (fun _=>zV Z Z Z) (oR Z (zX Z (congrArg nE bj.out) Z) (eN (ifc pH ?_ ?_)))
 intro d9 pI
 refine cT Z d9 (rR (wHD (.fx 4 .nil .stop)) Z (oR Z (zD Z cy Tryz.runUnderlying58 Z zC) (oL Z (fC.ldB (j:=0) Z Z Z zM (v:=jV bN) Z) (oR Z (zY Z Z Z) (oR Z (zD Z cy Tryz.runUnderlying58 Z zC) (ZK (j:=0) (vs:=[jV (w64 (bN + 1))]) Z Z Z Z fC Z Z Z Z zC (zJ Z) Z Z Z ?_))))))
 intro iC mI
 have mJ:sW w U du [.blk bC 58 [jV a8.Bib,jV (w64 (bN + 1)),jV bK],.blk aj 211 B3,.blk b2 34 B0,B5,B6,B7,B9] iC:=mI
 refine zg (zd (zF (rR fL3 Z (oM Z cN (oR Z (zY Z Z Z) (oA Z Z (zg ?_)))))))
 have q:=nD pI
 obtain rfl:=q
 exact zF ⟨Z,_,Z,⟨du,cM,dC,df,dD,dE,cy,Z,(cR.trans ib),mJ⟩⟩
 intro d9 pJ
 refine cF Z d9 (ZO (zd (zF (rR fL3 Z (oM Z cN (oR Z (zY Z Z Z) (oA Z Z (zg ?_))))))))
 have q:=nD pJ
 obtain rfl:=q
 exact zF ⟨Z,_,Z,⟨du,cM,dC,df,dD,dE,cy,Z,(cR.trans ib),fC⟩⟩
 intro bj pK
 refine zc Z Z Z (zO Z Z (congrArg nE (nG.2 bj.out)) Z) (zc Z Z Z (zO Z Z (congrArg nE (nG.2 bj.out)) Z) (zc Z Z Z (zO Z Z (congrArg nE (nG.2 bj.out)) Z) (zc Z Z Z (zO Z Z (congrArg nE (nG.2 bj.out)) Z) (ZI Z Z Z (zO Z Z (congrArg nE (nG.2 bj.out)) Z) (zc Z Z Z (zO Z Z (congrArg nE (nG.2 bj.out)) Z) (oR Z (za Z (congrArg nE (nG.2 bj.out)) Z) (eN (zn Z (ZO (zd (zF (rR fL3 Z (oM Z cN (oR Z (zY Z Z Z) (oA Z Z (zg ?_))))))))))))))))
 have q:=nD pK
 obtain rfl:=q
 exact zF ⟨Z,_,Z,⟨cY,cM,dC,df,dD,dE,cy,Z,cR,cO⟩⟩
 have gZ:=fJ;rw [if_neg cc] at gZ;replace cc:=zI cc
 refine cF Z cc (ZD (zb ?_))
 have q:=wAM gZ
 obtain ⟨qJ,pL,iX⟩:=q
 have q:=mW qJ iX
 obtain rfl:=q
 refine zb (zr (zF (rR gAn Z (oM Z dD ?_))))
 let cV:List Value:=[jV a8.Bib,jV bN,jV bK]
 refine oL Z (dL.ldBA (j:=0) Z Z cy Tryz.isAgg58 YZ (vs:=cV) Z Z) (zk (pv:=[(0,.agg cV.toArray)]) (zs:=dq) (cs:=cV) Z Z Z Z Z (wAA Z wAO) Tryz.runUnderlying54 YZ Tryz.zeroValue58 Z Z Z Z Z dL ?_)
 intro iD iR mL
 let fR:Res:=.row (some ⟨iR,0,none⟩) 1 58 3 (nA wAV [(⟨a8.Bib,bN,bK⟩:wAR)])
 have gK:sW w U cY [fR,.blk bC 58 cV,.blk aj 211 B3,.blk b2 34 B0,B5,B6,B7,B9] iD:=mL
 refine bnK pL fun ig lP pM=>yE (j:=6) (enc:=wAV) (xs:=br) (ys:=[(⟨a8.Bib,bN,bK⟩:wAR)]) (zs:=ig) rfl rfl rfl rfl rfl Tryz.underlying54 wPw rfl rfl rfl rfl rfl rfl gK rfl rfl rfl (gK.srcR (j:=0) rfl (by decide) (wAC (f:=wAV) (sz:=3) (fun _=>rfl) [(⟨a8.Bib,bN,bK⟩:wAR)])) (fun _=>rfl) (fun _=>rfl) lP rfl ?_
 intro fO gb iE mM
 have mN:sW w U cY [fR,.blk bC 58 cV,.blk aj 211 B3,.blk b2 34 B0,B5,B6,.row fO gb 58 3 (nA wAV ig),B9] iE:=mM
 refine oA Z Z (zg (zd ?_))
 have q:=nD pM
 obtain rfl:=q
 exact zF ⟨rfl,_,rfl,⟨cY,fO,gb,cM,dC,df,rfl,dE,(((cA.trans cj).trans fM).trans cR),(mN.pick [2,3,4,5,6,7] _ (by decide) rfl),(nK.trans gv)⟩⟩
 intro d8 pN
 refine zn (congrArg nE (nG.2 d8.out)) (kN (rR gAn Z (oM Z cL (oL Z (di.ldBA (j:=0) Z Z Z Tryz.isAgg58 YZ (vs:=bO) Z Z) (zk (pv:=[(0,.agg bO.toArray)]) (zs:=dq) (cs:=bO) Z Z Z Z Z (wAA Z wAO) Tryz.runUnderlying54 YZ Tryz.zeroValue58 Z Z Z Z Z di ?_)))))
 intro iF iS mO
 let fS:Res:=.row (some ⟨iS,0,none⟩) 1 58 3 (nA wAV [(⟨a8.Bib,0,0⟩:wAR)])
 have gL:sW w U bs [fS,.blk bC 58 bO,.blk aj 211 B3,.blk b2 34 B0,B5,B6,B7,B9] iF:=mO
 refine bnK pN fun ii lQ pO=>yE (j:=6) (enc:=wAV) (xs:=br) (ys:=[(⟨a8.Bib,0,0⟩:wAR)]) (zs:=ii) rfl rfl rfl rfl rfl Tryz.underlying54 wPw rfl rfl rfl rfl rfl rfl gL rfl rfl rfl (gL.srcR (j:=0) rfl (by decide) (wAC (f:=wAV) (sz:=3) (fun _=>rfl) [(⟨a8.Bib,0,0⟩:wAR)])) (fun _=>rfl) (fun _=>rfl) lQ rfl ?_
 intro fP gc iG mP
 have mQ:sW w U bs [fS,.blk bC 58 bO,.blk aj 211 B3,.blk b2 34 B0,B5,B6,.row fP gc 58 3 (nA wAV ii),B9] iG:=mP
 refine oA Z Z (zg (zd ?_))
 have q:=nD pO
 obtain rfl:=q
 exact zF ⟨rfl,_,rfl,⟨bs,fP,gc,bQ,cK,bR,rfl,(nN (b:=(.slice (some ⟨bf,0,none⟩) ax.length a7.length:Value)) (c:=(.slice (some ⟨bf,0,none⟩) ((nM ax bb.toNat true).length) a7.length:Value)) cd (by simp only [nK])),(cA.trans cj),(mQ.pick [2,3,4,5,6,7] _ (by decide) rfl),(nK.trans gv)⟩⟩
 have g6:=fH;rw [if_neg b4] at g6;replace b4:=zI b4
 refine cF Z b4 (ZD (zb ?_))
 have q:=wAM g6
 obtain ⟨qK,pP,iY⟩:=q
 have q:=mU qK iY
 obtain rfl:=q
 refine zb (zr (zF (sR fL3 Z (oM Z eA (oA Z Z (oA Z Z (eN (zS ?_))))))))
 cases pP
 exact ⟨rfl,_,(wFA rfl rfl),dS,_,(fz.pick [4] _ (by decide) rfl),bx,bD,rfl,rfl⟩
 intro dV pQ
 refine cT Z dV (sR fL3 Z (oM Z Z (oA Z Z (oA Z Z (eN (zS (zK ?_)))))))
 have mR:=fA.nilrow 58 3
 cases pQ
 exact ⟨rfl,_,(wFA rfl rfl),U9,_,(mR.pick [0] _ (by decide) rfl),none,0,rfl,rfl⟩
set_option maxHeartbeats 4000000
theorem wFx (p0:wAE) (ap:Option Addr) (au:Nat) (p1:wAE) (aq:Option Addr) (av:Nat) (w:World) (U:PHeap) (hS:St0 w U []) (bh:Sl U 1 ap au p0.Classes.length (nA KL.encI p0.Classes)) (bi:Sl U 1 aq av p1.Classes.length (nA KL.encI p1.Classes)) {r:Bool} (hm:wDB p0 p1=some r):Gv Tryz.prog 52 [.agg #[.slice ap p0.Classes.length au,jV p0.Each,jV p0.Laps,jV p0.Spare,jV p0.Loop,jV p0.Unused],.agg #[.slice aq p1.Classes.length av,jV p1.Each,jV p1.Laps,jV p1.Spare,jV p1.Loop,jV p1.Unused]] w (wBp w [] U (fun U_ L_ v=>v=.bool r/\L_=[])):=by
 unfold wDB at hm
 refine Gv.of Tryz.func52 Z Tryz.ntmps52 Tryz.results52 Z (sR gAi Z ?_)
 let B0:List Value:=[.slice ap p0.Classes.length au,jV p0.Each,jV p0.Laps,jV p0.Spare,jV p0.Loop,jV p0.Unused]
 refine ZX (cs:=B0) rfl rfl rfl rfl rfl rfl (by rfl) hS ?_
 intro W1 b2 bg
 let B1:List Value:=[.slice aq p1.Classes.length av,jV p1.Each,jV p1.Laps,jV p1.Spare,jV p1.Loop,jV p1.Unused]
 refine ZX (cs:=B1) rfl rfl rfl rfl rfl rfl (by rfl) bg ?_
 intro W5 b6 aw
 refine oA Z Z (eN (sR (wHD (.fx 4 (wSS (.nil)) .stop)) Z (oR Z (zD Z Z ZG Z zT) (oL Z (aw.ldB (j:=1) Z Z Z ze (v:=.slice ap p0.Classes.length au) Z) (oR Z (zD Z Z ZG Z zT) (oL Z (aw.ldB (j:=0) Z Z Z ze (v:=.slice aq p1.Classes.length av) Z) (bnK hm fun x9 be bj=>zP 0 Z Z Z Z (zQ Z Z Tryz.call51 (zH Z (zH Z zZ)) Z) aw (fun hs=>wCl p0.Classes ap au p1.Classes aq av W5 U hs bh bi be) (.inr Z) ?_)))))))
 rintro ao bw bA a7 bz bf ⟨rfl,rfl⟩
 have ah:sW w U ao [.blk b6 24 B1,.blk b2 24 B0] a7:=bf
 refine oM Z Z (ifc bj ?_ ?_)
 intro ai bm
 refine zf Z Z Z (zL Z Z (congrArg nE ai.out)) (fun _=>zD Z Z ZG Z zC) (zy Z Z Z (zL Z Z (congrArg nE ai.out)) (ah.ldB (j:=1) Z Z Z zM (v:=jV p0.Each) Z) Z (zf Z Z Z (zL Z Z (congrArg nE ai.out)) (fun _=>zD Z Z ZG Z zC) (zy Z Z Z (zL Z Z (congrArg nE ai.out)) (ah.ldB (j:=0) Z Z Z zM (v:=jV p1.Each) Z) Z (zf Z Z Z (zL Z Z (congrArg nE ai.out)) (fun _=>yJ Z Z Z) (oR Z (zX Z (congrArg nE ai.out) Z) (oM Z Z (ifc bm ?_ ?_)))))))
 intro aj bn
 refine rU Z (wT Z aj) (zD Z Z ZG Z zC) (zy Z Z Z (wT Z aj) (ah.ldB (j:=1) Z Z Z zM (v:=jV p0.Laps) Z) Z (rU Z (wT Z aj) (zD Z Z ZG Z zC) (zy Z Z Z (wT Z aj) (ah.ldB (j:=0) Z Z Z zM (v:=jV p1.Laps) Z) Z (rU Z (wT Z aj) (yJ Z Z Z) (oR Z (zX Z (Zl aj.out) Z) (oM Z Z (ifc bn ?_ ?_)))))))
 intro ak bo
 refine rU Z (wT Z ak) (zD Z Z ZG Z zC) (zy Z Z Z (wT Z ak) (ah.ldB (j:=1) Z Z Z zM (v:=jV p0.Spare) Z) Z (rU Z (wT Z ak) (zD Z Z ZG Z zC) (zy Z Z Z (wT Z ak) (ah.ldB (j:=0) Z Z Z zM (v:=jV p1.Spare) Z) Z (rU Z (wT Z ak) (yJ Z Z Z) (oR Z (zX Z (Zl ak.out) Z) (oM Z Z (ifc bo ?_ ?_)))))))
 intro am bp
 refine rU Z (wT Z am) (zD Z Z ZG Z zC) (zy Z Z Z (wT Z am) (ah.ldB (j:=1) Z Z Z zM (v:=jV p0.Loop) Z) Z (rU Z (wT Z am) (zD Z Z ZG Z zC) (zy Z Z Z (wT Z am) (ah.ldB (j:=0) Z Z Z zM (v:=jV p1.Loop) Z) Z (rU Z (wT Z am) (yJ Z Z Z) (oR Z (zX Z (Zl am.out) Z) (oM Z Z (ifc bp ?_ ?_)))))))
 intro an az
 refine rU Z (wT Z an) (zD Z Z ZG Z zC) (zy Z Z Z (wT Z an) (ah.ldB (j:=1) Z Z Z zM (v:=jV p0.Unused) Z) Z (rU Z (wT Z an) (zD Z Z ZG Z zC) (zy Z Z Z (wT Z an) (ah.ldB (j:=0) Z Z Z zM (v:=jV p1.Unused) Z) Z (rU Z (wT Z an) (yJ Z Z Z) (oR Z (zX Z (Zl an.out) Z) (oA Z Z (eN (zS ?_))))))))
 first | (obtain rfl:=nD az) | cases az
 exact ⟨rfl,_,(zw rfl),ao,_,(ah.pick [] _ (by decide) rfl),rfl,rfl⟩
 intro an br
 refine oF Z an (oF Z an (oF Z an (oF Z an (oF Z an (oR Z (za Z (zo an.out) Z) (oA Z Z (eN (zS ?_))))))))
 have hE:=nD br;first | subst r | cases hE
 exact ⟨rfl,_,(zw rfl),ao,_,(ah.pick [] _ (by decide) rfl),rfl,rfl⟩
 intro am bs
 refine oF Z am (oF Z am (oF Z am (oF Z am (oF Z am (oR Z (za Z (zo am.out) Z) (oM Z Z (oN Z (oN Z (oN Z (oN Z (oN Z (oR Z (za Z Z Z) (oA Z Z (eN (zS ?_)))))))))))))))
 have hE:=nD bs;first | subst r | cases hE
 exact ⟨rfl,_,(zw rfl),ao,_,(ah.pick [] _ (by decide) rfl),rfl,rfl⟩
 intro ak bt
 refine oF Z ak (oF Z ak (oF Z ak (oF Z ak (oF Z ak (oR Z (za Z (zo ak.out) Z) (oM Z Z (oN Z (oN Z (oN Z (oN Z (oN Z (oR Z (za Z Z Z) (oM Z Z (oN Z (oN Z (oN Z (oN Z (oN Z (oR Z (za Z Z Z) (oA Z Z (eN (zS ?_))))))))))))))))))))))
 have hE:=nD bt;first | subst r | cases hE
 exact ⟨rfl,_,(zw rfl),ao,_,(ah.pick [] _ (by decide) rfl),rfl,rfl⟩
 intro aj bu
 refine oF Z aj (oF Z aj (oF Z aj (oF Z aj (oF Z aj (oR Z (za Z (zo aj.out) Z) (oM Z Z (oN Z (oN Z (oN Z (oN Z (oN Z (oR Z (za Z Z Z) (oM Z Z (oN Z (oN Z (oN Z (oN Z (oN Z (oR Z (za Z Z Z) (oM Z Z (oN Z (oN Z (oN Z (oN Z (oN Z (oR Z (za Z Z Z) (oA Z Z (eN (zS ?_)))))))))))))))))))))))))))))
 have hE:=nD bu;first | subst r | cases hE
 exact ⟨rfl,_,(zw rfl),ao,_,(ah.pick [] _ (by decide) rfl),rfl,rfl⟩
 intro ai bv
 refine zc Z Z Z (zO Z Z (congrArg nE (nG.2 ai.out)) Z) (zc Z Z Z (zO Z Z (congrArg nE (nG.2 ai.out)) Z) (zc Z Z Z (zO Z Z (congrArg nE (nG.2 ai.out)) Z) (zc Z Z Z (zO Z Z (congrArg nE (nG.2 ai.out)) Z) (zc Z Z Z (zO Z Z (congrArg nE (nG.2 ai.out)) Z) (oR Z (za Z (congrArg nE (nG.2 ai.out)) Z) (oM Z Z (oN Z (oN Z (oN Z (oN Z (oN Z (oR Z (za Z Z Z) (oM Z Z (oN Z (oN Z (oN Z (oN Z (oN Z (oR Z (za Z Z Z) (oM Z Z (oN Z (oN Z (oN Z (oN Z (oN Z (oR Z (za Z Z Z) (oM Z Z (oN Z (oN Z (oN Z (oN Z (oN Z (oR Z (za Z Z Z) (oA Z Z (eN (zS ?_))))))))))))))))))))))))))))))))))))
 have hE:=nD bv;first | subst r | cases hE
 exact ⟨rfl,_,(zw rfl),ao,_,(ah.pick [] _ (by decide) rfl),rfl,rfl⟩
theorem wGN (p0:List Bool) (au:Option Addr) (aw:Nat) (p1:List Bool) (av:Option Addr) (ax:Nat) (w:World) (U:PHeap) (hS:St0 w U []) (bA:Sl U 1 au aw p0.length (nA KL.encT p0)) (bC:Sl U 1 av ax p1.length (nA KL.encT p1)) {r:Bool} (hm:wCa p0 p1=some r):Gv Tryz.prog 179 [.slice au p0.length aw,.slice av p1.length ax] w (wBp w [] U (fun U_ L_ v=>v=.bool r/\L_=[])):=by
 unfold wCa at hm
 refine Gv.of Tryz.func179 Z Tryz.ntmps179 Tryz.results179 Z (sR fL1 Z (oA Z Z (eN (zG (sR fL5 Z (oM Z Z (oR Z (zW Z Z zq) (oM Z Z (oR Z (zW Z Z zq) (oR Z (ZU Z Z Z) (eN ?_)))))))))))
 by_cases c1:(↑p0.length:Int)=(↑p1.length:Int)
 have aj:=hm;rw [if_pos c1] at aj;replace c1:=zI c1
 refine zn (zo (fun h=>h c1.out)) (kN (zG (sR fL3 Z (oM Z Z (oR Z (zW Z Z zq) (oM Z Z (eN (zR ?_))))))))
 have q:=wBQ aj
 obtain ⟨r5,an⟩:=q
 have q:=wBP an
 obtain ⟨ap,bF⟩:=q
 replace ap:=zI ap
 refine yF (fun k4 _ σ_ w_=>∃ (U_:PHeap),σ_ 13=jV (↑k4:Int)/\σ_ 0=.slice au p0.length aw/\σ_ 1=.slice av p1.length ax/\σ_ 12=jV (↑p0.length:Int)/\PHeap.Le U U_/\sW w U U_ [] w_) bF ?_ ?_ ?_
 exact ⟨U,Z,Z,Z,Z,(zN _),hS⟩
 rintro k4 ⟨⟩ bZ ca az ao ⟨ay,am,a8,bb,bd,aq,bx⟩ bi bD
 try dsimp only at bi
 have a7:Hid ((↑k4:Int) < (↑p0.length:Int)):=zI (wAo ao)
 replace ao:=zI ao
 have bG:Hid (w64 ((↑k4:Int) + 1)=(↑(k4 + 1):Int)):=zI (by have h1:=ap.out;have h2:=a7.out;rw [wAQ] <;> omega)
 refine sR fL1 rfl (zf rfl rfl rfl rfl (fun _=>zV rfl am bd) (eN (zG (cT Z a7 (kN (zG (zR (sR fL2 rfl (zh rfl rfl rfl rfl rfl am (yw rfl rfl rfl rfl rfl rfl (eN (zG (ZY ZQ [3,3,3,1,3,3,3,1,3] fL9 (by kernel_rfl) ?_)))))))))))))
 have ai:=bx.drew
 generalize hw_W25:({ az with drawn:=az.drawn + 1 }:World)=bP at ai ⊢
 refine oM Z a8 (oM Z Z (bnK bi fun bN be bH=>?_))
 have br:=bA.le aq
 have q:=br.el (fun _=>rfl) (wAK be)
 obtain ⟨bR,bW,bt,bv⟩:=q
 refine oR Z (ZC Z Z bt Z zq Zn (wAg be)) (oL Z (ai.ldC (f:=0) bv (v:=.bool bN) Z Z yh Z) (oM Z bb (oM Z Z (bnK bH fun bO bf bI=>?_))))
 have bs:=bC.le aq
 have q:=bs.el (fun _=>rfl) (wAK bf)
 obtain ⟨bS,bX,bu,bw⟩:=q
 refine oR Z (ZC Z Z bu Z zq Zn (wAg bf)) (oL Z (ai.ldC (f:=0) bw (v:=.bool bO) Z Z yh Z) (oR Z (Runs.neB Z Z Z Tryz.runUnderlying4) (eN (ifc bI ?_ ?_))))
 intro ak bJ
 refine zn (nC ak.out) (ZO (zd (zF (rR fL2 Z (oR Z (zz (zY Z am Z) (congrArg (jV) bG.out)) (oM Z Z (zg ?_)))))))
 have q:=nD bJ
 obtain rfl:=q
 exact zF ⟨Z,_,Z,⟨ay,Z,a8,bb,bd,aq,ai⟩⟩
 intro ak bK
 refine ZA (nF (ak.out)) (sR fL1 Z (oA Z Z (eN (zS (zU (zK ?_))))))
 have q:=wAM bK
 obtain ⟨bM,bL,bn⟩:=q
 have q:=wBI aj an (bD bM bn)
 obtain rfl:=q
 refine zK (zU (zK ?_))
 have hE:=nD bL;first | subst r | cases hE
 exact ⟨Z,_,(zw Z),ay,_,ai,Z,Z⟩
 rintro ⟨⟩ b4 bQ ⟨bj,bp,bT,bU,bo,bV,bz⟩ bE
 have bg:=wCg aj an bE
 try dsimp only at bg
 have bm:Hid (¬ ((↑(((↑p0.length:Int):Int) - 0).toNat:Int) < (↑p0.length:Int))):=zI (wAc)
 refine sR fL1 Z (oR Z (zV Z bp bo) (eN (zG (cF Z bm (ZD (zb (zb (zr (zF (sR fL1 Z (oA Z Z (eN (zS ?_)))))))))))))
 have hE:=nD bg;first | subst r | cases hE
 exact ⟨Z,_,(zw Z),bj,_,bz,Z,Z⟩
 have bh:=hm;rw [if_neg c1] at bh;replace c1:=zI c1
 refine cT Z c1 (sR fL1 Z (oA Z Z (eN (zS (zK ?_)))))
 have hE:=nD bh;first | subst r | cases hE
 exact ⟨Z,_,(zw Z),U,_,hS,Z,Z⟩
theorem wFY (p0:List (List Bool)) (ay:Option Addr) (bb:Nat) (p1:List (List Bool)) (az:Option Addr) (bd:Nat) (w:World) (U:PHeap) (hS:St0 w U []) (bR:SlR U wGx ay bb p0) (bS:SlR U wGx az bd p1) {r:Bool} (hm:wBr p0 p1=some r):Gv Tryz.prog 101 [.slice ay p0.length bb,.slice az p1.length bd] w (wBp w [] U (fun U_ L_ v=>v=.bool r/\L_=[])):=by
 unfold wBr at hm
 refine Gv.of Tryz.func101 Z Tryz.ntmps101 Tryz.results101 Z (sR fL1 Z (oA Z Z (eN (zG (sR fL5 Z (oM Z Z (oR Z (zW Z Z ZL) (oM Z Z (oR Z (zW Z Z ZL) (oR Z (ZU Z Z Z) (eN ?_)))))))))))
 by_cases c1:(↑p0.length:Int)=(↑p1.length:Int)
 have aj:=hm;rw [if_pos c1] at aj;replace c1:=zI c1
 refine zn (zo (fun h=>h c1.out)) (kN (zG (sR fL3 Z (oM Z Z (oR Z (zW Z Z ZL) (oM Z Z (eN (zR ?_))))))))
 have q:=wBQ aj
 obtain ⟨r5,au⟩:=q
 have q:=wBP au
 obtain ⟨aw,bV⟩:=q
 replace aw:=zI aw
 refine yF (fun k4 _ σ_ w_=>∃ (U_:PHeap),σ_ 13=jV (↑k4:Int)/\σ_ 0=.slice ay p0.length bb/\σ_ 1=.slice az p1.length bd/\σ_ 12=jV (↑p0.length:Int)/\PHeap.Le U U_/\sW w U U_ [] w_) bV ?_ ?_ ?_
 exact ⟨U,Z,Z,Z,Z,(zN _),hS⟩
 rintro k4 ⟨⟩ cB cD bi av ⟨ak,ao,bm,bn,bo,ax,bO⟩ bv bT
 try dsimp only at bv
 have bj:Hid ((↑k4:Int) < (↑p0.length:Int)):=zI (wAo av)
 replace av:=zI av
 have bW:Hid (w64 ((↑k4:Int) + 1)=(↑(k4 + 1):Int)):=zI (by have h1:=aw.out;have h2:=bj.out;rw [wAQ] <;> omega)
 refine sR fL1 rfl (zf rfl rfl rfl rfl (fun _=>zV rfl ao bo) (eN (zG (cT Z bj (kN (zG (zR (sR fL2 rfl (zh rfl rfl rfl rfl rfl ao (yw rfl rfl rfl rfl rfl rfl (eN (zG (ZY ZQ [3,3,3,1,3,3,3,1,2,3] (wNd (.fx 8 (.fl 9 .nil) .stop)) (by kernel_rfl) ?_)))))))))))))
 have ai:=bO.drew
 generalize hw_W25:({ bi with drawn:=bi.drawn + 1 }:World)=bx at ai ⊢
 refine oM Z bm (oM Z Z (bnK bv fun bg bp bX=>?_))
 have bH:=bR.le ax
 have q:=bH.el (wAK bp)
 obtain ⟨bA,ci,cy,bM,ap,cd⟩:=q
 obtain ⟨a7,be,rfl,bI⟩:=cd
 replace ap:Cl ak bA (ci + k4 * 1) [.slice a7 bg.length be]:=ap
 refine oR Z (ZC Z Z bM Z ZL Zv (wAg bp)) (oL Z (ai.ldC (f:=0) ap (v:=.slice a7 bg.length be) Z Z yb Z) (oM Z bn (oM Z Z (bnK bX fun bh br bY=>?_))))
 have bJ:=bS.le ax
 have q:=bJ.el (wAK br)
 obtain ⟨bC,cj,cz,bN,aq,cg⟩:=q
 obtain ⟨a8,bf,rfl,bK⟩:=cg
 replace aq:Cl ak bC (cj + k4 * 1) [.slice a8 bh.length bf]:=aq
 refine oR Z (ZC Z Z bN Z ZL Zv (wAg br)) (oL Z (ai.ldC (f:=0) aq (v:=.slice a8 bh.length bf) Z Z yb Z) (bnK bY fun cA bL bZ=>zP 0 Z Z Z Z (zQ Z Z Tryz.call179 (zH Z (zH Z zZ)) Z) ai (fun hs=>wGN bg a7 be bh a8 bf bx ak hs bI bK bL) (.inr Z) ?_))
 rintro am co cx bz ch bP ⟨rfl,rfl⟩
 have bs:sW w U am [] bz:=bP
 refine oR Z (Za Z Z) (eN (ifc bZ ?_ ?_))
 intro an b4
 refine zn (nC an.out) (ZO (zd (zF (rR fL2 Z (oR Z (zz (zY Z ao Z) (congrArg (jV) bW.out)) (oM Z Z (zg ?_)))))))
 have q:=nD b4
 obtain rfl:=q
 exact zF ⟨Z,_,Z,⟨am,Z,bm,bn,bo,(ax.trans ch),bs⟩⟩
 intro an ca
 refine ZA (nF (an.out)) (sR fL1 Z (oA Z Z (eN (zS (zU (zK ?_))))))
 have q:=wAM ca
 obtain ⟨cm,cc,bE⟩:=q
 have q:=wBI aj au (bT cm bE)
 obtain rfl:=q
 refine zK (zU (zK ?_))
 have hE:=nD cc;first | subst r | cases hE
 exact ⟨Z,_,(zw Z),am,_,bs,Z,Z⟩
 rintro ⟨⟩ cC cp ⟨bw,bG,cr,ct,bF,cu,bQ⟩ bU
 have bt:=wCg aj au bU
 try dsimp only at bt
 have bD:Hid (¬ ((↑(((↑p0.length:Int):Int) - 0).toNat:Int) < (↑p0.length:Int))):=zI (wAc)
 refine sR fL1 Z (oR Z (zV Z bG bF) (eN (zG (cF Z bD (ZD (zb (zb (zr (zF (sR fL1 Z (oA Z Z (eN (zS ?_)))))))))))))
 have hE:=nD bt;first | subst r | cases hE
 exact ⟨Z,_,(zw Z),bw,_,bQ,Z,Z⟩
 have bu:=hm;rw [if_neg c1] at bu;replace c1:=zI c1
 refine cT Z c1 (sR fL1 Z (oA Z Z (eN (zS (zK ?_)))))
 have hE:=nD bu;first | subst r | cases hE
 exact ⟨Z,_,(zw Z),U,_,hS,Z,Z⟩
theorem wHT (p0:wAD) (bC:Option Addr) (bM:Nat) (bi:Option Addr) (bj:Nat) (p1:wAD) (bH:Option Addr) (bR:Nat) (bI:Option Addr) (bS:Nat) (w:World) (U:PHeap) (hS:St0 w U []) (fu:Sl U 1 bC bM p0.Rules.Classes.length (nA KL.encI p0.Rules.Classes)) (fw:SlR U wFL bi bj p0.Teams) (fy:Sl U 1 bH bR p1.Rules.Classes.length (nA KL.encI p1.Rules.Classes)) (fz:SlR U wFL bI bS p1.Teams) {r:Bool} (hm:wDU p0 p1=some r):Gv Tryz.prog 23 [.agg #[.slice bC p0.Rules.Classes.length bM,jV p0.Rules.Each,jV p0.Rules.Laps,jV p0.Rules.Spare,jV p0.Rules.Loop,jV p0.Rules.Unused,jV p0.Start,.slice bi p0.Teams.length bj],.agg #[.slice bH p1.Rules.Classes.length bR,jV p1.Rules.Each,jV p1.Rules.Laps,jV p1.Rules.Spare,jV p1.Rules.Loop,jV p1.Rules.Unused,jV p1.Start,.slice bI p1.Teams.length bS]] w (wBp w [] U (fun U_ L_ v=>v=.bool r/\L_=[])):=by
 unfold wDU at hm
 refine Gv.of Tryz.func23 Z Tryz.ntmps23 Tryz.results23 Z (sR gAi Z ?_)
 let B0:List Value:=[.slice bC p0.Rules.Classes.length bM,jV p0.Rules.Each,jV p0.Rules.Laps,jV p0.Rules.Spare,jV p0.Rules.Loop,jV p0.Rules.Unused,jV p0.Start,.slice bi p0.Teams.length bj]
 refine ZX (cs:=B0) rfl rfl rfl rfl rfl rfl (by rfl) hS ?_
 intro W1 b2 fj
 let B1:List Value:=[.slice bH p1.Rules.Classes.length bR,jV p1.Rules.Each,jV p1.Rules.Laps,jV p1.Rules.Spare,jV p1.Rules.Loop,jV p1.Rules.Unused,jV p1.Start,.slice bI p1.Teams.length bS]
 refine ZX (cs:=B1) rfl rfl rfl rfl rfl rfl (by rfl) fj ?_
 intro W5 b6 cw
 refine oA Z Z (eN (zG (sR (wHD (.fx 4 (wSR (.nil)) .stop)) Z (oR Z (zD Z Z zu Z ZZ) (oL Z (cw.ldBA (j:=1) Z Z Z yR ZZ (vs:=[.slice bC p0.Rules.Classes.length bM,jV p0.Rules.Each,jV p0.Rules.Laps,jV p0.Rules.Spare,jV p0.Rules.Loop,jV p0.Rules.Unused]) Z Z) (oR Z (zD Z Z zu Z ZZ) (oL Z (cw.ldBA (j:=0) Z Z Z yR ZZ (vs:=[.slice bH p1.Rules.Classes.length bR,jV p1.Rules.Each,jV p1.Rules.Laps,jV p1.Rules.Spare,jV p1.Rules.Loop,jV p1.Rules.Unused]) Z Z) (bnK hm fun x9 dV fI=>zP 0 Z Z Z Z (zQ Z Z Tryz.call52 (zH Z (zH Z zZ)) Z) cw (fun hs=>wFx p0.Rules bC bM p1.Rules bH bR W5 U hs fu fy dV) (.inr Z) ?_))))))))
 rintro bm gO ij dn dg eZ ⟨rfl,rfl⟩
 have a7:sW w U bm [.blk b6 27 B1,.blk b2 27 B0] dn:=eZ
 refine oR Z (Za Z Z) (oM Z Z (ifc fI ?_ ?_))
 intro au fO
 refine zf Z Z Z (zL Z Z (nC au.out)) (fun _=>zD Z Z zu Z zC) (zy Z Z Z (zL Z Z (nC au.out)) (a7.ldB (j:=1) Z Z Z zM (v:=jV p0.Start) Z) Z (zf Z Z Z (zL Z Z (nC au.out)) (fun _=>zD Z Z zu Z zC) (zy Z Z Z (zL Z Z (nC au.out)) (a7.ldB (j:=0) Z Z Z zM (v:=jV p1.Start) Z) Z (zf Z Z Z (zL Z Z (nC au.out)) (fun _=>ZU Z Z Z) (oR Z (za Z (nC au.out) Z) (oM Z Z (ifc fO ?_ ?_)))))))
 intro aj fV
 refine zf Z Z Z (zL Z Z (zo (fun h=>h aj.out))) (fun _=>zD Z Z zu Z Zu) (zy Z Z Z (zL Z Z (zo (fun h=>h aj.out))) (a7.ldB (j:=1) Z Z Z yG (v:=.slice bi p0.Teams.length bj) Z) Z (zf Z Z Z (zL Z Z (zo (fun h=>h aj.out))) (fun _=>zW Z Z ZN) (zf Z Z Z (zL Z Z (zo (fun h=>h aj.out))) (fun _=>zD Z Z zu Z Zu) (zy Z Z Z (zL Z Z (zo (fun h=>h aj.out))) (a7.ldB (j:=0) Z Z Z yG (v:=.slice bI p1.Teams.length bS) Z) Z (zf Z Z Z (zL Z Z (zo (fun h=>h aj.out))) (fun _=>zW Z Z ZN) (zf Z Z Z (zL Z Z (zo (fun h=>h aj.out))) (fun _=>ZU Z Z Z) (oR Z (za Z (zo (fun h=>h aj.out)) Z) (eN (ifc fV ?_ ?_)))))))))
 intro cj bf
 refine zn (zo (fun h=>h cj.out)) (kN (zG (sR fL4 Z (oR Z (zD Z Z zu Z Zu) (oL Z (a7.ldB (j:=1) Z Z Z yG (v:=.slice bi p0.Teams.length bj) Z) (oR Z (zW Z Z ZN) (oM Z Z (eN (zR ?_)))))))))
 have q:=wBQ bf
 obtain ⟨ig,be⟩:=q
 have q:=wBP be
 obtain ⟨cB,fD⟩:=q
 replace cB:=zI cB
 refine yF (fun bg _ σ_ w_=>∃ (U_:PHeap),σ_ 36=jV (↑bg:Int)/\σ_ 3=.pointer (some ⟨b6,0,none⟩)/\σ_ 34=.slice bi p0.Teams.length bj/\σ_ 35=jV (↑p0.Teams.length:Int)/\PHeap.Le bm U_/\sW w U U_ [.blk b6 27 B1,.blk b2 27 B0] w_) fD ?_ ?_ ?_
 exact ⟨bm,Z,Z,Z,Z,(zN _),a7⟩
 rintro bg ⟨⟩ ix iB gY cz ⟨bo,b4,cP,cQ,cR,cG,cZ⟩ df bt
 try dsimp only at df
 have cL:Hid ((↑bg:Int) < (↑p0.Teams.length:Int)):=zI (wAo cz)
 replace cz:=zI cz
 have fG:Hid (w64 ((↑bg:Int) + 1)=(↑(bg + 1):Int)):=zI (by have h1:=cB.out;have h2:=cL.out;rw [wAQ] <;> omega)
 refine sR fL1 Z (oR Z (zV Z b4 cR) (eN (zG (cT Z cL (kN (zG (zR (sR (wDw gAm) Z (oM Z b4 (bnK df fun ah cV gh=>?_))))))))))
 have eB:=fw.le dg
 have eC:=eB.le cG
 have q:=eC.el (wAK cV)
 obtain ⟨dw,gA,ip,eS,cp,gu⟩:=q
 obtain ⟨bJ,bT,bu,bv,rfl,eD,eG⟩:=gu
 replace cp:Cl bo dw (gA + bg * 3) [jV ah.Bib,.slice bJ ah.Classes.length bT,.slice bu ah.Legs.length bv]:=cp
 refine oR Z (ZC Z cQ eS b4 ZN ZS (wAg cV)) (oL Z (cZ.ldCA (f:=0) cp Z Z yc ZS (us:=[jV ah.Bib,.slice bJ ah.Classes.length bT,.slice bu ah.Legs.length bv]) Z Z) ?_)
 let B2:List Value:=[jV 0,.slice none 0 0,.slice none 0 0]
 refine ZB (cs:=B2) Z Z Z Z Z Zr Z cZ ?_
 intro gZ bb fk
 refine oA Z Z ?_
 let B3:List Value:=[jV ah.Bib,.slice bJ ah.Classes.length bT,.slice bu ah.Legs.length bv]
 refine ZK (j:=0) (vs:=B3) Z Z Z Z fk Z Z Z Z ZS (zJ Z) Z Z Z ?_
 intro dt fm
 have cu:sW w U bo [.blk bb 73 B3,.blk b6 27 B1,.blk b2 27 B0] dt:=fm
 refine eN (sR (wGD gAg) Z (oR Z (zD Z cP zu Z Zu) (oL Z (cu.ldB (j:=1) Z Z Z yG (v:=.slice bI p1.Teams.length bS) Z) (oM Z Z (bnK gh fun aq cW gi=>?_)))))
 have eH:=fz.le dg
 have eI:=eH.le cG
 have q:=eI.el (wAK cW)
 obtain ⟨dx,gC,iq,eV,cr,gv⟩:=q
 obtain ⟨bK,bU,bL,bV,rfl,eJ,eK⟩:=gv
 replace cr:Cl bo dx (gC + bg * 3) [jV aq.Bib,.slice bK aq.Classes.length bU,.slice bL aq.Legs.length bV]:=cr
 refine oR Z (ZC Z Z eV Z ZN ZS (wAg cW)) (oL Z (cu.ldCA (f:=0) cr Z Z yc ZS (us:=[jV aq.Bib,.slice bK aq.Classes.length bU,.slice bL aq.Legs.length bV]) Z Z) (ZB (cs:=B2) Z Z Z Z Z Zr Z cu ?_))
 intro g6 bd fq
 let B4:List Value:=[jV aq.Bib,.slice bK aq.Classes.length bU,.slice bL aq.Legs.length bV]
 refine ZK (j:=0) (vs:=B4) Z Z Z Z fq Z Z Z Z ZS (zJ Z) Z Z Z ?_
 intro cJ ft
 have bs:sW w U bo [.blk bd 73 B4,.blk bb 73 B3,.blk b6 27 B1,.blk b2 27 B0] cJ:=ft
 refine eN (zG (sR (wNe (.fx 10 (wRB (.nil)) .stop)) Z (oR Z (zD Z Z ZH Z zC) (oL Z (bs.ldB (j:=1) Z Z Z zM (v:=jV ah.Bib) Z) (oR Z (zD Z Z ZH Z zC) (oL Z (bs.ldB (j:=0) Z Z Z zM (v:=jV aq.Bib) Z) (oR Z (ZU Z Z Z) (oM Z Z (ifc gi ?_ ?_)))))))))
 intro an gj
 refine zf Z Z Z (zL Z Z (zo (fun h=>h an.out))) (fun _=>zD Z Z ZH Z zT) (zy Z Z Z (zL Z Z (zo (fun h=>h an.out))) (bs.ldB (j:=1) Z Z Z ze (v:=.slice bJ ah.Classes.length bT) Z) Z (zf Z Z Z (zL Z Z (zo (fun h=>h an.out))) (fun _=>zD Z Z ZH Z zT) (zy Z Z Z (zL Z Z (zo (fun h=>h an.out))) (bs.ldB (j:=0) Z Z Z ze (v:=.slice bK aq.Classes.length bU) Z) Z (bnK gj fun iv eM gm=>zP 0 Z Z Z (zL Z Z (zo (fun h=>h an.out))) (zQ Z Z Tryz.call51 (zH Z (zH Z zZ)) Z) bs (fun hs=>wCl ah.Classes bJ bT aq.Classes bK bU cJ bo hs eD eJ eM) (.inr Z) ?_))))
 rintro bx gN ii dm cC eW ⟨rfl,rfl⟩
 have bp:sW w U bx [.blk bd 73 B4,.blk bb 73 B3,.blk b6 27 B1,.blk b2 27 B0] dm:=eW
 refine zf Z Z Z (zL Z Z (zo (fun h=>h an.out))) (fun _=>Za Z Z) (oR Z (za Z (zo (fun h=>h an.out)) Z) (oM Z Z (ifc gm ?_ ?_)))
 intro ai fH
 refine zf Z Z Z (zL Z Z (nC ai.out)) (fun _=>zD Z Z ZH Z yT) (zy Z Z Z (zL Z Z (nC ai.out)) (bp.ldB (j:=1) Z Z Z yd (v:=.slice bu ah.Legs.length bv) Z) Z (zf Z Z Z (zL Z Z (nC ai.out)) (fun _=>zW Z Z ZW) (zf Z Z Z (zL Z Z (nC ai.out)) (fun _=>zD Z Z ZH Z yT) (zy Z Z Z (zL Z Z (nC ai.out)) (bp.ldB (j:=0) Z Z Z yd (v:=.slice bL aq.Legs.length bV) Z) Z (zf Z Z Z (zL Z Z (nC ai.out)) (fun _=>zW Z Z ZW) (zf Z Z Z (zL Z Z (nC ai.out)) (fun _=>ZU Z Z Z) (oR Z (za Z (nC ai.out) Z) (eN (ifc fH ?_ ?_)))))))))
 intro ch bA
 refine zn (zo (fun h=>h ch.out)) (kN (sR fL4 Z (oR Z (zD Z Z ZH Z yT) (oL Z (bp.ldB (j:=1) Z Z Z yd (v:=.slice bu ah.Legs.length bv) Z) (oR Z (zW Z Z ZW) (oM Z Z (eN (zR ?_))))))))
 have q:=wBQ bA
 obtain ⟨ie,bz⟩:=q
 have q:=wBP bz
 obtain ⟨cA,fC⟩:=q
 replace cA:=zI cA
 refine yF (fun bh _ σ_ w_=>∃ (U_:PHeap),σ_ 71=jV (↑bh:Int)/\σ_ 3=.pointer (some ⟨b6,0,none⟩)/\σ_ 7=.pointer (some ⟨bd,0,none⟩)/\σ_ 34=.slice bi p0.Teams.length bj/\σ_ 35=jV (↑p0.Teams.length:Int)/\σ_ 36=jV (↑bg:Int)/\σ_ 69=.slice bu ah.Legs.length bv/\σ_ 70=jV (↑ah.Legs.length:Int)/\PHeap.Le bx U_/\sW w U U_ [.blk bd 73 B4,.blk bb 73 B3,.blk b6 27 B1,.blk b2 27 B0] w_) fC ?_ ?_ ?_
 exact ⟨bx,Z,cP,Z,cQ,cR,b4,Z,Z,(zN _),bp⟩
 rintro bh ⟨⟩ iw iy gS cy ⟨bn,bZ,dJ,cM,dK,dL,dM,cN,cO,cD,cX⟩ de cx
 try dsimp only at de
 have cK:Hid ((↑bh:Int) < (↑ah.Legs.length:Int)):=zI (wAo cy)
 replace cy:=zI cy
 have fE:Hid (w64 ((↑bh:Int) + 1)=(↑(bh + 1):Int)):=zI (by have h1:=cA.out;have h2:=cK.out;rw [wAQ] <;> omega)
 refine sR fL1 Z (oR Z (zV Z bZ cO) (eN (zG (cT Z cK (kN (zG (zR (sR (wDw gAm) Z (oM Z bZ (bnK de fun ao cS fJ=>?_))))))))))
 have dW:=eG.le cC
 have dX:=dW.le cD
 have q:=dX.el (wAK cS)
 obtain ⟨du,gy,im,eP,cm,gq⟩:=q
 obtain ⟨bD,bN,bE,bO,rfl,dY,dZ⟩:=gq
 replace cm:Cl bn du (gy + bh * 3) [jV ao.Skier,.slice bD ao.Loops.length bN,.slice bE ao.Bouts.length bO]:=cm
 refine oR Z (ZC Z cN eP bZ ZW Zc (wAg cS)) (oL Z (cX.ldCA (f:=0) cm Z Z yy Zc (us:=[jV ao.Skier,.slice bD ao.Loops.length bN,.slice bE ao.Bouts.length bO]) Z Z) (ZB (cs:=B2) Z Z Z Z Z Zq Z cX ?_))
 intro gT bY eX
 refine oA Z Z ?_
 let B5:List Value:=[jV ao.Skier,.slice bD ao.Loops.length bN,.slice bE ao.Bouts.length bO]
 refine ZK (j:=0) (vs:=B5) Z Z Z Z eX Z Z Z Z Zc (zJ Z) Z Z Z ?_
 intro dp eY
 have ct:sW w U bn [.blk bY 76 B5,.blk bd 73 B4,.blk bb 73 B3,.blk b6 27 B1,.blk b2 27 B0] dp:=eY
 refine eN (sR (wGD gAg) Z (oR Z (zD Z cM ZH Z yT) (oL Z (ct.ldB (j:=1) Z Z Z yd (v:=.slice bL aq.Legs.length bV) Z) (oM Z Z (bnK fJ fun ap cU fK=>?_)))))
 have d6:=eK.le cC
 have d7:=d6.le cD
 have q:=d7.el (wAK cU)
 obtain ⟨dv,gz,io,eQ,co,gr⟩:=q
 obtain ⟨bF,bP,bG,bQ,rfl,d8,d9⟩:=gr
 replace co:Cl bn dv (gz + bh * 3) [jV ap.Skier,.slice bF ap.Loops.length bP,.slice bG ap.Bouts.length bQ]:=co
 refine oR Z (ZC Z Z eQ Z ZW Zc (wAg cU)) (oL Z (ct.ldCA (f:=0) co Z Z yy Zc (us:=[jV ap.Skier,.slice bF ap.Loops.length bP,.slice bG ap.Bouts.length bQ]) Z Z) (ZB (cs:=B2) Z Z Z Z Z Zq Z ct ?_))
 intro gU cg fc
 let B6:List Value:=[jV ap.Skier,.slice bF ap.Loops.length bP,.slice bG ap.Bouts.length bQ]
 refine ZK (j:=0) (vs:=B6) Z Z Z Z fc Z Z Z Z Zc (zJ Z) Z Z Z ?_
 intro cH fd
 have br:sW w U bn [.blk cg 76 B6,.blk bY 76 B5,.blk bd 73 B4,.blk bb 73 B3,.blk b6 27 B1,.blk b2 27 B0] cH:=fd
 refine eN (sR (wNe (.fx 10 (wRA (.fx 18 (.fl 19 (.fl 20 .nil)) .stop)) .stop)) Z (oR Z (zD Z Z ZR Z zC) (oL Z (br.ldB (j:=1) Z Z Z zM (v:=jV ao.Skier) Z) (oR Z (zD Z Z ZR Z zC) (oL Z (br.ldB (j:=0) Z Z Z zM (v:=jV ap.Skier) Z) (oR Z (ZU Z Z Z) (oM Z Z (ifc fK ?_ ?_))))))))
 intro ak fL
 refine zf Z Z Z (zL Z Z (zo (fun h=>h ak.out))) (fun _=>zD Z Z ZR Z zT) (zy Z Z Z (zL Z Z (zo (fun h=>h ak.out))) (br.ldB (j:=1) Z Z Z ze (v:=.slice bD ao.Loops.length bN) Z) Z (zf Z Z Z (zL Z Z (zo (fun h=>h ak.out))) (fun _=>zD Z Z ZR Z zT) (zy Z Z Z (zL Z Z (zo (fun h=>h ak.out))) (br.ldB (j:=0) Z Z Z ze (v:=.slice bF ap.Loops.length bP) Z) Z (bnK fL fun ir eh fM=>zP 0 Z Z Z (zL Z Z (zo (fun h=>h ak.out))) (zQ Z Z Tryz.call51 (zH Z (zH Z zZ)) Z) br (fun hs=>wCl ao.Loops bD bN ap.Loops bF bP cH bn hs dY d8 eh) (.inr Z) ?_))))
 rintro cc gP ik cI cE fe ⟨rfl,rfl⟩
 have ca:sW w U cc [.blk cg 76 B6,.blk bY 76 B5,.blk bd 73 B4,.blk bb 73 B3,.blk b6 27 B1,.blk b2 27 B0] cI:=fe
 refine zf Z Z Z (zL Z Z (zo (fun h=>h ak.out))) (fun _=>Za Z Z) (oR Z (za Z (zo (fun h=>h ak.out)) Z) (oM Z Z (ifc fM ?_ ?_)))
 intro am fN
 refine zf Z Z Z (zL Z Z (nC am.out)) (fun _=>zD Z Z ZR Z yH) (zy Z Z Z (zL Z Z (nC am.out)) (ca.ldB (j:=1) Z Z Z yQ (v:=.slice bE ao.Bouts.length bO) Z) Z (zf Z Z Z (zL Z Z (nC am.out)) (fun _=>zD Z Z ZR Z yH) (zy Z Z Z (zL Z Z (nC am.out)) (ca.ldB (j:=0) Z Z Z yQ (v:=.slice bG ap.Bouts.length bQ) Z) Z ?_)))
 have ep:=dZ.le cE
 have eu:=d9.le cE
 refine bnK fN fun it eA fP=>zP 0 Z Z Z (zL Z Z (nC am.out)) (zQ Z Z Tryz.call101 (zH Z (zH Z zZ)) Z) ca (fun hs=>wFY ao.Bouts bE bO ap.Bouts bG bQ cI cc hs ep eu eA) (.inr Z) ?_
 rintro cd gQ il dq gw ff ⟨rfl,rfl⟩
 have cY:sW w U cd [.blk cg 76 B6,.blk bY 76 B5,.blk bd 73 B4,.blk bb 73 B3,.blk b6 27 B1,.blk b2 27 B0] dq:=ff
 refine zf Z Z Z (zL Z Z (nC am.out)) (fun _=>Za Z Z) (oR Z (za Z (nC am.out) Z) (eN (ifc fP ?_ ?_)))
 intro ci fQ
 refine zn (nC ci.out) (ZO (zd (zF (rR fL2 Z (oR Z (zz (zY Z bZ Z) (congrArg (jV) fE.out)) (oM Z Z (zg ?_)))))))
 have q:=nD fQ
 obtain rfl:=q
 exact zF ⟨rfl,_,rfl,⟨cd,rfl,dJ,cM,dK,dL,dM,cN,cO,((cD.trans cE).trans gw),(cY.pick [2,3,4,5] _ (by decide) rfl)⟩⟩
 intro ci fR
 refine ZA (nF (ci.out)) (sR fL1 Z (oA Z Z (eN (zS (zU (zK ?_))))))
 have q:=wAM fR
 obtain ⟨gD,fS,dA⟩:=q
 have q:=wBI bA bz (cx gD dA)
 obtain rfl:=q
 refine zK (zU (zU (zK ?_)))
 have q:=wAM fS
 obtain ⟨gE,fT,dB⟩:=q
 have q:=wBI bf be (bt gE dB)
 obtain rfl:=q
 refine zK (zU (zK ?_))
 have hE:=nD fT;first | subst r | cases hE
 exact ⟨rfl,_,(zw rfl),cd,_,(cY.pick [] _ (by decide) rfl),rfl,rfl⟩
 intro am fU
 refine zc Z Z Z (zO Z Z (nF (am.out)) Z) (zc Z Z Z (zO Z Z (nF (am.out)) Z) (zc Z Z Z (zO Z Z (nF (am.out)) Z) (zc Z Z Z (zO Z Z (nF (am.out)) Z) (ZI Z Z Z (zO Z Z (nF (am.out)) Z) (zc Z Z Z (zO Z Z (nF (am.out)) Z) (oR Z (zX Z (nF (am.out)) Z) (eN (ZA Z (sR fL1 Z (oA Z Z (eN (zS (zU (zK ?_))))))))))))))
 have q:=wAM fU
 obtain ⟨gG,fW,dC⟩:=q
 have q:=wBI bA bz (cx gG dC)
 obtain rfl:=q
 refine zK (zU (zU (zK ?_)))
 have q:=wAM fW
 obtain ⟨gH,fY,dD⟩:=q
 have q:=wBI bf be (bt gH dD)
 obtain rfl:=q
 refine zK (zU (zK ?_))
 have hE:=nD fY;first | subst r | cases hE
 exact ⟨rfl,_,(zw rfl),cc,_,(ca.pick [] _ (by decide) rfl),rfl,rfl⟩
 intro ak fZ
 refine oT Z ak (oT Z ak (oT Z ak (oT Z ak (ZI Z Z Z (zO Z Z (Zl ak.out) Z) (oT Z ak (oR Z (zX Z (Zl ak.out) Z) (oM Z Z (oN Z (oN Z (oN Z (oN Z (ZI Z Z Z (zO Z Z Z Z) (oN Z (oR Z (zX Z Z Z) (eN (ZA Z (sR fL1 Z (oA Z Z (eN (zS (zU (zK ?_))))))))))))))))))))))
 have q:=wAM fZ
 obtain ⟨gI,f0,dE⟩:=q
 have q:=wBI bA bz (cx gI dE)
 obtain rfl:=q
 refine zK (zU (zU (zK ?_)))
 have q:=wAM f0
 obtain ⟨gJ,f4,dF⟩:=q
 have q:=wBI bf be (bt gJ dF)
 obtain rfl:=q
 refine zK (zU (zK ?_))
 have hE:=nD f4;first | subst r | cases hE
 exact ⟨rfl,_,(zw rfl),bn,_,(br.pick [] _ (by decide) rfl),rfl,rfl⟩
 rintro ⟨⟩ iz gV ⟨dh,dT,dN,g7,dO,dP,dQ,g8,dR,gx,fg⟩ fA
 have c9:=wCg bA bz fA
 try dsimp only at c9
 have dy:Hid (¬ ((↑(((↑ah.Legs.length:Int):Int) - 0).toNat:Int) < (↑ah.Legs.length:Int))):=zI (wAc)
 refine sR fL1 Z (oR Z (zV Z dT dR) (eN (zG (cF Z dy (ZD (zb (zb (zr (zd (zF (rR fL2 Z (oR Z (zz (zY Z dQ Z) (congrArg (jV) fG.out)) (oM Z Z (zg ?_))))))))))))))
 have q:=nD c9
 obtain rfl:=q
 exact zF ⟨rfl,_,rfl,⟨dh,rfl,dN,dO,dP,((cG.trans cC).trans gx),(fg.pick [2,3] _ (by decide) rfl)⟩⟩
 intro ch f5
 refine cT Z ch (sR fL1 Z (oA Z Z (eN (zS (zK (zU (zK ?_)))))))
 have q:=wAM f5
 obtain ⟨gK,f7,dG⟩:=q
 have q:=wBI bf be (bt gK dG)
 obtain rfl:=q
 refine zK (zU (zK ?_))
 have hE:=nD f7;first | subst r | cases hE
 exact ⟨rfl,_,(zw rfl),bx,_,(bp.pick [] _ (by decide) rfl),rfl,rfl⟩
 intro ai f8
 refine zc Z Z Z (zO Z Z (nF (ai.out)) Z) (zc Z Z Z (zO Z Z (nF (ai.out)) Z) (zc Z Z Z (zO Z Z (nF (ai.out)) Z) (zc Z Z Z (zO Z Z (nF (ai.out)) Z) (zc Z Z Z (zO Z Z (nF (ai.out)) Z) (zc Z Z Z (zO Z Z (nF (ai.out)) Z) (zc Z Z Z (zO Z Z (nF (ai.out)) Z) (oR Z (zX Z (nF (ai.out)) Z) (eN (ZA Z (sR fL1 Z (oA Z Z (eN (zS (zK (zU (zK ?_))))))))))))))))
 have q:=wAM f8
 obtain ⟨gL,f9,dH⟩:=q
 have q:=wBI bf be (bt gL dH)
 obtain rfl:=q
 refine zK (zU (zK ?_))
 have hE:=nD f9;first | subst r | cases hE
 exact ⟨rfl,_,(zw rfl),bx,_,(bp.pick [] _ (by decide) rfl),rfl,rfl⟩
 intro an gb
 refine oT Z an (oT Z an (oT Z an (oT Z an (ZI Z Z Z (zO Z Z (Zl an.out) Z) (oT Z an (oR Z (zX Z (Zl an.out) Z) (oM Z Z (oN Z (oN Z (oN Z (oN Z (oN Z (oN Z (oN Z (oR Z (zX Z Z Z) (eN (ZA Z (sR fL1 Z (oA Z Z (eN (zS (zK (zU (zK ?_))))))))))))))))))))))))
 have q:=wAM gb
 obtain ⟨gM,gc,dI⟩:=q
 have q:=wBI bf be (bt gM dI)
 obtain rfl:=q
 refine zK (zU (zK ?_))
 have hE:=nD gc;first | subst r | cases hE
 exact ⟨rfl,_,(zw rfl),bo,_,(bs.pick [] _ (by decide) rfl),rfl,rfl⟩
 rintro ⟨⟩ iA gW ⟨di,dU,g9,ib,dS,ic,fh⟩ fB
 have dd:=wCg bf be fB
 try dsimp only at dd
 have dz:Hid (¬ ((↑(((↑p0.Teams.length:Int):Int) - 0).toNat:Int) < (↑p0.Teams.length:Int))):=zI (wAc)
 refine sR fL1 Z (oR Z (zV Z dU dS) (eN (zG (cF Z dz (ZD (zb (zb (zr (zF (sR fL1 Z (oA Z Z (eN (zS ?_)))))))))))))
 have hE:=nD dd;first | subst r | cases hE
 exact ⟨rfl,_,(zw rfl),di,_,(fh.pick [] _ (by decide) rfl),rfl,rfl⟩
 intro cj ge
 refine cT Z cj (sR fL1 Z (oA Z Z (eN (zS (zK ?_)))))
 have hE:=nD ge;first | subst r | cases hE
 exact ⟨rfl,_,(zw rfl),bm,_,(a7.pick [] _ (by decide) rfl),rfl,rfl⟩
 intro aj gf
 refine oT Z aj (oT Z aj (oT Z aj (oT Z aj (oT Z aj (oT Z aj (oT Z aj (oR Z (zX Z (Zl aj.out) Z) (eN (ZA Z (sR fL1 Z (oA Z Z (eN (zS (zK ?_))))))))))))))
 have hE:=nD gf;first | subst r | cases hE
 exact ⟨rfl,_,(zw rfl),bm,_,(a7.pick [] _ (by decide) rfl),rfl,rfl⟩
 intro au gg
 refine zc Z Z Z (zO Z Z (nF (au.out)) Z) (zc Z Z Z (zO Z Z (nF (au.out)) Z) (zc Z Z Z (zO Z Z (nF (au.out)) Z) (zc Z Z Z (zO Z Z (nF (au.out)) Z) (zc Z Z Z (zO Z Z (nF (au.out)) Z) (oR Z (zX Z (nF (au.out)) Z) (oM Z Z (oN Z (oN Z (oN Z (oN Z (oN Z (oN Z (oN Z (oR Z (zX Z Z Z) (eN (ZA Z (sR fL1 Z (oA Z Z (eN (zS (zK ?_)))))))))))))))))))))
 have hE:=nD gg;first | subst r | cases hE
 exact ⟨rfl,_,(zw rfl),bm,_,(a7.pick [] _ (by decide) rfl),rfl,rfl⟩
end Go.Proofs.YtabadkdjndnliaaGreat
