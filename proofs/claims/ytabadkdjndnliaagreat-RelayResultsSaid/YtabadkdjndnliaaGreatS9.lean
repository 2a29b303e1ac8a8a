import Derived.Test.YtabadkdjndnliaaGreatS7
import Derived.Test.YtabadkdjndnliaaGreatS6
import Derived.Test.YtabadkdjndnliaaGreatS8
set_option linter.all false
open Go.Value renaming bool->nA
open List renaming flatMap->nD
open Bool renaming eq_false_iff->nE
open Option.some renaming inj->nG
namespace Go.Proofs.YtabadkdjndnliaaGreat
open Go.KL
def gCv:Sch:=.fx 3 (.fx 4 .nil .stop) .stop
def gCw:Sch:=.fx 0 (.fl 1 .nil) .stop
def gCx:Sch:=.fx 0 (.fx 1 .nil .stop) .stop
def gCy:Sch:=.fl 0 (.fx 1 .nil .stop)
def gCz:Sch:=.fl 5 (.fx 7 .nil .stop)
def gDa:Sch:=.fx 5 (.fx 6 .nil .stop) .stop
def gDb:Sch:=.fx 7 (.fl 8 .nil) .stop
def gDc:Sch:=.fx 1 (.fl 2 (.fl 3 .nil)) .stop
def gDd:Sch:=.fx 3 (.fl 4 (.fx 5 .nil .stop)) .stop
def gDe:Sch:=.fx 7 (.fx 8 (.fl 9 .nil) .stop) .stop
def gDf:Sch:=.fl 1 (.fx 2 (.fx 3 .nil .stop) .stop)
def gDg:Sch:=.fl 0 (.fx 1 (.fl 2 .nil) .stop)
def gDh:Sch:=.fl 5 (.fx 6 (.fx 7 .nil .stop) .stop)
def gDi:Sch:=.fl 0 (.fl 1 (.fx 2 .nil .stop))
def gDj:Sch:=.fx 0 gDc .stop
def gDk:Sch:=.fl 0 (.fl 1 (.fx 2 (.fl 3 .nil) .stop))
def gDl:Sch:=.fl 0 gDf
def gDm:Sch:=.fx 3 (.fx 4 (.fl 5 (.fx 6 .nil .stop)) .stop) .stop
def gDn:Sch:=.fl 0 (.fl 1 (.fx 2 (.fl 3 (.fl 4 .nil)) .stop))
def gDo:Sch:=.fl 0 (.fl 1 (.fl 3 (.fl 4 (.fx 2 gDh (.fx 6 (.fx 2 gCz .stop) .stop)))))
set_option maxHeartbeats 4000000
theorem wIh (p0:Int) (w:World) (U:PHeap) (hS:St0 w U [])  {r:Bool} (hm:wDx p0=some r):Gv Tryz.prog 123 [jV p0] w (wBp w [] U (fun U_ L_ v=>v=.bool r/\L_=[])):=by
 unfold wDx at hm
 refine Gv.of Tryz.func123 Z Tryz.ntmps123 Tryz.results123 Z (sR fL1 Z (oA Z Z (eN (sR fL3 Z (oM Z Z (oR Z (YM Z Z Z) (oA Z Z (eN (zS ?_)))))))))
 first | (obtain rfl:=nG hm) | cases hm
 exact ⟨Z,_,(zw Z),U,_,hS,Z,Z⟩
theorem wDz (p0:wAE) (bb:Option Addr) (bf:Nat) (p1:wCF) (bd:Option Addr) (bg:Nat) (be:Option Addr) (bh:Nat) (p2:List Int) (az:Option Addr) (a7:Nat) (p3:List Int) (au:Option Addr) (av:Nat) (w:World) (U:PHeap) (hS:St0 w U []) (cX:Sl U 1 bb bf p0.Classes.length (nD KL.encI p0.Classes)) (cY:Sl U 1 bd bg p1.Classes.length (nD KL.encI p1.Classes)) (cZ:SlR U wDe be bh p1.Times) (f5:Sl U 1 az a7 p2.length (nD KL.encI p2)) (f7:Sl U 1 au av p3.length (nD KL.encI p3)) {r:Int × Int} (hm:wFg p0 p1 p2 p3=some r):Gv Tryz.prog 44 [.agg #[.slice bb p0.Classes.length bf,jV p0.Each,jV p0.Laps,jV p0.Spare,jV p0.Loop,jV p0.Unused],.agg #[.slice bd p1.Classes.length bg,.slice be p1.Times.length bh],.slice az p2.length a7,.slice au p3.length av] w (wBp w [] U (fun U_ L_ v=>v=.tuple #[jV r.1,jV r.2]/\L_=[])):=by
 unfold wFg at hm
 refine Gv.of Tryz.func44 Z Tryz.ntmps44 Tryz.results44 Z (sR gDj Z ?_)
 let B0:List Value:=[.slice bb p0.Classes.length bf,jV p0.Each,jV p0.Laps,jV p0.Spare,jV p0.Loop,jV p0.Unused]
 refine ZX (cs:=B0) rfl rfl rfl rfl rfl rfl (by rfl) hS ?_
 intro W1 b2 fU
 let B1:List Value:=[.slice bd p1.Classes.length bg,.slice be p1.Times.length bh]
 refine ZX (cs:=B1) rfl rfl rfl rfl rfl rfl (by rfl) fU ?_
 intro W5 b6 bX
 refine oA Z Z (oA Z Z (eN (sR gDk Z (oL Z (bX.ldBA (j:=1) Z Z Z yR ZZ (vs:=B0) Z Z) (oL Z (bX.ldBA (j:=0) Z Z Z Tryz.isAgg93 YB (vs:=B1) Z Z) (bnK hm fun x9 d6 gh=>zP 0 Z Z Z Z (zQ Z Z Tryz.call40 (zH Z (zH Z zZ)) Z) bX (fun hs=>wEb p0 bb bf p1 bd bg be bh W5 U hs cX cY cZ d6) (.inr Z) ?_))))))
 rintro bi g6 iC cr bz fM ⟨rfl,rfl⟩
 have bj:sW w U bi [.blk b6 93 B1,.blk b2 24 B0] cr:=fM
 refine oA Z Z (eN (sR fL1 Z (oA Z Z (eN (zG (zR (sR fL3 Z (oM Z Z (oR Z (ZU Z Z Z) (oA Z Z (eN (ifc gh ?_ ?_))))))))))))
 intro bI gr
 refine zn (zo (fun h=>h bI.out)) (sR fL15 Z (oM Z Z (oR Z (zW Z Z zA) (oR Z (zD Z Z ZG Z zT) (oL Z (bj.ldB (j:=1) Z Z Z ze (v:=.slice bb p0.Classes.length bf) Z) (oR Z (zW Z Z zA) (oR Z (ZU Z Z Z) (oM Z Z (ifc gr ?_ ?_)))))))))
 intro ai gA
 refine zh Z Z Z (zL Z Z (zo (fun h=>h ai.out))) Z Z (zf Z Z Z (zL Z Z (zo (fun h=>h ai.out))) (fun _=>zW Z Z zA) (zf Z Z Z (zL Z Z (zo (fun h=>h ai.out))) (fun _=>zD Z Z yS Z zT) (zy Z Z Z (zL Z Z (zo (fun h=>h ai.out))) (bj.ldB (j:=0) Z Z Z ze (v:=.slice bd p1.Classes.length bg) Z) Z (zf Z Z Z (zL Z Z (zo (fun h=>h ai.out))) (fun _=>zW Z Z zA) (zf Z Z Z (zL Z Z (zo (fun h=>h ai.out))) (fun _=>ZU Z Z Z) (oR Z (za Z (zo (fun h=>h ai.out)) Z) (oA Z Z (eN (ifc gA ?_ ?_)))))))))
 intro bK gC
 refine zn (zo (fun h=>h bK.out)) (sR (.fl 0 (.fl 1 (.fx 2 (wNf (.fx 7 (wLT (.nil)) .stop)) .stop))) Z (oM Z Z (oM Z Z ?_)))
 have bS:=f5.le bz
 have fJ:FnOK Tryz.prog bi (.func (.func 122) #[] #[]) wGy wHg wCh:=⟨122,[],[],rfl,Tryz.call122,fun U1 w1 x y vs le hs ha hm=>by obtain rfl:=ha;exact wGS x w1 U1 hs  hm⟩
 refine bnK gC fun iM fw gM=>zP 0 Z Z Z Z (zQ Z Z Tryz.call114 (zH Z (zH Z zZ)) Z) bj (fun hs=>wDX p2 az a7 wCh (.func (.func 122) #[] #[]) cr bi hs bS fJ fw) (.inr Z) ?_
 rintro bC ib iG cw bp fV ⟨rfl,rfl⟩
 have cU:sW w U bC [.blk b6 93 B1,.blk b2 24 B0] cw:=fV
 refine oR Z (Za Z Z) (oM Z Z (ifc gM ?_ ?_))
 intro aq gN
 refine zh Z Z Z (zL Z Z (nC aq.out)) Z Z (zh Z Z Z (zL Z Z (nC aq.out)) Z Z ?_)
 have fy:=f7.le bz
 have cS:=fy.le bp
 have fK:FnOK Tryz.prog bC (.func (.func 122) #[] #[]) wGy wHg wCh:=⟨122,[],[],rfl,Tryz.call122,fun U1 w1 x y vs le hs ha hm=>by obtain rfl:=ha;exact wGS x w1 U1 hs  hm⟩
 refine bnK gN fun iO fz gO=>zP 0 Z Z Z (zL Z Z (nC aq.out)) (zQ Z Z Tryz.call114 (zH Z (zH Z zZ)) Z) cU (fun hs=>wDX p3 au av wCh (.func (.func 122) #[] #[]) cw bC hs cS fK fz) (.inr Z) ?_
 rintro bD ic iH cx br fW ⟨rfl,rfl⟩
 have cV:sW w U bD [.blk b6 93 B1,.blk b2 24 B0] cx:=fW
 refine zf Z Z Z (zL Z Z (nC aq.out)) (fun _=>Za Z Z) (oR Z (za Z (nC aq.out) Z) (oA Z Z (eN (ifc gO ?_ ?_))))
 intro bL gP
 refine zn (nC bL.out) (sR (.fl 0 gDc) Z (oM Z Z ?_))
 have bT:=cS.le br
 have fL:FnOK Tryz.prog bD (.func (.func 123) #[] #[]) wGy wHg wDx:=⟨123,[],[],rfl,Tryz.call123,fun U1 w1 x y vs le hs ha hm=>by obtain rfl:=ha;exact wIh x w1 U1 hs  hm⟩
 refine bnK gP fun iP fA gQ=>zP 0 Z Z Z Z (zQ Z Z Tryz.call114 (zH Z (zH Z zZ)) Z) cV (fun hs=>wDX p3 au av wDx (.func (.func 123) #[] #[]) cx bD hs bT fL fA) (.inr Z) ?_
 rintro bv ie iI dz a8 fY ⟨rfl,rfl⟩
 have bG:sW w U bv [.blk b6 93 B1,.blk b2 24 B0] dz:=fY
 refine oR Z (Za Z Z) (oA Z Z (eN (ifc gQ ?_ ?_)))
 intro bM ch
 refine zn (nC bM.out) (ZO (zd (zF (zG (yu fun bH bx=>?_)))))
 have dV:bH 2=.slice az p2.length a7:=(bx 2).trans rfl
 have cJ:bH 3=.slice au p3.length av:=(bx 3).trans rfl
 have cK:bH 4=.pointer (some ⟨b2,0,none⟩):=(bx 4).trans rfl
 have cL:bH 5=.pointer (some ⟨b6,0,none⟩):=(bx 5).trans rfl
 clear bx
 refine rR (wDw gCv) Z (oL Z (bG.ldBA (j:=0) Z Z cL Tryz.isAgg93 YB (vs:=B1) Z Z) (oL Z (bG.ldBA (j:=1) Z Z cK yR ZZ (vs:=B0) Z Z) ?_))
 let B2:List Value:=[.slice bd p1.Classes.length bg,.slice be p1.Times.length bh,.slice bb p0.Classes.length bf,jV p0.Each,jV p0.Laps,jV p0.Spare,jV p0.Loop,jV p0.Unused]
 let B3:List Value:=[.slice none 0 0,.slice none 0 0,.slice none 0 0,jV 0,jV 0,jV 0,jV 0,jV 0]
 refine oR Z (ZT (pv:=[(0,.agg B1.toArray),(1,.agg B0.toArray)]) (z:=B3) (cs:=B2) Z (wAA Z (wAA Z wAO)) Tryz.zeroValue249 wJL Z Z) (ZB (cs:=B3) Z Z Z Z Z Tryz.zeroValue249 Z bG ?_)
 intro ij ay fZ
 refine ZK (j:=0) (vs:=B2) Z Z Z Z fZ Z Z Z Z YO (zJ Z) Z Z Z ?_
 intro dA f0
 have f4:sW w U bv [.blk ay 249 B2,.blk b6 93 B1,.blk b2 24 B0] dA:=f0
 refine eN (zG (sR fL3 Z (oM Z cJ (oR Z (zW Z Z zA) (oM Z Z (eN (zR ?_)))))))
 have q:=wBQ ch
 obtain ⟨iB,bZ⟩:=q
 have q:=wBP bZ
 obtain ⟨cd,gf⟩:=q
 replace cd:=zI cd
 refine yF (fun ax _ σ_ w_=>∃ (U_:PHeap),σ_ 59=jV (↑ax:Int)/\σ_ 2=.slice az p2.length a7/\σ_ 3=.slice au p3.length av/\σ_ 4=.pointer (some ⟨b2,0,none⟩)/\σ_ 5=.pointer (some ⟨b6,0,none⟩)/\σ_ 12=.pointer (some ⟨ay,0,none⟩)/\σ_ 57=.slice au p3.length av/\σ_ 58=jV (↑p3.length:Int)/\PHeap.Le bv U_/\sW w U U_ [.blk ay 249 B2,.blk b6 93 B1,.blk b2 24 B0] w_) gf ?_ ?_ ?_
 exact ⟨bv,Z,dV,cJ,cK,cL,Z,Z,Z,(zN _),f4⟩
 rintro ax ⟨⟩ iS iW ik ca ⟨cp,bF,cM,dW,dX,dG,dH,cA,cB,bs,cW⟩ dg gc
 try dsimp only at dg
 have cy:Hid ((↑ax:Int) < (↑p3.length:Int)):=zI (wAo ca)
 replace ca:=zI ca
 have gg:Hid (w64 ((↑ax:Int) + 1)=(↑(ax + 1):Int)):=zI (by have h1:=cd.out;have h2:=cy.out;rw [wAQ] <;> omega)
 refine sR fL1 Z (oR Z (zV Z bF cB) (eN (zG (cT Z cy (kN (zG (zR (sR fL5 Z (oM Z bF (bnK dg fun dn cN cg=>?_))))))))))
 have d7:=bT.le a8
 have d8:=d7.le bs
 have q:=d8.el (fun _=>rfl) (wAK cN)
 obtain ⟨il,ix,fB,fG⟩:=q
 refine oR Z (ZC Z cA fB bF zA zC (wAg cN)) (oL Z (cW.ldC (f:=0) fG (v:=jV dn) Z Z zM Z) (oA Z Z (oA Z Z (eN (sR fL3 Z (oM Z cM (oR Z (zW Z Z zA) (oM Z Z (eN (zR ?_))))))))))
 have q:=wBQ cg
 obtain ⟨iA,bY⟩:=q
 have q:=wBP bY
 obtain ⟨cc,ge⟩:=q
 replace cc:=zI cc
 refine yF (fun bn _ σ_ w_=>∃ (U_:PHeap),σ_ 66=jV (↑bn:Int)/\σ_ 2=.slice az p2.length a7/\σ_ 3=.slice au p3.length av/\σ_ 4=.pointer (some ⟨b2,0,none⟩)/\σ_ 5=.pointer (some ⟨b6,0,none⟩)/\σ_ 12=.pointer (some ⟨ay,0,none⟩)/\σ_ 13=jV (↑ax:Int)/\σ_ 14=jV dn/\σ_ 57=.slice au p3.length av/\σ_ 58=jV (↑p3.length:Int)/\σ_ 59=jV (↑ax:Int)/\σ_ 64=.slice az p2.length a7/\σ_ 65=jV (↑p2.length:Int)/\PHeap.Le cp U_/\sW w U U_ [.blk ay 249 B2,.blk b6 93 B1,.blk b2 24 B0] w_) ge ?_ ?_ ?_
 exact ⟨cp,Z,cM,dW,dX,dG,dH,Z,Z,cA,cB,bF,Z,Z,(zN _),cW⟩
 rintro bn ⟨⟩ iR iT du b4 ⟨dq,bw,cC,cD,cE,bN,bO,bE,bP,cG,cH,cI,bQ,bR,bo,bV⟩ df f8
 try dsimp only at df
 have cz:Hid ((↑bn:Int) < (↑p2.length:Int)):=zI (wAo b4)
 replace b4:=zI b4
 have c9:Hid (w64 ((↑bn:Int) + 1)=(↑(bn + 1):Int)):=zI (by have h1:=cc.out;have h2:=cz.out;rw [wAQ] <;> omega)
 refine sR fL1 Z (oR Z (zV Z bw bR) (eN (zG (cT Z cz (kN (zG (zR (sR fL5 Z (oM Z bw (bnK df fun gY cO gi=>?_))))))))))
 have d9:=bS.le bp
 have eh:=d9.le br
 have ep:=eh.le a8
 have eu:=ep.le bs
 have eA:=eu.le bo
 have q:=eA.el (fun _=>rfl) (wAK cO)
 obtain ⟨im,iy,fC,fH⟩:=q
 refine oR Z (ZC Z bQ fC bw zA zC (wAg cO)) (oL Z (bV.ldC (f:=0) fH (v:=jV gY) Z Z zM Z) (oA Z Z (oA Z Z (eN (sR (wDw (.fx 3 (wQE (.nil)) .stop)) Z (oL Z (bV.ldBA (j:=0) Z Z bO Tryz.isAgg249 YO (vs:=B2) Z Z) (oM Z bE (oM Z Z ?_))))))))
 have eB:=cY.le bz
 have eC:=eB.le bp
 have eD:=eC.le br
 have eG:=eD.le a8
 have eH:=eG.le bs
 have eI:=eH.le bo
 have eJ:=cZ.le bz
 have eK:=eJ.le bp
 have eM:=eK.le br
 have eP:=eM.le a8
 have eQ:=eP.le bs
 have cP:=eQ.le bo
 have eS:=cX.le bz
 have eV:=eS.le bp
 have eW:=eV.le br
 have eX:=eW.le a8
 have eY:=eX.le bs
 have eZ:=eY.le bo
 refine bnK gi fun iK fc gj=>zP 0 Z Z Z Z (zQ Z Z Tryz.call124 (zH Z (zH Z (zH Z zZ))) Z) bV (fun hs=>wEc (⟨p1,p0⟩:wAt) bd bg be bh bb bf (↑ax:Int) (↑bn:Int) du dq hs eI cP eZ fc) (.inr Z) ?_
 rintro bu g7 iD dv ci fN ⟨rfl,rfl⟩
 have bm:sW w U bu [.blk ay 249 B2,.blk b6 93 B1,.blk b2 24 B0] dv:=fN
 refine oM Z Z (ifc gj ?_ ?_)
 intro af gm
 refine zh Z Z Z (zL Z Z (congrArg nA af.out)) Z Z (zh Z Z Z (zL Z Z (congrArg nA af.out)) Z bP (zf Z Z Z (zL Z Z (congrArg nA af.out)) (fun _=>yA Z Z Z) (zf Z Z Z (zL Z Z (congrArg nA af.out)) (fun _=>zD Z bN yS Z ZV) (zy Z Z Z (zL Z Z (congrArg nA af.out)) (bm.ldB (j:=1) Z Z Z Zj (v:=.slice be p1.Times.length bh) Z) Z (zh Z Z Z (zL Z Z (congrArg nA af.out)) Z bE (bnK gm fun dp cQ gq=>?_))))))
 have fd:=cP.le ci
 have q:=fd.el (wAK cQ)
 obtain ⟨dB,gU,iJ,fD,bU,gR⟩:=q
 obtain ⟨di,dm,rfl,fe⟩:=gR
 replace bU:Cl bu dB (gU + ax * 1) [.slice di dp.length dm]:=bU
 refine zf Z Z Z (zL Z Z (congrArg nA af.out)) (fun _=>ZC Z Z fD Z zm zT (wAg cQ)) (zy Z Z Z (zL Z Z (congrArg nA af.out)) (bm.ldC (f:=0) bU (v:=.slice di dp.length dm) Z Z ze Z) Z (zh Z Z Z (zL Z Z (congrArg nA af.out)) Z Z (bnK gq fun gZ cR gu=>?_)))
 have q:=fe.el (fun _=>rfl) (wAK cR)
 obtain ⟨io,iz,fE,fI⟩:=q
 refine zf Z Z Z (zL Z Z (congrArg nA af.out)) (fun _=>ZC Z Z fE Z zA zC (wAg cR)) (zy Z Z Z (zL Z Z (congrArg nA af.out)) (bm.ldC (f:=0) fI (v:=jV gZ) Z Z zM Z) Z (zf Z Z Z (zL Z Z (congrArg nA af.out)) (fun _=>yP Z Z Z) (oR Z (zX Z (congrArg nA af.out) Z) (eN (ifc gu ?_ ?_)))))
 intro bJ gv
 refine cT Z bJ (sR fL2 Z (oA Z Z (oA Z Z (eN (zS (zU (zK ?_)))))))
 have q:=wAM gv
 obtain ⟨gV,gw,dE⟩:=q
 have q:=wBI cg bY (f8 gV dE)
 obtain rfl:=q
 refine zK (zU (zU (zK ?_)))
 have q:=wAM gw
 obtain ⟨gW,gx,dF⟩:=q
 have q:=wBI ch bZ (gc gW dF)
 obtain rfl:=q
 refine zK (zU (zK ?_))
 cases gx
 exact ⟨rfl,_,(wFA rfl rfl),bu,_,(bm.pick [] _ (by decide) rfl),rfl,rfl⟩
 intro bJ gy
 refine cF Z bJ (ZO (zd (zF (rR fL2 Z (oR Z (zz (zY Z bw Z) (congrArg (jV) c9.out)) (oM Z Z (zg ?_)))))))
 have q:=nG gy
 obtain rfl:=q
 exact zF ⟨Z,_,Z,⟨bu,Z,cC,cD,cE,bN,bO,bE,bP,cG,cH,cI,bQ,bR,(bo.trans ci),bm⟩⟩
 intro af gz
 refine zc Z Z Z (zO Z Z (congrArg nA (nE.2 af.out)) Z) (zc Z Z Z (zO Z Z (congrArg nA (nE.2 af.out)) Z) (zc Z Z Z (zO Z Z (congrArg nA (nE.2 af.out)) Z) (zc Z Z Z (zO Z Z (congrArg nA (nE.2 af.out)) Z) (zc Z Z Z (zO Z Z (congrArg nA (nE.2 af.out)) Z) (zc Z Z Z (zO Z Z (congrArg nA (nE.2 af.out)) Z) (zc Z Z Z (zO Z Z (congrArg nA (nE.2 af.out)) Z) (zc Z Z Z (zO Z Z (congrArg nA (nE.2 af.out)) Z) (zc Z Z Z (zO Z Z (congrArg nA (nE.2 af.out)) Z) (zc Z Z Z (zO Z Z (congrArg nA (nE.2 af.out)) Z) (zc Z Z Z (zO Z Z (congrArg nA (nE.2 af.out)) Z) (zc Z Z Z (zO Z Z (congrArg nA (nE.2 af.out)) Z) (oR Z (za Z (congrArg nA (nE.2 af.out)) Z) (eN (zn Z (ZO (zd (zF (rR fL2 Z (oR Z (zz (zY Z bw Z) (congrArg (jV) c9.out)) (oM Z Z (zg ?_)))))))))))))))))))))
 have q:=nG gz
 obtain rfl:=q
 exact zF ⟨Z,_,Z,⟨bu,Z,cC,cD,cE,bN,bO,bE,bP,cG,cH,cI,bQ,bR,(bo.trans ci),bm⟩⟩
 rintro ⟨⟩ iU ii ⟨dr,dY,dI,dJ,dK,dL,dM,ip,iq,dN,dO,dP,ir,dQ,gS,fO⟩ f9
 have dd:=wCg cg bY f9
 try dsimp only at dd
 have dC:Hid (¬ ((↑(((↑p2.length:Int):Int) - 0).toNat:Int) < (↑p2.length:Int))):=zI (wAc)
 refine sR fL1 Z (oR Z (zV Z dY dQ) (eN (zG (cF Z dC (ZD (zb (zb (zr (zd (zF (rR fL2 Z (oR Z (zz (zY Z dP Z) (congrArg (jV) gg.out)) (oM Z Z (zg ?_))))))))))))))
 have q:=nG dd
 obtain rfl:=q
 exact zF ⟨Z,_,Z,⟨dr,Z,dI,dJ,dK,dL,dM,dN,dO,(bs.trans gS),fO⟩⟩
 rintro ⟨⟩ iV ct ⟨dt,dZ,dR,dS,dT,it,iu,iv,dU,dh,fP⟩ gb
 have de:=wCg ch bZ gb
 try dsimp only at de
 have dD:Hid (¬ ((↑(((↑p3.length:Int):Int) - 0).toNat:Int) < (↑p3.length:Int))):=zI (wAc)
 refine sR fL1 rfl (zf rfl rfl rfl rfl (fun _=>zV rfl dZ dU) (eN (zG (cF Z dD (ZD (zb (zb (zr (zF (zG (ZY ZQ [3,2,3,1,3,2,3,3,3,3] (.fl 0 (wMM (.fx 1 (.fx 5 (wST (.nil)) .stop) .stop))) (by kernel_rfl) ?_)))))))))))
 have bW:=fP.drew
 generalize hw_W255:({ ct with drawn:=ct.drawn + 1 }:World)=dw at bW ⊢
 refine oM Z dR (oR Z (zD Z dT ZG Z zC) (oL Z (bW.ldB (j:=2) Z Z Z zM (v:=jV p0.Each) Z) (oM Z dS ?_)))
 have ff:=bS.le bp
 have fg:=ff.le br
 have fh:=fg.le a8
 have fj:=fh.le dh
 refine bnK de fun iL fk gD=>zP 0 Z Z Z Z (zQ Z Z Tryz.call125 (zH Z zZ) Z) bW (fun hs=>wHS p2 az a7 dw dt hs fj fk) (.inr Z) ?_
 rintro cm g8 iE cu gT fQ ⟨rfl,rfl⟩
 have fR:sW w U cm [.blk ay 249 B2,.blk b6 93 B1,.blk b2 24 B0] cu:=fQ
 have fm:=bT.le a8
 have fq:=fm.le dh
 have ft:=fq.le gT
 refine bnK gD fun iN fu gE=>zP 0 Z Z Z Z (zQ Z Z Tryz.call125 (zH Z zZ) Z) fR (fun hs=>wHS p3 au av cu cm hs ft fu) (.inr Z) ?_
 rintro co g9 iF dx iw fS ⟨rfl,rfl⟩
 have fT:sW w U co [.blk ay 249 B2,.blk b6 93 B1,.blk b2 24 B0] dx:=fS
 refine oR Z (YW Z Z Z) (oR Z (yA Z Z Z) (oA Z Z (oA Z Z (eN (zS ?_)))))
 cases gE
 exact ⟨rfl,_,(wFA rfl rfl),co,_,(fT.pick [] _ (by decide) rfl),rfl,rfl⟩
 intro bM gG
 refine ZA (nF (bM.out)) (sR fL2 Z (oA Z Z (oA Z Z (eN (zS (zU (zK ?_)))))))
 cases gG
 exact ⟨rfl,_,(wFA rfl rfl),bv,_,(bG.pick [] _ (by decide) rfl),rfl,rfl⟩
 intro bL gH
 refine ZA (nF (bL.out)) (sR fL2 Z (oA Z Z (oA Z Z (eN (zS (zU (zK ?_)))))))
 cases gH
 exact ⟨rfl,_,(wFA rfl rfl),bD,_,(cV.pick [] _ (by decide) rfl),rfl,rfl⟩
 intro aq gI
 refine zc Z Z Z (zO Z Z (nF (aq.out)) Z) (zc Z Z Z (zO Z Z (nF (aq.out)) Z) (ZI Z Z Z (zO Z Z (nF (aq.out)) Z) (zc Z Z Z (zO Z Z (nF (aq.out)) Z) (oR Z (zX Z (nF (aq.out)) Z) (oA Z Z (eN (ZA Z (sR fL2 Z (oA Z Z (oA Z Z (eN (zS (zU (zK ?_))))))))))))))
 cases gI
 exact ⟨rfl,_,(wFA rfl rfl),bC,_,(cU.pick [] _ (by decide) rfl),rfl,rfl⟩
 intro bK gJ
 refine cT Z bK (sR fL2 Z (oA Z Z (oA Z Z (eN (zS (zU (zK ?_)))))))
 cases gJ
 exact ⟨rfl,_,(wFA rfl rfl),bi,_,(bj.pick [] _ (by decide) rfl),rfl,rfl⟩
 intro ai gK
 refine oT Z ai (oT Z ai (oT Z ai (oT Z ai (oT Z ai (oT Z ai (oR Z (zX Z (Zl ai.out) Z) (oA Z Z (eN (ZA Z (sR fL2 Z (oA Z Z (oA Z Z (eN (zS (zU (zK ?_))))))))))))))))
 cases gK
 exact ⟨rfl,_,(wFA rfl rfl),bi,_,(bj.pick [] _ (by decide) rfl),rfl,rfl⟩
 intro bI gL
 refine cT Z bI (sR fL3 Z (oM Z Z (oA Z Z (oA Z Z (eN (zS (zU (zK ?_))))))))
 cases gL
 exact ⟨rfl,_,(wFA rfl rfl),bi,_,(bj.pick [] _ (by decide) rfl),rfl,rfl⟩
theorem wKt (p0:wAE) (an:Option Addr) (ap:Nat) (p1:wCF) (aj:Option Addr) (ak:Nat) (ao:Option Addr) (aq:Nat) (p2:Int) (w:World) (U:PHeap) (hS:St0 w U []) (bI:Sl U 1 an ap p0.Classes.length (nD KL.encI p0.Classes)) (bJ:Sl U 1 aj ak p1.Classes.length (nD KL.encI p1.Classes)) (bK:SlR U wDe ao aq p1.Times) {r:Int × Int} (hm:wGa p0 p1 p2=some r):Gv Tryz.prog 46 [.agg #[.slice an p0.Classes.length ap,jV p0.Each,jV p0.Laps,jV p0.Spare,jV p0.Loop,jV p0.Unused],.agg #[.slice aj p1.Classes.length ak,.slice ao p1.Times.length aq],jV p2] w (wBp w [] U (fun U_ L_ v=>v=.tuple #[jV r.1,jV r.2]/\L_=[])):=by
 unfold wGa at hm
 refine Gv.of Tryz.func46 Z Tryz.ntmps46 Tryz.results46 Z (sR gDj Z ?_)
 let B0:List Value:=[.slice an p0.Classes.length ap,jV p0.Each,jV p0.Laps,jV p0.Spare,jV p0.Loop,jV p0.Unused]
 refine ZX (cs:=B0) rfl rfl rfl rfl rfl rfl (by rfl) hS ?_
 intro W1 b2 co
 let B1:List Value:=[.slice aj p1.Classes.length ak,.slice ao p1.Times.length aq]
 refine ZX (cs:=B1) rfl rfl rfl rfl rfl rfl (by rfl) co ?_
 intro W5 b6 bj
 refine oA Z Z (oA Z Z (eN (sR gDk Z (oL Z (bj.ldBA (j:=1) Z Z Z yR ZZ (vs:=B0) Z Z) (oL Z (bj.ldBA (j:=0) Z Z Z Tryz.isAgg93 YB (vs:=B1) Z Z) (bnK hm fun x9 bV cw=>zP 0 Z Z Z Z (zQ Z Z Tryz.call40 (zH Z (zH Z zZ)) Z) bj (fun hs=>wEb p0 an ap p1 aj ak ao aq W5 U hs bI bJ bK bV) (.inr Z) ?_))))))
 rintro bb cE cP bw bn cj ⟨rfl,rfl⟩
 have bi:sW w U bb [.blk b6 93 B1,.blk b2 24 B0] bw:=cj
 refine oA Z Z (eN (zG (zR (sR fL3 Z (oM Z Z (oR Z (ZU Z Z Z) (oA Z Z (eN (ifc cw ?_ ?_)))))))))
 intro bf cx
 refine zn (zo (fun h=>h bf.out)) (sR (wGD (.fx 5 (.fl 6 (.fl 7 .nil)) .stop)) Z (oM Z Z (oR Z (zD Z Z yS Z zT) (oL Z (bi.ldB (j:=0) Z Z Z ze (v:=.slice aj p1.Classes.length ak) Z) (oR Z (zW Z Z zA) (oR Z (yA Z Z Z) (bnK cx fun cU bW cy=>zP 0 Z Z Z Z (zQ Z Z ym (zH Z (zH Z (zH Z zZ))) Z) bi (fun hs=>wDC p2 0 (w64 ((↑p1.Classes.length:Int) - 1)) bw bb hs bW) (.inr Z) ?_)))))))
 rintro ax cG cQ bQ bo cm ⟨rfl,rfl⟩
 have ay:sW w U ax [.blk b6 93 B1,.blk b2 24 B0] bQ:=cm
 refine oR Z (Za Z Z) (oA Z Z (eN (ifc cy ?_ ?_)))
 intro bg cz
 refine zn (nC bg.out) (ZO (zd (zF (sR (wDw gCv) Z (oL Z (ay.ldBA (j:=0) Z Z Z Tryz.isAgg93 YB (vs:=B1) Z Z) (oL Z (ay.ldBA (j:=1) Z Z Z yR ZZ (vs:=B0) Z Z) ?_))))))
 let B2:List Value:=[.slice aj p1.Classes.length ak,.slice ao p1.Times.length aq,.slice an p0.Classes.length ap,jV p0.Each,jV p0.Laps,jV p0.Spare,jV p0.Loop,jV p0.Unused]
 let B3:List Value:=[.slice none 0 0,.slice none 0 0,.slice none 0 0,jV 0,jV 0,jV 0,jV 0,jV 0]
 refine oR Z (ZT (pv:=[(0,.agg B1.toArray),(1,.agg B0.toArray)]) (z:=B3) (cs:=B2) Z (wAA Z (wAA Z wAO)) Tryz.zeroValue249 wJL Z Z) (ZB (cs:=B3) Z Z Z Z Z Tryz.zeroValue249 Z ay ?_)
 intro cK be cp
 refine ZK (j:=0) (vs:=B2) Z Z Z Z cp Z Z Z Z YO (zJ Z) Z Z Z ?_
 intro bx cr
 have bG:sW w U ax [.blk be 249 B2,.blk b6 93 B1,.blk b2 24 B0] bx:=cr
 refine eN (sR (.fl 0 (.fx 1 (wFp (.nil)) .stop)) Z (oL Z (bG.ldBA (j:=0) Z Z Z Tryz.isAgg249 YO (vs:=B2) Z Z) ?_))
 have bX:=bJ.le bn
 have bD:=bX.le bo
 have bY:=bK.le bn
 have bE:=bY.le bo
 have bZ:=bI.le bn
 have bF:=bZ.le bo
 have q:=bnd cz
 obtain ⟨⟨bN,bO⟩,b4,bL⟩:=q
 try dsimp only at bL
 refine zP 0 Z Z Z Z (zQ Z Z Tryz.call126 (zH Z (zH Z zZ)) Z) bG (fun hs=>wEU (⟨p1,p0⟩:wAt) aj ak ao aq an ap (-1) bx ax hs bD bE bF b4) (.inr Z) ?_
 rintro bv cH cR bz bp ct ⟨bs,bA,rfl,rfl,cN⟩
 let B4:Res:=.row bs bA 3 1 (nD KL.encI bN)
 have bH:sW w U bv [B4,.blk be 249 B2,.blk b6 93 B1,.blk b2 24 B0] bz:=ct
 refine oM Z Z (oR Z (ZF Z Z (v:=.slice bs bN.length bA) Z) (oR Z (ZF Z Z (v:=jV bO) Z) (oA Z Z (oA Z Z (eN (sR (.fl 0 (.fl 1 (.fx 2 (wQx (.nil)) .stop))) Z (oL Z (bH.ldBA (j:=1) Z Z Z Tryz.isAgg249 YO (vs:=B2) Z Z) (oM Z Z ?_))))))))
 have ca:=bD.le bp
 have cc:=bE.le bp
 have cd:=bF.le bp
 have q:=bnd bL
 obtain ⟨⟨br,bP⟩,cg,bM⟩:=q
 try dsimp only at bM
 refine zP 0 Z Z Z Z (zQ Z Z Tryz.call126 (zH Z (zH Z zZ)) Z) bH (fun hs=>wEU (⟨p1,p0⟩:wAt) aj ak ao aq an ap p2 bz bv hs ca cc cd cg) (.inr Z) ?_
 rintro bd cI cS bS cO cu ⟨a8,bC,rfl,rfl,ch⟩
 have bm:sW w U bd [.row a8 bC 3 1 (nD KL.encI br),B4,.blk be 249 B2,.blk b6 93 B1,.blk b2 24 B0] bS:=cu
 refine oM Z Z (oR Z (ZF Z Z (v:=.slice a8 br.length bC) Z) (oR Z (ZF Z Z (v:=jV bP) Z) (oA Z Z (oA Z Z (eN (zG (sR fL2 Z (oM Z Z ?_))))))))
 have ci:a8.isNone=decide (br=[]):=wLd (j:=0) bm rfl (fun _=>rfl) (by decide) ch
 refine oR Z (Runs.eqNilR Z Z Z zA ci) (eN (ifc bM ?_ ?_))
 intro bh cA
 refine cT Z bh (sR fL2 Z (oA Z Z (oA Z Z (eN (zS (zK ?_))))))
 cases cA
 exact ⟨rfl,_,(wFA rfl rfl),bd,_,(bm.pick [] _ (by decide) rfl),rfl,rfl⟩
 intro bh cB
 refine cF Z bh (kN (zG (yu fun a7 aw=>?_)))
 have cL:a7 6=jV 0:=(aw 6).trans rfl
 have cM:a7 7=jV 0:=(aw 7).trans rfl
 have bT:a7 11=jV bO:=(aw 11).trans rfl
 have bU:a7 13=jV bP:=(aw 13).trans rfl
 clear aw
 refine rR fL5 Z (oM Z bU (oM Z bT (oR Z (yA Z Z Z) (oA Z Z (oA Z Z (eN (zS ?_)))))))
 cases cB
 exact ⟨rfl,_,(wFA rfl rfl),bd,_,(bm.pick [] _ (by decide) rfl),rfl,rfl⟩
 intro bg cC
 refine ZA (nF (bg.out)) (sR fL2 Z (oA Z Z (oA Z Z (eN (zS (zU (zK ?_)))))))
 cases cC
 exact ⟨rfl,_,(wFA rfl rfl),ax,_,(ay.pick [] _ (by decide) rfl),rfl,rfl⟩
 intro bf cD
 refine cT Z bf (sR fL3 Z (oM Z Z (oA Z Z (oA Z Z (eN (zS (zU (zK ?_))))))))
 cases cD
 exact ⟨rfl,_,(wFA rfl rfl),bb,_,(bi.pick [] _ (by decide) rfl),rfl,rfl⟩
theorem wGL (p0:wAS) (p1:(wAS->Option Bool)) (am:Nat) (ai:Value) (w:World) (U:PHeap) (hS:St0 w U []) (av:Cl U am 0 [ai]) (aw:FnOK Tryz.prog U ai wNK wNL p1) {r:Bool} (hm:wCY p0 p1=some r):Gv Tryz.prog 247 [.agg #[jV p0.Lo,jV p0.Hi],.pointer (some ⟨am,0,none⟩)] w (wBp w [] U (fun U_ L_ v=>v=.bool r/\L_=[])):=by
 unfold wCY at hm
 refine Gv.of Tryz.func247 Z Tryz.ntmps247 Tryz.results247 Z (sR gCw Z ?_)
 let B0:List Value:=[jV p0.Lo,jV p0.Hi]
 refine ZX (cs:=B0) rfl rfl rfl rfl rfl rfl (by rfl) hS ?_
 intro W1 b2 ah
 refine oA Z Z (eN (sR gDn Z (oL Z (ah.ldC (f:=0) av (v:=ai) Z Z Tryz.isAgg312 Z) (oL Z (ah.ldBA (j:=0) Z Z Z YY yL (vs:=B0) Z Z) (bnK hm fun x5 h6 ax=>YL (a:=p0) Z Z Z Z Z Z (zH Z zZ) ah aw Z h6 ?_)))))
 rintro U8 L9 a8 an a7 aq ⟨rfl,rfl⟩
 have au:sW w U U8 [.blk b2 121 B0] an:=aq
 refine oR Z (Za Z Z) (oA Z Z (eN (zS ?_)))
 cases ax
 exact ⟨rfl,_,(zw rfl),U8,_,(au.pick [] _ (by decide) rfl),rfl,rfl⟩
theorem wEP (p0:List wAS) (ao:Option Addr) (ap:Nat) (p1:(wAS->Option Bool)) (aq:Value) (w:World) (U:PHeap) (hS:St0 w U []) (bv:Sl U 2 ao ap p0.length (nD wAh p0)) (bw:FnOK Tryz.prog U aq wNK wNL p1) {r:Int} (hm:wCC p0 p1=some r):Gv Tryz.prog 316 [.slice ao p0.length ap,aq] w (wBp w [] U (fun U_ L_ v=>v=jV r/\L_=[])):=by
 unfold wCC at hm
 refine Gv.of Tryz.func316 Z Tryz.ntmps316 Tryz.results316 Z (sR fL1 Z (oA Z Z (eN (zG (sR fL3 Z (oM Z Z (oR Z (zW Z Z Zt) (oM Z Z (eN (zR ?_))))))))))
 have q:=wBQ hm
 obtain ⟨r3,aj⟩:=q
 have q:=wBP aj
 obtain ⟨am,bA⟩:=q
 replace am:=zI am
 refine yF (fun k2 _ σ_ w_=>∃ (U_:PHeap),σ_ 8=jV (↑k2:Int)/\σ_ 0=.slice ao p0.length ap/\σ_ 1=aq/\σ_ 7=jV (↑p0.length:Int)/\PHeap.Le U U_/\sW w U U_ [] w_) bA ?_ ?_ ?_
 exact ⟨U,Z,Z,Z,Z,(zN _),hS⟩
 rintro k2 ⟨⟩ bW bY W8 ak ⟨bL,ai,aw,ax,ay,an,a7⟩ bd bx
 try dsimp only at bd
 have av:Hid ((↑k2:Int) < (↑p0.length:Int)):=zI (wAo ak)
 replace ak:=zI ak
 have bC:Hid (w64 ((↑k2:Int) + 1)=(↑(k2 + 1):Int)):=zI (by have h1:=am.out;have h2:=av.out;rw [wAQ] <;> omega)
 refine sR fL1 Z (oR Z (zV Z ai ay) (eN (zG (cT Z av (kN (zG (zR (sR fL2 Z (oM Z ai (oA Z Z (eN (sR (wGD (.fx 5 .nil .stop)) Z (oM Z ax (oM Z aw (oM Z Z (bnK bd fun au az bD=>?_))))))))))))))))
 have bn:=bv.le an
 have q:=bn.el (fun _=>rfl) (wAK az)
 obtain ⟨bO,bS,br,bs⟩:=q
 refine oR Z (ZC Z Z br Z Zt yL (wAg az)) (oL Z (a7.ldCA (f:=0) bs Z Z YY yL (us:=[jV au.Lo,jV au.Hi]) Z Z) (bnK bD fun bV bo bE=>?_))
 have bp:=bw.le an
 refine YL (a:=au) Z Z Z Z Z Z (zH Z zZ) a7 bp Z bo ?_
 rintro ag bK bU bg bI bt ⟨rfl,rfl⟩
 have a8:sW w U ag [] bg:=bt
 refine eN (ifc bE ?_ ?_)
 intro ah bF
 refine ZA (congrArg nA ah.out) (sR fL2 Z (oM Z Z (oA Z Z (eN (zS (zU (zK ?_)))))))
 have q:=wAM bF
 obtain ⟨bJ,bG,bi⟩:=q
 have q:=wBI hm aj (bx bJ bi)
 obtain rfl:=q
 refine zK (zU (zK ?_))
 cases bG
 exact ⟨Z,_,(zw Z),ag,_,a8,Z,Z⟩
 intro ah bH
 refine zn (congrArg nA (nE.2 ah.out)) (ZO (zd (zF (rR fL2 Z (oR Z (zz (zY Z ai Z) (congrArg (jV) bC.out)) (oM Z Z (zg ?_)))))))
 have q:=nG bH
 obtain rfl:=q
 exact zF ⟨Z,_,Z,⟨ag,Z,aw,ax,ay,(an.trans bI),a8⟩⟩
 rintro ⟨⟩ bX bM ⟨bf,bm,bP,bQ,bj,bR,bu⟩ bz
 have bb:=wCg hm aj bz
 try dsimp only at bb
 have bh:Hid (¬ ((↑(((↑p0.length:Int):Int) - 0).toNat:Int) < (↑p0.length:Int))):=zI (wAc)
 refine sR fL1 Z (oR Z (zV Z bm bj) (eN (zG (cF Z bh (ZD (zb (zb (zr (zF (sR fL1 Z (oA Z Z (eN (zS ?_)))))))))))))
 cases bb
 exact ⟨Z,_,(zw Z),bf,_,bu,Z,Z⟩
theorem wEI (p0:List wAS) (ah:Option Addr) (ai:Nat) (p1:(wAS->Option Bool)) (aj:Value) (w:World) (U:PHeap) (hS:St0 w U []) (au:Sl U 2 ah ai p0.length (nD wAh p0)) (av:FnOK Tryz.prog U aj wNK wNL p1) {r:Bool} (hm:wBc p0 p1=some r):Gv Tryz.prog 246 [.slice ah p0.length ai,aj] w (wBp w [] U (fun U_ L_ v=>v=.bool r/\L_=[])):=by
 unfold wBc at hm
 refine Gv.of Tryz.func246 Z Tryz.ntmps246 Tryz.results246 Z (sR fL1 Z (oA Z Z (eN (sR gDn Z (oM Z Z (oM Z Z (bnK hm fun x1 h2 am=>zP 0 Z Z Z Z (zQ Z Z Tryz.call316 (zH Z (zH Z zZ)) Z) hS (fun hs=>wEP p0 ah ai p1 aj w U hs au av h2) (.inr Z) ?_)))))))
 rintro U4 L5 v6 W7 ax aq ⟨rfl,rfl⟩
 have ap:sW w U U4 [] W7:=aq
 refine oR Z (YM Z Z Z) (oA Z Z (eN (zS ?_)))
 first | (obtain rfl:=nG am) | cases am
 exact ⟨Z,_,(zw Z),U4,_,ap,Z,Z⟩
set_option maxHeartbeats 4000000
theorem wGl (p0:List wAS) (am:Option Addr) (an:Nat) (p1:(wAS->Option Bool)) (aj:Value) (w:World) (U:PHeap) (hS:St0 w U []) (bg:Sl U 2 am an p0.length (nD wAh p0)) (aq:FnOK Tryz.prog U aj wNK wNL p1) {r:Bool} (hm:wEH p0 p1=some r):Gv Tryz.prog 162 [.slice am p0.length an,aj] w (wBp w [] U (fun U_ L_ v=>v=.bool r/\L_=[])):=by
 unfold wEH at hm
 refine Gv.of Tryz.func162 Z Tryz.ntmps162 Tryz.results162 Z (sR gCw Z (ZX (cs:=[aj]) Z Z Z Z Z Z (FnOK.cells aq) hS ?_))
 intro W1 b2 bd
 have q:=bd.freeze (k:=0) rfl
 obtain ⟨U5,au,ag,be⟩:=q
 replace ag:=Cl.of ag
 have bf:sW w U U5 [] W1:=be
 replace ag:Cl U5 b2 0 [aj]:=ag
 refine oA Z Z (eN (sR gDn Z (oM Z Z (oR Z (YN Z zZ (zH Z zZ)) ?_))))
 have ax:=bg.le au
 have ay:=aq.le au
 have a7:FnOK Tryz.prog U5 (.func (.func 247) #[] #[.pointer (some ⟨b2,0,none⟩)]) wNK wNL (fun x=>wCY x p1):=⟨247,[],[.pointer (some ⟨b2,0,none⟩)],rfl,Tryz.call247,fun U1 w1 x y vs le hs ha hm=>by obtain rfl:=ha;exact wGL x p1 b2 aj w1 U1 hs (ag.le le) (ay.le le) hm⟩
 refine bnK hm fun bo az bh=>zP 0 Z Z Z Z (zQ Z Z Tryz.call246 (zH Z (zH Z zZ)) Z) bf (fun hs=>wEI p0 am an (fun x=>wCY x p1) (.func (.func 247) #[] #[.pointer (some ⟨b2,0,none⟩)]) W1 U5 hs ax a7 az) (.inr Z) ?_
 rintro ao bj bn aw bm a8 ⟨rfl,rfl⟩
 have bb:sW w U ao [] aw:=a8
 refine oR Z (Za Z Z) (oA Z Z (eN (zS ?_)))
 cases bh
 exact ⟨Z,_,(zw Z),ao,_,bb,Z,Z⟩
theorem wIK (p0:wAS) (w:World) (U:PHeap) (hS:St0 w U [])  {r:Bool} (hm:wDm p0=some r):Gv Tryz.prog 163 [.agg #[jV p0.Lo,jV p0.Hi]] w (wBp w [] U (fun U_ L_ v=>v=.bool r/\L_=[])):=by
 unfold wDm at hm
 refine Gv.of Tryz.func163 rfl Tryz.ntmps163 Tryz.results163 rfl (sR gCw rfl (ZX (cs:=[jV p0.Lo,jV p0.Hi]) rfl rfl rfl rfl rfl rfl (by rfl) hS ?_))
 intro W1 b2 ag
 refine oA Z Z (eN (sR fL6 Z (oR Z (zD Z Z Zx Z zC) (oL Z (ag.ldB (j:=0) Z Z Z zM (v:=jV p0.Lo) Z) (oR Z (zD Z Z Zx Z zC) (oL Z (ag.ldB (j:=0) Z Z Z zM (v:=jV p0.Hi) Z) (oR Z (Runs.leq Z Z Z) (oA Z Z (eN (zS ?_))))))))))
 first | (obtain rfl:=nG hm) | cases hm
 exact ⟨rfl,_,(zw rfl),U,_,(ag.pick [] _ (by decide) rfl),rfl,rfl⟩
theorem wJR (p0:List wAS) (ax:Option Addr) (ay:Nat) (w:World) (U:PHeap) (hS:St0 w U []) (cj:Sl U 2 ax ay p0.length (nD wAh p0)) {r:(List wAS) × Int} (hm:wFJ p0=some r):Gv Tryz.prog 83 [.slice ax p0.length ay] w (wBp w [] U (fun U_ L_ v=>∃ (A0:Option Addr) (c0:Nat),v=.tuple #[.slice A0 r.1.length c0,jV r.2]/\L_=[.row A0 c0 121 2 (nD wAh r.1)])):=by
 unfold wFJ at hm
 refine Gv.of Tryz.func83 Z Tryz.ntmps83 Tryz.results83 Z (sR fL2 Z (oA Z Z (oA Z Z (eN (zG (zR (sR fL4 Z (oM Z Z (oR Z (zW Z Z Zt) (oR Z (yP Z Z Z) (oA Z Z (eN ?_))))))))))))
 by_cases c1:40 < (↑p0.length:Int)
 have cm:=hm;rw [if_pos c1] at cm;replace c1:=zI c1
 refine cT Z c1 (sR fL2 Z (oA Z Z (oA Z Z (eN (zS (zU (zK ?_)))))))
 have dD:=hS.nilrow 121 2
 cases cm
 exact ⟨Z,_,(wFA Z Z),U,_,dD,none,0,Z,Z⟩
 have co:=hm;rw [if_neg c1] at co;replace c1:=zI c1
 refine cF Z c1 (sR (.fl 0 gDc) Z (oM Z Z ?_))
 have dn:FnOK Tryz.prog U (.func (.func 163) #[] #[]) wNK wNL wDm:=⟨163,[],[],rfl,Tryz.call163,fun U1 w1 x y vs le hs ha hm=>by obtain rfl:=ha;exact wIK x w1 U1 hs  hm⟩
 refine bnK co fun x7 h8 eh=>zP 0 Z Z Z Z (zQ Z Z Tryz.call162 (zH Z (zH Z zZ)) Z) hS (fun hs=>wGl p0 ax ay wDm (.func (.func 163) #[] #[]) w U hs cj dn h8) (.inr Z) ?_
 rintro bx eC fe cz eu dt ⟨rfl,rfl⟩
 have cd:sW w U bx [] cz:=dt
 refine oR Z (Za Z Z) (oA Z Z (eN (ifc eh ?_ ?_)))
 intro bK dZ
 refine zn (nC bK.out) (ZO (zd (zF (sR fL1 Z (oA Z Z (eN (zG (sR fL3 Z (oM Z Z (oR Z (zW Z Z Zt) (oM Z Z (eN (zR (bnK dZ fun fj dL d8=>?_))))))))))))))
 have q:=wAw dL
 obtain ⟨bN,dM⟩:=q
 replace bN:=zI bN
 refine CK.forN' (fun a7 bf σ_ w_=>∃ (U_:PHeap) (bh:Option Addr) (bn:Nat),σ_ 20=jV (↑a7:Int)/\σ_ 0=.slice ax p0.length ay/\σ_ 4=.slice bh bf.length bn/\σ_ 18=.slice ax p0.length ay/\σ_ 19=jV (↑p0.length:Int)/\PHeap.Le bx U_/\sW w U U_ [.row bh bn 121 2 (nD wAh bf)] w_) dM ?_ ?_ ?_
 have dE:=cd.nilrow 121 2
 exact ⟨bx,none,0,Z,Z,Z,Z,Z,(zN _),dE⟩
 rintro a7 bf fh ft eJ bM ⟨bz,bh,bn,bC,bW,cX,bX,bY,ct,ci⟩ ep
 have bV:Hid ((↑a7:Int) < (↑p0.length:Int)):=zI (wAo bM)
 replace bM:=zI bM
 have dP:Hid (w64 ((↑a7:Int) + 1)=(↑(a7 + 1):Int)):=zI (by have h1:=bN.out;have h2:=bV.out;rw [wAQ] <;> omega)
 refine sR fL1 Z (oR Z (zV Z bC bY) (eN (zG (cT Z bV (kN (zG (zR (sR (wDw gDd) Z (oM Z bC (bnK ep fun bb b4 d9=>?_))))))))))
 have de:=cj.le eu
 have ca:=de.le ct
 have q:=ca.el (fun _=>rfl) (wAK b4)
 obtain ⟨eQ,fd,dh,dm⟩:=q
 refine oR Z (ZC Z bX dh bC Zt yL (wAg b4)) (oL Z (ci.ldCA (f:=0) dm Z Z YY yL (us:=[jV bb.Lo,jV bb.Hi]) Z Z) ?_)
 let B0:List Value:=[jV 0,jV 0]
 refine ZB (cs:=B0) Z Z Z Z Z yW Z ci ?_
 intro eK aj dF
 refine oA Z Z ?_
 let B1:List Value:=[jV bb.Lo,jV bb.Hi]
 refine ZK (j:=0) (vs:=B1) Z Z Z Z dF Z Z Z Z yL (zJ Z) Z Z Z ?_
 intro cH dG
 let B2:Res:=.row bh bn 121 2 (nD wAh bf)
 have dH:sW w U bz [.blk aj 121 B1,B2] cH:=dG
 refine eN (sR (.fl 0 (.fx 1 (.fx 2 .nil .stop) .stop)) Z ?_)
 let B3:List Value:=[jV 1,jV 1]
 refine oR Z (ZT (pv:=[(0,jV 1),(1,jV 1)]) (z:=B0) (cs:=B3) Z (wAA Z (wAA Z wAO)) yW wFM Z Z) (ZB (cs:=B0) Z Z Z Z Z yW Z dH ?_)
 intro eM ao dI
 refine ZK (j:=0) (vs:=B3) Z Z Z Z dI Z Z Z Z yL (zJ Z) Z Z Z ?_
 intro cI dJ
 have dK:sW w U bz [.blk ao 121 B3,.blk aj 121 B1,B2] cI:=dJ
 refine eN (zG (sR fL3 Z (oM Z bW (oR Z (zW Z Z Zt) (oM Z Z (eN (zR ?_)))))))
 have q:=bnd d9
 obtain ⟨⟨bD,bE⟩,dN,cp⟩:=q
 try dsimp only at cp
 have q:=wAw dN
 obtain ⟨bO,dO⟩:=q
 replace bO:=zI bO
 refine CK.forN' (fun bw (az,am) σ_ w_=>∃ (U_:PHeap),σ_ 28=jV (↑bw:Int)/\σ_ 0=.slice ax p0.length ay/\σ_ 4=.slice bh bf.length bn/\σ_ 5=jV (↑a7:Int)/\σ_ 6=.pointer (some ⟨aj,0,none⟩)/\σ_ 7=.pointer (some ⟨ao,0,none⟩)/\σ_ 18=.slice ax p0.length ay/\σ_ 19=jV (↑p0.length:Int)/\σ_ 20=jV (↑a7:Int)/\σ_ 26=.slice ax p0.length ay/\σ_ 27=jV (↑p0.length:Int)/\PHeap.Le bz U_/\sW w U U_ [.blk ao 121 [jV az,jV am],.blk aj 121 B1,B2] w_) dO ?_ ?_ ?_
 exact ⟨bz,Z,bW,cX,Z,Z,Z,bX,bY,bC,Z,Z,(zN _),dK⟩
 rintro bw ⟨az,am⟩ fg fk eD bL ⟨an,aw,bo,bp,ap,av,ah,br,bs,bt,bd,be,bg,cc⟩ cr
 try dsimp only at cr
 have bT:Hid ((↑bw:Int) < (↑p0.length:Int)):=zI (wAo bL)
 replace bL:=zI bL
 have bv:Hid (w64 ((↑bw:Int) + 1)=(↑(bw + 1):Int)):=zI (by have h1:=bO.out;have h2:=bT.out;rw [wAQ] <;> omega)
 refine sR fL1 Z (oR Z (zV Z aw be) (eN (zG (cT Z bT (kN (zG (zR (sR (wDw gDd) Z (oM Z aw (bnK cr fun a8 bZ dQ=>?_))))))))))
 have c9:=ca.le bg
 have q:=c9.el (fun _=>rfl) (wAK bZ)
 obtain ⟨eP,fc,dg,di⟩:=q
 refine oR Z (ZC Z bd dg aw Zt yL (wAg bZ)) (oL Z (cc.ldCA (f:=0) di Z Z YY yL (us:=[jV a8.Lo,jV a8.Hi]) Z Z) (ZB (cs:=B0) Z Z Z Z Z yW Z cc ?_))
 intro eG bA dp
 refine oA Z Z ?_
 let B4:List Value:=[jV a8.Lo,jV a8.Hi]
 refine ZK (j:=0) (vs:=B4) Z Z Z Z dp Z Z Z Z yL (zJ Z) Z Z Z ?_
 intro cA dq
 have ak:sW w U an [.blk bA 121 B4,.blk ao 121 [jV az,jV am],.blk aj 121 B1,B2] cA:=dq
 refine eN (zG (sR wNh Z (oM Z Z (oM Z ap (oR Z (ZU Z Z Z) (oM Z Z (ifc dQ ?_ ?_)))))))
 intro af dR
 refine zc Z Z Z (zO Z Z (zo (fun h=>h af.out)) Z) (zc Z Z Z (zO Z Z (zo (fun h=>h af.out)) Z) (zc Z Z Z (zO Z Z (zo (fun h=>h af.out)) Z) (zc Z Z Z (zO Z Z (zo (fun h=>h af.out)) Z) (zc Z Z Z (zO Z Z (zo (fun h=>h af.out)) Z) (oR Z (za Z (zo (fun h=>h af.out)) Z) (eN (zn Z (kN (sR wNh Z (oM Z Z (oM Z ap (oR Z (ZU Z Z Z) (oM Z Z (zc Z Z Z (zO Z Z (zo (fun h=>h af.out)) Z) (zc Z Z Z (zO Z Z (zo (fun h=>h af.out)) Z) (zc Z Z Z (zO Z Z (zo (fun h=>h af.out)) Z) (zc Z Z Z (zO Z Z (zo (fun h=>h af.out)) Z) (zc Z Z Z (zO Z Z (zo (fun h=>h af.out)) Z) (oR Z (za Z (zo (fun h=>h af.out)) Z) (eN (zn Z (ZO (zd (zF (rR fL2 Z (oR Z (zz (zY Z aw Z) (congrArg (jV) bv.out)) (oM Z Z (zg ?_))))))))))))))))))))))))))))
 cases dR
 exact zF ⟨rfl,⟨an,rfl,bo,bp,ap,av,ah,br,bs,bt,bd,be,bg,(ak.pick [1,2,3] _ (by decide) rfl)⟩⟩
 intro af dS
 refine rU Z (wT Z af) (zD Z Z Zx Z zC) (zy Z Z Z (wT Z af) (ak.ldB (j:=0) Z Z Z zM (v:=jV a8.Hi) Z) Z (rU Z (wT Z af) (zD Z av Zx Z zC) (zy Z Z Z (wT Z af) (ak.ldB (j:=2) Z Z Z zM (v:=jV bb.Lo) Z) Z (rU Z (wT Z af) (zV Z Z Z) (oR Z (zX Z (Zl af.out) Z) (eN (ifc dS ?_ ?_)))))))
 intro bH dT
 refine cT Z bH (rR (wHD (.fx 4 .nil .stop)) Z (oR Z (zD Z ah Zx Z zC) (oL Z (ak.ldB (j:=1) Z Z Z zM (v:=jV az) Z) (oR Z (zY Z Z Z) (oR Z (zD Z ah Zx Z zC) (ZK (j:=1) (vs:=[jV (w64 (az + 1))]) Z Z Z Z ak Z Z Z Z zC (zJ Z) Z Z Z ?_))))))
 intro cB dr
 have bu:sW w U an [.blk bA 121 B4,.blk ao 121 [jV (w64 (az + 1)),jV am],.blk aj 121 B1,B2] cB:=dr
 refine eN (sR wNh Z (oM Z Z (oM Z ap (oR Z (ZU Z Z Z) (oM Z Z (rU Z (wT Z af) (zD Z Z Zx Z zC) (zy Z Z Z (wT Z af) (bu.ldB (j:=0) Z Z Z zM (v:=jV a8.Lo) Z) Z (rU Z (wT Z af) (zD Z av Zx Z zC) (zy Z Z Z (wT Z af) (bu.ldB (j:=2) Z Z Z zM (v:=jV bb.Hi) Z) Z (rU Z (wT Z af) (zV Z Z Z) (oR Z (zX Z (Zl af.out) Z) (eN (ifc dT ?_ ?_)))))))))))))
 intro bI dU
 refine cT Z bI (rR (wHD (.fx 4 .nil .stop)) Z (oR Z (zD Z ah Zx Z zC) (oL Z (bu.ldB (j:=1) Z Z Z zM (v:=jV am) Z) (oR Z (zY Z Z Z) (oR Z (zD Z ah Zx Z zC) (ZK (j:=1) (vs:=[jV (w64 (am + 1))]) Z Z Z Z bu Z Z Z Z zC (zJ Z) Z Z Z ?_))))))
 intro cC du
 have dv:sW w U an [.blk bA 121 B4,.blk ao 121 [jV (w64 (az + 1)),jV (w64 (am + 1))],.blk aj 121 B1,B2] cC:=du
 refine zg (zd (zF (rR fL2 Z (oR Z (zz (zY Z aw Z) (congrArg (jV) bv.out)) (oM Z Z (zg ?_))))))
 cases dU
 exact zF ⟨rfl,⟨an,rfl,bo,bp,ap,av,ah,br,bs,bt,bd,be,bg,(dv.pick [1,2,3] _ (by decide) rfl)⟩⟩
 intro bI dV
 refine cF Z bI (ZO (zd (zF (rR fL2 Z (oR Z (zz (zY Z aw Z) (congrArg (jV) bv.out)) (oM Z Z (zg ?_)))))))
 cases dV
 exact zF ⟨rfl,⟨an,rfl,bo,bp,ap,av,ah,br,bs,bt,bd,be,bg,(bu.pick [1,2,3] _ (by decide) rfl)⟩⟩
 intro bH dW
 refine cF Z bH (kN (sR wNh Z (oM Z Z (oM Z ap (oR Z (ZU Z Z Z) (oM Z Z (rU Z (wT Z af) (zD Z Z Zx Z zC) (zy Z Z Z (wT Z af) (ak.ldB (j:=0) Z Z Z zM (v:=jV a8.Lo) Z) Z (rU Z (wT Z af) (zD Z av Zx Z zC) (zy Z Z Z (wT Z af) (ak.ldB (j:=2) Z Z Z zM (v:=jV bb.Hi) Z) Z (rU Z (wT Z af) (zV Z Z Z) (oR Z (zX Z (Zl af.out) Z) (eN (ifc dW ?_ ?_))))))))))))))
 intro bJ dX
 refine cT Z bJ (rR (wHD (.fx 4 .nil .stop)) Z (oR Z (zD Z ah Zx Z zC) (oL Z (ak.ldB (j:=1) Z Z Z zM (v:=jV am) Z) (oR Z (zY Z Z Z) (oR Z (zD Z ah Zx Z zC) (ZK (j:=1) (vs:=[jV (w64 (am + 1))]) Z Z Z Z ak Z Z Z Z zC (zJ Z) Z Z Z ?_))))))
 intro cD dw
 have dx:sW w U an [.blk bA 121 B4,.blk ao 121 [jV az,jV (w64 (am + 1))],.blk aj 121 B1,B2] cD:=dw
 refine zg (zd (zF (rR fL2 Z (oR Z (zz (zY Z aw Z) (congrArg (jV) bv.out)) (oM Z Z (zg ?_))))))
 cases dX
 exact zF ⟨rfl,⟨an,rfl,bo,bp,ap,av,ah,br,bs,bt,bd,be,bg,(dx.pick [1,2,3] _ (by decide) rfl)⟩⟩
 intro bJ dY
 refine cF Z bJ (ZO (zd (zF (rR fL2 Z (oR Z (zz (zY Z aw Z) (congrArg (jV) bv.out)) (oM Z Z (zg ?_)))))))
 cases dY
 exact zF ⟨rfl,⟨an,rfl,bo,bp,ap,av,ah,br,bs,bt,bd,be,bg,(ak.pick [1,2,3] _ (by decide) rfl)⟩⟩
 rintro fm eH ⟨bG,cY,cN,cO,eS,eV,cP,cQ,cR,cS,eW,cU,eA,cg⟩
 have cK:Hid (¬ ((↑(((↑p0.length:Int):Int) - 0).toNat:Int) < (↑p0.length:Int))):=zI (wAc)
 refine sR fL1 Z (oR Z (zV Z cY cU) (eN (zG (cF Z cK (ZD (zb (zb (zr (zF (rR (.fl 0 (.fl 1 (.fx 2 (.fx 3 (.fl 4 .nil) .stop) .stop))) Z (oM Z cO ?_)))))))))))
 let B5:List Value:=[jV bD,jV bE]
 refine oL Z (cg.ldBA (j:=0) Z Z cP YY yL (vs:=B5) Z Z) (zk (pv:=[(0,.agg B5.toArray)]) (zs:=B0) (cs:=B5) Z Z Z Z Z (wAA Z wAO) Zt yL yW Z Z Z Z Z cg ?_)
 intro cE cJ dy
 let B6:Res:=.row (some ⟨cJ,0,none⟩) 1 121 2 (nD wAh [(⟨bD,bE⟩:wAS)])
 have ch:sW w U bG [B6,.blk ao 121 B5,.blk aj 121 B1,B2] cE:=dy
 refine bnK cp fun cu dd d6=>yE (j:=3) (enc:=wAh) (xs:=bf) (ys:=[(⟨bD,bE⟩:wAS)]) (zs:=cu) rfl rfl rfl rfl rfl Tryz.underlying125 wQO rfl rfl rfl rfl rfl rfl ch rfl rfl rfl (ch.srcR (j:=0) rfl (by decide) (wAC (f:=wAh) (sz:=2) (fun _=>rfl) [(⟨bD,bE⟩:wAS)])) (fun _=>rfl) (fun _=>rfl) dd rfl ?_
 intro bQ bU cG dz
 have dA:sW w U bG [B6,.blk ao 121 B5,.blk aj 121 B1,.row bQ bU 121 2 (nD wAh cu)] cG:=dz
 refine oA Z Z (zg (zd (zF (rR fL2 Z (oR Z (zz (zY Z cS Z) (congrArg (jV) dP.out)) (oM Z Z (zg ?_)))))))
 cases d6
 exact zF ⟨rfl,⟨bG,bQ,bU,rfl,cN,rfl,cQ,cR,(ct.trans eA),(dA.pick [3] _ (by decide) rfl)⟩⟩
 rintro fq eI ⟨cy,cw,cL,cZ,eX,cV,eY,cW,eZ,dB⟩
 have cM:Hid (¬ ((↑(((↑p0.length:Int):Int) - 0).toNat:Int) < (↑p0.length:Int))):=zI (wAc)
 refine sR fL1 Z (oR Z (zV Z cZ cW) (eN (zG (cF Z cM (ZD (zb (zb (zr (zF (sR fL3 Z (oM Z cV (oA Z Z (oA Z Z (eN (zS ?_)))))))))))))))
 cases d8
 exact ⟨Z,_,(wFA Z Z),cy,_,dB,cw,cL,Z,Z⟩
 intro bK d7
 refine ZA (nF (bK.out)) (sR fL2 Z (oA Z Z (oA Z Z (eN (zS (zU (zK ?_)))))))
 have dC:=cd.nilrow 121 2
 cases d7
 exact ⟨Z,_,(wFA Z Z),bx,_,dC,none,0,Z,Z⟩
theorem wFR (p0:List wAS) (au:Option Addr) (aw:Nat) (p1:List wAS) (av:Option Addr) (ax:Nat) (w:World) (U:PHeap) (hS:St0 w U []) (bD:Sl U 2 au aw p0.length (nD wAh p0)) (bE:Sl U 2 av ax p1.length (nD wAh p1)) {r:Bool} (hm:wDS p0 p1=some r):Gv Tryz.prog 84 [.slice au p0.length aw,.slice av p1.length ax] w (wBp w [] U (fun U_ L_ v=>v=.bool r/\L_=[])):=by
 unfold wDS at hm
 refine Gv.of Tryz.func84 Z Tryz.ntmps84 Tryz.results84 Z (sR fL1 Z (oA Z Z (eN (zG (sR fL5 Z (oM Z Z (oR Z (zW Z Z Zt) (oM Z Z (oR Z (zW Z Z Zt) (oR Z (ZU Z Z Z) (eN ?_)))))))))))
 by_cases c1:(↑p0.length:Int)=(↑p1.length:Int)
 have aj:=hm;rw [if_pos c1] at aj;replace c1:=zI c1
 refine zn (zo (fun h=>h c1.out)) (kN (zG (sR fL3 Z (oM Z Z (oR Z (zW Z Z Zt) (oM Z Z (eN (zR ?_))))))))
 have q:=wBQ aj
 obtain ⟨r5,an⟩:=q
 have q:=wBP an
 obtain ⟨ap,bH⟩:=q
 replace ap:=zI ap
 refine yF (fun k4 _ σ_ w_=>∃ (U_:PHeap),σ_ 13=jV (↑k4:Int)/\σ_ 0=.slice au p0.length aw/\σ_ 1=.slice av p1.length ax/\σ_ 12=jV (↑p0.length:Int)/\PHeap.Le U U_/\sW w U U_ [] w_) bH ?_ ?_ ?_
 exact ⟨U,Z,Z,Z,Z,(zN _),hS⟩
 rintro k4 ⟨⟩ bZ ca a8 ao ⟨a7,am,bd,be,bf,aq,bA⟩ bm bF
 try dsimp only at bm
 have bb:Hid ((↑k4:Int) < (↑p0.length:Int)):=zI (wAo ao)
 replace ao:=zI ao
 have bI:Hid (w64 ((↑k4:Int) + 1)=(↑(k4 + 1):Int)):=zI (by have h1:=ap.out;have h2:=bb.out;rw [wAQ] <;> omega)
 refine sR fL1 rfl (zf rfl rfl rfl rfl (fun _=>zV rfl am bf) (eN (zG (cT Z bb (kN (zG (zR (sR fL2 rfl (zh rfl rfl rfl rfl rfl am (yw rfl rfl rfl rfl rfl rfl (eN (zG (ZY ZQ [3,3,3,1,3,3,3,1,3] fL9 (by kernel_rfl) ?_)))))))))))))
 have ai:=bA.drew
 generalize hw_W25:({ a8 with drawn:=a8.drawn + 1 }:World)=bP at ai ⊢
 refine oM Z bd (oM Z Z (bnK bm fun ay bg bJ=>?_))
 have bt:=bD.le aq
 have q:=bt.el (fun _=>rfl) (wAK bg)
 obtain ⟨bR,bW,bv,bx⟩:=q
 refine oR Z (ZC Z Z bv Z Zt yL (wAg bg)) (oL Z (ai.ldCA (f:=0) bx Z Z YY yL (us:=[jV ay.Lo,jV ay.Hi]) Z Z) (oM Z be (oM Z Z (bnK bJ fun az bh bK=>?_))))
 have bu:=bE.le aq
 have q:=bu.el (fun _=>rfl) (wAK bh)
 obtain ⟨bS,bX,bw,bz⟩:=q
 refine oR Z (ZC Z Z bw Z Zt yL (wAg bh)) (oL Z (ai.ldCA (f:=0) bz Z Z YY yL (us:=[jV az.Lo,jV az.Hi]) Z Z) (oR Z (zz (Runs.neS (enc:=wAh) (a:=ay) (b:=az) Z Z Z wRr wRq) (congrArg nA (decide_not).symm)) (eN (ifc bK ?_ ?_))))
 intro ak bL
 refine zn (zo (fun h=>h ak.out)) (ZO (zd (zF (rR fL2 Z (oR Z (zz (zY Z am Z) (congrArg (jV) bI.out)) (oM Z Z (zg ?_)))))))
 have q:=nG bL
 obtain rfl:=q
 exact zF ⟨Z,_,Z,⟨a7,Z,bd,be,bf,aq,ai⟩⟩
 intro ak bM
 refine cT Z ak (sR fL1 Z (oA Z Z (eN (zS (zU (zK ?_))))))
 have q:=wAM bM
 obtain ⟨bO,bN,bp⟩:=q
 have q:=wBI aj an (bF bO bp)
 obtain rfl:=q
 refine zK (zU (zK ?_))
 have hE:=nG bN;first | subst r | cases hE
 exact ⟨Z,_,(zw Z),a7,_,ai,Z,Z⟩
 rintro ⟨⟩ b4 bQ ⟨bn,bs,bT,bU,br,bV,bC⟩ bG
 have bi:=wCg aj an bG
 try dsimp only at bi
 have bo:Hid (¬ ((↑(((↑p0.length:Int):Int) - 0).toNat:Int) < (↑p0.length:Int))):=zI (wAc)
 refine sR fL1 Z (oR Z (zV Z bs br) (eN (zG (cF Z bo (ZD (zb (zb (zr (zF (sR fL1 Z (oA Z Z (eN (zS ?_)))))))))))))
 have hE:=nG bi;first | subst r | cases hE
 exact ⟨Z,_,(zw Z),bn,_,bC,Z,Z⟩
 have bj:=hm;rw [if_neg c1] at bj;replace c1:=zI c1
 refine cT Z c1 (sR fL1 Z (oA Z Z (eN (zS (zK ?_)))))
 have hE:=nG bj;first | subst r | cases hE
 exact ⟨Z,_,(zw Z),U,_,hS,Z,Z⟩
theorem wEx  (w:World) (U:PHeap) (hS:St0 w U [])  {r:Bool} (hm:wBu =some r):Gv Tryz.prog 13 [] w (wBp w [] U (fun U_ L_ v=>v=.bool r/\L_=[])):=by
 unfold wBu at hm
 refine Gv.of Tryz.func13 Z Tryz.ntmps13 Tryz.results13 Z (sR fL1 Z (oA Z Z (eN (sR (.fx 0 (.fl 1 (.fl 2 (.fx 3 (wSO gDe) .stop))) .stop) Z (bnK hm fun x1 h2 u4=>zP 0 Z Z Z Z (zQ Z Z Tryz.call79 zZ Z) hS (fun hs=>wEM w U hs h2) (.inr Z) ?_)))))
 rintro U4 L5 v6 W7 xU ua ⟨jl,lK,lL,rfl,rfl,mC⟩
 have qZ:sW w U U4 [.row jl lK 77 1 lL] W7:=ua
 have q:=qZ.freezeRR (R:=wGx) (k:=0) rfl mC rfl (by decide)
 obtain ⟨dH,xN,vF,re⟩:=q
 have iD:sW w U dH [] W7:=re
 refine bnK u4 fun fj iz uW=>?_
 have q:=vF.el (wAK iz)
 obtain ⟨lH,wP,As,qp,eC,vr⟩:=q
 obtain ⟨fe,fg,rfl,m7⟩:=vr
 replace eC:Cl dH lH (wP + 0 * 1) [.slice fe fj.length fg]:=eC
 refine oR Z (ZC Z Z qp Z ZL Zv (wAg iz)) (oL Z (iD.ldC (f:=0) eC (v:=.slice fe fj.length fg) Z Z yb Z) ?_)
 have q:=bnd uW
 obtain ⟨⟨bG,ji⟩,n1,iR⟩:=q
 try dsimp only at iR
 refine zP 0 Z Z Z Z (zQ Z Z Tryz.call28 (zH Z zZ) Z) iD (fun hs=>wEo fj fe fg W7 dH hs m7 n1) (.inr Z) ?_
 rintro dK xe z8 li xP r7 ⟨rfl,rfl⟩
 have sa:sW w U dK [] li:=r7
 refine oM Z Z (oR Z (ZF Z Z (v:=.agg #[jV bG.Spares,jV bG.Loops,jV bG.Unused]) Z) (oR Z (ZF Z Z (v:=jV ji) Z) ?_))
 let B0:List Value:=[jV 0,jV 0,jV 0]
 refine ZB (cs:=B0) Z Z Z Z Z yV Z sa ?_
 intro xA ag sh
 let B1:List Value:=[jV bG.Spares,jV bG.Loops,jV bG.Unused]
 refine ZK (j:=0) (vs:=B1) Z Z Z Z sh Z Z Z Z yD (zJ Z) Z Z Z ?_
 intro gI su
 have sv:sW w U dK [.blk ag 79 B1] gI:=su
 refine oA Z Z (eN (sR (.fx 0 (.fl 1 (.fl 2 (.fx 3 (wSO gDe) .stop))) .stop) Z (bnK iR fun AC ox vm=>zP 0 Z Z Z Z (zQ Z Z Tryz.call79 zZ Z) sv (fun hs=>wEM gI dK hs ox) (.inr Z) ?_)))
 rintro jG xj Ad dT xS sC ⟨jo,lR,lS,rfl,rfl,oQ⟩
 have sU:sW w U jG [.row jo lR 77 1 lS,.blk ag 79 B1] dT:=sC
 have q:=sU.freezeRR (R:=wGx) (k:=0) rfl oQ rfl (by decide)
 obtain ⟨dM,xT,wb,s9⟩:=q
 have iJ:sW w U dM [.blk ag 79 B1] dT:=s9
 refine bnK vm fun ft iC vo=>?_
 have q:=wb.el (wAK iC)
 obtain ⟨lJ,wQ,Au,qq,eD,vu⟩:=q
 obtain ⟨ff,fh,rfl,pN⟩:=vu
 replace eD:Cl dM lJ (wQ + 3 * 1) [.slice ff ft.length fh]:=eD
 refine oR Z (ZC Z Z qq Z ZL Zv (wAg iC)) (oL Z (iJ.ldC (f:=0) eD (v:=.slice ff ft.length fh) Z Z yb Z) ?_)
 have q:=bnd vo
 obtain ⟨⟨bI,wV⟩,pP,iV⟩:=q
 try dsimp only at iV
 refine zP 0 Z Z Z Z (zQ Z Z Tryz.call28 (zH Z zZ) Z) iJ (fun hs=>wEo ft ff fh dT dM hs pN pP) (.inr Z) ?_
 rintro dN xt An lD xV uf ⟨rfl,rfl⟩
 have uk:sW w U dN [.blk ag 79 B1] lD:=uf
 refine oM Z Z (oR Z (ZF Z Z (v:=.agg #[jV bI.Spares,jV bI.Loops,jV bI.Unused]) Z) (oR Z (ZF Z Z (v:=jV wV) Z) (ZB (cs:=B0) Z Z Z Z Z yV Z uk ?_)))
 intro xC ai ut
 let B2:List Value:=[jV bI.Spares,jV bI.Loops,jV bI.Unused]
 refine ZK (j:=0) (vs:=B2) Z Z Z Z ut Z Z Z Z yD (zJ Z) Z Z Z ?_
 intro gO ux
 have qr:sW w U dN [.blk ai 79 B2,.blk ag 79 B1] gO:=ux
 refine oA Z Z (eN (sR (.fx 0 (.fx 1 (wFp (.nil)) .stop) .stop) Z (bnK iV fun df mp uB=>zP 0 Z Z Z Z (zQ Z Z Tryz.call80 zZ Z) qr (fun hs=>wEC gO dN hs mp) (.inr Z) ?_)))
 rintro jp wY xY cL xI qJ ⟨fu,ib,dn,dX,ic,rfl,rfl,my⟩
 have qS:sW w U jp [.row fu ib 3 1 (nD KL.encI df.Rules.Classes),.row dn dX 73 3 ic,.blk ai 79 B2,.blk ag 79 B1] cL:=qJ
 have q:=qS.freezeR (k:=0) (n:=df.Rules.Classes.length) rfl (wAC (f:=KL.encI) (sz:=1) (fun _=>rfl) df.Rules.Classes) (by decide)
 obtain ⟨jt,wx,vB,qT⟩:=q
 have qU:sW w U jt [.row dn dX 73 3 ic,.blk ai 79 B2,.blk ag 79 B1] cL:=qT
 have mz:=my.le wx
 have q:=qU.freezeRR (R:=wFL) (k:=0) rfl mz rfl (by decide)
 obtain ⟨f0,wy,vC,qV⟩:=q
 have qW:sW w U f0 [.blk ai 79 B2,.blk ag 79 B1] cL:=qV
 have mA:=vB.le wy
 have q:=bnd uB
 obtain ⟨⟨jh,wR⟩,mB,iN⟩:=q
 try dsimp only at iN
 refine zP 0 Z Z Z Z (zQ Z Z Tryz.call75 (zH Z zZ) Z) qW (fun hs=>wKF df fu ib dn dX cL f0 hs mA vC mB) (.inr Z) ?_
 rintro f4 w6 y4 gE xM qX ⟨dp,dY,lM,rfl,rfl,mD⟩
 let B3:Res:=.row dp dY 22 1 lM
 have qY:sW w U f4 [B3,.blk ai 79 B2,.blk ag 79 B1] gE:=qX
 refine oM Z Z (oR Z (ZF Z Z (v:=.slice dp jh.length dY) Z) (oR Z (ZF Z Z (v:=jV wR) Z) (oA Z Z (oA Z Z (eN (sR (.fx 0 (.fx 1 (wFp (.nil)) .stop) .stop) Z (bnK iN fun dg mE uU=>zP 0 Z Z Z Z (zQ Z Z Tryz.call80 zZ Z) qY (fun hs=>wEC gE f4 hs mE) (.inr Z) ?_)))))))
 rintro ju w7 y5 cN wz q0 ⟨fw,ie,dq,dZ,ig,rfl,rfl,mF⟩
 have q5:sW w U ju [.row fw ie 3 1 (nD KL.encI dg.Rules.Classes),.row dq dZ 73 3 ig,B3,.blk ai 79 B2,.blk ag 79 B1] cN:=q0
 have q:=q5.freezeR (k:=0) (n:=dg.Rules.Classes.length) rfl (wAC (f:=KL.encI) (sz:=1) (fun _=>rfl) dg.Rules.Classes) (by decide)
 obtain ⟨jv,iY,vD,q6⟩:=q
 have q7:sW w U jv [.row dq dZ 73 3 ig,B3,.blk ai 79 B2,.blk ag 79 B1] cN:=q6
 have mG:=mF.le iY
 have q:=q7.freezeRR (R:=wFL) (k:=0) rfl mG rfl (by decide)
 obtain ⟨f5,iZ,vE,q8⟩:=q
 have q9:sW w U f5 [B3,.blk ai 79 B2,.blk ag 79 B1] cN:=q8
 have mH:=vD.le iZ
 have q:=bnd uU
 obtain ⟨⟨cB,wS⟩,mI,iO⟩:=q
 try dsimp only at iO
 refine zP 0 Z Z Z Z (zQ Z Z Tryz.call21 (zH Z zZ) Z) q9 (fun hs=>wGj dg fw ie dq dZ cN f5 hs mH vE mI) (.inr Z) ?_
 rintro f7 w8 y6 gG wA rd ⟨dr,d6,rfl,rfl⟩
 let B4:Res:=.row dr d6 59 3 (nD wAJ cB)
 have rf:sW w U f7 [B4,B3,.blk ai 79 B2,.blk ag 79 B1] gG:=rd
 refine oM Z Z (oR Z (ZF Z Z (v:=.slice dr cB.length d6) Z) (oR Z (ZF Z Z (v:=jV wS) Z) (oA Z Z (oA Z Z (eN (sR (.fx 0 (.fx 1 (wFp (.nil)) .stop) .stop) Z (bnK iO fun dh mJ uV=>zP 0 Z Z Z Z (zQ Z Z Tryz.call80 zZ Z) rf (fun hs=>wEC gG f7 hs mJ) (.inr Z) ?_)))))))
 rintro jw w9 y7 cO wB rg ⟨fy,ii,dt,d7,ij,rfl,rfl,mL⟩
 have rh:sW w U jw [.row fy ii 3 1 (nD KL.encI dh.Rules.Classes),.row dt d7 73 3 ij,B4,B3,.blk ai 79 B2,.blk ag 79 B1] cO:=rg
 have q:=rh.freezeR (k:=0) (n:=dh.Rules.Classes.length) rfl (wAC (f:=KL.encI) (sz:=1) (fun _=>rfl) dh.Rules.Classes) (by decide)
 obtain ⟨jx,i2,vG,ri⟩:=q
 have rj:sW w U jx [.row dt d7 73 3 ij,B4,B3,.blk ai 79 B2,.blk ag 79 B1] cO:=ri
 have mM:=mL.le i2
 have q:=rj.freezeRR (R:=wFL) (k:=0) rfl mM rfl (by decide)
 obtain ⟨f8,i4,vH,rk⟩:=q
 have rn:sW w U f8 [B4,B3,.blk ai 79 B2,.blk ag 79 B1] cO:=rk
 have mN:=vG.le i4
 have q:=bnd uV
 obtain ⟨⟨fk,wU⟩,mO,iP⟩:=q
 try dsimp only at iP
 refine zP 0 Z Z Z Z (zQ Z Z Tryz.call18 (zH Z zZ) Z) rn (fun hs=>wHH dh fy ii dt d7 cO f8 hs mN vH mO) (.inr Z) ?_
 rintro jy xa y8 gH wC ro ⟨du,d8,iA,rfl,rfl⟩
 have rp:sW w U jy [.row du d8 22 1 (nD wGw iA),inn 3 1 KL.encI iA fk,B4,B3,.blk ai 79 B2,.blk ag 79 B1] gH:=ro
 have q:=St.freezeN (R:=wDe) rp (fun _ _ _ _ h=>⟨_,_,rfl,h⟩) (fun _=>rfl) (by decide) rfl
 obtain ⟨a8,wD,vI,rq⟩:=q
 have bg:sW w U a8 [B4,B3,.blk ai 79 B2,.blk ag 79 B1] gH:=rq
 refine oM Z Z (oR Z (ZF Z Z (v:=.slice du fk.length d8) Z) (oR Z (ZF Z Z (v:=jV wU) Z) (oA Z Z (oA Z Z (eN (zG (bnK iP fun lI iW uX=>CK.cut (fun σ_ w_=>∃ (U_:PHeap),σ_ 95=.bool lI/\PHeap.Le a8 U_/\sW w U U_ [.blk ai 79 B2,.blk ag 79 B1] w_) ?_ ?_)))))))
 refine rR (wSK (.fx 30 (.fx 31 (.fx 32 (.fx 33 (wRN (.fx 40 (.fx 41 (wRO (.fx 46 (.fx 47 (.fl 48 (.fl 49 .nil)) .stop) .stop)) .stop) .stop)) .stop) .stop) .stop) .stop)) Z (oM Z Z (oR Z (ZU Z Z Z) (oM Z Z ?_)))
 by_cases az:ji=0
 have iQ:=iW;rw [if_pos az] at iQ;replace az:=zI az
 refine zh Z Z Z (zL Z Z (zo (fun h=>h az.out))) Z Z (zf Z Z Z (zL Z Z (zo (fun h=>h az.out))) (fun _=>ZU Z Z Z) (oR Z (za Z (zo (fun h=>h az.out)) Z) (oM Z Z (ifc iQ ?_ ?_))))
 intro bA uY
 refine zh Z Z Z (zL Z Z (zo (fun h=>h bA.out))) Z Z (zf Z Z Z (zL Z Z (zo (fun h=>h bA.out))) (fun _=>ZU Z Z Z) (oR Z (za Z (zo (fun h=>h bA.out)) Z) (oM Z Z (ifc uY ?_ ?_))))
 intro bC uZ
 refine zh Z Z Z (zL Z Z (zo (fun h=>h bC.out))) Z Z (zf Z Z Z (zL Z Z (zo (fun h=>h bC.out))) (fun _=>ZU Z Z Z) (oR Z (za Z (zo (fun h=>h bC.out)) Z) (oM Z Z (ifc uZ ?_ ?_))))
 intro bD u0
 refine zh Z Z Z (zL Z Z (zo (fun h=>h bD.out))) Z Z (zf Z Z Z (zL Z Z (zo (fun h=>h bD.out))) (fun _=>ZU Z Z Z) (oR Z (za Z (zo (fun h=>h bD.out)) Z) (oM Z Z (ifc u0 ?_ ?_))))
 intro bm u1
 refine zy Z Z Z (zL Z Z (zo (fun h=>h bm.out))) (bg.ldBA (j:=3) Z Z Z YG yD (vs:=B1) Z Z) Z (zf Z Z Z (zL Z Z (zo (fun h=>h bm.out))) (fun _=>ZT (pv:=[(0,jV 1)]) (z:=B0) (cs:=[jV 1,jV 0,jV 0]) Z (wAA Z wAO) yV wGs Z Z) (zf Z Z Z (zL Z Z (zo (fun h=>h bm.out))) (fun _=>zz (Runs.neS (enc:=wCL) (a:=bG) (b:=(⟨1,0,0⟩:wAa)) Z Z Z wQS wQR) (congrArg nA (decide_not).symm)) (oR Z (za Z (zo (fun h=>h bm.out)) Z) (oM Z Z (ifc u1 ?_ ?_)))))
 intro bn u2
 refine zy Z Z Z (zL Z Z (zo (fun h=>h bn.out))) (bg.ldBA (j:=2) Z Z Z YG yD (vs:=B2) Z Z) Z (zf Z Z Z (zL Z Z (zo (fun h=>h bn.out))) (fun _=>ZT (pv:=[(1,jV 1),(2,jV 3)]) (z:=B0) (cs:=[jV 0,jV 1,jV 3]) Z (wAA Z (wAA Z wAO)) yV wGs Z Z) (zf Z Z Z (zL Z Z (zo (fun h=>h bn.out))) (fun _=>zz (Runs.neS (enc:=wCL) (a:=bI) (b:=(⟨0,1,3⟩:wAa)) Z Z Z wQS wQR) (congrArg nA (decide_not).symm)) (oR Z (za Z (zo (fun h=>h bn.out)) Z) (oM Z Z (ifc u2 ?_ ?_)))))
 intro ax u3
 refine zh Z Z Z (zL Z Z (zo (fun h=>h ax.out))) Z Z (zk (pv:=[(0,jV 2200),(1,jV 4600)]) (zs:=[jV 0,jV 0]) (cs:=[jV 2200,jV 4600]) Z Z Z (zL Z Z (zo (fun h=>h ax.out))) Z (wAA Z (wAA Z wAO)) zA zC ZM Z Z Z Z Z bg ?_)
 intro lb cd rt
 let B5:Res:=.row (some ⟨cd,0,none⟩) 2 3 1 (nD KL.encI [2200,4600])
 have ru:sW w U a8 [B5,B4,B3,.blk ai 79 B2,.blk ag 79 B1] lb:=rt
 refine zk (pv:=[(0,jV 2150),(1,jV 4800)]) (zs:=[jV 0,jV 0]) (cs:=[jV 2150,jV 4800]) Z Z Z (zL Z Z (zo (fun h=>h ax.out))) Z (wAA Z (wAA Z wAO)) zA zC ZM Z Z Z Z Z ru ?_
 intro dP cg rv
 let B6:Res:=.row (some ⟨cg,0,none⟩) 2 3 1 (nD KL.encI [2150,4800])
 have rx:sW w U a8 [B6,B5,B4,B3,.blk ai 79 B2,.blk ag 79 B1] dP:=rv
 have q:=rx.freezeR (k:=1) (n:=[2200,4600].length) rfl (wAC (f:=KL.encI) (sz:=1) (fun _=>rfl) [2200,4600]) (by decide)
 obtain ⟨jz,cp,vJ,rz⟩:=q
 have rC:sW w U jz [B6,B4,B3,.blk ai 79 B2,.blk ag 79 B1] dP:=rz
 have q:=rC.freezeR (k:=0) (n:=[2150,4800].length) rfl (wAC (f:=KL.encI) (sz:=1) (fun _=>rfl) [2150,4800]) (by decide)
 obtain ⟨dI,bT,vK,rD⟩:=q
 have rE:sW w U dI [B4,B3,.blk ai 79 B2,.blk ag 79 B1] dP:=rD
 let B7:List Value:=[.slice (some ⟨cd,0,none⟩) 2 2,.slice (some ⟨cg,0,none⟩) 2 2]
 refine zk (pv:=[(0,.slice (some ⟨cd,0,none⟩) 2 2),(1,.slice (some ⟨cg,0,none⟩) 2 2)]) (zs:=[.slice none 0 0,.slice none 0 0]) (cs:=B7) Z Z Z (zL Z Z (zo (fun h=>h ax.out))) Z (wAA Z (wAA Z wAO)) zm zT yz Z Z Z Z Z rE ?_
 intro cP gS ry
 have mP:=vJ.le bT
 have vq:RlL dI wDe [[2200,4600],[2150,4800]] B7:=(RlL.cons (R:=wDe) (x:=[2200,4600]) (vs:=[.slice (some ⟨cd,0,none⟩) 2 2]) ⟨(some ⟨cd,0,none⟩),2,rfl,mP⟩ (RlL.cons (R:=wDe) (x:=[2150,4800]) (vs:=[.slice (some ⟨cg,0,none⟩) 2 2]) ⟨(some ⟨cg,0,none⟩),2,rfl,vK⟩ RlL.nil))
 let B8:Res:=.row (some ⟨gS,0,none⟩) 2 22 1 B7
 have rF:sW w U dI [B8,B4,B3,.blk ai 79 B2,.blk ag 79 B1] cP:=ry
 have mQ:=mD.le wz
 have mR:=mQ.le iY
 have mS:=mR.le iZ
 have mT:=mS.le wA
 have mU:=mT.le wB
 have mV:=mU.le i2
 have mW:=mV.le i4
 have mX:=mW.le wC
 have mY:=mX.le wD
 have mZ:=mY.le cp
 have m3:=mZ.le bT
 have q:=rF.freezeRR (R:=wDe) (k:=2) rfl m3 rfl (by decide)
 obtain ⟨jA,cr,vL,rG⟩:=q
 have rH:sW w U jA [B8,B4,.blk ai 79 B2,.blk ag 79 B1] cP:=rG
 have m4:=vq.le cr
 have q:=rH.freezeRR (R:=wDe) (k:=0) rfl m4 rfl (by decide)
 obtain ⟨f9,ct,vM,rI⟩:=q
 have rJ:sW w U f9 [B4,.blk ai 79 B2,.blk ag 79 B1] cP:=rI
 have m5:=vL.le ct
 refine bnK u3 fun Az m6 u5=>zP 0 Z Z Z (zL Z Z (zo (fun h=>h ax.out))) (zQ Z Z Tryz.call20 (zH Z (zH Z zZ)) Z) rJ (fun hs=>wDi jh dp dY [[2200,4600],[2150,4800]] (some ⟨gS,0,none⟩) 2 cP f9 hs m5 vM m6) (.inr Z) ?_
 rintro dJ xb y9 lc cU rK ⟨rfl,rfl⟩
 have iE:sW w U dJ [B4,.blk ai 79 B2,.blk ag 79 B1] lc:=rK
 refine zf Z Z Z (zL Z Z (zo (fun h=>h ax.out))) (fun _=>Za Z Z) (oR Z (za Z (zo (fun h=>h ax.out)) Z) (oM Z Z (ifc u5 ?_ ?_)))
 intro ay u6
 refine zh Z Z Z (zL Z Z (nC ay.out)) Z Z ?_
 let B9:List Value:=[jV 7,jV 1,jV 4600]
 refine zf Z Z Z (zL Z Z (nC ay.out)) (fun _=>ZT (pv:=[(0,jV 7),(1,jV 1),(2,jV 4600)]) (z:=B0) (cs:=B9) Z (wAA Z (wAA Z (wAA Z wAO))) YA wHh Z Z) ?_
 let fJ:List Value:=[jV 3,jV 2,jV 8400]
 refine zf Z Z Z (zL Z Z (nC ay.out)) (fun _=>ZT (pv:=[(0,jV 3),(1,jV 2),(2,jV 8400)]) (z:=B0) (cs:=fJ) Z (wAA Z (wAA Z (wAA Z wAO))) YA wHh Z Z) (zk (pv:=[(0,.agg B9.toArray),(1,.agg fJ.toArray)]) (zs:=[jV 0,jV 0,jV 0,jV 0,jV 0,jV 0]) (cs:=[jV 7,jV 1,jV 4600,jV 3,jV 2,jV 8400]) Z Z Z (zL Z Z (nC ay.out)) Z (wAA Z (wAA Z wAO)) Zo ya YA Z Z Z Z Z iE ?_)
 intro cQ gT rL
 let fK:Res:=.row (some ⟨gT,0,none⟩) 2 59 3 (nD wAJ [(⟨7,1,4600⟩:wAB),(⟨3,2,8400⟩:wAB)])
 have rM:sW w U dJ [fK,B4,.blk ai 79 B2,.blk ag 79 B1] cQ:=rL
 have q:=rM.freezeR (k:=1) (n:=cB.length) rfl (wAC (f:=wAJ) (sz:=3) (fun _=>rfl) cB) (by decide)
 obtain ⟨jB,eI,vN,rN⟩:=q
 have rP:sW w U jB [fK,.blk ai 79 B2,.blk ag 79 B1] cQ:=rN
 have q:=rP.freezeR (k:=0) (n:=[(⟨7,1,4600⟩:wAB),(⟨3,2,8400⟩:wAB)].length) rfl (wAC (f:=wAJ) (sz:=3) (fun _=>rfl) [(⟨7,1,4600⟩:wAB),(⟨3,2,8400⟩:wAB)]) (by decide)
 obtain ⟨gb,cV,vO,rQ⟩:=q
 have rS:sW w U gb [.blk ai 79 B2,.blk ag 79 B1] cQ:=rQ
 have m8:=vN.le cV
 refine bnK u6 fun AA m9 u7=>zP 0 Z Z Z (zL Z Z (nC ay.out)) (zQ Z Z Tryz.call81 (zH Z (zH Z zZ)) Z) rS (fun hs=>wEl cB dr d6 [(⟨7,1,4600⟩:wAB),(⟨3,2,8400⟩:wAB)] (some ⟨gT,0,none⟩) 2 cQ gb hs m8 vO m9) (.inr Z) ?_
 rintro cJ xc z6 lg eJ rT ⟨rfl,rfl⟩
 have iF:sW w U cJ [.blk ai 79 B2,.blk ag 79 B1] lg:=rT
 refine zf Z Z Z (zL Z Z (nC ay.out)) (fun _=>Za Z Z) (oR Z (za Z (nC ay.out) Z) (oM Z Z (ifc u7 ?_ ?_)))
 intro bd u8
 refine zh Z Z Z (zL Z Z (nC bd.out)) Z Z ?_
 let cD:List Value:=[.slice none 0 0,.slice none 0 0]
 refine zk (pv:=[(0,.slice none 0 0),(1,.slice none 0 0)]) (zs:=cD) (cs:=cD) Z Z Z (zL Z Z (nC bd.out)) Z (wAA Z (wAA Z wAO)) zm zT yz Z Z Z Z Z iF ?_
 intro dQ gU rV
 have vt:RlL cJ wDe [[],[]] cD:=(RlL.cons (R:=wDe) (x:=[]) (vs:=[.slice none 0 0]) ⟨none,0,rfl,(by first | exact Sl.nil _ _ _ _ | exact SlR.nil)⟩ (RlL.cons (R:=wDe) (x:=[]) (vs:=[.slice none 0 0]) ⟨none,0,rfl,(by first | exact Sl.nil _ _ _ _ | exact SlR.nil)⟩ RlL.nil))
 have rW:sW w U cJ [.row (some ⟨gU,0,none⟩) 2 22 1 cD,.blk ai 79 B2,.blk ag 79 B1] dQ:=rV
 have q:=rW.freezeRR (R:=wDe) (k:=0) rfl vt rfl (by decide)
 obtain ⟨gc,i6,vP,rX⟩:=q
 have rY:sW w U gc [.blk ai 79 B2,.blk ag 79 B1] dQ:=rX
 have n2:=vI.le cp
 have n3:=n2.le bT
 have n4:=n3.le cr
 have n5:=n4.le ct
 have n7:=n5.le cU
 have n8:=n7.le eI
 have n9:=n8.le cV
 have od:=n9.le eJ
 have oe:=od.le i6
 refine bnK u8 fun AB og u9=>zP 0 Z Z Z (zL Z Z (nC bd.out)) (zQ Z Z Tryz.call20 (zH Z (zH Z zZ)) Z) rY (fun hs=>wDi fk du d8 [[],[]] (some ⟨gU,0,none⟩) 2 dQ gc hs oe vP og) (.inr Z) ?_
 rintro ge xd z7 lh wE rZ ⟨rfl,rfl⟩
 have r0:sW w U ge [.blk ai 79 B2,.blk ag 79 B1] lh:=rZ
 refine zf Z Z Z (zL Z Z (nC bd.out)) (fun _=>Za Z Z) (oR Z (za Z (nC bd.out) Z) (zg ?_))
 cases u9
 exact zF ⟨Z,⟨ge,Z,(((((((((cp.trans bT).trans cr).trans ct).trans cU).trans eI).trans cV).trans eJ).trans i6).trans wE),r0⟩⟩
 intro bd va
 refine zc Z Z Z (zO Z Z (nF (bd.out)) Z) (ZI Z Z Z (zO Z Z (nF (bd.out)) Z) (ZI Z Z Z (zO Z Z (nF (bd.out)) Z) (zc Z Z Z (zO Z Z (nF (bd.out)) Z) (oR Z (zX Z (nF (bd.out)) Z) (zg ?_)))))
 cases va
 exact zF ⟨Z,⟨cJ,Z,(((((((cp.trans bT).trans cr).trans ct).trans cU).trans eI).trans cV).trans eJ),iF⟩⟩
 intro ay vb
 refine zc Z Z Z (zO Z Z (nF (ay.out)) Z) (zc Z Z Z (zO Z Z (nF (ay.out)) Z) (zc Z Z Z (zO Z Z (nF (ay.out)) Z) (ZI Z Z Z (zO Z Z (nF (ay.out)) Z) (ZI Z Z Z (zO Z Z (nF (ay.out)) Z) (zc Z Z Z (zO Z Z (nF (ay.out)) Z) (oR Z (zX Z (nF (ay.out)) Z) (oM Z Z (oN Z (ZI Z Z Z (zO Z Z Z Z) (ZI Z Z Z (zO Z Z Z Z) (oN Z (oR Z (zX Z Z Z) (zg ?_)))))))))))))
 cases vb
 exact zF ⟨rfl,⟨dJ,rfl,((((cp.trans bT).trans cr).trans ct).trans cU),(iE.pick [1,2] _ (by decide) rfl)⟩⟩
 intro ax vc
 refine oT Z ax (ZI Z Z Z (zO Z Z (Zl ax.out) Z) (ZI Z Z Z (zO Z Z (Zl ax.out) Z) (ZI Z Z Z (zO Z Z (Zl ax.out) Z) (ZI Z Z Z (zO Z Z (Zl ax.out) Z) (oT Z ax (oR Z (zX Z (Zl ax.out) Z) (oM Z Z (oN Z (oN Z (oN Z (ZI Z Z Z (zO Z Z Z Z) (ZI Z Z Z (zO Z Z Z Z) (oN Z (oR Z (zX Z Z Z) (oM Z Z (oN Z (ZI Z Z Z (zO Z Z Z Z) (ZI Z Z Z (zO Z Z Z Z) (oN Z (oR Z (zX Z Z Z) (zg ?_)))))))))))))))))))))
 cases vc
 exact zF ⟨rfl,⟨a8,rfl,(zN _),(bg.pick [2,3] _ (by decide) rfl)⟩⟩
 intro bn vd
 refine oT Z bn (oT Z bn (oT Z bn (oR Z (zX Z (Zl bn.out) Z) (oM Z Z (oN Z (ZI Z Z Z (zO Z Z Z Z) (ZI Z Z Z (zO Z Z Z Z) (ZI Z Z Z (zO Z Z Z Z) (ZI Z Z Z (zO Z Z Z Z) (oN Z (oR Z (zX Z Z Z) (oM Z Z (oN Z (oN Z (oN Z (ZI Z Z Z (zO Z Z Z Z) (ZI Z Z Z (zO Z Z Z Z) (oN Z (oR Z (zX Z Z Z) (oM Z Z (oN Z (ZI Z Z Z (zO Z Z Z Z) (ZI Z Z Z (zO Z Z Z Z) (oN Z (oR Z (zX Z Z Z) (zg ?_))))))))))))))))))))))))))
 cases vd
 exact zF ⟨rfl,⟨a8,rfl,(zN _),(bg.pick [2,3] _ (by decide) rfl)⟩⟩
 intro bm ve
 refine oT Z bm (oT Z bm (oT Z bm (oR Z (zX Z (Zl bm.out) Z) (oM Z Z (oN Z (oN Z (oN Z (oR Z (zX Z Z Z) (oM Z Z (oN Z (ZI Z Z Z (zO Z Z Z Z) (ZI Z Z Z (zO Z Z Z Z) (ZI Z Z Z (zO Z Z Z Z) (ZI Z Z Z (zO Z Z Z Z) (oN Z (oR Z (zX Z Z Z) (oM Z Z (oN Z (oN Z (oN Z (ZI Z Z Z (zO Z Z Z Z) (ZI Z Z Z (zO Z Z Z Z) (oN Z (oR Z (zX Z Z Z) (oM Z Z (oN Z (ZI Z Z Z (zO Z Z Z Z) (ZI Z Z Z (zO Z Z Z Z) (oN Z (oR Z (zX Z Z Z) (zg ?_)))))))))))))))))))))))))))))))
 cases ve
 exact zF ⟨rfl,⟨a8,rfl,(zN _),(bg.pick [2,3] _ (by decide) rfl)⟩⟩
 intro bD vf
 refine oT Z bD (oT Z bD (oR Z (zX Z (Zl bD.out) Z) (oM Z Z (oN Z (oN Z (oN Z (oR Z (zX Z Z Z) (oM Z Z (oN Z (oN Z (oN Z (oR Z (zX Z Z Z) (oM Z Z (oN Z (ZI Z Z Z (zO Z Z Z Z) (ZI Z Z Z (zO Z Z Z Z) (ZI Z Z Z (zO Z Z Z Z) (ZI Z Z Z (zO Z Z Z Z) (oN Z (oR Z (zX Z Z Z) (oM Z Z (oN Z (oN Z (oN Z (ZI Z Z Z (zO Z Z Z Z) (ZI Z Z Z (zO Z Z Z Z) (oN Z (oR Z (zX Z Z Z) (oM Z Z (oN Z (ZI Z Z Z (zO Z Z Z Z) (ZI Z Z Z (zO Z Z Z Z) (oN Z (oR Z (zX Z Z Z) (zg ?_)))))))))))))))))))))))))))))))))))
 cases vf
 exact zF ⟨rfl,⟨a8,rfl,(zN _),(bg.pick [2,3] _ (by decide) rfl)⟩⟩
 intro bC vg
 refine oT Z bC (oT Z bC (oR Z (zX Z (Zl bC.out) Z) (oM Z Z (oN Z (oN Z (oR Z (zX Z Z Z) (oM Z Z (oN Z (oN Z (oN Z (oR Z (zX Z Z Z) (oM Z Z (oN Z (oN Z (oN Z (oR Z (zX Z Z Z) (oM Z Z (oN Z (ZI Z Z Z (zO Z Z Z Z) (ZI Z Z Z (zO Z Z Z Z) (ZI Z Z Z (zO Z Z Z Z) (ZI Z Z Z (zO Z Z Z Z) (oN Z (oR Z (zX Z Z Z) (oM Z Z (oN Z (oN Z (oN Z (ZI Z Z Z (zO Z Z Z Z) (ZI Z Z Z (zO Z Z Z Z) (oN Z (oR Z (zX Z Z Z) (oM Z Z (oN Z (ZI Z Z Z (zO Z Z Z Z) (ZI Z Z Z (zO Z Z Z Z) (oN Z (oR Z (zX Z Z Z) (zg ?_)))))))))))))))))))))))))))))))))))))))
 cases vg
 exact zF ⟨rfl,⟨a8,rfl,(zN _),(bg.pick [2,3] _ (by decide) rfl)⟩⟩
 intro bA vh
 refine oT Z bA (oT Z bA (oR Z (zX Z (Zl bA.out) Z) (oM Z Z (oN Z (oN Z (oR Z (zX Z Z Z) (oM Z Z (oN Z (oN Z (oR Z (zX Z Z Z) (oM Z Z (oN Z (oN Z (oN Z (oR Z (zX Z Z Z) (oM Z Z (oN Z (oN Z (oN Z (oR Z (zX Z Z Z) (oM Z Z (oN Z (ZI Z Z Z (zO Z Z Z Z) (ZI Z Z Z (zO Z Z Z Z) (ZI Z Z Z (zO Z Z Z Z) (ZI Z Z Z (zO Z Z Z Z) (oN Z (oR Z (zX Z Z Z) (oM Z Z (oN Z (oN Z (oN Z (ZI Z Z Z (zO Z Z Z Z) (ZI Z Z Z (zO Z Z Z Z) (oN Z (oR Z (zX Z Z Z) (oM Z Z (oN Z (ZI Z Z Z (zO Z Z Z Z) (ZI Z Z Z (zO Z Z Z Z) (oN Z (oR Z (zX Z Z Z) (zg ?_)))))))))))))))))))))))))))))))))))))))))))
 cases vh
 exact zF ⟨rfl,⟨a8,rfl,(zN _),(bg.pick [2,3] _ (by decide) rfl)⟩⟩
 have iS:=iW;rw [if_neg az] at iS;replace az:=zI az
 refine oT Z az (oT Z az (oR Z (zX Z (Zl az.out) Z) (oM Z Z (oN Z (oN Z (oR Z (zX Z Z Z) (oM Z Z (oN Z (oN Z (oR Z (zX Z Z Z) (oM Z Z (oN Z (oN Z (oR Z (zX Z Z Z) (oM Z Z (oN Z (oN Z (oN Z (oR Z (zX Z Z Z) (oM Z Z (oN Z (oN Z (oN Z (oR Z (zX Z Z Z) (oM Z Z (oN Z (ZI Z Z Z (zO Z Z Z Z) (ZI Z Z Z (zO Z Z Z Z) (ZI Z Z Z (zO Z Z Z Z) (ZI Z Z Z (zO Z Z Z Z) (oN Z (oR Z (zX Z Z Z) (oM Z Z (oN Z (oN Z (oN Z (ZI Z Z Z (zO Z Z Z Z) (ZI Z Z Z (zO Z Z Z Z) (oN Z (oR Z (zX Z Z Z) (oM Z Z (oN Z (ZI Z Z Z (zO Z Z Z Z) (ZI Z Z Z (zO Z Z Z Z) (oN Z (oR Z (zX Z Z Z) (zg ?_)))))))))))))))))))))))))))))))))))))))))))))))
 cases iS
 exact zF ⟨rfl,⟨a8,rfl,(zN _),(bg.pick [2,3] _ (by decide) rfl)⟩⟩
 rintro AD lj ⟨gf,iy,xO,iG⟩
 refine ifc uX ?_ ?_
 intro d9 vi
 refine ZA (iy.trans (congrArg nA d9.out)) (sR fL1 Z (oA Z Z (eN (zS (zK ?_)))))
 have hE:=nG vi;first | subst r | cases hE
 exact ⟨rfl,_,(zw rfl),gf,_,(iG.pick [] _ (by decide) rfl),rfl,rfl⟩
 intro d9 vj
 refine zn (iy.trans (congrArg nA (nE.2 d9.out))) (kN (sR (.fx 0 gDf .stop) Z (bnK vj fun ap oh vk=>zP 0 Z Z Z Z (zQ Z Z Tryz.call80 zZ Z) iG (fun hs=>wEC lj gf hs oh) (.inr Z) ?_)))
 rintro dL xf Aa lk xQ r6 ⟨be,bf,jm,lN,lO,rfl,rfl,xD⟩
 let an:Res:=.row jm lN 73 3 lO
 let dA:Res:=.row be bf 3 1 (nD KL.encI ap.Rules.Classes)
 have r8:sW w U dL [dA,an,.blk ai 79 B2,.blk ag 79 B1] lk:=r6
 let aj:List Value:=[.slice be ap.Rules.Classes.length bf,jV ap.Rules.Each,jV ap.Rules.Laps,jV ap.Rules.Spare,jV ap.Rules.Loop,jV ap.Rules.Unused]
 refine oR Z (Runs.fld Z Z zu Z (wOq yR ZZ (vs:=aj) Z)) (ZB (cs:=[.slice none 0 0,jV 0,jV 0,jV 0,jV 0,jV 0]) Z Z Z Z Z Tryz.zeroValue24 Z r8 ?_)
 intro xz ak r9
 refine ZK (j:=0) (vs:=aj) Z Z Z Z r9 Z Z Z Z ZZ (zJ Z) Z Z Z ?_
 intro dR sb
 have sc:sW w U dL [.blk ak 24 aj,dA,an,.blk ai 79 B2,.blk ag 79 B1] dR:=sb
 refine eN (zG (ZY ZQ [1,2,2,3,3,3,3,3,3,3] (.fl 0 (.fx 1 (.fx 2 (fC3_9 (.nil)) .stop) .stop)) (by kernel_rfl) ?_))
 have eG:=sc.drew
 generalize hw_W434:({ dR with drawn:=dR.drawn + 1 }:World)=lm at eG ⊢
 refine oL Z (eG.ldBA (j:=0) Z Z Z yR ZZ (vs:=aj) Z Z) (bnK vk fun di oj vl=>zP 0 Z Z Z Z (zQ Z Z Tryz.call82 zZ Z) eG (fun hs=>wBv lm dL hs oj) (.inr Z) ?_)
 rintro jD xg Ab cc xR sd ⟨fz,ik,fA,il,lP,rfl,rfl,om⟩
 let fL:Res:=.row fz ik 3 1 (nD KL.encI di.Classes)
 let dB:Res:=.row fA il 22 1 lP
 have se:sW w U jD [fL,dB,.blk ak 24 aj,dA,an,.blk ai 79 B2,.blk ag 79 B1] cc:=sd
 have q:=se.freezeR (k:=3) (n:=ap.Rules.Classes.length) rfl (wAC (f:=KL.encI) (sz:=1) (fun _=>rfl) ap.Rules.Classes) (by decide)
 obtain ⟨jE,wG,vQ,sf⟩:=q
 have sg:sW w U jE [fL,dB,.blk ak 24 aj,an,.blk ai 79 B2,.blk ag 79 B1] cc:=sf
 have q:=sg.freezeR (k:=0) (n:=di.Classes.length) rfl (wAC (f:=KL.encI) (sz:=1) (fun _=>rfl) di.Classes) (by decide)
 obtain ⟨jF,i7,vR,sj⟩:=q
 have sl:sW w U jF [dB,.blk ak 24 aj,an,.blk ai 79 B2,.blk ag 79 B1] cc:=sj
 have oq:=om.le wG
 have ot:=oq.le i7
 have q:=sl.freezeRR (R:=wDe) (k:=0) rfl ot rfl (by decide)
 obtain ⟨gg,i8,vS,sm⟩:=q
 have sq:sW w U gg [.blk ak 24 aj,an,.blk ai 79 B2,.blk ag 79 B1] cc:=sm
 have ou:=vQ.le i7
 have bp:=ou.le i8
 have ov:=vR.le i8
 have q:=bnd vl
 obtain ⟨⟨bH,fm,fq⟩,ow,iT⟩:=q
 try dsimp only at iT
 refine zP 0 Z Z Z Z (zQ Z Z Tryz.call48 (zH Z (zH Z zZ)) Z) sq (fun hs=>wKs ap.Rules be bf di fz ik fA il cc gg hs bp ov vS ow) (.inr Z) ?_
 rintro bb xh Ac dS bF sr ⟨bX,ch,rfl,rfl⟩
 let am:Res:=.row bX ch 3 1 (nD KL.encI bH)
 have ss:sW w U bb [am,.blk ak 24 aj,an,.blk ai 79 B2,.blk ag 79 B1] dS:=sr
 refine oM Z Z (oR Z (ZF Z Z (v:=.slice bX bH.length ch) Z) (oR Z (ZF Z Z (v:=jV fm) Z) (oR Z (ZF Z Z (v:=jV fq) Z) (oA Z Z (oA Z Z (oA Z Z (eN ?_)))))))
 have q:=bnd iT
 obtain ⟨⟨jj,jk⟩,wu,iU⟩:=q
 try dsimp only at iU
 refine CK.cut (fun σ_ w_=>∃ (U_:PHeap),σ_ 2=jV fq/\σ_ 4=jV jj/\σ_ 11=.pointer (some ⟨ak,0,none⟩)/\σ_ 12=.slice bX bH.length ch/\σ_ 13=jV fm/\σ_ 14=jV jk/\PHeap.Le bb U_/\sW w U U_ [.blk ak 24 aj,.blk ai 79 B2,.blk ag 79 B1,am] w_) ?_ ?_
 refine bnK wu fun ao ci vn=>?_
 have q:=bnd vn
 obtain ⟨⟨bV,bW⟩,bS,bE⟩:=q
 try dsimp only at bE
 refine ZY ZQ [1,2,2,2,2,3,3,3,3,3] (.fl 0 (.fx 1 (.fx 2 (.fx 3 (.fx 4 (wMN (.nil)) (.stop)) (.stop)) (.fx 3 (.fx 2 (.fx 4 (wMN (.nil)) (.stop)) (.stop)) (.stop))) (.fx 2 (.fx 1 (.fx 3 (.fx 4 (wMN (.nil)) (.stop)) (.stop)) (.fx 3 (.fx 1 (.fx 4 (wMN (.nil)) (.stop)) (.stop)) (.stop))) (.fx 3 (.fx 1 (.fx 2 (.fx 4 (wMN (.nil)) (.stop)) (.stop)) (.fx 2 (.fx 1 (.fx 4 (wMN (.nil)) (.stop)) (.stop)) (.stop))) (.stop))))) (by kernel_rfl) ?_
 have co:=ss.drew
 generalize hw_W568:({ dS with drawn:=dS.drawn + 1 }:World)=lq at co ⊢
 refine oL Z (co.ldBA (j:=1) Z Z Z yR ZZ (vs:=aj) Z Z) (yU ?_ ?_)
 refine zP 0 Z Z Z Z (zQ Z Z Tryz.call82 zZ Z) co (fun hs=>wBv lq bb hs ci) (.inr Z) ?_
 rintro ca xk Ae ls cW sw ⟨dv,eh,dw,ep,lQ,rfl,rfl,iB⟩
 let bY:Res:=.row dv eh 3 1 (nD KL.encI ao.Classes)
 let br:Res:=.row dw ep 22 1 lQ
 have iH:sW w U ca [bY,br,am,.blk ak 24 aj,an,.blk ai 79 B2,.blk ag 79 B1] ls:=sw
 refine yU ?_ ?_
 refine zk (pv:=[(0,jV 2250),(1,jV 2400)]) (zs:=[jV 0,jV 0]) (cs:=[jV 2250,jV 2400]) Z Z Z Z Z (wAA Z (wAA Z wAO)) zA zC ZM Z Z Z Z Z iH ?_
 intro lu gV sA
 let cE:Res:=.row (some ⟨gV,0,none⟩) 2 3 1 (nD KL.encI [2250,2400])
 have sB:sW w U ca [cE,bY,br,am,.blk ak 24 aj,an,.blk ai 79 B2,.blk ag 79 B1] lu:=sA
 refine zk (pv:=[(0,jV 0),(1,jV 0),(2,jV 0)]) (zs:=B0) (cs:=B0) Z Z Z Z Z (wAA Z (wAA Z (wAA Z wAO))) zA zC ZM Z Z Z Z Z sB ?_
 intro bM gW sD
 let cG:Res:=.row (some ⟨gW,0,none⟩) 3 3 1 (nD KL.encI [0,0,0])
 have sE:sW w U ca [cG,cE,bY,br,am,.blk ak 24 aj,an,.blk ai 79 B2,.blk ag 79 B1] bM:=sD
 have q:=sE.freezeR (k:=2) (n:=ao.Classes.length) rfl (wAC (f:=KL.encI) (sz:=1) (fun _=>rfl) ao.Classes) (by decide)
 obtain ⟨jH,eK,vT,sF⟩:=q
 have sG:sW w U jH [cG,cE,br,am,.blk ak 24 aj,an,.blk ai 79 B2,.blk ag 79 B1] bM:=sF
 have oy:=iB.le eK
 have q:=sG.freezeRR (R:=wDe) (k:=2) rfl oy rfl (by decide)
 obtain ⟨jI,eM,vU,sH⟩:=q
 have sI:sW w U jI [cG,cE,am,.blk ak 24 aj,an,.blk ai 79 B2,.blk ag 79 B1] bM:=sH
 have q:=sI.freezeR (k:=1) (n:=[2250,2400].length) rfl (wAC (f:=KL.encI) (sz:=1) (fun _=>rfl) [2250,2400]) (by decide)
 obtain ⟨jJ,cX,vV,sJ⟩:=q
 have sK:sW w U jJ [cG,am,.blk ak 24 aj,an,.blk ai 79 B2,.blk ag 79 B1] bM:=sJ
 have q:=sK.freezeR (k:=0) (n:=[0,0,0].length) rfl (wAC (f:=KL.encI) (sz:=1) (fun _=>rfl) [0,0,0]) (by decide)
 obtain ⟨gh,cu,vW,sL⟩:=q
 have sM:sW w U gh [am,.blk ak 24 aj,an,.blk ai 79 B2,.blk ag 79 B1] bM:=sL
 have oz:=bp.le bF
 have oB:=oz.le cW
 have oC:=oB.le eK
 have oD:=oC.le eM
 have oE:=oD.le cX
 have oG:=oE.le cu
 have oH:=vT.le eM
 have oI:=oH.le cX
 have oJ:=oI.le cu
 have oK:=vU.le cX
 have oO:=oK.le cu
 have oP:=vV.le cu
 refine zP 0 Z Z Z Z (zQ Z Z Tryz.call44 (zH Z (zH Z (zH Z (zH Z zZ)))) Z) sM (fun hs=>wDz ap.Rules be bf ao dv eh dw ep [2250,2400] (some ⟨gV,0,none⟩) 2 [0,0,0] (some ⟨gW,0,none⟩) 3 bM gh hs oG oJ oO oP vW bS) (.inr Z) ?_
 rintro gi xl Ag lv wH sN ⟨rfl,rfl⟩
 have sO:sW w U gi [am,.blk ak 24 aj,an,.blk ai 79 B2,.blk ag 79 B1] lv:=sN
 refine oM Z Z (oR Z (ZF Z Z (v:=jV bV) Z) (oR Z (ZF Z Z (v:=jV bW) Z) (oA Z Z (oA Z Z (zg ?_)))))
 cases bE
 exact zF ⟨rfl,⟨gi,rfl,rfl,rfl,rfl,rfl,rfl,(((((cW.trans eK).trans eM).trans cX).trans cu).trans wH),(sO.pick [1,3,4,0] _ (by decide) rfl)⟩⟩
 refine zk (pv:=[(0,jV 0),(1,jV 0),(2,jV 0)]) (zs:=B0) (cs:=B0) Z Z Z Z Z (wAA Z (wAA Z (wAA Z wAO))) zA zC ZM Z Z Z Z Z iH ?_
 intro lw gY sP
 let bZ:Res:=.row (some ⟨gY,0,none⟩) 3 3 1 (nD KL.encI [0,0,0])
 have sQ:sW w U ca [bZ,bY,br,am,.blk ak 24 aj,an,.blk ai 79 B2,.blk ag 79 B1] lw:=sP
 refine zk (pv:=[(0,jV 2250),(1,jV 2400)]) (zs:=[jV 0,jV 0]) (cs:=[jV 2250,jV 2400]) Z Z Z Z Z (wAA Z (wAA Z wAO)) zA zC ZM Z Z Z Z Z sQ ?_
 intro bN gZ sS
 let dC:Res:=.row (some ⟨gZ,0,none⟩) 2 3 1 (nD KL.encI [2250,2400])
 have sT:sW w U ca [dC,bZ,bY,br,am,.blk ak 24 aj,an,.blk ai 79 B2,.blk ag 79 B1] bN:=sS
 have q:=sT.freezeR (k:=2) (n:=ao.Classes.length) rfl (wAC (f:=KL.encI) (sz:=1) (fun _=>rfl) ao.Classes) (by decide)
 obtain ⟨jK,eP,vY,sV⟩:=q
 have sY:sW w U jK [dC,bZ,br,am,.blk ak 24 aj,an,.blk ai 79 B2,.blk ag 79 B1] bN:=sV
 have oS:=iB.le eP
 have q:=sY.freezeRR (R:=wDe) (k:=2) rfl oS rfl (by decide)
 obtain ⟨jL,eQ,vZ,sZ⟩:=q
 have s3:sW w U jL [dC,bZ,am,.blk ak 24 aj,an,.blk ai 79 B2,.blk ag 79 B1] bN:=sZ
 have q:=s3.freezeR (k:=0) (n:=[2250,2400].length) rfl (wAC (f:=KL.encI) (sz:=1) (fun _=>rfl) [2250,2400]) (by decide)
 obtain ⟨jM,cY,v8,s4⟩:=q
 have s5:sW w U jM [bZ,am,.blk ak 24 aj,an,.blk ai 79 B2,.blk ag 79 B1] bN:=s4
 have q:=s5.freezeR (k:=0) (n:=[0,0,0].length) rfl (wAC (f:=KL.encI) (sz:=1) (fun _=>rfl) [0,0,0]) (by decide)
 obtain ⟨gj,cw,wa,s6⟩:=q
 have s7:sW w U gj [am,.blk ak 24 aj,an,.blk ai 79 B2,.blk ag 79 B1] bN:=s6
 have oU:=bp.le bF
 have oV:=oU.le cW
 have oW:=oV.le eP
 have oX:=oW.le eQ
 have oY:=oX.le cY
 have oZ:=oY.le cw
 have o0:=vY.le eQ
 have o3:=o0.le cY
 have o5:=o3.le cw
 have o6:=vZ.le cY
 have o7:=o6.le cw
 have o8:=v8.le cw
 refine zP 0 Z Z Z Z (zQ Z Z Tryz.call44 (zH Z (zH Z (zH Z (zH Z zZ)))) Z) s7 (fun hs=>wDz ap.Rules be bf ao dv eh dw ep [2250,2400] (some ⟨gZ,0,none⟩) 2 [0,0,0] (some ⟨gY,0,none⟩) 3 bN gj hs oZ o5 o7 o8 wa bS) (.inr Z) ?_
 rintro gm xm Ah lx wI s8 ⟨rfl,rfl⟩
 have ta:sW w U gm [am,.blk ak 24 aj,an,.blk ai 79 B2,.blk ag 79 B1] lx:=s8
 refine oM Z Z (oR Z (ZF Z Z (v:=jV bV) Z) (oR Z (ZF Z Z (v:=jV bW) Z) (oA Z Z (oA Z Z (zg ?_)))))
 cases bE
 exact zF ⟨rfl,⟨gm,rfl,rfl,rfl,rfl,rfl,rfl,(((((cW.trans eP).trans eQ).trans cY).trans cw).trans wI),(ta.pick [1,3,4,0] _ (by decide) rfl)⟩⟩
 refine yU ?_ ?_
 refine zk (pv:=[(0,jV 2250),(1,jV 2400)]) (zs:=[jV 0,jV 0]) (cs:=[jV 2250,jV 2400]) Z Z Z Z Z (wAA Z (wAA Z wAO)) zA zC ZM Z Z Z Z Z co ?_
 intro gJ dV tb
 let bi:Res:=.row (some ⟨dV,0,none⟩) 2 3 1 (nD KL.encI [2250,2400])
 have iI:sW w U bb [bi,am,.blk ak 24 aj,an,.blk ai 79 B2,.blk ag 79 B1] gJ:=tb
 refine yU ?_ ?_
 refine zP 0 Z Z Z Z (zQ Z Z Tryz.call82 zZ Z) iI (fun hs=>wBv gJ bb hs ci) (.inr Z) ?_
 rintro gq xn Ai ly i9 tc ⟨fB,im,fC,io,lT,rfl,rfl,o9⟩
 let fM:Res:=.row fB im 3 1 (nD KL.encI ao.Classes)
 let dD:Res:=.row fC io 22 1 lT
 have tf:sW w U gq [fM,dD,bi,am,.blk ak 24 aj,an,.blk ai 79 B2,.blk ag 79 B1] ly:=tc
 refine zk (pv:=[(0,jV 0),(1,jV 0),(2,jV 0)]) (zs:=B0) (cs:=B0) Z Z Z Z Z (wAA Z (wAA Z (wAA Z wAO))) zA zC ZM Z Z Z Z Z tf ?_
 intro bO g6 th
 let cH:Res:=.row (some ⟨g6,0,none⟩) 3 3 1 (nD KL.encI [0,0,0])
 have tj:sW w U gq [cH,fM,dD,bi,am,.blk ak 24 aj,an,.blk ai 79 B2,.blk ag 79 B1] bO:=th
 have q:=tj.freezeR (k:=1) (n:=ao.Classes.length) rfl (wAC (f:=KL.encI) (sz:=1) (fun _=>rfl) ao.Classes) (by decide)
 obtain ⟨jN,eS,wc,tp⟩:=q
 have tq:sW w U jN [cH,dD,bi,am,.blk ak 24 aj,an,.blk ai 79 B2,.blk ag 79 B1] bO:=tp
 have pa:=o9.le eS
 have q:=tq.freezeRR (R:=wDe) (k:=1) rfl pa rfl (by decide)
 obtain ⟨jO,eV,wd,tr⟩:=q
 have tt:sW w U jO [cH,bi,am,.blk ak 24 aj,an,.blk ai 79 B2,.blk ag 79 B1] bO:=tr
 have q:=tt.freezeR (k:=1) (n:=[2250,2400].length) rfl (wAC (f:=KL.encI) (sz:=1) (fun _=>rfl) [2250,2400]) (by decide)
 obtain ⟨jP,cZ,we,tu⟩:=q
 have tv:sW w U jP [cH,am,.blk ak 24 aj,an,.blk ai 79 B2,.blk ag 79 B1] bO:=tu
 have q:=tv.freezeR (k:=0) (n:=[0,0,0].length) rfl (wAC (f:=KL.encI) (sz:=1) (fun _=>rfl) [0,0,0]) (by decide)
 obtain ⟨gr,cx,wg,tw⟩:=q
 have tz:sW w U gr [am,.blk ak 24 aj,an,.blk ai 79 B2,.blk ag 79 B1] bO:=tw
 have pb:=bp.le bF
 have pd:=pb.le i9
 have pe:=pd.le eS
 have pg:=pe.le eV
 have ph:=pg.le cZ
 have pi:=ph.le cx
 have pj:=wc.le eV
 have pm:=pj.le cZ
 have pn:=pm.le cx
 have pp:=wd.le cZ
 have pq:=pp.le cx
 have pt:=we.le cx
 refine zP 0 Z Z Z Z (zQ Z Z Tryz.call44 (zH Z (zH Z (zH Z (zH Z zZ)))) Z) tz (fun hs=>wDz ap.Rules be bf ao fB im fC io [2250,2400] (some ⟨dV,0,none⟩) 2 [0,0,0] (some ⟨g6,0,none⟩) 3 bO gr hs pi pn pq pt wg bS) (.inr Z) ?_
 rintro gu xo Aj lz wJ tA ⟨rfl,rfl⟩
 have tB:sW w U gu [am,.blk ak 24 aj,an,.blk ai 79 B2,.blk ag 79 B1] lz:=tA
 refine oM Z Z (oR Z (ZF Z Z (v:=jV bV) Z) (oR Z (ZF Z Z (v:=jV bW) Z) (oA Z Z (oA Z Z (zg ?_)))))
 cases bE
 exact zF ⟨rfl,⟨gu,rfl,rfl,rfl,rfl,rfl,rfl,(((((i9.trans eS).trans eV).trans cZ).trans cx).trans wJ),(tB.pick [1,3,4,0] _ (by decide) rfl)⟩⟩
 refine zk (pv:=[(0,jV 0),(1,jV 0),(2,jV 0)]) (zs:=B0) (cs:=B0) Z Z Z Z Z (wAA Z (wAA Z (wAA Z wAO))) zA zC ZM Z Z Z Z Z iI ?_
 intro gK g7 tC
 let b4:Res:=.row (some ⟨g7,0,none⟩) 3 3 1 (nD KL.encI [0,0,0])
 have tD:sW w U bb [b4,bi,am,.blk ak 24 aj,an,.blk ai 79 B2,.blk ag 79 B1] gK:=tC
 refine zP 0 Z Z Z Z (zQ Z Z Tryz.call82 zZ Z) tD (fun hs=>wBv gK bb hs ci) (.inr Z) ?_
 rintro jQ xp Ak bP ja tE ⟨fD,ip,dx,eu,iq,rfl,rfl,pu⟩
 have tF:sW w U jQ [.row fD ip 3 1 (nD KL.encI ao.Classes),.row dx eu 22 1 iq,b4,bi,am,.blk ak 24 aj,an,.blk ai 79 B2,.blk ag 79 B1] bP:=tE
 have q:=tF.freezeR (k:=0) (n:=ao.Classes.length) rfl (wAC (f:=KL.encI) (sz:=1) (fun _=>rfl) ao.Classes) (by decide)
 obtain ⟨jR,eW,wh,tG⟩:=q
 have tH:sW w U jR [.row dx eu 22 1 iq,b4,bi,am,.blk ak 24 aj,an,.blk ai 79 B2,.blk ag 79 B1] bP:=tG
 have py:=pu.le eW
 have q:=tH.freezeRR (R:=wDe) (k:=0) rfl py rfl (by decide)
 obtain ⟨jS,eX,wi,tI⟩:=q
 have tJ:sW w U jS [b4,bi,am,.blk ak 24 aj,an,.blk ai 79 B2,.blk ag 79 B1] bP:=tI
 have q:=tJ.freezeR (k:=1) (n:=[2250,2400].length) rfl (wAC (f:=KL.encI) (sz:=1) (fun _=>rfl) [2250,2400]) (by decide)
 obtain ⟨jT,c9,wj,tK⟩:=q
 have tL:sW w U jT [b4,am,.blk ak 24 aj,an,.blk ai 79 B2,.blk ag 79 B1] bP:=tK
 have q:=tL.freezeR (k:=0) (n:=[0,0,0].length) rfl (wAC (f:=KL.encI) (sz:=1) (fun _=>rfl) [0,0,0]) (by decide)
 obtain ⟨gv,cy,wk,tM⟩:=q
 have tN:sW w U gv [am,.blk ak 24 aj,an,.blk ai 79 B2,.blk ag 79 B1] bP:=tM
 have pz:=bp.le bF
 have pC:=pz.le ja
 have pD:=pC.le eW
 have pE:=pD.le eX
 have pF:=pE.le c9
 have pG:=pF.le cy
 have pH:=wh.le eX
 have pI:=pH.le c9
 have pJ:=pI.le cy
 have pK:=wi.le c9
 have pL:=pK.le cy
 have pM:=wj.le cy
 refine zP 0 Z Z Z Z (zQ Z Z Tryz.call44 (zH Z (zH Z (zH Z (zH Z zZ)))) Z) tN (fun hs=>wDz ap.Rules be bf ao fD ip dx eu [2250,2400] (some ⟨dV,0,none⟩) 2 [0,0,0] (some ⟨g7,0,none⟩) 3 bP gv hs pG pJ pL pM wk bS) (.inr Z) ?_
 rintro gw xq Al lA wK tO ⟨rfl,rfl⟩
 have tP:sW w U gw [am,.blk ak 24 aj,an,.blk ai 79 B2,.blk ag 79 B1] lA:=tO
 refine oM Z Z (oR Z (ZF Z Z (v:=jV bV) Z) (oR Z (ZF Z Z (v:=jV bW) Z) (oA Z Z (oA Z Z (zg ?_)))))
 cases bE
 exact zF ⟨rfl,⟨gw,rfl,rfl,rfl,rfl,rfl,rfl,(((((ja.trans eW).trans eX).trans c9).trans cy).trans wK),(tP.pick [1,3,4,0] _ (by decide) rfl)⟩⟩
 refine zk (pv:=[(0,jV 0),(1,jV 0),(2,jV 0)]) (zs:=B0) (cs:=B0) Z Z Z Z Z (wAA Z (wAA Z (wAA Z wAO))) zA zC ZM Z Z Z Z Z co ?_
 intro gL dW tQ
 let a7:Res:=.row (some ⟨dW,0,none⟩) 3 3 1 (nD KL.encI [0,0,0])
 have iK:sW w U bb [a7,am,.blk ak 24 aj,an,.blk ai 79 B2,.blk ag 79 B1] gL:=tQ
 refine yU ?_ ?_
 refine zP 0 Z Z Z Z (zQ Z Z Tryz.call82 zZ Z) iK (fun hs=>wBv gL bb hs ci) (.inr Z) ?_
 rintro gx xr Am lB jb tR ⟨fE,ir,fG,it,lU,rfl,rfl,pO⟩
 let fN:Res:=.row fE ir 3 1 (nD KL.encI ao.Classes)
 let dE:Res:=.row fG it 22 1 lU
 have tS:sW w U gx [fN,dE,a7,am,.blk ak 24 aj,an,.blk ai 79 B2,.blk ag 79 B1] lB:=tR
 refine zk (pv:=[(0,jV 2250),(1,jV 2400)]) (zs:=[jV 0,jV 0]) (cs:=[jV 2250,jV 2400]) Z Z Z Z Z (wAA Z (wAA Z wAO)) zA zC ZM Z Z Z Z Z tS ?_
 intro bQ g8 tT
 let dF:Res:=.row (some ⟨g8,0,none⟩) 2 3 1 (nD KL.encI [2250,2400])
 have tU:sW w U gx [dF,fN,dE,a7,am,.blk ak 24 aj,an,.blk ai 79 B2,.blk ag 79 B1] bQ:=tT
 have q:=tU.freezeR (k:=1) (n:=ao.Classes.length) rfl (wAC (f:=KL.encI) (sz:=1) (fun _=>rfl) ao.Classes) (by decide)
 obtain ⟨jU,eY,wl,tV⟩:=q
 have tW:sW w U jU [dF,dE,a7,am,.blk ak 24 aj,an,.blk ai 79 B2,.blk ag 79 B1] bQ:=tV
 have pQ:=pO.le eY
 have q:=tW.freezeRR (R:=wDe) (k:=1) rfl pQ rfl (by decide)
 obtain ⟨jW,eZ,wm,tX⟩:=q
 have tY:sW w U jW [dF,a7,am,.blk ak 24 aj,an,.blk ai 79 B2,.blk ag 79 B1] bQ:=tX
 have q:=tY.freezeR (k:=0) (n:=[2250,2400].length) rfl (wAC (f:=KL.encI) (sz:=1) (fun _=>rfl) [2250,2400]) (by decide)
 obtain ⟨jX,dd,wn,tZ⟩:=q
 have t1:sW w U jX [a7,am,.blk ak 24 aj,an,.blk ai 79 B2,.blk ag 79 B1] bQ:=tZ
 have q:=t1.freezeR (k:=0) (n:=[0,0,0].length) rfl (wAC (f:=KL.encI) (sz:=1) (fun _=>rfl) [0,0,0]) (by decide)
 obtain ⟨gy,cz,wo,t2⟩:=q
 have t6:sW w U gy [am,.blk ak 24 aj,an,.blk ai 79 B2,.blk ag 79 B1] bQ:=t2
 have pR:=bp.le bF
 have pS:=pR.le jb
 have pT:=pS.le eY
 have pU:=pT.le eZ
 have pV:=pU.le dd
 have pW:=pV.le cz
 have pX:=wl.le eZ
 have pY:=pX.le dd
 have pZ:=pY.le cz
 have p6:=wm.le dd
 have p7:=p6.le cz
 have p8:=wn.le cz
 refine zP 0 Z Z Z Z (zQ Z Z Tryz.call44 (zH Z (zH Z (zH Z (zH Z zZ)))) Z) t6 (fun hs=>wDz ap.Rules be bf ao fE ir fG it [2250,2400] (some ⟨g8,0,none⟩) 2 [0,0,0] (some ⟨dW,0,none⟩) 3 bQ gy hs pW pZ p7 p8 wo bS) (.inr Z) ?_
 rintro gz xu Ao lC wL t7 ⟨rfl,rfl⟩
 have t8:sW w U gz [am,.blk ak 24 aj,an,.blk ai 79 B2,.blk ag 79 B1] lC:=t7
 refine oM Z Z (oR Z (ZF Z Z (v:=jV bV) Z) (oR Z (ZF Z Z (v:=jV bW) Z) (oA Z Z (oA Z Z (zg ?_)))))
 cases bE
 exact zF ⟨rfl,⟨gz,rfl,rfl,rfl,rfl,rfl,rfl,(((((jb.trans eY).trans eZ).trans dd).trans cz).trans wL),(t8.pick [1,3,4,0] _ (by decide) rfl)⟩⟩
 refine zk (pv:=[(0,jV 2250),(1,jV 2400)]) (zs:=[jV 0,jV 0]) (cs:=[jV 2250,jV 2400]) Z Z Z Z Z (wAA Z (wAA Z wAO)) zA zC ZM Z Z Z Z Z iK ?_
 intro gM g9 ub
 let cI:Res:=.row (some ⟨g9,0,none⟩) 2 3 1 (nD KL.encI [2250,2400])
 have uc:sW w U bb [cI,a7,am,.blk ak 24 aj,an,.blk ai 79 B2,.blk ag 79 B1] gM:=ub
 refine zP 0 Z Z Z Z (zQ Z Z Tryz.call82 zZ Z) uc (fun hs=>wBv gM bb hs ci) (.inr Z) ?_
 rintro jY xv Ap bR jc ud ⟨fH,iu,dy,eA,iv,rfl,rfl,p9⟩
 have ue:sW w U jY [.row fH iu 3 1 (nD KL.encI ao.Classes),.row dy eA 22 1 iv,cI,a7,am,.blk ak 24 aj,an,.blk ai 79 B2,.blk ag 79 B1] bR:=ud
 have q:=ue.freezeR (k:=0) (n:=ao.Classes.length) rfl (wAC (f:=KL.encI) (sz:=1) (fun _=>rfl) ao.Classes) (by decide)
 obtain ⟨jZ,fc,wp,ug⟩:=q
 have uh:sW w U jZ [.row dy eA 22 1 iv,cI,a7,am,.blk ak 24 aj,an,.blk ai 79 B2,.blk ag 79 B1] bR:=ug
 have qa:=p9.le fc
 have q:=uh.freezeRR (R:=wDe) (k:=0) rfl qa rfl (by decide)
 obtain ⟨j4,fd,wq,ui⟩:=q
 have uj:sW w U j4 [cI,a7,am,.blk ak 24 aj,an,.blk ai 79 B2,.blk ag 79 B1] bR:=ui
 have q:=uj.freezeR (k:=0) (n:=[2250,2400].length) rfl (wAC (f:=KL.encI) (sz:=1) (fun _=>rfl) [2250,2400]) (by decide)
 obtain ⟨j5,de,wr,ul⟩:=q
 have um:sW w U j5 [a7,am,.blk ak 24 aj,an,.blk ai 79 B2,.blk ag 79 B1] bR:=ul
 have q:=um.freezeR (k:=0) (n:=[0,0,0].length) rfl (wAC (f:=KL.encI) (sz:=1) (fun _=>rfl) [0,0,0]) (by decide)
 obtain ⟨gA,cA,ws,uo⟩:=q
 have uq:sW w U gA [am,.blk ak 24 aj,an,.blk ai 79 B2,.blk ag 79 B1] bR:=uo
 have qb:=bp.le bF
 have qc:=qb.le jc
 have qd:=qc.le fc
 have qe:=qd.le fd
 have qf:=qe.le de
 have qg:=qf.le cA
 have qh:=wp.le fd
 have qi:=qh.le de
 have qj:=qi.le cA
 have qk:=wq.le de
 have ql:=qk.le cA
 have qm:=wr.le cA
 refine zP 0 Z Z Z Z (zQ Z Z Tryz.call44 (zH Z (zH Z (zH Z (zH Z zZ)))) Z) uq (fun hs=>wDz ap.Rules be bf ao fH iu dy eA [2250,2400] (some ⟨g9,0,none⟩) 2 [0,0,0] (some ⟨dW,0,none⟩) 3 bR gA hs qg qj ql qm ws bS) (.inr Z) ?_
 rintro gC xw Aq lE wM ur ⟨rfl,rfl⟩
 have uu:sW w U gC [am,.blk ak 24 aj,an,.blk ai 79 B2,.blk ag 79 B1] lE:=ur
 refine oM Z Z (oR Z (ZF Z Z (v:=jV bV) Z) (oR Z (ZF Z Z (v:=jV bW) Z) (oA Z Z (oA Z Z (zg ?_)))))
 cases bE
 exact zF ⟨rfl,⟨gC,rfl,rfl,rfl,rfl,rfl,rfl,(((((jc.trans fc).trans fd).trans de).trans cA).trans wM),(uu.pick [1,3,4,0] _ (by decide) rfl)⟩⟩
 rintro AE gN ⟨j6,l7,l8,ma,mb,mc,md,wN,uv⟩
 refine zG (ZY ZQ [1,2,2,3,3,3,3,3] (.fl 0 (.fx 1 (.fx 2 (wQx (.nil)) .stop) .stop)) (by kernel_rfl) ?_)
 have eH:=uv.drew
 generalize hw_W975:({ gN with drawn:=gN.drawn + 1 }:World)=lG at eH ⊢
 refine oL Z (eH.ldBA (j:=0) Z Z ma yR ZZ (vs:=aj) Z Z) (bnK iU fun dm qn vp=>zP 0 Z Z Z Z (zQ Z Z Tryz.call82 zZ Z) eH (fun hs=>wBv lG j6 hs qn) (.inr Z) ?_)
 rintro j7 xx Ar cR wO uw ⟨fI,iw,dz,eB,ix,rfl,rfl,qo⟩
 have uy:sW w U j7 [.row fI iw 3 1 (nD KL.encI dm.Classes),.row dz eB 22 1 ix,.blk ak 24 aj,.blk ai 79 B2,.blk ag 79 B1,am] cR:=uw
 have q:=uy.freezeR (k:=0) (n:=dm.Classes.length) rfl (wAC (f:=KL.encI) (sz:=1) (fun _=>rfl) dm.Classes) (by decide)
 obtain ⟨j8,jd,wt,uz⟩:=q
 have uA:sW w U j8 [.row dz eB 22 1 ix,.blk ak 24 aj,.blk ai 79 B2,.blk ag 79 B1,am] cR:=uz
 have me:=qo.le jd
 have q:=uA.freezeRR (R:=wDe) (k:=0) rfl me rfl (by decide)
 obtain ⟨gD,iX,vv,qs⟩:=q
 have qt:sW w U gD [.blk ak 24 aj,.blk ai 79 B2,.blk ag 79 B1,am] cR:=qs
 have mg:=bp.le bF
 have mh:=mg.le wN
 have mi:=mh.le wO
 have mj:=mi.le jd
 have ml:=mj.le iX
 have mm:=wt.le iX
 have q:=bnd vp
 obtain ⟨⟨je,jf⟩,mn,iL⟩:=q
 try dsimp only at iL
 refine zP 0 Z Z Z Z (zQ Z Z Tryz.call46 (zH Z (zH Z (zH Z zZ))) Z) qt (fun hs=>wKt ap.Rules be bf dm fI iw dz eB 2 cR gD hs ml mm vv mn) (.inr Z) ?_
 rintro fU wW xW j9 xE qu ⟨rfl,rfl⟩
 have qv:sW w U fU [.blk ak 24 aj,.blk ai 79 B2,.blk ag 79 B1,am] j9:=qu
 refine oM Z Z (oR Z (ZF Z Z (v:=jV je) Z) (oR Z (ZF Z Z (v:=jV jf) Z) (oA Z Z (oA Z Z (eN (sR (wDw (.fx 3 (.fx 4 (wMN (.nil)) .stop) .stop)) Z ?_))))))
 let bs:List Value:=[jV 0,jV 0]
 refine oR Z (ZT (pv:=[(0,jV 100),(1,jV 200)]) (z:=bs) (cs:=[jV 100,jV 200]) Z (wAA Z (wAA Z wAO)) yW wFM Z Z) (oR Z (ZT (pv:=[(0,jV 150),(1,jV 300)]) (z:=bs) (cs:=[jV 150,jV 300]) Z (wAA Z (wAA Z wAO)) yW wFM Z Z) (oR Z (ZT (pv:=[(0,jV 250),(1,jV 260)]) (z:=bs) (cs:=[jV 250,jV 260]) Z (wAA Z (wAA Z wAO)) yW wFM Z Z) (zk (pv:=[(0,.agg #[jV 100,jV 200]),(1,.agg #[jV 150,jV 300]),(2,.agg #[jV 250,jV 260])]) (zs:=[jV 0,jV 0,jV 0,jV 0,jV 0,jV 0]) (cs:=[jV 100,jV 200,jV 150,jV 300,jV 250,jV 260]) Z Z Z Z Z (wAA Z (wAA Z (wAA Z wAO))) Zt yL yW Z Z Z Z Z qv ?_)))
 intro dO gP qw
 have qx:sW w U fU [.row (some ⟨gP,0,none⟩) 3 121 2 (nD wAh [(⟨100,200⟩:wAS),(⟨150,300⟩:wAS),(⟨250,260⟩:wAS)]),.blk ak 24 aj,.blk ai 79 B2,.blk ag 79 B1,am] dO:=qw
 have q:=qx.freezeR (k:=0) (n:=[(⟨100,200⟩:wAS),(⟨150,300⟩:wAS),(⟨250,260⟩:wAS)].length) rfl (wAC (f:=wAh) (sz:=2) (fun _=>rfl) [(⟨100,200⟩:wAS),(⟨150,300⟩:wAS),(⟨250,260⟩:wAS)]) (by decide)
 obtain ⟨fV,xF,vw,qy⟩:=q
 have qz:sW w U fV [.blk ak 24 aj,.blk ai 79 B2,.blk ag 79 B1,am] dO:=qy
 have q:=bnd iL
 obtain ⟨⟨bU,jg⟩,mq,iM⟩:=q
 try dsimp only at iM
 refine zP 0 Z Z Z Z (zQ Z Z Tryz.call83 (zH Z zZ) Z) qz (fun hs=>wJR [(⟨100,200⟩:wAS),(⟨150,300⟩:wAS),(⟨250,260⟩:wAS)] (some ⟨gP,0,none⟩) 3 dO fV hs vw mq) (.inr Z) ?_
 rintro bK wX xX k6 xG qA ⟨cC,cS,rfl,rfl⟩
 let bJ:Res:=.row cC cS 121 2 (nD wAh bU)
 have cj:sW w U bK [bJ,.blk ak 24 aj,.blk ai 79 B2,.blk ag 79 B1,am] k6:=qA
 refine oM Z Z (oR Z (ZF Z Z (v:=.slice cC bU.length cS) Z) (oR Z (ZF Z Z (v:=jV jg) Z) (oA Z Z (oA Z Z (eN (zG (yu fun bo bh=>?_)))))))
 have lV:bo 2=jV fq:=(bh 2).trans l7
 have lW:bo 4=jV jj:=(bh 4).trans l8
 have lY:bo 6=jV jf:=(bh 6).trans rfl
 have lZ:bo 8=jV jg:=(bh 8).trans rfl
 have l0:bo 12=.slice bX bH.length ch:=(bh 12).trans mb
 have l3:bo 13=jV fm:=(bh 13).trans mc
 have l4:bo 14=jV jk:=(bh 14).trans md
 have l5:bo 15=jV je:=(bh 15).trans rfl
 have l6:bo 16=.slice cC bU.length cS:=(bh 16).trans rfl
 clear bh
 refine rR (wQD (.fx 16 (.fx 17 (wRH (.fx 36 (.fx 37 (.fl 38 (.fl 39 .nil)) .stop) .stop)) .stop) .stop)) Z (oM Z lV (oR Z (yJ Z Z Z) (oM Z Z (ifc iM ?_ ?_))))
 intro bt uC
 refine zh Z Z Z (wT Z bt) Z lW (rU Z (wT Z bt) (yJ Z Z Z) (oR Z (zX Z (Zl bt.out) Z) (oM Z Z (ifc uC ?_ ?_))))
 intro bu uD
 refine zh Z Z Z (wT Z bu) Z lY (rU Z (wT Z bu) (yJ Z Z Z) (oR Z (zX Z (Zl bu.out) Z) (oM Z Z (ifc uD ?_ ?_))))
 intro bv uE
 refine zh Z Z Z (wT Z bv) Z lZ (rU Z (wT Z bv) (yJ Z Z Z) (oR Z (zX Z (Zl bv.out) Z) (oM Z Z (ifc uE ?_ ?_))))
 intro bj uF
 refine zh Z Z Z (wT Z bj) Z l0 (zk (pv:=[(0,jV 2),(1,jV 1)]) (zs:=bs) (cs:=[jV 2,jV 1]) Z Z Z (wT Z bj) Z (wAA Z (wAA Z wAO)) zA zC ZM Z Z Z Z Z cj ?_)
 intro cK gQ qC
 let fO:Res:=.row (some ⟨gQ,0,none⟩) 2 3 1 (nD KL.encI [2,1])
 have qD:sW w U bK [fO,bJ,.blk ak 24 aj,.blk ai 79 B2,.blk ag 79 B1,am] cK:=qC
 have q:=qD.freezeR (k:=5) (n:=bH.length) rfl (wAC (f:=KL.encI) (sz:=1) (fun _=>rfl) bH) (by decide)
 obtain ⟨jq,xH,vx,qE⟩:=q
 have qF:sW w U jq [fO,bJ,.blk ak 24 aj,.blk ai 79 B2,.blk ag 79 B1] cK:=qE
 have q:=qF.freezeR (k:=0) (n:=[2,1].length) rfl (wAC (f:=KL.encI) (sz:=1) (fun _=>rfl) [2,1]) (by decide)
 obtain ⟨fW,wv,vy,qG⟩:=q
 have qH:sW w U fW [bJ,.blk ak 24 aj,.blk ai 79 B2,.blk ag 79 B1] cK:=qG
 have mr:=vx.le wv
 refine bnK uF fun Aw ms uG=>zP 0 Z Z Z (wT Z bj) (zQ Z Z Tryz.call51 (zH Z (zH Z zZ)) Z) qH (fun hs=>wCl bH bX ch [2,1] (some ⟨gQ,0,none⟩) 2 cK fW hs mr vy ms) (.inr Z) ?_
 rintro bL wZ xZ k8 xJ qI ⟨rfl,rfl⟩
 have cm:sW w U bL [bJ,.blk ak 24 aj,.blk ai 79 B2,.blk ag 79 B1] k8:=qI
 refine oR Z (zX Z (Zl bj.out) Z) (oM Z Z (ifc uG ?_ ?_))
 intro bw uH
 refine zh Z Z Z (zL Z Z (congrArg nA bw.out)) Z l3 (zf Z Z Z (zL Z Z (congrArg nA bw.out)) (fun _=>yJ Z Z Z) (oR Z (zX Z (congrArg nA bw.out) Z) (oM Z Z (ifc uH ?_ ?_))))
 intro bx uI
 refine zh Z Z Z (wT Z bx) Z l4 (rU Z (wT Z bx) (yJ Z Z Z) (oR Z (zX Z (Zl bx.out) Z) (oM Z Z (ifc uI ?_ ?_))))
 intro bz uJ
 refine zh Z Z Z (wT Z bz) Z l5 (rU Z (wT Z bz) (yJ Z Z Z) (oR Z (zX Z (Zl bz.out) Z) (oM Z Z (ifc uJ ?_ ?_))))
 intro aw uK
 refine zh Z Z Z (wT Z aw) Z l6 (rU Z (wT Z aw) (ZT (pv:=[(0,jV 1),(1,jV 2)]) (z:=bs) (cs:=[jV 1,jV 2]) Z (wAA Z (wAA Z wAO)) yW wFM Z Z) (rU Z (wT Z aw) (ZT (pv:=[(0,jV 1),(1,jV 3)]) (z:=bs) (cs:=[jV 1,jV 3]) Z (wAA Z (wAA Z wAO)) yW wFM Z Z) (rU Z (wT Z aw) (ZT (pv:=[(0,jV 2),(1,jV 3)]) (z:=bs) (cs:=[jV 2,jV 3]) Z (wAA Z (wAA Z wAO)) yW wFM Z Z) (zk (pv:=[(0,.agg #[jV 1,jV 2]),(1,.agg #[jV 1,jV 3]),(2,.agg #[jV 2,jV 3])]) (zs:=[jV 0,jV 0,jV 0,jV 0,jV 0,jV 0]) (cs:=[jV 1,jV 2,jV 1,jV 3,jV 2,jV 3]) Z Z Z (wT Z aw) Z (wAA Z (wAA Z (wAA Z wAO))) Zt yL yW Z Z Z Z Z cm ?_))))
 intro cM gR qK
 let fP:Res:=.row (some ⟨gR,0,none⟩) 3 121 2 (nD wAh [(⟨1,2⟩:wAS),(⟨1,3⟩:wAS),(⟨2,3⟩:wAS)])
 have qL:sW w U bL [fP,bJ,.blk ak 24 aj,.blk ai 79 B2,.blk ag 79 B1] cM:=qK
 have q:=qL.freezeR (k:=1) (n:=bU.length) rfl (wAC (f:=wAh) (sz:=2) (fun _=>rfl) bU) (by decide)
 obtain ⟨jr,xK,vz,qM⟩:=q
 have qN:sW w U jr [fP,.blk ak 24 aj,.blk ai 79 B2,.blk ag 79 B1] cM:=qM
 have q:=qN.freezeR (k:=0) (n:=[(⟨1,2⟩:wAS),(⟨1,3⟩:wAS),(⟨2,3⟩:wAS)].length) rfl (wAC (f:=wAh) (sz:=2) (fun _=>rfl) [(⟨1,2⟩:wAS),(⟨1,3⟩:wAS),(⟨2,3⟩:wAS)]) (by decide)
 obtain ⟨fY,ww,vA,qO⟩:=q
 have qP:sW w U fY [.blk ak 24 aj,.blk ai 79 B2,.blk ag 79 B1] cM:=qO
 have mw:=vz.le ww
 refine bnK uK fun Ay mx uL=>zP 0 Z Z Z (wT Z aw) (zQ Z Z Tryz.call84 (zH Z (zH Z zZ)) Z) qP (fun hs=>wFR bU cC cS [(⟨1,2⟩:wAS),(⟨1,3⟩:wAS),(⟨2,3⟩:wAS)] (some ⟨gR,0,none⟩) 3 cM fY hs mw vA mx) (.inr Z) ?_
 rintro fZ w5 x8 k9 xL qQ ⟨rfl,rfl⟩
 have qR:sW w U fZ [.blk ak 24 aj,.blk ai 79 B2,.blk ag 79 B1] k9:=qQ
 refine oR Z (zX Z (Zl aw.out) Z) (oA Z Z (eN (zS ?_)))
 have hE:=nG uL;first | subst r | cases hE
 exact ⟨rfl,_,(zw rfl),fZ,_,(qR.pick [] _ (by decide) rfl),rfl,rfl⟩
 intro aw uM
 refine oF Z aw (oF Z aw (oF Z aw (oF Z aw (ZI Z Z Z (zO Z Z (zo aw.out) Z) (ZI Z Z Z (zO Z Z (zo aw.out) Z) (oR Z (za Z (zo aw.out) Z) (oA Z Z (eN (zS ?_)))))))))
 have hE:=nG uM;first | subst r | cases hE
 exact ⟨rfl,_,(zw rfl),bL,_,(cm.pick [] _ (by decide) rfl),rfl,rfl⟩
 intro bz uN
 refine oF Z bz (oF Z bz (oR Z (za Z (zo bz.out) Z) (oM Z Z (oN Z (oN Z (oN Z (oN Z (ZI Z Z Z (zO Z Z Z Z) (ZI Z Z Z (zO Z Z Z Z) (oR Z (za Z Z Z) (oA Z Z (eN (zS ?_)))))))))))))
 have hE:=nG uN;first | subst r | cases hE
 exact ⟨rfl,_,(zw rfl),bL,_,(cm.pick [] _ (by decide) rfl),rfl,rfl⟩
 intro bx uO
 refine oF Z bx (oF Z bx (oR Z (za Z (zo bx.out) Z) (oM Z Z (oN Z (oN Z (oR Z (za Z Z Z) (oM Z Z (oN Z (oN Z (oN Z (oN Z (ZI Z Z Z (zO Z Z Z Z) (ZI Z Z Z (zO Z Z Z Z) (oR Z (za Z Z Z) (oA Z Z (eN (zS ?_)))))))))))))))))
 have hE:=nG uO;first | subst r | cases hE
 exact ⟨rfl,_,(zw rfl),bL,_,(cm.pick [] _ (by decide) rfl),rfl,rfl⟩
 intro bw uP
 refine zc Z Z Z (zO Z Z (congrArg nA (nE.2 bw.out)) Z) (zc Z Z Z (zO Z Z (congrArg nA (nE.2 bw.out)) Z) (oR Z (za Z (congrArg nA (nE.2 bw.out)) Z) (oM Z Z (oN Z (oN Z (oR Z (za Z Z Z) (oM Z Z (oN Z (oN Z (oR Z (za Z Z Z) (oM Z Z (oN Z (oN Z (oN Z (oN Z (ZI Z Z Z (zO Z Z Z Z) (ZI Z Z Z (zO Z Z Z Z) (oR Z (za Z Z Z) (oA Z Z (eN (zS ?_)))))))))))))))))))))
 have hE:=nG uP;first | subst r | cases hE
 exact ⟨rfl,_,(zw rfl),bL,_,(cm.pick [] _ (by decide) rfl),rfl,rfl⟩
 intro bj uQ
 refine oF Z bj (ZI Z Z Z (zO Z Z (zo bj.out) Z) (ZI Z Z Z (zO Z Z (zo bj.out) Z) (oR Z (za Z (zo bj.out) Z) (oM Z Z (oN Z (oN Z (oR Z (za Z Z Z) (oM Z Z (oN Z (oN Z (oR Z (za Z Z Z) (oM Z Z (oN Z (oN Z (oR Z (za Z Z Z) (oM Z Z (oN Z (oN Z (oN Z (oN Z (ZI Z Z Z (zO Z Z Z Z) (ZI Z Z Z (zO Z Z Z Z) (oR Z (za Z Z Z) (oA Z Z (eN (zS ?_))))))))))))))))))))))))))
 have hE:=nG uQ;first | subst r | cases hE
 exact ⟨rfl,_,(zw rfl),bK,_,(cj.pick [] _ (by decide) rfl),rfl,rfl⟩
 intro bv uR
 refine oF Z bv (oF Z bv (oR Z (za Z (zo bv.out) Z) (oM Z Z (oN Z (ZI Z Z Z (zO Z Z Z Z) (ZI Z Z Z (zO Z Z Z Z) (oR Z (za Z Z Z) (oM Z Z (oN Z (oN Z (oR Z (za Z Z Z) (oM Z Z (oN Z (oN Z (oR Z (za Z Z Z) (oM Z Z (oN Z (oN Z (oR Z (za Z Z Z) (oM Z Z (oN Z (oN Z (oN Z (oN Z (ZI Z Z Z (zO Z Z Z Z) (ZI Z Z Z (zO Z Z Z Z) (oR Z (za Z Z Z) (oA Z Z (eN (zS ?_))))))))))))))))))))))))))))))
 have hE:=nG uR;first | subst r | cases hE
 exact ⟨rfl,_,(zw rfl),bK,_,(cj.pick [] _ (by decide) rfl),rfl,rfl⟩
 intro bu uS
 refine oF Z bu (oF Z bu (oR Z (za Z (zo bu.out) Z) (oM Z Z (oN Z (oN Z (oR Z (za Z Z Z) (oM Z Z (oN Z (ZI Z Z Z (zO Z Z Z Z) (ZI Z Z Z (zO Z Z Z Z) (oR Z (za Z Z Z) (oM Z Z (oN Z (oN Z (oR Z (za Z Z Z) (oM Z Z (oN Z (oN Z (oR Z (za Z Z Z) (oM Z Z (oN Z (oN Z (oR Z (za Z Z Z) (oM Z Z (oN Z (oN Z (oN Z (oN Z (ZI Z Z Z (zO Z Z Z Z) (ZI Z Z Z (zO Z Z Z Z) (oR Z (za Z Z Z) (oA Z Z (eN (zS ?_))))))))))))))))))))))))))))))))))
 have hE:=nG uS;first | subst r | cases hE
 exact ⟨rfl,_,(zw rfl),bK,_,(cj.pick [] _ (by decide) rfl),rfl,rfl⟩
 intro bt uT
 refine oF Z bt (oF Z bt (oR Z (za Z (zo bt.out) Z) (oM Z Z (oN Z (oN Z (oR Z (za Z Z Z) (oM Z Z (oN Z (oN Z (oR Z (za Z Z Z) (oM Z Z (oN Z (ZI Z Z Z (zO Z Z Z Z) (ZI Z Z Z (zO Z Z Z Z) (oR Z (za Z Z Z) (oM Z Z (oN Z (oN Z (oR Z (za Z Z Z) (oM Z Z (oN Z (oN Z (oR Z (za Z Z Z) (oM Z Z (oN Z (oN Z (oR Z (za Z Z Z) (oM Z Z (oN Z (oN Z (oN Z (oN Z (ZI Z Z Z (zO Z Z Z Z) (ZI Z Z Z (zO Z Z Z Z) (oR Z (za Z Z Z) (oA Z Z (eN (zS ?_))))))))))))))))))))))))))))))))))))))
 have hE:=nG uT;first | subst r | cases hE
 exact ⟨rfl,_,(zw rfl),bK,_,(cj.pick [] _ (by decide) rfl),rfl,rfl⟩
set_option maxHeartbeats 4000000
theorem wDW (p0:List Int) (am:Option Addr) (an:Nat) (w:World) (U:PHeap) (hS:St0 w U []) (ax:Sl U 1 am an p0.length (nD KL.encI p0)) {r:(List Int)} (hm:wBU p0=some r):Gv Tryz.prog 38 [.slice am p0.length an] w (wBp w [] U (fun U_ L_ v=>∃ (A0:Option Addr) (c0:Nat),v=.slice A0 r.length c0/\L_=[.row A0 c0 3 1 (nD KL.encI r)])):=by
 unfold wBU at hm
 refine Gv.of Tryz.func38 Z Tryz.ntmps38 Tryz.results38 Z (sR fL1 Z (oA Z Z (eN (sR gDg Z (oM Z Z ?_)))))
 have au:=hS.nilrow 3 1
 have ak:sW w U U [.row none 0 3 1 (nD KL.encI ([]:List Int))] w:=au
 refine bnK hm fun x4 h5 ay=>yE (j:=0) (enc:=KL.encI) (xs:=([]:List Int)) (ys:=p0) (zs:=x4) Z Z Z Z Z Zy wFN Z Z Z Z Z Z ak Z Z Z (ak.srcS ax) (fun _=>Z) (fun _=>Z) h5 Z ?_
 intro A7 c8 W9 av
 have aw:sW w U U [.row A7 c8 3 1 (nD KL.encI x4)] W9:=av
 refine oA Z Z (eN (zS ?_))
 have hE:=nG ay;first | subst r | cases hE
 exact ⟨Z,_,(zw Z),U,_,aw,A7,c8,Z,Z⟩
theorem wCq (p0:wAE) (ah:Option Addr) (ai:Nat) (w:World) (U:PHeap) (hS:St0 w U []) (bn:Sl U 1 ah ai p0.Classes.length (nD KL.encI p0.Classes)) {r:wAE} (hm:wBS p0=some r):Gv Tryz.prog 36 [.agg #[.slice ah p0.Classes.length ai,jV p0.Each,jV p0.Laps,jV p0.Spare,jV p0.Loop,jV p0.Unused]] w (wBp w [] U (fun U_ L_ v=>∃ (av:Option Addr) (ax:Nat),v=.agg #[.slice av r.Classes.length ax,jV r.Each,jV r.Laps,jV r.Spare,jV r.Loop,jV r.Unused]/\L_=[.row av ax 3 1 (nD KL.encI r.Classes)])):=by
 unfold wBS at hm
 refine Gv.of Tryz.func36 Z Tryz.ntmps36 Tryz.results36 Z (sR gCx Z ?_)
 let B0:List Value:=[.slice ah p0.Classes.length ai,jV p0.Each,jV p0.Laps,jV p0.Spare,jV p0.Loop,jV p0.Unused]
 refine ZX (cs:=B0) rfl rfl rfl rfl rfl rfl (by rfl) hS ?_
 intro W1 b2 bm
 let B1:List Value:=[.slice none 0 0,jV 0,jV 0,jV 0,jV 0,jV 0]
 refine ZB (cs:=B1) Z Z Z Z Z Tryz.zeroValue24 Z bm ?_
 intro W5 b6 a7
 refine eN (sR (.fl 0 (.fl 1 (.fx 2 (.fl 3 (.fx 4 .nil .stop)) .stop))) Z (oR Z (zD Z Z ZG Z zT) (oL Z (a7.ldB (j:=1) Z Z Z ze (v:=.slice ah p0.Classes.length ai) Z) (bnK hm fun x9 bf bo=>zP 0 Z Z Z Z (zQ Z Z Tryz.call38 (zH Z zZ) Z) a7 (fun hs=>wDW p0.Classes ah ai W5 U hs bn bf) (.inr Z) ?_))))
 rintro ak bp bt a8 bs bg ⟨aj,am,rfl,rfl⟩
 let B2:Res:=.row aj am 3 1 (nD KL.encI x9)
 have bh:sW w U ak [B2,.blk b6 24 B1,.blk b2 24 B0] a8:=bg
 refine oR Z (zD Z Z ZG Z zT) (ZK (j:=2) (vs:=[.slice aj x9.length am]) Z Z Z Z bh Z Z Z Z zT (zJ Z) Z Z Z ?_)
 intro bb bi
 let B3:List Value:=[.slice aj x9.length am,jV p0.Each,jV p0.Laps,jV p0.Spare,jV p0.Loop,jV p0.Unused]
 have ay:sW w U ak [B2,.blk b6 24 B1,.blk b2 24 B3] bb:=bi
 refine eN (sR gCy Z (oL Z (ay.ldBA (j:=2) Z Z Z yR ZZ (vs:=B3) Z Z) (ZK (j:=1) (vs:=B3) Z Z Z Z ay Z Z Z Z ZZ (zJ Z) Z Z Z ?_)))
 intro bd bj
 have az:sW w U ak [B2,.blk b6 24 B3,.blk b2 24 B3] bd:=bj
 refine eN (zS ?_)
 cases bo
 exact ⟨rfl,_,(wGv (v:=.agg B3.toArray) ⟨⟨_,rfl,(wEv yR ZZ (az.blkAt (k:=1) rfl) (vs:=B3) rfl rfl)⟩,trivial⟩),ak,_,(az.pick [0] _ (by decide) rfl),aj,am,rfl,rfl⟩
theorem wGM (p0:List Bool) (am:Option Addr) (an:Nat) (w:World) (U:PHeap) (hS:St0 w U []) (ax:Sl U 1 am an p0.length (nD KL.encT p0)) {r:(List Bool)} (hm:wCZ p0=some r):Gv Tryz.prog 164 [.slice am p0.length an] w (wBp w [] U (fun U_ L_ v=>∃ (A0:Option Addr) (c0:Nat),v=.slice A0 r.length c0/\L_=[.row A0 c0 4 1 (nD KL.encT r)])):=by
 unfold wCZ at hm
 refine Gv.of Tryz.func164 Z Tryz.ntmps164 Tryz.results164 Z (sR fL1 Z (oA Z Z (eN (sR gDg Z (oM Z Z ?_)))))
 have au:=hS.nilrow 4 1
 have ak:sW w U U [.row none 0 4 1 (nD KL.encT ([]:List Bool))] w:=au
 refine bnK hm fun x4 h5 ay=>yE (j:=0) (enc:=KL.encT) (xs:=([]:List Bool)) (ys:=p0) (zs:=x4) Z Z Z Z Z Tryz.underlying77 wLk Z Z Z Z Z Z ak Z Z Z (ak.srcS ax) (fun _=>Z) (fun _=>Z) h5 Z ?_
 intro A7 c8 W9 av
 have aw:sW w U U [.row A7 c8 4 1 (nD KL.encT x4)] W9:=av
 refine oA Z Z (eN (zS ?_))
 have hE:=nG ay;first | subst r | cases hE
 exact ⟨Z,_,(zw Z),U,_,aw,A7,c8,Z,Z⟩
theorem wFX (p0:List (List Bool)) (az:Option Addr) (a8:Nat) (w:World) (U:PHeap) (hS:St0 w U []) (co:SlR U wGx az a8 p0) {r:(List (List Bool))} (hm:wBq p0=some r):Gv Tryz.prog 85 [.slice az p0.length a8] w (wBp w [] U (fun U_ L_ v=>∃ (A0:Option Addr) (c0:Nat) (bo:List Value),v=.slice A0 r.length c0/\L_=[.row A0 c0 77 1 bo]/\RlL U_ wGx r bo)):=by
 unfold wBq at hm
 refine Gv.of Tryz.func85 Z Tryz.ntmps85 Tryz.results85 Z (sR fL1 Z (oA Z Z (eN (sR fL1 Z (oA Z Z (eN (zG (sR fL3 Z (oM Z Z (oR Z (zW Z Z ZL) (oM Z Z (eN (zR (bnK hm fun cN cp cu=>?_))))))))))))))
 have q:=wAw cp
 obtain ⟨ay,cr⟩:=q
 replace ay:=zI ay
 refine CK.forN' (fun ah aq σ_ w_=>∃ (U_:PHeap) (aj:Option Addr) (an:Nat) (ap:List Value),σ_ 8=jV (↑ah:Int)/\σ_ 3=.slice aj aq.length an/\σ_ 6=.slice az p0.length a8/\σ_ 7=jV (↑p0.length:Int)/\PHeap.Le U U_/\sW w U U_ [.row aj an 77 1 ap] w_/\RlL U_ wGx aq ap) cr ?_ ?_ ?_
 have ca:=hS.nilrow 77 1
 exact ⟨U,none,0,[],Z,Z,Z,Z,(zN _),ca,RlL.nil⟩
 rintro ah aq cM cO bF ax ⟨bh,aj,an,ap,av,bP,br,bs,bx,bu,bS⟩ cC
 have bm:Hid ((↑ah:Int) < (↑p0.length:Int)):=zI (wAo ax)
 replace ax:=zI ax
 have ct:Hid (w64 ((↑ah:Int) + 1)=(↑(ah + 1):Int)):=zI (by have h1:=ay.out;have h2:=bm.out;rw [wAQ] <;> omega)
 refine sR fL1 Z (oR Z (zV Z av bs) (eN (zG (cT Z bm (kN (zG (zR (sR fL3 Z (bnK cC fun bd bt cw=>?_)))))))))
 have bT:=co.le bx
 have q:=bT.el (wAK bt)
 obtain ⟨bI,cD,cL,bZ,aw,cz⟩:=q
 obtain ⟨a7,bb,rfl,bU⟩:=cz
 replace aw:Cl bh bI (cD + ah * 1) [.slice a7 bd.length bb]:=aw
 refine oR Z (ZC Z br bZ av ZL Zv (wAg bt)) (oL Z (bu.ldC (f:=0) aw (v:=.slice a7 bd.length bb) Z Z yb Z) (oA Z Z (eN (rR (.fl 0 (.fl 1 (.fx 2 (.fx 3 (.fx 4 (.fl 5 .nil) .stop) .stop) .stop))) Z (oM Z bP (oM Z Z (bnK cw fun ag bV cx=>zP 0 Z Z Z Z (zQ Z Z Tryz.call164 (zH Z zZ) Z) bu (fun hs=>wGM bd a7 bb bF bh hs bU bV) (.inr Z) ?_)))))))
 rintro bE cG cK bi bz cc ⟨ak,ao,rfl,rfl⟩
 let B0:Res:=.row aj an 77 1 ap
 have cd:sW w U bE [.row ak ao 4 1 (nD KL.encT ag),B0] bi:=cc
 have q:=cd.freezeR (k:=0) (n:=ag.length) rfl (wAC (f:=KL.encT) (sz:=1) (fun _=>rfl) ag) (by decide)
 obtain ⟨ai,bA,cB,ch⟩:=q
 have ci:sW w U ai [B0] bi:=ch
 let B1:List Value:=[.slice ak ag.length ao]
 refine zk (pv:=[(0,.slice ak ag.length ao)]) (zs:=[.slice none 0 0]) (cs:=B1) Z Z Z Z Z (wAA Z wAO) ZL Zv Tryz.zeroValue77 Z Z Z Z Z ci ?_
 intro bG bJ cg
 have bw:RlL ai wGx [ag] B1:=(RlL.cons (R:=wGx) (x:=ag) (vs:=B1) ⟨ak,ao,rfl,cB⟩ RlL.nil)
 let B2:Res:=.row (some ⟨bJ,0,none⟩) 1 77 1 B1
 have bv:sW w U ai [B2,B0] bG:=cg
 refine bnK cx fun cE bW cy=>?_
 have bX:=bS.le bz
 have bY:=bX.le bA
 refine YP (R:=wGx) (j:=1) (xs:=aq) (ys:=[ag]) (zs:=cE) rfl rfl rfl rfl rfl Tryz.underlying74 wRo rfl rfl rfl rfl rfl rfl rfl bv rfl rfl rfl bY bw (bv.srcR (j:=0) rfl (by decide) (RlL.len bw)) bW rfl ?_
 intro bf bn bp bH cj cA
 have cm:sW w U ai [B2,.row bf bn 77 1 bp] bH:=cj
 refine oA Z Z (zg (zd (zF (rR fL2 Z (oR Z (zz (zY Z av Z) (congrArg (jV) ct.out)) (oM Z Z (zg ?_)))))))
 cases cy
 exact zF ⟨rfl,⟨ai,bf,bn,bp,rfl,rfl,br,bs,((bx.trans bz).trans bA),(cm.pick [1] _ (by decide) rfl),cA⟩⟩
 rintro cP cH ⟨bD,bC,bK,bL,bQ,bN,cI,bO,cJ,b4,bR⟩
 have bM:Hid (¬ ((↑(((↑p0.length:Int):Int) - 0).toNat:Int) < (↑p0.length:Int))):=zI (wAc)
 refine sR fL1 Z (oR Z (zV Z bQ bO) (eN (zG (cF Z bM (ZD (zb (zb (zr (zF (sR fL2 Z (oM Z bN (oA Z Z (eN (zS ?_))))))))))))))
 have hE:=nG cu;first | subst r | cases hE
 exact ⟨Z,_,(zw Z),bD,_,b4,bC,bK,bL,Z,Z,bR⟩
theorem wDH (p0:wAD) (bG:Option Addr) (bI:Nat) (bo:Option Addr) (bp:Nat) (w:World) (U:PHeap) (hS:St0 w U []) (eM:Sl U 1 bG bI p0.Rules.Classes.length (nD KL.encI p0.Rules.Classes)) (i9:SlR U wFL bo bp p0.Teams) {r:wAD} (hm:wCe p0=some r):Gv Tryz.prog 14 [.agg #[.slice bG p0.Rules.Classes.length bI,jV p0.Rules.Each,jV p0.Rules.Laps,jV p0.Rules.Spare,jV p0.Rules.Loop,jV p0.Rules.Unused,jV p0.Start,.slice bo p0.Teams.length bp]] w (wBp w [] U (fun U_ L_ v=>∃ (dB:Option Addr) (dR:Nat) (dC:Option Addr) (dS:Nat) (dX:List Value),v=.agg #[.slice dB r.Rules.Classes.length dR,jV r.Rules.Each,jV r.Rules.Laps,jV r.Rules.Spare,jV r.Rules.Loop,jV r.Rules.Unused,jV r.Start,.slice dC r.Teams.length dS]/\L_=[.row dB dR 3 1 (nD KL.encI r.Rules.Classes),.row dC dS 73 3 dX]/\RlL U_ wFL r.Teams dX)):=by
 unfold wCe at hm
 refine Gv.of Tryz.func14 Z Tryz.ntmps14 Tryz.results14 Z (sR gCx Z ?_)
 let B0:List Value:=[.slice bG p0.Rules.Classes.length bI,jV p0.Rules.Each,jV p0.Rules.Laps,jV p0.Rules.Spare,jV p0.Rules.Loop,jV p0.Rules.Unused,jV p0.Start,.slice bo p0.Teams.length bp]
 refine ZX (cs:=B0) rfl rfl rfl rfl rfl rfl (by rfl) hS ?_
 intro W1 b2 it
 let B1:List Value:=[.slice none 0 0,jV 0,jV 0,jV 0,jV 0,jV 0,jV 0,.slice none 0 0]
 refine ZB (cs:=B1) Z Z Z Z Z yZ Z it ?_
 intro W5 b6 iZ
 refine eN ?_
 have q:=bnd hm
 obtain ⟨⟨bf,b4,ca,cc,cd,cg⟩,jB,eQ⟩:=q
 try dsimp only at eQ
 refine CK.cut (fun σ_ w_=>∃ (U_:PHeap) (bd:Nat) (ax:Option Addr) (az:Nat),σ_ 1=.pointer (some ⟨b2,0,none⟩)/\σ_ 2=.pointer (some ⟨b6,0,none⟩)/\σ_ 3=.pointer (some ⟨bd,0,none⟩)/\PHeap.Le U U_/\sW w U U_ [.blk b6 27 B1,.blk b2 27 B0,.blk bd 27 [.slice ax bf.length az,jV b4,jV ca,jV cc,jV cd,jV cg,jV p0.Start,.slice none 0 0],.row ax az 3 1 (nD KL.encI bf)] w_) ?_ ?_
 refine bnK jB fun am eu eS=>ZY ZQ [3,1,2,3,1,3,2,0] gDo (by kernel_rfl) ?_
 have bT:=iZ.drew
 generalize hw_W44:({ W5 with drawn:=W5.drawn + 1 }:World)=fA at bT ⊢
 refine oR Z (zD Z Z zu Z ZZ) (oL Z (bT.ldBA (j:=1) Z Z Z yR ZZ (vs:=[.slice bG p0.Rules.Classes.length bI,jV p0.Rules.Each,jV p0.Rules.Laps,jV p0.Rules.Spare,jV p0.Rules.Loop,jV p0.Rules.Unused]) Z Z) (oR Z (zD Z Z zu Z zC) (oL Z (bT.ldB (j:=1) Z Z Z zM (v:=jV p0.Start) Z) (yU ?_ ?_))))
 refine zP 0 Z Z Z Z (zQ Z Z Tryz.call36 (zH Z zZ) Z) bT (fun hs=>wCq p0.Rules bG bI fA U hs eM eu) (.inr Z) ?_
 rintro cO jP lc fD jG iU ⟨co,cw,rfl,rfl⟩
 let B2:Res:=.row co cw 3 1 (nD KL.encI am.Classes)
 have iV:sW w U cO [B2,.blk b6 27 B1,.blk b2 27 B0] fD:=iU
 let B3:List Value:=[.slice co am.Classes.length cw,jV am.Each,jV am.Laps,jV am.Spare,jV am.Loop,jV am.Unused,jV p0.Start,.slice none 0 0]
 refine oR Z (ZT (pv:=[(0,.agg #[.slice co am.Classes.length cw,jV am.Each,jV am.Laps,jV am.Spare,jV am.Loop,jV am.Unused]),(1,jV p0.Start)]) (z:=B1) (cs:=B3) Z (wAA Z (wAA Z wAO)) yZ wKE Z Z) (ZB (cs:=B1) Z Z Z Z Z yZ Z iV ?_)
 intro j6 dQ iW
 refine ZK (j:=0) (vs:=B3) Z Z Z Z iW Z Z Z Z Zf (zJ Z) Z Z Z ?_
 intro fG iX
 have iY:sW w U cO [.blk dQ 27 B3,B2,.blk b6 27 B1,.blk b2 27 B0] fG:=iX
 refine zg ?_
 cases eS
 exact zF ⟨rfl,⟨cO,dQ,co,cw,rfl,rfl,rfl,jG,(iY.pick [2,3,0,1] _ (by decide) rfl)⟩⟩
 refine ZB (cs:=B1) Z Z Z Z Z yZ Z bT ?_
 intro fH cV i2
 refine zP 0 Z Z Z Z (zQ Z Z Tryz.call36 (zH Z zZ) Z) i2 (fun hs=>wCq p0.Rules bG bI fH U hs eM eu) (.inr Z) ?_
 rintro cP jQ lg fI jH i4 ⟨cp,cx,rfl,rfl⟩
 let B4:Res:=.row cp cx 3 1 (nD KL.encI am.Classes)
 have i6:sW w U cP [B4,.blk cV 27 B1,.blk b6 27 B1,.blk b2 27 B0] fI:=i4
 let B5:List Value:=[.slice cp am.Classes.length cx,jV am.Each,jV am.Laps,jV am.Spare,jV am.Loop,jV am.Unused,jV p0.Start,.slice none 0 0]
 refine oR Z (ZT (pv:=[(0,.agg #[.slice cp am.Classes.length cx,jV am.Each,jV am.Laps,jV am.Spare,jV am.Loop,jV am.Unused]),(1,jV p0.Start)]) (z:=B1) (cs:=B5) Z (wAA Z (wAA Z wAO)) yZ wKE Z Z) (ZK (j:=1) (vs:=B5) Z Z Z Z i6 Z Z Z Z Zf (zJ Z) Z Z Z ?_)
 intro fJ i7
 have i8:sW w U cP [B4,.blk cV 27 B5,.blk b6 27 B1,.blk b2 27 B0] fJ:=i7
 refine zg ?_
 cases eS
 exact zF ⟨rfl,⟨cP,cV,cp,cx,rfl,rfl,rfl,jH,(i8.pick [2,3,1,0] _ (by decide) rfl)⟩⟩
 rintro lm jT ⟨dI,bd,ax,az,fR,fS,fT,jD,eB⟩
 refine zG (sR fL4 Z (oR Z (zD Z fR zu Z Zu) (oL Z (eB.ldB (j:=1) Z Z Z yG (v:=.slice bo p0.Teams.length bp) Z) (oR Z (zW Z Z ZN) (oM Z Z (eN (zR (bnK eQ fun jK ja jg=>?_))))))))
 have q:=wAw ja
 obtain ⟨dq,jb⟩:=q
 replace dq:=zI dq
 refine CK.forN' (fun bj bE σ_ w_=>∃ (U_:PHeap) (br:Option Addr) (bz:Nat) (cy:List Value),σ_ 18=jV (↑bj:Int)/\σ_ 2=.pointer (some ⟨b6,0,none⟩)/\σ_ 3=.pointer (some ⟨bd,0,none⟩)/\σ_ 16=.slice bo p0.Teams.length bp/\σ_ 17=jV (↑p0.Teams.length:Int)/\PHeap.Le dI U_/\sW w U U_ [.blk b6 27 B1,.blk b2 27 B0,.row ax az 3 1 (nD KL.encI bf),.row br bz 73 3 cy,.blk bd 27 [.slice ax bf.length az,jV b4,jV ca,jV cc,jV cd,jV cg,jV p0.Start,.slice br bE.length bz]] w_/\RlL U_ wFL bE cy) jb ?_ ?_ ?_
 have g8:=eB.nilrow 73 3
 exact ⟨dI,none,0,[],rfl,fS,fT,rfl,rfl,(zN _),(g8.pick [1,2,4,0,3] _ (by decide) rfl),RlL.nil⟩
 rintro bj bE lj lq jU dn ⟨bO,br,bz,cy,cA,dY,dZ,c9,dd,eX,eC,gu⟩ jz
 have dT:Hid ((↑bj:Int) < (↑p0.Teams.length:Int)):=zI (wAo dn)
 replace dn:=zI dn
 have je:Hid (w64 ((↑bj:Int) + 1)=(↑(bj + 1):Int)):=zI (by have h1:=dq.out;have h2:=dT.out;rw [wAQ] <;> omega)
 refine sR fL1 Z (oR Z (zV Z cA dd) (eN (zG (cT Z dT (kN (zG (zR (sR gDl Z (bnK jz fun ai d9 jh=>?_)))))))))
 have gv:=i9.le jD
 have gw:=gv.le eX
 have q:=gw.el (wAK d9)
 obtain ⟨fK,jI,lh,g6,dh,jq⟩:=q
 obtain ⟨bH,bJ,bU,bX,rfl,eh,gx⟩:=jq
 replace dh:Cl bO fK (jI + bj * 3) [jV ai.Bib,.slice bH ai.Classes.length bJ,.slice bU ai.Legs.length bX]:=dh
 refine oR Z (ZC Z c9 g6 cA ZN ZS (wAg d9)) (oL Z (eC.ldCA (f:=0) dh Z Z yc ZS (us:=[jV ai.Bib,.slice bH ai.Classes.length bJ,.slice bU ai.Legs.length bX]) Z Z) ?_)
 let B6:List Value:=[jV 0,.slice none 0 0,.slice none 0 0]
 refine ZB (cs:=B6) Z Z Z Z Z Zr Z eC ?_
 intro jW ao g9
 let B7:List Value:=[jV ai.Bib,.slice bH ai.Classes.length bJ,.slice bU ai.Legs.length bX]
 refine ZK (j:=0) (vs:=B7) Z Z Z Z g9 Z Z Z Z ZS (zJ Z) Z Z Z ?_
 intro cQ ib
 let B8:Res:=.blk bd 27 [.slice ax bf.length az,jV b4,jV ca,jV cc,jV cd,jV cg,jV p0.Start,.slice br bE.length bz]
 let B9:Res:=.row ax az 3 1 (nD KL.encI bf)
 let av:Res:=.row br bz 73 3 cy
 have ic:sW w U bO [.blk ao 73 B7,.blk b6 27 B1,.blk b2 27 B0,B9,av,B8] cQ:=ib
 refine eN (bnK jh fun aw jA ji=>CK.cut (fun σ_ w_=>∃ (U_:PHeap) (ay:Nat) (a8:Option Addr) (be:Nat),σ_ 2=.pointer (some ⟨b6,0,none⟩)/\σ_ 3=.pointer (some ⟨bd,0,none⟩)/\σ_ 5=.pointer (some ⟨ao,0,none⟩)/\σ_ 6=.pointer (some ⟨ay,0,none⟩)/\σ_ 16=.slice bo p0.Teams.length bp/\σ_ 17=jV (↑p0.Teams.length:Int)/\σ_ 18=jV (↑bj:Int)/\PHeap.Le bO U_/\sW w U U_ [.blk ao 73 B7,.blk b6 27 B1,.blk b2 27 B0,B9,av,B8,.blk ay 73 [jV ai.Bib,.slice a8 aw.length be,.slice none 0 0],.row a8 be 3 1 (nD KL.encI aw)] w_) ?_ ?_)
 refine bnK jA fun bK ep eP=>ZY ZQ [3,1,3,1,2,3,2,0] (wHD (.fx 4 gDh (.fx 6 (.fx 4 gCz .stop) .stop))) (by kernel_rfl) ?_
 have bS:=ic.drew
 generalize hw_W209:({ cQ with drawn:=cQ.drawn + 1 }:World)=fg at bS ⊢
 refine oR Z (zD Z Z ZH Z zC) (oL Z (bS.ldB (j:=0) Z Z Z zM (v:=jV ai.Bib) Z) (oR Z (zD Z Z ZH Z zT) (oL Z (bS.ldB (j:=0) Z Z Z ze (v:=.slice bH ai.Classes.length bJ) Z) (yU ?_ ?_))))
 refine zP 0 Z Z Z Z (zQ Z Z Tryz.call38 (zH Z zZ) Z) bS (fun hs=>wDW ai.Classes bH bJ fg bO hs eh ep) (.inr Z) ?_
 rintro cL jL k6 fh jE ie ⟨ci,cr,rfl,rfl⟩
 let dD:Res:=.row ci cr 3 1 (nD KL.encI bK)
 have ig:sW w U cL [dD,.blk ao 73 B7,.blk b6 27 B1,.blk b2 27 B0,B9,av,B8] fh:=ie
 let cE:List Value:=[jV ai.Bib,.slice ci bK.length cr,.slice none 0 0]
 refine oR Z (ZT (pv:=[(0,jV ai.Bib),(1,.slice ci bK.length cr)]) (z:=B6) (cs:=cE) Z (wAA Z (wAA Z wAO)) Zr wIs Z Z) (ZB (cs:=B6) Z Z Z Z Z Zr Z ig ?_)
 intro jX dP ii
 refine ZK (j:=0) (vs:=cE) Z Z Z Z ii Z Z Z Z ZS (zJ Z) Z Z Z ?_
 intro fj ij
 have ik:sW w U cL [.blk dP 73 cE,dD,.blk ao 73 B7,.blk b6 27 B1,.blk b2 27 B0,B9,av,B8] fj:=ij
 refine zg ?_
 cases eP
 exact zF ⟨rfl,⟨cL,dP,ci,cr,dY,dZ,rfl,rfl,c9,dd,cA,jE,(ik.pick [2,3,4,5,6,7,0,1] _ (by decide) rfl)⟩⟩
 refine ZB (cs:=B6) Z Z Z Z Z Zr Z bS ?_
 intro fk cU il
 refine zP 0 Z Z Z Z (zQ Z Z Tryz.call38 (zH Z zZ) Z) il (fun hs=>wDW ai.Classes bH bJ fk bO hs eh ep) (.inr Z) ?_
 rintro cM jM k8 fm jF im ⟨cj,ct,rfl,rfl⟩
 let dE:Res:=.row cj ct 3 1 (nD KL.encI bK)
 have io:sW w U cM [dE,.blk cU 73 B6,.blk ao 73 B7,.blk b6 27 B1,.blk b2 27 B0,B9,av,B8] fm:=im
 let cG:List Value:=[jV ai.Bib,.slice cj bK.length ct,.slice none 0 0]
 refine oR Z (ZT (pv:=[(0,jV ai.Bib),(1,.slice cj bK.length ct)]) (z:=B6) (cs:=cG) Z (wAA Z (wAA Z wAO)) Zr wIs Z Z) (ZK (j:=1) (vs:=cG) Z Z Z Z io Z Z Z Z ZS (zJ Z) Z Z Z ?_)
 intro fq ip
 have iq:sW w U cM [dE,.blk cU 73 cG,.blk ao 73 B7,.blk b6 27 B1,.blk b2 27 B0,B9,av,B8] fq:=ip
 refine zg ?_
 cases eP
 exact zF ⟨rfl,⟨cM,cU,cj,ct,dY,dZ,rfl,rfl,c9,dd,cA,jF,(iq.pick [2,3,4,5,6,7,1,0] _ (by decide) rfl)⟩⟩
 rintro ls jY ⟨dJ,ay,a8,be,fU,fV,fW,fY,fZ,f0,f4,dt,eD⟩
 refine zG (sR fL4 Z (oR Z (zD Z fW ZH Z yT) (oL Z (eD.ldB (j:=0) Z Z Z yd (v:=.slice bU ai.Legs.length bX) Z) (oR Z (zW Z Z ZW) (oM Z Z (eN (zR (bnK ji fun cB jc jj=>?_))))))))
 have q:=wAw jc
 obtain ⟨dr,jd⟩:=q
 replace dr:=zI dr
 refine CK.forN' (fun bD bF σ_ w_=>∃ (U_:PHeap) (bs:Option Addr) (bA:Nat) (cz:List Value),σ_ 31=jV (↑bD:Int)/\σ_ 2=.pointer (some ⟨b6,0,none⟩)/\σ_ 3=.pointer (some ⟨bd,0,none⟩)/\σ_ 6=.pointer (some ⟨ay,0,none⟩)/\σ_ 16=.slice bo p0.Teams.length bp/\σ_ 17=jV (↑p0.Teams.length:Int)/\σ_ 18=jV (↑bj:Int)/\σ_ 29=.slice bU ai.Legs.length bX/\σ_ 30=jV (↑ai.Legs.length:Int)/\PHeap.Le dJ U_/\sW w U U_ [.blk ao 73 B7,.blk b6 27 B1,.blk b2 27 B0,.row ax az 3 1 (nD KL.encI bf),av,B8,.row a8 be 3 1 (nD KL.encI aw),.row bs bA 76 3 cz,.blk ay 73 [jV ai.Bib,.slice a8 aw.length be,.slice bs bF.length bA]] w_/\RlL U_ wJJ bF cz) jd ?_ ?_ ?_
 have ir:=eD.nilrow 76 3
 exact ⟨dJ,none,0,[],rfl,fU,fV,fY,fZ,f0,f4,rfl,rfl,(zN _),(ir.pick [1,2,3,4,5,6,8,0,7] _ (by decide) rfl),RlL.nil⟩
 rintro bD bF lk lu jZ dp ⟨cN,bs,bA,cz,dg,f5,f7,de,f8,f9,gb,d6,d7,eY,eG,gy⟩ jC
 have dU:Hid ((↑bD:Int) < (↑ai.Legs.length:Int)):=zI (wAo dp)
 replace dp:=zI dp
 have jf:Hid (w64 ((↑bD:Int) + 1)=(↑(bD + 1):Int)):=zI (by have h1:=dr.out;have h2:=dU.out;rw [wAQ] <;> omega)
 refine sR fL1 Z (oR Z (zV Z dg d7) (eN (zG (cT Z dU (kN (zG (zR (sR gDl Z (bnK jC fun au eA jk=>?_)))))))))
 have gz:=gx.le dt
 have gA:=gz.le eY
 have q:=gA.el (wAK eA)
 obtain ⟨fL,jJ,li,g7,di,jr⟩:=q
 obtain ⟨bV,bY,bW,bZ,rfl,gC,gD⟩:=jr
 replace di:Cl cN fL (jJ + bD * 3) [jV au.Skier,.slice bV au.Loops.length bY,.slice bW au.Bouts.length bZ]:=di
 refine oR Z (ZC Z d6 g7 dg ZW Zc (wAg eA)) (oL Z (eG.ldCA (f:=0) di Z Z yy Zc (us:=[jV au.Skier,.slice bV au.Loops.length bY,.slice bW au.Bouts.length bZ]) Z Z) (ZB (cs:=B6) Z Z Z Z Z Zq Z eG ?_))
 intro j4 bi iu
 let bg:List Value:=[jV au.Skier,.slice bV au.Loops.length bY,.slice bW au.Bouts.length bZ]
 refine ZK (j:=0) (vs:=bg) Z Z Z Z iu Z Z Z Z Zc (zJ Z) Z Z Z ?_
 intro cR iv
 let bn:Res:=.blk ay 73 [jV ai.Bib,.slice a8 aw.length be,.slice bs bF.length bA]
 let bh:Res:=.row a8 be 3 1 (nD KL.encI aw)
 let bt:Res:=.row bs bA 76 3 cz
 have iw:sW w U cN [.blk bi 76 bg,.blk ao 73 B7,.blk b6 27 B1,.blk b2 27 B0,B9,av,B8,bh,bt,bn] cR:=iv
 refine eN (ZY ZQ [3,1,3,1,3,1,2,3,1,2,3,2,0,3,0] (wIo (.fl 7 (.fl 8 (.fx 6 (.fx 9 (.fl 10 (.fx 11 (.fx 12 (.fl 13 (.fx 14 .nil .stop)) .stop) .stop)) .stop) .stop)))) (by kernel_rfl) ?_)
 have bC:=iw.drew
 generalize hw_W343:({ cR with drawn:=cR.drawn + 1 }:World)=ft at bC ⊢
 refine oR Z (zD Z de ZH Z yT) (oL Z (bC.ldB (j:=9) Z Z Z yd (v:=.slice bs bF.length bA) Z) (oR Z (zD Z Z ZR Z zC) (oL Z (bC.ldB (j:=0) Z Z Z zM (v:=jV au.Skier) Z) (oR Z (zD Z Z ZR Z zT) (oL Z (bC.ldB (j:=0) Z Z Z ze (v:=.slice bV au.Loops.length bY) Z) (oR Z (zD Z Z ZR Z yH) (oL Z (bC.ldB (j:=0) Z Z Z yQ (v:=.slice bW au.Bouts.length bZ) Z) (bnK jk fun bm gE jl=>zP 0 Z Z Z Z (zQ Z Z Tryz.call38 (zH Z zZ) Z) bC (fun hs=>wDW au.Loops bV bY ft cN hs gC gE) (.inr Z) ?_))))))))
 rintro dK jN k9 dM du ix ⟨cm,cu,rfl,rfl⟩
 let dF:Res:=.row cm cu 3 1 (nD KL.encI bm)
 have iy:sW w U dK [dF,.blk bi 76 bg,.blk ao 73 B7,.blk b6 27 B1,.blk b2 27 B0,B9,av,B8,bh,bt,bn] dM:=ix
 have gG:=gD.le du
 refine bnK jl fun ch gH jm=>zP 0 Z Z Z Z (zQ Z Z Tryz.call85 (zH Z zZ) Z) iy (fun hs=>wFX au.Bouts bW bZ dM dK hs gG gH) (.inr Z) ?_
 rintro fd jO lb cS eZ iz ⟨bL,bP,dV,rfl,rfl,gI⟩
 have iA:sW w U fd [.row bL bP 77 1 dV,dF,.blk bi 76 bg,.blk ao 73 B7,.blk b6 27 B1,.blk b2 27 B0,B9,av,B8,bh,bt,bn] cS:=iz
 let bu:List Value:=[jV au.Skier,.slice cm bm.length cu,.slice bL ch.length bP]
 refine oR Z (ZT (pv:=[(0,jV au.Skier),(1,.slice cm bm.length cu),(2,.slice bL ch.length bP)]) (z:=B6) (cs:=bu) Z (wAA Z (wAA Z (wAA Z wAO))) Zq wHi Z Z) ?_
 have q:=iA.freezeR (k:=1) (n:=bm.length) rfl (wAC (f:=KL.encI) (sz:=1) (fun _=>rfl) bm) (by decide)
 obtain ⟨fe,dv,jv,iC⟩:=q
 have iD:sW w U fe [.row bL bP 77 1 dV,.blk bi 76 bg,.blk ao 73 B7,.blk b6 27 B1,.blk b2 27 B0,B9,av,B8,bh,bt,bn] cS:=iC
 have gJ:=gI.le dv
 have q:=iD.freezeRR (R:=wGx) (k:=0) rfl gJ rfl (by decide)
 obtain ⟨bw,dw,jw,iE⟩:=q
 have iF:sW w U bw [.blk bi 76 bg,.blk ao 73 B7,.blk b6 27 B1,.blk b2 27 B0,B9,av,B8,bh,bt,bn] cS:=iE
 refine zk (pv:=[(0,.agg bu.toArray)]) (zs:=B6) (cs:=bu) Z Z Z Z Z (wAA Z wAO) ZW Zc Zq Z Z Z Z Z iF ?_
 intro fu fM iB
 have gK:=jv.le dw
 have eV:RlL bw wJJ [(⟨au.Skier,bm,ch⟩:wAN)] bu:=(RlL.cons (R:=wJJ) (x:=(⟨au.Skier,bm,ch⟩:wAN)) (vs:=bu) ⟨cm,cu,bL,bP,rfl,gK,jw⟩ RlL.nil)
 let cH:Res:=.row (some ⟨fM,0,none⟩) 1 76 3 bu
 have eH:sW w U bw [cH,.blk bi 76 bg,.blk ao 73 B7,.blk b6 27 B1,.blk b2 27 B0,B9,av,B8,bh,bt,bn] fu:=iB
 refine bnK jm fun dz gL jo=>?_
 have gM:=gy.le du
 have gN:=gM.le eZ
 have gO:=gN.le dv
 have gP:=gO.le dw
 refine YP (R:=wJJ) (j:=9) (xs:=bF) (ys:=[(⟨au.Skier,bm,ch⟩:wAN)]) (zs:=dz) rfl rfl rfl rfl rfl Tryz.underlying71 wRn rfl rfl rfl rfl rfl rfl rfl eH rfl rfl rfl gP eV (eH.srcR (j:=0) rfl (by decide) (RlL.len eV)) gL rfl ?_
 intro bM bQ cY fw iG jt
 have iH:sW w U bw [cH,.blk bi 76 bg,.blk ao 73 B7,.blk b6 27 B1,.blk b2 27 B0,B9,av,B8,bh,.row bM bQ 76 3 cY,bn] fw:=iG
 refine oR Z (zD Z de ZH Z yT) (ZK (j:=10) (vs:=[.slice bM dz.length bQ]) Z Z Z Z iH Z Z Z Z yT (zJ Z) Z Z Z ?_)
 intro fy iI
 have iJ:sW w U bw [cH,.blk bi 76 bg,.blk ao 73 B7,.blk b6 27 B1,.blk b2 27 B0,B9,av,B8,bh,.row bM bQ 76 3 cY,.blk ay 73 [jV ai.Bib,.slice a8 aw.length be,.slice bM dz.length bQ]] fy:=iI
 refine zg (zd (zF (rR fL2 Z (oR Z (zz (zY Z dg Z) (congrArg (jV) jf.out)) (oM Z Z (zg ?_))))))
 cases jo
 exact zF ⟨rfl,⟨bw,bM,bQ,cY,rfl,f5,f7,de,f8,f9,gb,d6,d7,((((eY.trans du).trans eZ).trans dv).trans dw),(iJ.pick [2,3,4,5,6,7,8,9,10] _ (by decide) rfl),jt⟩⟩
 rintro lv dN ⟨jR,cC,cW,fO,gq,gc,df,ge,gf,gg,gh,j7,gi,fc,dm,gQ⟩
 have fP:Hid (¬ ((↑(((↑ai.Legs.length:Int):Int) - 0).toNat:Int) < (↑ai.Legs.length:Int))):=zI (wAc)
 refine sR fL1 Z (oR Z (zV Z gq gi) (eN (zG (cF Z fP (ZD (zb (zb (zr (zF (rR (wDw gDm) Z (oR Z (zD Z df zu Z Zu) (oL Z (dm.ldB (j:=5) Z Z Z yG (v:=.slice br bE.length bz) Z) ?_))))))))))))
 let a7:List Value:=[jV ai.Bib,.slice a8 aw.length be,.slice cC cB.length cW]
 refine oL Z (dm.ldBA (j:=8) Z Z ge yc ZS (vs:=a7) Z Z) ?_
 have q:=dm.freezeR (k:=6) (n:=aw.length) rfl (wAC (f:=KL.encI) (sz:=1) (fun _=>rfl) aw) (by decide)
 obtain ⟨ff,dx,jx,iL⟩:=q
 have iM:sW w U ff [.blk ao 73 B7,.blk b6 27 B1,.blk b2 27 B0,B9,av,B8,.row cC cW 76 3 fO,.blk ay 73 a7] dN:=iL
 have gR:=gQ.le dx
 have q:=iM.freezeRR (R:=wJJ) (k:=6) rfl gR rfl (by decide)
 obtain ⟨bx,dy,jy,iN⟩:=q
 have iO:sW w U bx [.blk ao 73 B7,.blk b6 27 B1,.blk b2 27 B0,B9,av,B8,.blk ay 73 a7] dN:=iN
 refine zk (pv:=[(0,.agg a7.toArray)]) (zs:=B6) (cs:=a7) Z Z Z Z Z (wAA Z wAO) ZN ZS Zr Z Z Z Z Z iO ?_
 intro fz fN iK
 have gS:=jx.le dy
 have eW:RlL bx wFL [(⟨ai.Bib,aw,cB⟩:wAH)] a7:=(RlL.cons (R:=wFL) (x:=(⟨ai.Bib,aw,cB⟩:wAH)) (vs:=a7) ⟨a8,be,cC,cW,rfl,gS,jy⟩ RlL.nil)
 let cI:Res:=.row (some ⟨fN,0,none⟩) 1 73 3 a7
 have eI:sW w U bx [cI,.blk ao 73 B7,.blk b6 27 B1,.blk b2 27 B0,B9,av,B8,.blk ay 73 a7] fz:=iK
 refine bnK jj fun dA gT jp=>?_
 have gU:=gu.le dt
 have gV:=gU.le fc
 have gW:=gV.le dx
 have gY:=gW.le dy
 refine YP (R:=wFL) (j:=5) (xs:=bE) (ys:=[(⟨ai.Bib,aw,cB⟩:wAH)]) (zs:=dA) rfl rfl rfl rfl rfl Tryz.underlying25 wRm rfl rfl rfl rfl rfl rfl rfl eI rfl rfl rfl gY eW (eI.srcR (j:=0) rfl (by decide) (RlL.len eW)) gT rfl ?_
 intro bN bR cZ fB iP ju
 have iQ:sW w U bx [cI,.blk ao 73 B7,.blk b6 27 B1,.blk b2 27 B0,B9,.row bN bR 73 3 cZ,B8,.blk ay 73 a7] fB:=iP
 refine oR Z (zD Z df zu Z Zu) (ZK (j:=6) (vs:=[.slice bN dA.length bR]) Z Z Z Z iQ Z Z Z Z Zu (zJ Z) Z Z Z ?_)
 intro fC iR
 have iS:sW w U bx [cI,.blk ao 73 B7,.blk b6 27 B1,.blk b2 27 B0,B9,.row bN bR 73 3 cZ,.blk bd 27 [.slice ax bf.length az,jV b4,jV ca,jV cc,jV cd,jV cg,jV p0.Start,.slice bN dA.length bR],.blk ay 73 a7] fC:=iR
 refine zg (zd (zF (rR fL2 Z (oR Z (zz (zY Z gh Z) (congrArg (jV) je.out)) (oM Z Z (zg ?_))))))
 cases jp
 exact zF ⟨rfl,⟨bx,bN,bR,cZ,rfl,gc,df,gf,gg,((((eX.trans dt).trans fc).trans dx).trans dy),(iS.pick [2,3,4,5,6] _ (by decide) rfl),ju⟩⟩
 rintro lw j5 ⟨dL,cD,cX,dW,gr,d8,gj,j8,gm,j9,eJ,gZ⟩
 have fQ:Hid (¬ ((↑(((↑p0.Teams.length:Int):Int) - 0).toNat:Int) < (↑p0.Teams.length:Int))):=zI (wAc)
 refine sR fL1 Z (oR Z (zV Z gr gm) (eN (zG (cF Z fQ (ZD (zb (zb (zr (zF (sR gCy Z ?_))))))))))
 let bv:List Value:=[.slice ax bf.length az,jV b4,jV ca,jV cc,jV cd,jV cg,jV p0.Start,.slice cD jK.length cX]
 refine oL Z (eJ.ldBA (j:=4) Z Z gj yK Zf (vs:=bv) Z Z) (ZK (j:=0) (vs:=bv) Z Z Z Z eJ Z d8 Z Z Zf (zJ Z) Z Z Z ?_)
 intro fE iT
 have eK:sW w U dL [.blk b6 27 bv,.blk b2 27 B0,.row ax az 3 1 (nD KL.encI bf),.row cD cX 73 3 dW,.blk bd 27 bv] fE:=iT
 refine eN (zS ?_)
 cases jg
 exact ⟨rfl,_,(wGv (v:=.agg bv.toArray) ⟨⟨_,d8,(wEv yK Zf (eK.blkAt (k:=0) rfl) (vs:=bv) rfl rfl)⟩,trivial⟩),dL,_,(eK.pick [2,3] _ (by decide) rfl),ax,az,cD,cX,dW,rfl,rfl,gZ⟩
set_option maxHeartbeats 4000000
theorem wDs (p0:wAD) (bm:Option Addr) (bn:Nat) (bV:Option Addr) (bY:Nat) (w:World) (U:PHeap) (hS:St0 w U []) (cI:Sl U 1 bm bn p0.Rules.Classes.length (nD KL.encI p0.Rules.Classes)) (gL:SlR U wFL bV bY p0.Teams) {r:wAT} (hm:wDT p0=some r):Gv Tryz.prog 15 [.agg #[.slice bm p0.Rules.Classes.length bn,jV p0.Rules.Each,jV p0.Rules.Laps,jV p0.Rules.Spare,jV p0.Rules.Loop,jV p0.Rules.Unused,jV p0.Start,.slice bV p0.Teams.length bY]] w (wBp w [] U (fun U_ L_ v=>∃ (cR:Option Addr) (df:Nat) (cS:Option Addr) (dg:Nat) (dp:List Value),v=.agg #[.slice cR r.Rules.Classes.length df,jV r.Rules.Each,jV r.Rules.Laps,jV r.Rules.Spare,jV r.Rules.Loop,jV r.Rules.Unused,jV r.Start,.slice cS r.Teams.length dg]/\L_=[.row cR df 3 1 (nD KL.encI r.Rules.Classes),.row cS dg 205 3 dp]/\RlL U_ wGH r.Teams dp)):=by
 unfold wDT at hm
 refine Gv.of Tryz.func15 Z Tryz.ntmps15 Tryz.results15 Z (sR gCx Z ?_)
 let B0:List Value:=[.slice bm p0.Rules.Classes.length bn,jV p0.Rules.Each,jV p0.Rules.Laps,jV p0.Rules.Spare,jV p0.Rules.Loop,jV p0.Rules.Unused,jV p0.Start,.slice bV p0.Teams.length bY]
 refine ZX (cs:=B0) rfl rfl rfl rfl rfl rfl (by rfl) hS ?_
 intro W1 b2 ge
 let B1:List Value:=[.slice none 0 0,jV 0,jV 0,jV 0,jV 0,jV 0,jV 0,.slice none 0 0]
 refine ZB (cs:=B1) Z Z Z Z Z yk Z ge ?_
 intro W5 b6 gE
 refine eN ?_
 have q:=bnd hm
 obtain ⟨⟨bb,bx,bz,bA,bC,bD⟩,ig,dH⟩:=q
 try dsimp only at dH
 refine CK.cut (fun σ_ w_=>∃ (U_:PHeap) (a8:Nat) (ap:Option Addr) (au:Nat),σ_ 1=.pointer (some ⟨b2,0,none⟩)/\σ_ 2=.pointer (some ⟨b6,0,none⟩)/\σ_ 3=.pointer (some ⟨a8,0,none⟩)/\PHeap.Le U U_/\sW w U U_ [.blk b6 34 B1,.blk b2 27 B0,.blk a8 34 [.slice ap bb.length au,jV bx,jV bz,jV bA,jV bC,jV bD,jV p0.Start,.slice none 0 0],.row ap au 3 1 (nD KL.encI bb)] w_) ?_ ?_
 refine bnK ig fun ah dx dI=>ZY ZQ [3,1,2,3,1,3,2,0] gDo (by kernel_rfl) ?_
 have bK:=gE.drew
 generalize hw_W44:({ W5 with drawn:=W5.drawn + 1 }:World)=d9 at bK ⊢
 refine oR Z (zD Z Z zu Z ZZ) (oL Z (bK.ldBA (j:=1) Z Z Z yR ZZ (vs:=[.slice bm p0.Rules.Classes.length bn,jV p0.Rules.Each,jV p0.Rules.Laps,jV p0.Rules.Spare,jV p0.Rules.Loop,jV p0.Rules.Unused]) Z Z) (oR Z (zD Z Z zu Z zC) (oL Z (bK.ldB (j:=1) Z Z Z zM (v:=jV p0.Start) Z) (yU ?_ ?_))))
 refine zP 0 Z Z Z Z (zQ Z Z Tryz.call36 (zH Z zZ) Z) bK (fun hs=>wCq p0.Rules bm bn d9 U hs cI dx) (.inr Z) ?_
 rintro cp iq iJ eh ij gy ⟨bO,bS,rfl,rfl⟩
 let B2:Res:=.row bO bS 3 1 (nD KL.encI ah.Classes)
 have gz:sW w U cp [B2,.blk b6 34 B1,.blk b2 27 B0] eh:=gy
 let B3:List Value:=[.slice bO ah.Classes.length bS,jV ah.Each,jV ah.Laps,jV ah.Spare,jV ah.Loop,jV ah.Unused,jV p0.Start,.slice none 0 0]
 refine oR Z (ZT (pv:=[(0,.agg #[.slice bO ah.Classes.length bS,jV ah.Each,jV ah.Laps,jV ah.Spare,jV ah.Loop,jV ah.Unused]),(1,jV p0.Start)]) (z:=B1) (cs:=B3) Z (wAA Z (wAA Z wAO)) yk wMX Z Z) (ZB (cs:=B1) Z Z Z Z Z yk Z gz ?_)
 intro iB de gA
 refine ZK (j:=0) (vs:=B3) Z Z Z Z gA Z Z Z Z yO (zJ Z) Z Z Z ?_
 intro ep gC
 have gD:sW w U cp [.blk de 34 B3,B2,.blk b6 34 B1,.blk b2 27 B0] ep:=gC
 refine zg ?_
 cases dI
 exact zF ⟨rfl,⟨cp,de,bO,bS,rfl,rfl,rfl,ij,(gD.pick [2,3,0,1] _ (by decide) rfl)⟩⟩
 refine ZB (cs:=B1) Z Z Z Z Z yk Z bK ?_
 intro eu ct gG
 refine zP 0 Z Z Z Z (zQ Z Z Tryz.call36 (zH Z zZ) Z) gG (fun hs=>wCq p0.Rules bm bn eu U hs cI dx) (.inr Z) ?_
 rintro cr ir iK eA ik gH ⟨bP,bT,rfl,rfl⟩
 let B4:Res:=.row bP bT 3 1 (nD KL.encI ah.Classes)
 have gI:sW w U cr [B4,.blk ct 34 B1,.blk b6 34 B1,.blk b2 27 B0] eA:=gH
 let B5:List Value:=[.slice bP ah.Classes.length bT,jV ah.Each,jV ah.Laps,jV ah.Spare,jV ah.Loop,jV ah.Unused,jV p0.Start,.slice none 0 0]
 refine oR Z (ZT (pv:=[(0,.agg #[.slice bP ah.Classes.length bT,jV ah.Each,jV ah.Laps,jV ah.Spare,jV ah.Loop,jV ah.Unused]),(1,jV p0.Start)]) (z:=B1) (cs:=B5) Z (wAA Z (wAA Z wAO)) yk wMX Z Z) (ZK (j:=1) (vs:=B5) Z Z Z Z gI Z Z Z Z yO (zJ Z) Z Z Z ?_)
 intro eB gJ
 have gK:sW w U cr [B4,.blk ct 34 B5,.blk b6 34 B1,.blk b2 27 B0] eB:=gJ
 refine zg ?_
 cases dI
 exact zF ⟨rfl,⟨cr,ct,bP,bT,rfl,rfl,rfl,ik,(gK.pick [2,3,1,0] _ (by decide) rfl)⟩⟩
 rintro iP dR ⟨dP,a8,ap,au,eP,eQ,eS,dL,dz⟩
 refine zG (sR (.fl 0 (.fx 1 (wMM (.nil)) .stop)) Z (oL Z (dz.ldBA (j:=1) Z Z eP yK Zf (vs:=B0) Z Z) ?_))
 have fw:=cI.le dL
 have fy:=gL.le dL
 refine bnK dH fun bf fz gS=>zP 0 Z Z Z Z (zQ Z Z Tryz.call14 (zH Z zZ) Z) dz (fun hs=>wDH p0 bm bn bV bY dR dP hs fw fy fz) (.inr Z) ?_
 rintro dQ ip iI c9 iF fU ⟨dO,eI,bN,bR,eJ,rfl,rfl,fA⟩
 let B6:Res:=.row ap au 3 1 (nD KL.encI bb)
 let B7:Res:=.blk a8 34 [.slice ap bb.length au,jV bx,jV bz,jV bA,jV bC,jV bD,jV p0.Start,.slice none 0 0]
 let B8:Res:=.row dO eI 3 1 (nD KL.encI bf.Rules.Classes)
 have fV:sW w U dQ [B8,.row bN bR 73 3 eJ,.blk b6 34 B1,.blk b2 27 B0,B7,B6] c9:=fU
 refine oR Z (Runs.fld Z Z zu Z (wNl yG (v:=.slice bN bf.Teams.length bR) Z)) (oR Z (zW Z Z ZN) (oM Z Z (eN (zR ?_))))
 have q:=fV.freezeRR (R:=wFL) (k:=1) rfl fA rfl (by decide)
 obtain ⟨co,iG,ib,fW⟩:=q
 have fY:sW w U co [B8,.blk b6 34 B1,.blk b2 27 B0,B7,B6] c9:=fW
 refine bnK gS fun io gM gT=>?_
 have q:=wAw gM
 obtain ⟨cL,gN⟩:=q
 replace cL:=zI cL
 refine CK.forN' (fun bj bv σ_ w_=>∃ (U_:PHeap) (bo:Option Addr) (bt:Nat) (bU:List Value),σ_ 19=jV (↑bj:Int)/\σ_ 2=.pointer (some ⟨b6,0,none⟩)/\σ_ 3=.pointer (some ⟨a8,0,none⟩)/\σ_ 17=.slice bN bf.Teams.length bR/\σ_ 18=jV (↑bf.Teams.length:Int)/\PHeap.Le co U_/\sW w U U_ [.blk b6 34 B1,.blk b2 27 B0,.row ap au 3 1 (nD KL.encI bb),.row bo bt 205 3 bU,.blk a8 34 [.slice ap bb.length au,jV bx,jV bz,jV bA,jV bC,jV bD,jV p0.Start,.slice bo bv.length bt]] w_/\RlL U_ wGH bv bU) gN ?_ ?_ ?_
 have fZ:=fY.nilrow 205 3
 exact ⟨co,none,0,[],rfl,eQ,eS,rfl,rfl,(zN _),(fZ.pick [2,3,5,0,4] _ (by decide) rfl),RlL.nil⟩
 rintro bj bv iN iQ iv cJ ⟨bG,bo,bt,bU,cA,eV,eW,dq,dr,dM,dA,fB⟩ ie
 have dh:Hid ((↑bj:Int) < (↑bf.Teams.length:Int)):=zI (wAo cJ)
 replace cJ:=zI cJ
 have gQ:Hid (w64 ((↑bj:Int) + 1)=(↑(bj + 1):Int)):=zI (by have h1:=cL.out;have h2:=dh.out;rw [wAQ] <;> omega)
 refine sR fL1 Z (oR Z (zV Z cA dr) (eN (zG (cT Z dh (kN (zG (zR (sR gDl Z (bnK ie fun ag dw gU=>?_)))))))))
 have fC:=ib.le dM
 have q:=fC.el (wAK dw)
 obtain ⟨eC,il,iL,fS,cC,g6⟩:=q
 obtain ⟨ax,ay,bL,bM,rfl,fD,fE⟩:=g6
 replace cC:Cl bG eC (il + bj * 3) [jV ag.Bib,.slice ax ag.Classes.length ay,.slice bL ag.Legs.length bM]:=cC
 refine oR Z (ZC Z dq fS cA ZN ZS (wAg dw)) (oL Z (dA.ldCA (f:=0) cC Z Z yc ZS (us:=[jV ag.Bib,.slice ax ag.Classes.length ay,.slice bL ag.Legs.length bM]) Z Z) ?_)
 let B9:List Value:=[jV 0,.slice none 0 0,.slice none 0 0]
 refine ZB (cs:=B9) Z Z Z Z Z Zr Z dA ?_
 intro iw aw f0
 let aq:List Value:=[jV ag.Bib,.slice ax ag.Classes.length ay,.slice bL ag.Legs.length bM]
 refine ZK (j:=0) (vs:=aq) Z Z Z Z f0 Z Z Z Z ZS (zJ Z) Z Z Z ?_
 intro dS f4
 let az:Res:=.blk a8 34 [.slice ap bb.length au,jV bx,jV bz,jV bA,jV bC,jV bD,jV p0.Start,.slice bo bv.length bt]
 let bd:Res:=.row bo bt 205 3 bU
 have cE:sW w U bG [.blk aw 73 aq,.blk b6 34 B1,.blk b2 27 B0,B6,bd,az] dS:=f4
 refine eN (sR (wGD gDa) Z (oR Z (zD Z Z ZH Z zC) (oL Z (cE.ldB (j:=0) Z Z Z zM (v:=jV ag.Bib) Z) (oR Z (zD Z Z ZH Z zT) (oL Z (cE.ldB (j:=0) Z Z Z ze (v:=.slice ax ag.Classes.length ay) Z) ?_)))))
 let cd:List Value:=[jV ag.Bib,.slice ax ag.Classes.length ay,.slice none 0 0]
 refine oR Z (ZT (pv:=[(0,jV ag.Bib),(1,.slice ax ag.Classes.length ay)]) (z:=B9) (cs:=cd) Z (wAA Z (wAA Z wAO)) YK wOD Z Z) (ZB (cs:=B9) Z Z Z Z Z YK Z cE ?_)
 intro ix be f5
 refine ZK (j:=0) (vs:=cd) Z Z Z Z f5 Z Z Z Z Ze (zJ Z) Z Z Z ?_
 intro dT f7
 have dB:sW w U bG [.blk be 205 cd,.blk aw 73 aq,.blk b6 34 B1,.blk b2 27 B0,B6,bd,az] dT:=f7
 refine eN (zG (sR fL4 Z (oR Z (zD Z Z ZH Z yT) (oL Z (dB.ldB (j:=1) Z Z Z yd (v:=.slice bL ag.Legs.length bM) Z) (oR Z (zW Z Z ZW) (oM Z Z (eN (zR (bnK gU fun ca gO gV=>?_)))))))))
 have q:=wAw gO
 obtain ⟨cM,gP⟩:=q
 replace cM:=zI cM
 refine CK.forN' (fun bu bw σ_ w_=>∃ (U_:PHeap) (bg:Option Addr) (bi:Nat) (bJ:List Value),σ_ 31=jV (↑bu:Int)/\σ_ 2=.pointer (some ⟨b6,0,none⟩)/\σ_ 3=.pointer (some ⟨a8,0,none⟩)/\σ_ 6=.pointer (some ⟨be,0,none⟩)/\σ_ 17=.slice bN bf.Teams.length bR/\σ_ 18=jV (↑bf.Teams.length:Int)/\σ_ 19=jV (↑bj:Int)/\σ_ 29=.slice bL ag.Legs.length bM/\σ_ 30=jV (↑ag.Legs.length:Int)/\PHeap.Le bG U_/\sW w U U_ [.row bg bi 206 3 bJ,.blk be 205 [jV ag.Bib,.slice ax ag.Classes.length ay,.slice bg bw.length bi],.blk aw 73 aq,.blk b6 34 B1,.blk b2 27 B0,.row ap au 3 1 (nD KL.encI bb),bd,az] w_/\RlL U_ wNM bw bJ) gP ?_ ?_ ?_
 have f8:=dB.nilrow 206 3
 exact ⟨bG,none,0,[],Z,eV,eW,Z,dq,dr,cA,Z,Z,(zN _),f8,RlL.nil⟩
 rintro bu bw iO iR iy cK ⟨bh,bg,bi,bJ,cB,eX,eY,cy,eZ,fc,fd,dt,du,dN,dC,fG⟩ ii
 have di:Hid ((↑bu:Int) < (↑ag.Legs.length:Int)):=zI (wAo cK)
 replace cK:=zI cK
 have gR:Hid (w64 ((↑bu:Int) + 1)=(↑(bu + 1):Int)):=zI (by have h1:=cM.out;have h2:=di.out;rw [wAQ] <;> omega)
 refine sR fL1 Z (oR Z (zV Z cB du) (eN (zG (cT Z di (kN (zG (zR (sR gDl Z (bnK ii fun an dy gW=>?_)))))))))
 have fH:=fE.le dN
 have q:=fH.el (wAK dy)
 obtain ⟨eD,im,iM,fT,cD,g7⟩:=q
 obtain ⟨bW,bZ,bX,b4,rfl,fI,fJ⟩:=g7
 replace cD:Cl bh eD (im + bu * 3) [jV an.Skier,.slice bW an.Loops.length bZ,.slice bX an.Bouts.length b4]:=cD
 refine oR Z (ZC Z dt fT cB ZW Zc (wAg dy)) (oL Z (dC.ldCA (f:=0) cD Z Z yy Zc (us:=[jV an.Skier,.slice bW an.Loops.length bZ,.slice bX an.Bouts.length b4]) Z Z) (ZB (cs:=B9) Z Z Z Z Z Zq Z dC ?_))
 intro iz bQ f9
 let av:List Value:=[jV an.Skier,.slice bW an.Loops.length bZ,.slice bX an.Bouts.length b4]
 refine ZK (j:=0) (vs:=av) Z Z Z Z f9 Z Z Z Z Zc (zJ Z) Z Z Z ?_
 intro dU gb
 let cg:Res:=.blk be 205 [jV ag.Bib,.slice ax ag.Classes.length ay,.slice bg bw.length bi]
 have cG:sW w U bh [.blk bQ 76 av,.row bg bi 206 3 bJ,cg,.blk aw 73 aq,.blk b6 34 B1,.blk b2 27 B0,B6,bd,az] dU:=gb
 refine eN (rR (wDw gDm) Z (oR Z (zD Z cy zt Z Zi) (oL Z (cG.ldB (j:=2) Z Z Z Zm (v:=.slice bg bw.length bi) Z) (oL Z (cG.ldBA (j:=0) Z Z Z yy Zc (vs:=av) Z Z) (zk (pv:=[(0,.agg av.toArray)]) (zs:=B9) (cs:=av) Z Z Z Z Z (wAA Z wAO) ZP Zz Tryz.zeroValue206 Z Z Z Z Z cG ?_)))))
 intro dV eG gc
 have dJ:RlL bh wNM [(⟨an.Skier,an.Loops,an.Bouts⟩:wCS)] av:=(RlL.cons (R:=wNM) (x:=(⟨an.Skier,an.Loops,an.Bouts⟩:wCS)) (vs:=av) ⟨bW,bZ,bX,b4,rfl,fI,fJ⟩ RlL.nil)
 let ch:Res:=.row (some ⟨eG,0,none⟩) 1 206 3 av
 have dD:sW w U bh [ch,.blk bQ 76 av,.row bg bi 206 3 bJ,cg,.blk aw 73 aq,.blk b6 34 B1,.blk b2 27 B0,B6,bd,az] dV:=gc
 refine bnK gW fun cP fK gY=>YP (R:=wNM) (j:=2) (xs:=bw) (ys:=[(⟨an.Skier,an.Loops,an.Bouts⟩:wCS)]) (zs:=cP) rfl rfl rfl rfl rfl Tryz.underlying203 wQQ rfl rfl rfl rfl rfl rfl rfl dD rfl rfl rfl fG dJ (dD.srcR (j:=0) rfl (by decide) (RlL.len dJ)) fK rfl ?_
 intro bE bH cw dW gf g8
 have gg:sW w U bh [ch,.blk bQ 76 av,.row bE bH 206 3 cw,cg,.blk aw 73 aq,.blk b6 34 B1,.blk b2 27 B0,B6,bd,az] dW:=gf
 refine oR Z (zD Z cy zt Z Zi) (ZK (j:=3) (vs:=[.slice bE cP.length bH]) Z Z Z Z gg Z Z Z Z Zi (zJ Z) Z Z Z ?_)
 intro dX gh
 have gi:sW w U bh [ch,.blk bQ 76 av,.row bE bH 206 3 cw,.blk be 205 [jV ag.Bib,.slice ax ag.Classes.length ay,.slice bE cP.length bH],.blk aw 73 aq,.blk b6 34 B1,.blk b2 27 B0,B6,bd,az] dX:=gh
 refine zg (zd (zF (rR fL2 Z (oR Z (zz (zY Z cB Z) (congrArg (jV) gR.out)) (oM Z Z (zg ?_))))))
 cases gY
 exact zF ⟨rfl,⟨bh,bE,bH,cw,rfl,eX,eY,cy,eZ,fc,fd,dt,du,dN,(gi.pick [2,3,4,5,6,7,8,9] _ (by decide) rfl),g8⟩⟩
 rintro iS dY ⟨it,cU,dm,iC,ft,fe,cz,ff,fg,fh,fj,iD,fk,cN,cH,fL⟩
 have eK:Hid (¬ ((↑(((↑ag.Legs.length:Int):Int) - 0).toNat:Int) < (↑ag.Legs.length:Int))):=zI (wAc)
 refine sR fL1 Z (oR Z (zV Z ft fk) (eN (zG (cF Z eK (ZD (zb (zb (zr (zF (rR (wDw gDm) Z (oR Z (zD Z cz zj Z Zd) (oL Z (cH.ldB (j:=7) Z Z Z Zk (v:=.slice bo bv.length bt) Z) ?_))))))))))))
 let a7:List Value:=[jV ag.Bib,.slice ax ag.Classes.length ay,.slice cU ca.length dm]
 refine oL Z (cH.ldBA (j:=1) Z Z ff Tryz.isAgg205 Ze (vs:=a7) Z Z) ?_
 have q:=cH.freezeRR (R:=wNM) (k:=0) rfl fL rfl (by decide)
 obtain ⟨bs,cO,ic,gm⟩:=q
 have gq:sW w U bs [.blk be 205 a7,.blk aw 73 aq,.blk b6 34 B1,.blk b2 27 B0,B6,bd,az] dY:=gm
 refine zk (pv:=[(0,.agg a7.toArray)]) (zs:=B9) (cs:=a7) Z Z Z Z Z (wAA Z wAO) ZJ Ze YK Z Z Z Z Z gq ?_
 intro dZ eH gj
 have fM:=fD.le cN
 have fN:=fM.le cO
 have dK:RlL bs wGH [(⟨ag.Bib,ag.Classes,ca⟩:wCH)] a7:=(RlL.cons (R:=wGH) (x:=(⟨ag.Bib,ag.Classes,ca⟩:wCH)) (vs:=a7) ⟨ax,ay,cU,dm,rfl,fN,ic⟩ RlL.nil)
 let ci:Res:=.row (some ⟨eH,0,none⟩) 1 205 3 a7
 have dE:sW w U bs [ci,.blk be 205 a7,.blk aw 73 aq,.blk b6 34 B1,.blk b2 27 B0,B6,bd,az] dZ:=gj
 refine bnK gV fun cQ fO gZ=>?_
 have fP:=fB.le cN
 have fQ:=fP.le cO
 refine YP (R:=wGH) (j:=6) (xs:=bv) (ys:=[(⟨ag.Bib,ag.Classes,ca⟩:wCH)]) (zs:=cQ) rfl rfl rfl rfl rfl Tryz.underlying32 wQP rfl rfl rfl rfl rfl rfl rfl dE rfl rfl rfl fQ dK (dE.srcR (j:=0) rfl (by decide) (RlL.len dK)) fO rfl ?_
 intro bF bI cx d6 gr g9
 have gu:sW w U bs [ci,.blk be 205 a7,.blk aw 73 aq,.blk b6 34 B1,.blk b2 27 B0,B6,.row bF bI 205 3 cx,az] d6:=gr
 refine oR Z (zD Z cz zj Z Zd) (ZK (j:=7) (vs:=[.slice bF cQ.length bI]) Z Z Z Z gu Z Z Z Z Zd (zJ Z) Z Z Z ?_)
 intro d7 gv
 have gw:sW w U bs [ci,.blk be 205 a7,.blk aw 73 aq,.blk b6 34 B1,.blk b2 27 B0,B6,.row bF bI 205 3 cx,.blk a8 34 [.slice ap bb.length au,jV bx,jV bz,jV bA,jV bC,jV bD,jV p0.Start,.slice bF cQ.length bI]] d7:=gv
 refine zg (zd (zF (rR fL2 Z (oR Z (zz (zY Z fj Z) (congrArg (jV) gQ.out)) (oM Z Z (zg ?_))))))
 cases gZ
 exact zF ⟨rfl,⟨bs,bF,bI,cx,rfl,fe,cz,fg,fh,((dM.trans cN).trans cO),(gw.pick [3,4,5,6,7] _ (by decide) rfl),g9⟩⟩
 rintro iT iA ⟨cZ,cc,cu,dn,fu,dv,fm,iE,fq,iH,dF,fR⟩
 have eM:Hid (¬ ((↑(((↑bf.Teams.length:Int):Int) - 0).toNat:Int) < (↑bf.Teams.length:Int))):=zI (wAc)
 refine sR fL1 Z (oR Z (zV Z fu fq) (eN (zG (cF Z eM (ZD (zb (zb (zr (zF (sR gCy Z ?_))))))))))
 let bp:List Value:=[.slice ap bb.length au,jV bx,jV bz,jV bA,jV bC,jV bD,jV p0.Start,.slice cc io.length cu]
 refine oL Z (dF.ldBA (j:=4) Z Z fm yg yO (vs:=bp) Z Z) (ZK (j:=0) (vs:=bp) Z Z Z Z dF Z dv Z Z yO (zJ Z) Z Z Z ?_)
 intro d8 gx
 have dG:sW w U cZ [.blk b6 34 bp,.blk b2 27 B0,B6,.row cc cu 205 3 dn,.blk a8 34 bp] d8:=gx
 refine eN (zS ?_)
 cases gT
 exact ⟨rfl,_,(wGv (v:=.agg bp.toArray) ⟨⟨_,dv,(wEv yg yO (dG.blkAt (k:=0) rfl) (vs:=bp) rfl rfl)⟩,trivial⟩),cZ,_,(dG.pick [2,3] _ (by decide) rfl),ap,au,cc,cu,dn,rfl,rfl,fR⟩
theorem wLm (p0:wAD) (ap:Option Addr) (au:Nat) (aq:Option Addr) (av:Nat) (w:World) (U:PHeap) (hS:St0 w U []) (cm:Sl U 1 ap au p0.Rules.Classes.length (nD KL.encI p0.Rules.Classes)) (co:SlR U wFL aq av p0.Teams) {r:(List wAG) × Int} (hm:wFK p0=some r):Gv Tryz.prog 16 [.agg #[.slice ap p0.Rules.Classes.length au,jV p0.Rules.Each,jV p0.Rules.Laps,jV p0.Rules.Spare,jV p0.Rules.Loop,jV p0.Rules.Unused,jV p0.Start,.slice aq p0.Teams.length av]] w (wBp w [] U (fun U_ L_ v=>∃ (A0:Option Addr) (c0:Nat),v=.tuple #[.slice A0 r.1.length c0,jV r.2]/\L_=[.row A0 c0 45 4 (nD wAb r.1)])):=by
 unfold wFK at hm
 refine Gv.of Tryz.func16 Z Tryz.ntmps16 Tryz.results16 Z (sR (.fx 0 (.fl 1 (.fl 2 .nil)) .stop) Z ?_)
 let B0:List Value:=[.slice ap p0.Rules.Classes.length au,jV p0.Rules.Each,jV p0.Rules.Laps,jV p0.Rules.Spare,jV p0.Rules.Loop,jV p0.Rules.Unused,jV p0.Start,.slice aq p0.Teams.length av]
 refine ZX (cs:=B0) rfl rfl rfl rfl rfl rfl (by rfl) hS ?_
 intro W1 b2 bx
 refine oA Z Z (oA Z Z (eN (sR (.fl 0 (.fx 1 (wFp (.nil)) .stop)) Z (oL Z (bx.ldBA (j:=0) Z Z Z yK Zf (vs:=B0) Z Z) ?_))))
 have q:=bnd hm
 obtain ⟨⟨x5,x6⟩,h7,ak⟩:=q
 try dsimp only at ak
 refine zP 0 Z Z Z Z (zQ Z Z Tryz.call86 (zH Z zZ) Z) bx (fun hs=>wGI p0 ap au aq av W1 U hs cm co h7) (.inr Z) ?_
 rintro U9 cE cL an cI bw bv
 rcases x5 with _ | ag
 try dsimp only at ak
 obtain ⟨rfl,rfl⟩:=bv
 have bV:sW w U U9 [.blk b2 27 B0] an:=bw
 refine oM Z Z (oR Z (ZF Z Z (v:=.pointer none) Z) (oR Z (ZF Z Z (v:=jV x6) Z) (oA Z Z (oA Z Z (eN (zG (sR fL2 Z (oM Z Z (oR Z (ZU Z Z Z) (eN (ifc ak ?_ ?_)))))))))))
 intro bb cp
 refine zn (zo (fun h=>h bb.out)) (kN (sR (.fl 0 (.fx 1 (.fx 2 (wNf (.nil)) .stop) .stop)) Z (oM Z Z ?_)))
 cases cp
 intro bb cr
 refine cT Z bb (sR fL3 Z (oM Z Z (oA Z Z (oA Z Z (eN (zS (zK ?_)))))))
 have bW:=bV.nilrow 45 4
 cases cr
 exact ⟨rfl,_,(wFA rfl rfl),U9,_,(bW.pick [0] _ (by decide) rfl),none,0,rfl,rfl⟩
 try dsimp only at ak
 obtain ⟨a7,bh,br,bi,bs,ax,a8,bJ,rfl,rfl,bK,bL,bM⟩:=bv
 let B1:Res:=.blk a7 222 [.slice bh ag.Race.Rules.Classes.length br,jV ag.Race.Rules.Each,jV ag.Race.Rules.Laps,jV ag.Race.Rules.Spare,jV ag.Race.Rules.Loop,jV ag.Race.Rules.Unused,jV ag.Race.Start,.slice bi ag.Race.Teams.length bs,.slice ax ag.after.length a8]
 have bz:sW w U U9 [B1,.row ax a8 22 1 bJ,.blk b2 27 B0] an:=bw
 refine oM Z Z (oR Z (ZF Z Z (v:=.pointer (some ⟨a7,0,none⟩)) Z) (oR Z (ZF Z Z (v:=jV x6) Z) (oA Z Z (oA Z Z (eN (zG (sR fL2 Z (oM Z Z (oR Z (ZU Z Z Z) (eN (ifc ak ?_ ?_)))))))))))
 intro bd ct
 refine zn (zo (fun h=>h bd.out)) (kN (sR (.fl 0 (.fx 1 (.fx 2 (wNf (.nil)) .stop) .stop)) Z (oM Z Z ?_)))
 have q:=bz.freezeRR (R:=wDe) (k:=1) rfl bM rfl (by decide)
 obtain ⟨bm,bC,cx,bX⟩:=q
 have bY:sW w U bm [B1,.blk b2 27 B0] an:=bX
 have bN:=bK.le bC
 have bO:=bL.le bC
 refine bnK ct fun aw bP cu=>zP 1 Z Z Z Z (zQ Z Z Tryz.call87 (zH Z zZ) Z) bY (fun hs=>wFu ag a7 bh br bi bs ax a8 an bm hs bN bO cx bP) (.inl Z) ?_
 rintro bF cG cM ao cJ bZ ⟨bj,bt,ay,be,bu,rfl,rfl,bQ⟩
 have b4:sW w U bF [.row bj bt 3 1 (nD KL.encI aw.Bibs),.row ay be 22 1 bu,B1,.blk b2 27 B0] ao:=bZ
 have q:=b4.freezeR (k:=0) (n:=aw.Bibs.length) rfl (wAC (f:=KL.encI) (sz:=1) (fun _=>rfl) aw.Bibs) (by decide)
 obtain ⟨bG,cA,cy,ca⟩:=q
 have cc:sW w U bG [.row ay be 22 1 bu,B1,.blk b2 27 B0] ao:=ca
 have bS:=bQ.le cA
 have q:=cc.freezeRR (R:=wDe) (k:=0) rfl bS rfl (by decide)
 obtain ⟨bn,cB,cz,cd⟩:=q
 have cg:sW w U bn [B1,.blk b2 27 B0] ao:=cd
 have bT:=cy.le cB
 have q:=bnd cu
 obtain ⟨⟨bE,cD⟩,bU,bA⟩:=q
 try dsimp only at bA
 refine zP 0 Z Z Z Z (zQ Z Z Tryz.call29 (zH Z zZ) Z) cg (fun hs=>wHG aw bj bt ay be ao bn hs bT cz bU) (.inr Z) ?_
 rintro bo cH cN bI cK ch ⟨az,bf,rfl,rfl⟩
 have ci:sW w U bo [.row az bf 45 4 (nD wAb bE),B1,.blk b2 27 B0] bI:=ch
 refine oR Z (ZF Z Z (v:=.slice az bE.length bf) Z) (oR Z (ZF Z Z (v:=jV cD) Z) (oA Z Z (oA Z Z (eN (zS ?_)))))
 cases bA
 exact ⟨rfl,_,(wFA rfl rfl),bo,_,(ci.pick [0] _ (by decide) rfl),az,bf,rfl,rfl⟩
 intro bd cw
 refine cT Z bd (sR fL3 Z (oM Z Z (oA Z Z (oA Z Z (eN (zS (zK ?_)))))))
 have cj:=bz.nilrow 45 4
 cases cw
 exact ⟨rfl,_,(wFA rfl rfl),U9,_,(cj.pick [0] _ (by decide) rfl),none,0,rfl,rfl⟩
theorem wAm (p0:Int) (p1:Int) (p2:Int) (w:World) (U:PHeap) (hS:St0 w U [])  {r:Bool} (hm:wAd p0 p1 p2=some r):Gv Tryz.prog 117 [jV p0,jV p1,jV p2] w (wBp w [] U (fun U_ L_ v=>v=.bool r/\L_=[])):=by
 unfold wAd at hm
 refine Gv.of Tryz.func117 Z Tryz.ntmps117 Tryz.results117 Z (sR fL1 Z (oA Z Z (eN (sR fL9 Z (oM Z Z (oM Z Z (oR Z (zV Z Z Z) (oM Z Z ?_))))))))
 by_cases c1:p0 < p1
 have aj:=hm;rw [if_pos c1] at aj;replace c1:=zI c1
 refine oT Z c1 (oT Z c1 (oT Z c1 (oR Z (zX Z (Zl c1.out) Z) (oA Z Z (eN (zS ?_))))))
 have hE:=nG aj;first | subst r | cases hE
 exact ⟨Z,_,(zw Z),U,_,hS,Z,Z⟩
 have ag:=hm;rw [if_neg c1] at ag;replace c1:=zI c1
 refine zh Z Z Z (wF Z c1) Z Z (zh Z Z Z (wF Z c1) Z Z (rU Z (wF Z c1) (yP Z Z Z) (oR Z (za Z (zo c1.out) Z) (oA Z Z (eN (zS ?_))))))
 first | (obtain rfl:=nG ag) | cases ag
 exact ⟨Z,_,(zw Z),U,_,hS,Z,Z⟩
theorem wFc (p0:List Int) (ao:Option Addr) (ap:Nat) (w:World) (U:PHeap) (hS:St0 w U []) (bs:Sl U 1 ao ap p0.length (nD KL.encI p0)) {r:Bool} (hm:wCz p0=some r):Gv Tryz.prog 118 [.slice ao p0.length ap] w (wBp w [] U (fun U_ L_ v=>v=.bool r/\L_=[])):=by
 unfold wCz at hm
 refine Gv.of Tryz.func118 Z Tryz.ntmps118 Tryz.results118 Z (sR fL1 Z (oA Z Z (eN (zG (sR fL1 Z (oA Z Z (eN (zR ?_))))))))
 have q:=wBQ hm
 obtain ⟨r3,ak⟩:=q
 have q:=wBP ak
 obtain ⟨an,bv⟩:=q
 replace an:=zI an
 refine yF (fun k2 _ σ_ w_=>∃ (U_:PHeap),σ_ 3=jV (↑k2:Int)/\σ_ 0=.slice ao p0.length ap/\PHeap.Le U U_/\sW w U U_ [] w_) bv ?_ ?_ ?_
 exact ⟨U,Z,Z,(zN _),hS⟩
 rintro k2 ⟨⟩ bO bQ W8 am ⟨a8,aj,ai,az,av⟩ ay bt
 try dsimp only at ay
 have aq:Hid ((↑k2:Int) < (↑p0.length:Int)):=zI (wAo am)
 replace am:=zI am
 have bw:Hid (w64 ((↑k2:Int) + 1)=(↑(k2 + 1):Int)):=zI (by have h1:=an.out;have h2:=aq.out;rw [wAQ] <;> omega)
 refine zG (sR fL4 Z (oM Z aj (oM Z ai (oR Z (zW Z Z zA) (oR Z (zV Z Z Z) (eN (cT Z aq (kN (zG (zR (sR (wHD (.fx 4 .nil .stop)) Z (oM Z ai (oM Z aj (bnK ay fun a7 au bx=>?_))))))))))))))
 have bj:=bs.le az
 have q:=bj.el (fun _=>rfl) (wAK au)
 obtain ⟨bI,bK,bn,bo⟩:=q
 refine oR Z (ZC Z Z bn Z zA zC (wAg au)) (oL Z (av.ldC (f:=0) bo (v:=jV a7) Z Z zM Z) (bnK bx fun bN bm bz=>zP 0 Z Z Z Z (zQ Z Z yo (zH Z (zH Z (zH Z zZ))) Z) av (fun hs=>wAm a7 0 3 W8 a8 hs bm) (.inr Z) ?_))
 rintro ag bG bM bd bE bp ⟨rfl,rfl⟩
 have aw:sW w U ag [] bd:=bp
 refine eN (ifc bz ?_ ?_)
 intro ah bA
 refine ZA (congrArg nA ah.out) (sR fL1 Z (oA Z Z (eN (zS (zU (zK ?_))))))
 have q:=wAM bA
 obtain ⟨bF,bC,bg⟩:=q
 have q:=wBI hm ak (bt bF bg)
 obtain rfl:=q
 refine zK (zU (zK ?_))
 have hE:=nG bC;first | subst r | cases hE
 exact ⟨Z,_,(zw Z),ag,_,aw,Z,Z⟩
 intro ah bD
 refine zn (congrArg nA (nE.2 ah.out)) (ZO (zd (zF (rR fL3 Z (oM Z aj (oR Z (zz (zY Z Z Z) (congrArg (jV) bw.out)) (oA Z Z (zg ?_))))))))
 have q:=nG bD
 obtain rfl:=q
 exact zF ⟨Z,_,Z,⟨ag,Z,ai,(az.trans bE),aw⟩⟩
 rintro ⟨⟩ bP bH ⟨bb,bi,bh,bJ,br⟩ bu
 have ax:=wCg hm ak bu
 try dsimp only at ax
 have bf:Hid (¬ ((↑(((↑p0.length:Int):Int) - 0).toNat:Int) < (↑p0.length:Int))):=zI (wAc)
 refine zG (sR fL4 Z (oM Z bi (oM Z bh (oR Z (zW Z Z zA) (oR Z (zV Z Z Z) (eN (cF Z bf (ZD (zb (zb (zr (zF (sR fL1 Z (oA Z Z (eN (zS ?_))))))))))))))))
 have hE:=nG ax;first | subst r | cases hE
 exact ⟨Z,_,(zw Z),bb,_,br,Z,Z⟩
theorem wFj (p0:wAu) (ao:Option Addr) (ap:Nat) (w:World) (U:PHeap) (hS:St0 w U []) (bM:Sl U 1 ao ap p0.Classes.length (nD KL.encI p0.Classes)) {r:Int} (hm:wCD p0=some r):Gv Tryz.prog 116 [.agg #[.slice ao p0.Classes.length ap,jV p0.Each,jV p0.Laps,jV p0.Spare,jV p0.Loop,jV p0.Unused]] w (wBp w [] U (fun U_ L_ v=>v=jV r/\L_=[])):=by
 unfold wCD at hm
 refine Gv.of Tryz.func116 Z Tryz.ntmps116 Tryz.results116 Z (sR gCw Z ?_)
 let B0:List Value:=[.slice ao p0.Classes.length ap,jV p0.Each,jV p0.Laps,jV p0.Spare,jV p0.Loop,jV p0.Unused]
 refine ZX (cs:=B0) rfl rfl rfl rfl rfl rfl (by rfl) hS ?_
 intro W1 b2 br
 refine oA Z Z (eN (zG (sR (wDw (.fx 3 .nil .stop)) Z (oR Z (zD Z Z Zh Z zT) (oL Z (br.ldB (j:=0) Z Z Z ze (v:=.slice ao p0.Classes.length ap) Z) (oR Z (zW Z Z zA) (bnK hm fun x5 h6 b4=>zP 0 Z Z Z Z (zQ Z Z yo (zH Z (zH Z (zH Z zZ))) Z) br (fun hs=>wAm (↑p0.Classes.length:Int) 1 4 W1 U hs h6) (.inr Z) ?_)))))))
 rintro U8 L9 cE bi cm bF ⟨rfl,rfl⟩
 have bb:sW w U U8 [.blk b2 31 B0] bi:=bF
 refine eN (ifc b4 ?_ ?_)
 intro a7 bN
 refine ZA (congrArg nA a7.out) (sR fL1 Z (oA Z Z (eN (zS (zK ?_)))))
 cases bN
 exact ⟨rfl,_,(zw rfl),U8,_,(bb.pick [] _ (by decide) rfl),rfl,rfl⟩
 intro a7 bO
 refine zn (congrArg nA (nE.2 a7.out)) (kN (zG (sR (.fl 0 (.fl 1 (.fx 2 (wQw (.fx 6 (wSU (.fx 11 (wRD (.fx 16 (wRG (.fx 21 (wRK (.fx 26 (.fl 27 .nil) .stop)) .stop)) .stop)) .stop)) .stop)) .stop))) Z (oR Z (zD Z Z Zh Z zT) (oL Z (bb.ldB (j:=0) Z Z Z ze (v:=.slice ao p0.Classes.length ap) Z) ?_)))))
 have bv:=bM.le cm
 refine bnK bO fun cM bw bP=>zP 0 Z Z Z Z (zQ Z Z Tryz.call118 (zH Z zZ) Z) bb (fun hs=>wFc p0.Classes ao ap bi U8 hs bv bw) (.inr Z) ?_
 rintro aq co cG bj cy bG ⟨rfl,rfl⟩
 have bd:sW w U aq [.blk b2 31 B0] bj:=bG
 refine oM Z Z (ifc bP ?_ ?_)
 intro ag bQ
 refine zc Z Z Z (zO Z Z (congrArg nA ag.out) Z) (zc Z Z Z (zO Z Z (congrArg nA ag.out) Z) (ZI Z Z Z (zO Z Z (congrArg nA ag.out) Z) (oR Z (zX Z (congrArg nA ag.out) Z) (oM Z Z (oN Z (oN Z (ZI Z Z Z (zO Z Z Z Z) (oR Z (zX Z Z Z) (oM Z Z (oN Z (oN Z (ZI Z Z Z (zO Z Z Z Z) (oR Z (zX Z Z Z) (oM Z Z (oN Z (oN Z (ZI Z Z Z (zO Z Z Z Z) (oR Z (zX Z Z Z) (oM Z Z (oN Z (oN Z (ZI Z Z Z (zO Z Z Z Z) (oR Z (zX Z Z Z) (eN (ZA Z (sR fL1 Z (oA Z Z (eN (zS (zK ?_))))))))))))))))))))))))))))))
 cases bQ
 exact ⟨rfl,_,(zw rfl),aq,_,(bd.pick [] _ (by decide) rfl),rfl,rfl⟩
 intro ag bR
 refine zf Z Z Z (zL Z Z (congrArg nA (nE.2 ag.out))) (fun _=>zD Z Z Zh Z zC) (zy Z Z Z (zL Z Z (congrArg nA (nE.2 ag.out))) (bd.ldB (j:=0) Z Z Z zM (v:=jV p0.Each) Z) Z (bnK bR fun cN bx bS=>zP 0 Z Z Z (zL Z Z (congrArg nA (nE.2 ag.out))) (zQ Z Z yo (zH Z (zH Z (zH Z zZ))) Z) bd (fun hs=>wAm p0.Each 1 4 bj aq hs bx) (.inr Z) ?_))
 rintro au cp cH bm cz bH ⟨rfl,rfl⟩
 have be:sW w U au [.blk b2 31 B0] bm:=bH
 refine oR Z (za Z (congrArg nA (nE.2 ag.out)) Z) (oM Z Z (ifc bS ?_ ?_))
 intro ah bT
 refine zc Z Z Z (zO Z Z (congrArg nA ah.out) Z) (zc Z Z Z (zO Z Z (congrArg nA ah.out) Z) (ZI Z Z Z (zO Z Z (congrArg nA ah.out) Z) (oR Z (zX Z (congrArg nA ah.out) Z) (oM Z Z (oN Z (oN Z (ZI Z Z Z (zO Z Z Z Z) (oR Z (zX Z Z Z) (oM Z Z (oN Z (oN Z (ZI Z Z Z (zO Z Z Z Z) (oR Z (zX Z Z Z) (oM Z Z (oN Z (oN Z (ZI Z Z Z (zO Z Z Z Z) (oR Z (zX Z Z Z) (eN (ZA Z (sR fL1 Z (oA Z Z (eN (zS (zK ?_)))))))))))))))))))))))))
 cases bT
 exact ⟨rfl,_,(zw rfl),au,_,(be.pick [] _ (by decide) rfl),rfl,rfl⟩
 intro ah bU
 refine zf Z Z Z (zL Z Z (congrArg nA (nE.2 ah.out))) (fun _=>zD Z Z Zh Z zC) (zy Z Z Z (zL Z Z (congrArg nA (nE.2 ah.out))) (be.ldB (j:=0) Z Z Z zM (v:=jV p0.Laps) Z) Z (bnK bU fun cO bz bV=>zP 0 Z Z Z (zL Z Z (congrArg nA (nE.2 ah.out))) (zQ Z Z yo (zH Z (zH Z (zH Z zZ))) Z) be (fun hs=>wAm p0.Laps 1 5 bm au hs bz) (.inr Z) ?_))
 rintro av cr cI bn cA bI ⟨rfl,rfl⟩
 have bf:sW w U av [.blk b2 31 B0] bn:=bI
 refine oR Z (za Z (congrArg nA (nE.2 ah.out)) Z) (oM Z Z (ifc bV ?_ ?_))
 intro ai bW
 refine zc Z Z Z (zO Z Z (congrArg nA ai.out) Z) (zc Z Z Z (zO Z Z (congrArg nA ai.out) Z) (ZI Z Z Z (zO Z Z (congrArg nA ai.out) Z) (oR Z (zX Z (congrArg nA ai.out) Z) (oM Z Z (oN Z (oN Z (ZI Z Z Z (zO Z Z Z Z) (oR Z (zX Z Z Z) (oM Z Z (oN Z (oN Z (ZI Z Z Z (zO Z Z Z Z) (oR Z (zX Z Z Z) (eN (ZA Z (sR fL1 Z (oA Z Z (eN (zS (zK ?_))))))))))))))))))))
 cases bW
 exact ⟨rfl,_,(zw rfl),av,_,(bf.pick [] _ (by decide) rfl),rfl,rfl⟩
 intro ai bX
 refine zf Z Z Z (zL Z Z (congrArg nA (nE.2 ai.out))) (fun _=>zD Z Z Zh Z zC) (zy Z Z Z (zL Z Z (congrArg nA (nE.2 ai.out))) (bf.ldB (j:=0) Z Z Z zM (v:=jV p0.Spare) Z) Z (bnK bX fun cQ bA bY=>zP 0 Z Z Z (zL Z Z (congrArg nA (nE.2 ai.out))) (zQ Z Z yo (zH Z (zH Z (zH Z zZ))) Z) bf (fun hs=>wAm p0.Spare 0 600 bn av hs bA) (.inr Z) ?_))
 rintro aw ct cJ bo cB bJ ⟨rfl,rfl⟩
 have bg:sW w U aw [.blk b2 31 B0] bo:=bJ
 refine oR Z (za Z (congrArg nA (nE.2 ai.out)) Z) (oM Z Z (ifc bY ?_ ?_))
 intro aj bZ
 refine zc Z Z Z (zO Z Z (congrArg nA aj.out) Z) (zc Z Z Z (zO Z Z (congrArg nA aj.out) Z) (ZI Z Z Z (zO Z Z (congrArg nA aj.out) Z) (oR Z (zX Z (congrArg nA aj.out) Z) (oM Z Z (oN Z (oN Z (ZI Z Z Z (zO Z Z Z Z) (oR Z (zX Z Z Z) (eN (ZA Z (sR fL1 Z (oA Z Z (eN (zS (zK ?_)))))))))))))))
 cases bZ
 exact ⟨rfl,_,(zw rfl),aw,_,(bg.pick [] _ (by decide) rfl),rfl,rfl⟩
 intro aj ca
 refine zf Z Z Z (zL Z Z (congrArg nA (nE.2 aj.out))) (fun _=>zD Z Z Zh Z zC) (zy Z Z Z (zL Z Z (congrArg nA (nE.2 aj.out))) (bg.ldB (j:=0) Z Z Z zM (v:=jV p0.Loop) Z) Z (bnK ca fun cR bD cc=>zP 0 Z Z Z (zL Z Z (congrArg nA (nE.2 aj.out))) (zQ Z Z yo (zH Z (zH Z (zH Z zZ))) Z) bg (fun hs=>wAm p0.Loop 0 600 bo aw hs bD) (.inr Z) ?_))
 rintro ax cu cK bp cC bK ⟨rfl,rfl⟩
 have bh:sW w U ax [.blk b2 31 B0] bp:=bK
 refine oR Z (za Z (congrArg nA (nE.2 aj.out)) Z) (oM Z Z (ifc cc ?_ ?_))
 intro ak cd
 refine zc Z Z Z (zO Z Z (congrArg nA ak.out) Z) (zc Z Z Z (zO Z Z (congrArg nA ak.out) Z) (ZI Z Z Z (zO Z Z (congrArg nA ak.out) Z) (oR Z (zX Z (congrArg nA ak.out) Z) (eN (ZA Z (sR fL1 Z (oA Z Z (eN (zS (zK ?_))))))))))
 cases cd
 exact ⟨rfl,_,(zw rfl),ax,_,(bh.pick [] _ (by decide) rfl),rfl,rfl⟩
 intro ak cg
 refine zf Z Z Z (zL Z Z (congrArg nA (nE.2 ak.out))) (fun _=>zD Z Z Zh Z zC) (zy Z Z Z (zL Z Z (congrArg nA (nE.2 ak.out))) (bh.ldB (j:=0) Z Z Z zM (v:=jV p0.Unused) Z) Z (bnK cg fun cS bE ch=>zP 0 Z Z Z (zL Z Z (congrArg nA (nE.2 ak.out))) (zQ Z Z yo (zH Z (zH Z (zH Z zZ))) Z) bh (fun hs=>wAm p0.Unused 0 6000 bp ax hs bE) (.inr Z) ?_))
 rintro az cw cL bu cD bL ⟨rfl,rfl⟩
 have bs:sW w U az [.blk b2 31 B0] bu:=bL
 refine oR Z (za Z (congrArg nA (nE.2 ak.out)) Z) (eN (ifc ch ?_ ?_))
 intro a8 ci
 refine ZA (congrArg nA a8.out) (sR fL1 Z (oA Z Z (eN (zS (zK ?_)))))
 cases ci
 exact ⟨rfl,_,(zw rfl),az,_,(bs.pick [] _ (by decide) rfl),rfl,rfl⟩
 intro a8 cj
 refine zn (congrArg nA (nE.2 a8.out)) (kN (sR fL1 Z (oA Z Z (eN (zS ?_)))))
 cases cj
 exact ⟨rfl,_,(zw rfl),az,_,(bs.pick [] _ (by decide) rfl),rfl,rfl⟩
set_option maxHeartbeats 4000000
theorem wDt (p0:List Bool) (bm:Option Addr) (bn:Nat) (w:World) (U:PHeap) (hS:St0 w U []) (bY:Sl U 1 bm bn p0.length (nD KL.encT p0)) {r:wAq × Int} (hm:wBC p0=some r):Gv Tryz.prog 174 [.slice bm p0.length bn] w (wBp w [] U (fun U_ L_ v=>v=.tuple #[.agg #[jV r.1.Spares,jV r.1.Loops,jV r.1.Unused],jV r.2]/\L_=[])):=by
 unfold wBC at hm
 refine Gv.of Tryz.func174 Z Tryz.ntmps174 Tryz.results174 Z (sR gCw Z ?_)
 let B0:List Value:=[jV 0,jV 0,jV 0]
 refine ZB (cs:=B0) Z Z Z Z Z yt Z hS ?_
 intro W1 b2 bU
 refine oA Z Z (eN (zG (sR gDi Z (oM Z Z (oR Z (zW Z Z zq) (bnK hm fun x5 h6 cj=>zP 0 Z Z Z Z (zQ Z Z yo (zH Z (zH Z (zH Z zZ))) Z) bU (fun hs=>wAm (↑p0.length:Int) 5 8 W1 U hs h6) (.inr Z) ?_))))))
 rintro U8 L9 cD bF cr bS ⟨rfl,rfl⟩
 have bs:sW w U U8 [.blk b2 323 B0] bF:=bS
 refine eN (ifc cj ?_ ?_)
 intro a7 cc
 refine ZA (congrArg nA a7.out) (sR gDg Z (oR Z (ZT (pv:=[]) (z:=B0) (cs:=B0) Z wAO yt wHj Z Z) (ZK (j:=0) (vs:=B0) Z Z Z Z bs Z Z Z Z yp (zJ Z) Z Z Z ?_)))
 intro bG bT
 have bt:sW w U U8 [.blk b2 323 B0] bG:=bT
 refine oA Z Z (eN (zS (zK ?_)))
 cases cc
 exact ⟨rfl,_,(wJg (rs:=[.cell 2 323,.tmp 3]) (vs:=[.agg B0.toArray,jV 2]) ⟨⟨_,rfl,(wEv Tryz.isAgg323 yp (bt.blkAt (k:=0) rfl) (vs:=B0) rfl rfl)⟩,⟨rfl,trivial⟩⟩ rfl),U8,_,(bt.pick [] _ (by decide) rfl),rfl,rfl⟩
 intro a7 bi
 refine zn (congrArg nA (nE.2 a7.out)) (kN (sR fL1 Z (oA Z Z (eN (zG (sR fL1 Z (oA Z Z (eN (zR ?_)))))))))
 have q:=wBQ bi
 obtain ⟨cC,bf⟩:=q
 have q:=wBP bf
 obtain ⟨bh,ca⟩:=q
 replace bh:=zI bh
 refine yF (fun an bo σ_ w_=>∃ (U_:PHeap),σ_ 5=jV (↑an:Int)/\σ_ 0=.slice bm p0.length bn/\σ_ 2=.pointer (some ⟨b2,0,none⟩)/\σ_ 4=jV bo/\PHeap.Le U8 U_/\sW w U U_ [.blk b2 323 B0] w_) ca ?_ ?_ ?_
 exact ⟨U8,Z,Z,Z,Z,(zN _),bs⟩
 rintro an bo cG cH cx bg ⟨ao,ax,aq,au,bd,bj,ay⟩ bD bZ
 have bp:Hid ((↑an:Int) < (↑p0.length:Int)):=zI (wAo bg)
 replace bg:=zI bg
 have bz:Hid (w64 ((↑an:Int) + 1)=(↑(an + 1):Int)):=zI (by have h1:=bh.out;have h2:=bp.out;rw [wAQ] <;> omega)
 refine zG (sR fL4 Z (oM Z ax (oM Z aq (oR Z (zW Z Z zq) (oR Z (zV Z Z Z) (eN (cT Z bp (kN (zG (zR (zG (sR fL2 Z (oM Z bd (oR Z (yJ Z Z Z) (eN ?_)))))))))))))))
 by_cases ah:bo=5
 have bA:=bD;rw [if_pos ah] at bA;replace ah:=zI ah
 refine cT Z ah (sR gDg Z (oR Z (ZT (pv:=[]) (z:=B0) (cs:=B0) Z wAO yt wHj Z Z) (ZK (j:=0) (vs:=B0) Z Z Z Z ay Z au Z Z yp (zJ Z) Z Z Z ?_)))
 intro bH bV
 have bu:sW w U ao [.blk b2 323 B0] bH:=bV
 refine oA Z Z (eN (zS (zK (zU (zK ?_)))))
 have q:=wAM bA
 obtain ⟨ct,cd,bL⟩:=q
 have q:=wBI bi bf (bZ ct bL)
 obtain rfl:=q
 refine zK (zU (zK ?_))
 cases cd
 exact ⟨rfl,_,(wJg (rs:=[.cell 2 323,.tmp 3]) (vs:=[.agg B0.toArray,jV 8]) ⟨⟨_,au,(wEv Tryz.isAgg323 yp (bu.blkAt (k:=0) rfl) (vs:=B0) rfl rfl)⟩,⟨rfl,trivial⟩⟩ rfl),ao,_,(bu.pick [] _ (by decide) rfl),rfl,rfl⟩
 have bC:=bD;rw [if_neg ah] at bC;replace ah:=zI ah
 refine cF Z ah (kN (sR fL4 Z (oM Z aq (oM Z ax (bnK bC fun cu br cg=>?_)))))
 have bN:=bY.le cr
 have bP:=bN.le bj
 have q:=bP.el (fun _=>rfl) (wAK br)
 obtain ⟨cz,cB,bQ,bR⟩:=q
 refine oR Z (ZC Z Z bQ Z zq Zn (wAg br)) (oL Z (ay.ldC (f:=0) bR (v:=.bool cu) Z Z yh Z) (eN (ifc cg ?_ ?_)))
 intro a8 ch
 refine ZA (congrArg nA a8.out) (rR fL3 Z (oM Z bd (oR Z (zY Z Z Z) (oA Z Z (zg (zd (zF (rR fL3 Z (oM Z ax (oR Z (zz (zY Z Z Z) (congrArg (jV) bz.out)) (oA Z Z (zg ?_))))))))))))
 have q:=nG ch
 obtain rfl:=q
 exact zF ⟨Z,_,Z,⟨ao,Z,aq,au,Z,bj,ay⟩⟩
 intro a8 ci
 refine zn (congrArg nA (nE.2 a8.out)) (ZO (zd (zF (rR fL3 Z (oM Z ax (oR Z (zz (zY Z Z Z) (congrArg (jV) bz.out)) (oA Z Z (zg ?_))))))))
 have q:=nG ci
 obtain rfl:=q
 exact zF ⟨Z,_,Z,⟨ao,Z,aq,au,bd,bj,ay⟩⟩
 rintro az cI cy ⟨ap,bM,av,aw,be,cA,bv⟩ b4
 have cm:=wCg bi bf b4
 have bK:Hid (¬ ((↑(((↑p0.length:Int):Int) - 0).toNat:Int) < (↑p0.length:Int))):=zI (wAc)
 refine zG (sR fL4 Z (oM Z bM (oM Z av (oR Z (zW Z Z zq) (oR Z (zV Z Z Z) (eN (cF Z bK (ZD (zb (zb (zr (zF (sR fL1 Z (oA Z Z (eN (zG (sR fL2 Z (oM Z be (oR Z (zV Z Z Z) (eN (ifc cm ?_ ?_)))))))))))))))))))))
 intro bb co
 refine cT Z bb (rR fL4 Z (oM Z av (oR Z (zW Z Z zq) (oR Z (yA Z Z Z) (oA Z Z (eN (sR (wMK gDb) Z (oM Z av (oR Z (zW Z Z zq) (oR Z (yA Z Z Z) (oM Z be (oR Z (yA Z Z Z) (oM Z Z ?_)))))))))))))
 let B1:List Value:=[jV (w64 ((↑p0.length:Int) - 5)),jV (w64 (5 - az)),jV (w64 (8 - (↑p0.length:Int)))]
 refine oR Z (ZT (pv:=[(0,jV (w64 ((↑p0.length:Int) - 5))),(1,jV (w64 (5 - az))),(2,jV (w64 (8 - (↑p0.length:Int))))]) (z:=B0) (cs:=B1) Z (wAA Z (wAA Z (wAA Z wAO))) yt wHj Z Z) (ZK (j:=0) (vs:=B1) Z Z Z Z bv Z aw Z Z yp (zJ Z) Z Z Z ?_)
 intro bI bW
 have bw:sW w U ap [.blk b2 323 B1] bI:=bW
 refine oA Z Z (eN (zS ?_))
 cases co
 exact ⟨rfl,_,(wJg (rs:=[.cell 2 323,.tmp 3]) (vs:=[.agg B1.toArray,jV 0]) ⟨⟨_,aw,(wEv Tryz.isAgg323 yp (bw.blkAt (k:=0) rfl) (vs:=B1) rfl rfl)⟩,⟨rfl,trivial⟩⟩ rfl),ap,_,(bw.pick [] _ (by decide) rfl),rfl,rfl⟩
 intro bb cp
 refine cF Z bb (kN (sR (wMK gDb) Z (oM Z av (oR Z (zW Z Z zq) (oR Z (yA Z Z Z) (oM Z be (oR Z (yA Z Z Z) (oM Z Z ?_))))))))
 let B2:List Value:=[jV (w64 ((↑p0.length:Int) - 5)),jV (w64 (5 - az)),jV 0]
 refine oR Z (ZT (pv:=[(0,jV (w64 ((↑p0.length:Int) - 5))),(1,jV (w64 (5 - az))),(2,jV 0)]) (z:=B0) (cs:=B2) Z (wAA Z (wAA Z (wAA Z wAO))) yt wHj Z Z) (ZK (j:=0) (vs:=B2) Z Z Z Z bv Z aw Z Z yp (zJ Z) Z Z Z ?_)
 intro bJ bX
 have bx:sW w U ap [.blk b2 323 B2] bJ:=bX
 refine oA Z Z (eN (zS ?_))
 cases cp
 exact ⟨rfl,_,(wJg (rs:=[.cell 2 323,.tmp 3]) (vs:=[.agg B2.toArray,jV 0]) ⟨⟨_,aw,(wEv Tryz.isAgg323 yp (bx.blkAt (k:=0) rfl) (vs:=B2) rfl rfl)⟩,⟨rfl,trivial⟩⟩ rfl),ap,_,(bx.pick [] _ (by decide) rfl),rfl,rfl⟩
theorem wEy (p0:wAT) (bV:Option Addr) (bX:Nat) (au:Option Addr) (av:Nat) (w:World) (U:PHeap) (hS:St0 w U []) (og:Sl U 1 bV bX p0.Rules.Classes.length (nD KL.encI p0.Rules.Classes)) (cx:SlR U wGH au av p0.Teams) {r:Int} (hm:wBH p0=some r):Gv Tryz.prog 91 [.agg #[.slice bV p0.Rules.Classes.length bX,jV p0.Rules.Each,jV p0.Rules.Laps,jV p0.Rules.Spare,jV p0.Rules.Loop,jV p0.Rules.Unused,jV p0.Start,.slice au p0.Teams.length av]] w (wBp w [] U (fun U_ L_ v=>v=jV r/\L_=[])):=by
 unfold wBH at hm
 refine Gv.of Tryz.func91 Z Tryz.ntmps91 Tryz.results91 Z (sR gCw Z ?_)
 let B0:List Value:=[.slice bV p0.Rules.Classes.length bX,jV p0.Rules.Each,jV p0.Rules.Laps,jV p0.Rules.Spare,jV p0.Rules.Loop,jV p0.Rules.Unused,jV p0.Start,.slice au p0.Teams.length av]
 refine ZX (cs:=B0) rfl rfl rfl rfl rfl rfl (by rfl) hS ?_
 intro W1 b2 gA
 refine oA Z Z (eN (zG (sR gDk Z (oR Z (zD Z Z zj Z yX) (oL Z (gA.ldBA (j:=0) Z Z Z Tryz.isAgg31 yX (vs:=[.slice bV p0.Rules.Classes.length bX,jV p0.Rules.Each,jV p0.Rules.Laps,jV p0.Rules.Spare,jV p0.Rules.Loop,jV p0.Rules.Unused]) Z Z) (bnK hm fun x5 h6 qh=>zP 0 Z Z Z Z (zQ Z Z Tryz.call116 (zH Z zZ) Z) gA (fun hs=>wFj p0.Rules bV bX W1 U hs og h6) (.inr Z) ?_))))))
 rintro U8 L9 uK fQ cy mZ ⟨rfl,rfl⟩
 have fm:sW w U U8 [.blk b2 34 B0] fQ:=mZ
 refine oA Z Z (eN (sR fL2 Z (oM Z Z (oR Z (ZU Z Z Z) (eN (ifc qh ?_ ?_))))))
 intro dA oC
 refine zn (zo (fun h=>h dA.out)) (kN (zG (sR (wDw (.fx 3 .nil .stop)) Z (oR Z (zD Z Z zj Z Zd) (oL Z (fm.ldB (j:=0) Z Z Z Zk (v:=.slice au p0.Teams.length av) Z) (oR Z (zW Z Z ZJ) (bnK oC fun ve lC oP=>zP 0 Z Z Z Z (zQ Z Z yo (zH Z (zH Z (zH Z zZ))) Z) fm (fun hs=>wAm (↑p0.Teams.length:Int) 1 12 fQ U8 hs lC) (.inr Z) ?_)))))))
 rintro cH tI uL i7 cz m3 ⟨rfl,rfl⟩
 have gy:sW w U cH [.blk b2 34 B0] i7:=m3
 refine eN (ifc oP ?_ ?_)
 intro dE pm
 refine ZA (congrArg nA dE.out) (sR fL1 Z (oA Z Z (eN (zS (zK ?_)))))
 cases pm
 exact ⟨rfl,_,(zw rfl),cH,_,(gy.pick [] _ (by decide) rfl),rfl,rfl⟩
 intro dE pq
 refine zn (congrArg nA (nE.2 dE.out)) (kN (zG (sR fL1 Z (oA Z Z (eN (zR (yM (fun bK σ_ w_=>∃ (U_:PHeap),σ_ 1=.pointer (some ⟨b2,0,none⟩)/\σ_ 4=jV bK/\PHeap.Le cH U_/\sW w U U_ [.blk b2 34 B0] w_) pq ?_ ?_)))))))
 exact ⟨cH,Z,Z,(zN _),gy⟩
 rintro bK vo vA i9 ⟨cK,bO,dV,bU,bR⟩ ij bf
 refine zG (sR fL5 Z (oM Z dV (oR Z (zD Z bO zj Z Zd) (oL Z (bR.ldB (j:=0) Z Z Z Zk (v:=.slice au p0.Teams.length av) Z) (oR Z (zW Z Z ZJ) (oR Z (zV Z Z Z) (eN ?_)))))))
 by_cases bt:bK < (↑p0.Teams.length:Int)
 have gW:=ij;rw [if_pos bt] at gW;replace bt:=zI bt
 refine cT Z bt (kN (zG (zR (sR (wGD gDa) Z (oR Z (zD Z bO zj Z Zd) (oL Z (bR.ldB (j:=0) Z Z Z Zk (v:=.slice au p0.Teams.length av) Z) (oM Z dV (bnK gW fun ap eA pX=>?_))))))))
 have lU:=cx.le cy
 have lV:=lU.le cz
 have lW:=lV.le bU
 have q:=lW.el (wAK eA)
 obtain ⟨jt,rz,u4,mM,eX,qW⟩:=q
 obtain ⟨dn,dp,bb,bd,rfl,uw,ma⟩:=qW
 replace eX:Cl cK jt (rz + bK.toNat * 3) [jV ap.Bib,.slice dn ap.Classes.length dp,.slice bb ap.Legs.length bd]:=eX
 refine oR Z (zx Z Z mM Z ZJ Ze (wAi eA) (wAj eA)) (oL Z (bR.ldCA (f:=0) eX Z Z Tryz.isAgg205 Ze (us:=[jV ap.Bib,.slice dn ap.Classes.length dp,.slice bb ap.Legs.length bd]) Z Z) (ZB (cs:=[jV 0,.slice none 0 0,.slice none 0 0]) Z Z Z Z Z YK Z bR ?_))
 intro tY bN n2
 let B1:List Value:=[jV ap.Bib,.slice dn ap.Classes.length dp,.slice bb ap.Legs.length bd]
 refine ZK (j:=0) (vs:=B1) Z Z Z Z n2 Z Z Z Z Ze (zJ Z) Z Z Z ?_
 intro fU n3
 have gH:sW w U cK [.blk bN 205 B1,.blk b2 34 B0] fU:=n3
 refine eN (zG (sR (wDw (.fx 3 (wOm (.nil)) .stop)) Z (oR Z (zD Z Z zt Z zT) (oL Z (gH.ldB (j:=0) Z Z Z ze (v:=.slice dn ap.Classes.length dp) Z) (oR Z (zW Z Z zA) (bnK pX fun vl ml qk=>zP 0 Z Z Z Z (zQ Z Z yo (zH Z (zH Z (zH Z zZ))) Z) gH (fun hs=>wAm (↑ap.Classes.length:Int) 1 8 fU cK hs ml) (.inr Z) ?_))))))
 rintro ch tO uS ji ir n9 ⟨rfl,rfl⟩
 have cw:sW w U ch [.blk bN 205 B1,.blk b2 34 B0] ji:=n9
 refine oM Z Z (ifc qk ?_ ?_)
 intro aq qw
 refine zc Z Z Z (zO Z Z (congrArg nA aq.out) Z) (zc Z Z Z (zO Z Z (congrArg nA aq.out) Z) (zc Z Z Z (zO Z Z (congrArg nA aq.out) Z) (zc Z Z Z (zO Z Z (congrArg nA aq.out) Z) (zc Z Z Z (zO Z Z (congrArg nA aq.out) Z) (zc Z Z Z (zO Z Z (congrArg nA aq.out) Z) (zc Z Z Z (zO Z Z (congrArg nA aq.out) Z) (zc Z Z Z (zO Z Z (congrArg nA aq.out) Z) (oR Z (zX Z (congrArg nA aq.out) Z) (eN (ZA Z (sR fL1 Z (oA Z Z (eN (zS (zK (zU (zK ?_)))))))))))))))))
 have q:=wAM qw
 obtain ⟨tC,qy,lu⟩:=q
 have q:=bf tC lu
 obtain rfl:=q
 refine zK (zU (zK ?_))
 cases qy
 exact ⟨rfl,_,(zw rfl),ch,_,(cw.pick [] _ (by decide) rfl),rfl,rfl⟩
 intro aq qz
 refine zf Z Z Z (zL Z Z (congrArg nA (nE.2 aq.out))) (fun _=>zD Z Z zt Z Zi) (zy Z Z Z (zL Z Z (congrArg nA (nE.2 aq.out))) (cw.ldB (j:=0) Z Z Z Zm (v:=.slice bb ap.Legs.length bd) Z) Z (zf Z Z Z (zL Z Z (congrArg nA (nE.2 aq.out))) (fun _=>zW Z Z ZP) (zf Z Z Z (zL Z Z (congrArg nA (nE.2 aq.out))) (fun _=>zD Z bO zj Z yX) (zf Z Z Z (zL Z Z (congrArg nA (nE.2 aq.out))) (fun _=>zD Z Z Zh Z zT) (zy Z Z Z (zL Z Z (congrArg nA (nE.2 aq.out))) (cw.ldB (j:=1) Z Z Z ze (v:=.slice bV p0.Rules.Classes.length bX) Z) Z (zf Z Z Z (zL Z Z (congrArg nA (nE.2 aq.out))) (fun _=>zW Z Z zA) (zf Z Z Z (zL Z Z (congrArg nA (nE.2 aq.out))) (fun _=>yP Z Z Z) (oR Z (za Z (congrArg nA (nE.2 aq.out)) Z) (eN (ifc qz ?_ ?_))))))))))
 intro dP qE
 refine cT Z dP (sR fL1 Z (oA Z Z (eN (zS (zK (zU (zK ?_)))))))
 have q:=wAM qE
 obtain ⟨tF,qJ,ly⟩:=q
 have q:=bf tF ly
 obtain rfl:=q
 refine zK (zU (zK ?_))
 cases qJ
 exact ⟨rfl,_,(zw rfl),ch,_,(cw.pick [] _ (by decide) rfl),rfl,rfl⟩
 intro dP qK
 refine cF Z dP (kN (sR fL1 Z (oA Z Z (eN (zR (yM (fun bg σ_ w_=>∃ (U_:PHeap),σ_ 1=.pointer (some ⟨b2,0,none⟩)/\σ_ 4=jV bK/\σ_ 5=.pointer (some ⟨bN,0,none⟩)/\σ_ 6=jV bg/\PHeap.Le ch U_/\sW w U U_ [.blk bN 205 B1,.blk b2 34 B0] w_) qK ?_ ?_))))))
 exact ⟨ch,bO,dV,Z,Z,(zN _),cw⟩
 rintro bg vm vL tR ⟨aw,dR,dS,cR,cS,bT,ah⟩ ig bn
 refine zG (sR fL5 Z (oM Z cS (oR Z (zD Z cR zt Z Zi) (oL Z (ah.ldB (j:=0) Z Z Z Zm (v:=.slice bb ap.Legs.length bd) Z) (oR Z (zW Z Z ZP) (oR Z (zV Z Z Z) (eN ?_)))))))
 by_cases bp:bg < (↑ap.Legs.length:Int)
 have gR:=ig;rw [if_pos bp] at gR;replace bp:=zI bp
 refine cT Z bp (kN (zG (zR (sR fL8 Z (oR Z (zD Z cR zt Z Zi) (oL Z (ah.ldB (j:=0) Z Z Z Zm (v:=.slice bb ap.Legs.length bd) Z) (oM Z cS (bnK gR fun aj ay ot=>?_))))))))
 have lB:=ma.le ir
 have ct:=lB.le bT
 have q:=ct.el (wAK ay)
 obtain ⟨jj,rn,uT,mC,eH,qL⟩:=q
 obtain ⟨iv,iK,rN,sg,rfl,t8,ua⟩:=qL
 replace eH:Cl aw jj (rn + bg.toNat * 3) [jV aj.Skier,.slice iv aj.Loops.length iK,.slice rN aj.Bouts.length sg]:=eH
 refine oR Z (zx Z Z mC Z ZP Zz (wAi ay) (wAj ay)) (oR Z (zD Z Z Zg Z zT) (oL Z (ah.ldC (f:=1) eH (v:=.slice iv aj.Loops.length iK) Z Z ze Z) (oR Z (zW Z Z zA) (oA Z Z (eN (sR fL3 Z (oM Z Z (oR Z (yA Z Z Z) (oA Z Z (eN (zG (sR fL2 Z (oM Z Z (oR Z (yJ Z Z Z) (eN (ifc ot ?_ ?_))))))))))))))))
 intro dz ou
 refine cT Z dz (rR fL1 Z (oA Z Z (eN (zG (yu fun cc bI=>?_)))))
 have cU:cc 1=.pointer (some ⟨b2,0,none⟩):=(bI 1).trans dR
 have fY:cc 4=jV bK:=(bI 4).trans dS
 have ci:cc 5=.pointer (some ⟨bN,0,none⟩):=(bI 5).trans cR
 have cj:cc 6=jV bg:=(bI 6).trans cS
 have fZ:cc 7=jV (↑aj.Loops.length:Int):=(bI 7).trans rfl
 have f0:cc 8=jV 0:=(bI 8).trans rfl
 clear bI
 refine rR fL31 Z (oM Z fZ (oR Z (zD Z cU zj Z yX) (oR Z (zD Z Z Zh Z zC) (oL Z (ah.ldB (j:=1) Z Z Z zM (v:=jV p0.Rules.Laps) Z) (oR Z (yP Z Z Z) (oM Z Z (ifc ou ?_ ?_)))))))
 intro ak ov
 refine oT Z ak (oT Z ak (oT Z ak (oT Z ak (oT Z ak (oT Z ak (oT Z ak (zc Z Z Z (wAP Z Z Z) (zc Z Z Z (wAP Z Z Z) (zc Z Z Z (wAP Z Z Z) (zc Z Z Z (wAP Z Z Z) (zc Z Z Z (wAP Z Z Z) (oT Z ak (oR Z (zX Z (Zl ak.out) Z) (oM Z Z (oN Z (oN Z (oN Z (oN Z (oN Z (oN Z (oN Z (oN Z (oN Z (oR Z (zX Z Z Z) (eN (ZA Z (sR fL1 Z (oA Z Z (eN (zS (zU (zK ?_))))))))))))))))))))))))))))))))
 have q:=wAM ov
 obtain ⟨sK,ow,jI⟩:=q
 have q:=bn sK jI
 obtain rfl:=q
 refine zK (zU (zU (zK ?_)))
 have q:=wAM ow
 obtain ⟨sL,ox,jJ⟩:=q
 have q:=bf sL jJ
 obtain rfl:=q
 refine zK (zU (zK ?_))
 cases ox
 exact ⟨rfl,_,(zw rfl),aw,_,(ah.pick [] _ (by decide) rfl),rfl,rfl⟩
 intro ak oy
 refine zh Z Z Z (wF Z ak) Z cj (rU Z (wF Z ak) (zY Z Z Z) (rU Z (wF Z ak) (zD Z ci zt Z Zi) (zy Z Z Z (wF Z ak) (ah.ldB (j:=0) Z Z Z Zm (v:=.slice bb ap.Legs.length bd) Z) Z (rU Z (wF Z ak) (zW Z Z ZP) (rU Z (wF Z ak) (zV Z Z Z) (zh Z Z Z (wF Z ak) Z Z (ifc oy ?_ ?_)))))))
 intro az oz
 refine zh Z Z Z (wT Z az) Z fZ (rU Z (wT Z az) (zD Z cU zj Z yX) (rU Z (wT Z az) (zD Z Z Zh Z zC) (zy Z Z Z (wT Z az) (ah.ldB (j:=1) Z Z Z zM (v:=jV p0.Rules.Laps) Z) Z (rU Z (wT Z az) (ZU Z Z Z) (rU Z (wF Z ak) (zX Z (Zl az.out) Z) (oR Z (za Z (zo ak.out) Z) (oM Z Z (ifc oz ?_ ?_))))))))
 intro am oB
 refine zf Z Z Z (zL Z Z (zo (fun h=>h am.out))) (fun _=>zD Z ci zt Z Zi) (zy Z Z Z (zL Z Z (zo (fun h=>h am.out))) (ah.ldB (j:=0) Z Z Z Zm (v:=.slice bb ap.Legs.length bd) Z) Z (zh Z Z Z (zL Z Z (zo (fun h=>h am.out))) Z cj ?_))
 have q:=ct.el (wAK ay)
 obtain ⟨jk,ro,uU,mD,eI,qM⟩:=q
 obtain ⟨rP,sh,iw,iL,rfl,ub,uc⟩:=qM
 replace eI:Cl aw jk (ro + bg.toNat * 3) [jV aj.Skier,.slice rP aj.Loops.length sh,.slice iw aj.Bouts.length iL]:=eI
 refine zf Z Z Z (zL Z Z (zo (fun h=>h am.out))) (fun _=>zx Z Z mD Z ZP Zz (wAi ay) (wAj ay)) (zf Z Z Z (zL Z Z (zo (fun h=>h am.out))) (fun _=>zD Z Z Zg Z yH) (zy Z Z Z (zL Z Z (zo (fun h=>h am.out))) (ah.ldC (f:=2) eI (v:=.slice iw aj.Bouts.length iL) Z Z yQ Z) Z (zf Z Z Z (zL Z Z (zo (fun h=>h am.out))) (fun _=>zW Z Z ZL) (zh Z Z Z (zL Z Z (zo (fun h=>h am.out))) Z f0 (zf Z Z Z (zL Z Z (zo (fun h=>h am.out))) (fun _=>ZU Z Z Z) (oR Z (za Z (zo (fun h=>h am.out)) Z) (eN (ifc oB ?_ ?_))))))))
 intro dB oD
 refine zn (zo (fun h=>h dB.out)) (ZO (zd (zF (rR fL3 Z (oM Z cj (oR Z (zY Z Z Z) (oA Z Z (zg ?_))))))))
 have q:=nG oD
 obtain rfl:=q
 exact zF ⟨Z,_,Z,⟨aw,cU,fY,ci,Z,bT,ah⟩⟩
 intro dB oE
 refine cT Z dB (sR fL1 Z (oA Z Z (eN (zS (zU (zK ?_))))))
 have q:=wAM oE
 obtain ⟨sM,oG,jK⟩:=q
 have q:=bn sM jK
 obtain rfl:=q
 refine zK (zU (zU (zK ?_)))
 have q:=wAM oG
 obtain ⟨sN,oH,jL⟩:=q
 have q:=bf sN jL
 obtain rfl:=q
 refine zK (zU (zK ?_))
 cases oH
 exact ⟨rfl,_,(zw rfl),aw,_,(ah.pick [] _ (by decide) rfl),rfl,rfl⟩
 intro am oI
 refine oT Z am (oT Z am (oT Z am (oT Z am (oT Z am (oT Z am (oT Z am (oT Z am (oT Z am (oR Z (zX Z (Zl am.out) Z) (eN (ZA Z (sR fL1 Z (oA Z Z (eN (zS (zU (zK ?_)))))))))))))))))
 have q:=wAM oI
 obtain ⟨sO,oJ,jM⟩:=q
 have q:=bn sO jM
 obtain rfl:=q
 refine zK (zU (zU (zK ?_)))
 have q:=wAM oJ
 obtain ⟨sP,oK,jN⟩:=q
 have q:=bf sP jN
 obtain rfl:=q
 refine zK (zU (zK ?_))
 cases oK
 exact ⟨rfl,_,(zw rfl),aw,_,(ah.pick [] _ (by decide) rfl),rfl,rfl⟩
 intro az oO
 refine oF Z az (oF Z az (oF Z az (oF Z az (oF Z az (rU Z (wF Z ak) (za Z (zo az.out) Z) (oR Z (za Z (zo ak.out) Z) (oM Z Z (zf Z Z Z (zL Z Z Z) (fun _=>zD Z ci zt Z Zi) (zy Z Z Z (zL Z Z Z) (ah.ldB (j:=0) Z Z Z Zm (v:=.slice bb ap.Legs.length bd) Z) Z (zh Z Z Z (zL Z Z Z) Z cj ?_))))))))))
 have q:=ct.el (wAK ay)
 obtain ⟨jl,rp,uV,mE,eJ,qN⟩:=q
 obtain ⟨rQ,sj,ix,iM,rfl,ud,ue⟩:=qN
 replace eJ:Cl aw jl (rp + bg.toNat * 3) [jV aj.Skier,.slice rQ aj.Loops.length sj,.slice ix aj.Bouts.length iM]:=eJ
 refine zf Z Z Z (zL Z Z Z) (fun _=>zx Z Z mE Z ZP Zz (wAi ay) (wAj ay)) (zf Z Z Z (zL Z Z Z) (fun _=>zD Z Z Zg Z yH) (zy Z Z Z (zL Z Z Z) (ah.ldC (f:=2) eJ (v:=.slice ix aj.Bouts.length iM) Z Z yQ Z) Z (zf Z Z Z (zL Z Z Z) (fun _=>zW Z Z ZL) (zh Z Z Z (zL Z Z Z) Z f0 (zf Z Z Z (zL Z Z Z) (fun _=>ZU Z Z Z) (oR Z (za Z Z Z) (eN (ifc oO ?_ ?_))))))))
 intro dC oQ
 refine zn (zo (fun h=>h dC.out)) (ZO (zd (zF (rR fL3 Z (oM Z cj (oR Z (zY Z Z Z) (oA Z Z (zg ?_))))))))
 have q:=nG oQ
 obtain rfl:=q
 exact zF ⟨Z,_,Z,⟨aw,cU,fY,ci,Z,bT,ah⟩⟩
 intro dC oS
 refine cT Z dC (sR fL1 Z (oA Z Z (eN (zS (zU (zK ?_))))))
 have q:=wAM oS
 obtain ⟨sQ,oU,jO⟩:=q
 have q:=bn sQ jO
 obtain rfl:=q
 refine zK (zU (zU (zK ?_)))
 have q:=wAM oU
 obtain ⟨sS,oV,jP⟩:=q
 have q:=bf sS jP
 obtain rfl:=q
 refine zK (zU (zK ?_))
 cases oV
 exact ⟨rfl,_,(zw rfl),aw,_,(ah.pick [] _ (by decide) rfl),rfl,rfl⟩
 intro dz oW
 refine cF Z dz (kN (zG (yu fun cd bJ=>?_)))
 have cV:cd 1=.pointer (some ⟨b2,0,none⟩):=(bJ 1).trans dR
 have f4:cd 4=jV bK:=(bJ 4).trans dS
 have cm:cd 5=.pointer (some ⟨bN,0,none⟩):=(bJ 5).trans cR
 have co:cd 6=jV bg:=(bJ 6).trans cS
 have f5:cd 7=jV (↑aj.Loops.length:Int):=(bJ 7).trans rfl
 have f7:cd 8=jV (w64 ((↑aj.Loops.length:Int) - 1)):=(bJ 8).trans rfl
 clear bJ
 refine rR fL31 Z (oM Z f5 (oR Z (zD Z cV zj Z yX) (oR Z (zD Z Z Zh Z zC) (oL Z (ah.ldB (j:=1) Z Z Z zM (v:=jV p0.Rules.Laps) Z) (oR Z (yP Z Z Z) (oM Z Z (ifc oW ?_ ?_)))))))
 intro an oX
 refine oT Z an (oT Z an (oT Z an (oT Z an (oT Z an (oT Z an (oT Z an (zc Z Z Z (wAP Z Z Z) (zc Z Z Z (wAP Z Z Z) (zc Z Z Z (wAP Z Z Z) (zc Z Z Z (wAP Z Z Z) (zc Z Z Z (wAP Z Z Z) (oT Z an (oR Z (zX Z (Zl an.out) Z) (oM Z Z (oN Z (oN Z (oN Z (oN Z (oN Z (oN Z (oN Z (oN Z (oN Z (oR Z (zX Z Z Z) (eN (ZA Z (sR fL1 Z (oA Z Z (eN (zS (zU (zK ?_))))))))))))))))))))))))))))))))
 have q:=wAM oX
 obtain ⟨sT,oY,jQ⟩:=q
 have q:=bn sT jQ
 obtain rfl:=q
 refine zK (zU (zU (zK ?_)))
 have q:=wAM oY
 obtain ⟨sU,oZ,jR⟩:=q
 have q:=bf sU jR
 obtain rfl:=q
 refine zK (zU (zK ?_))
 cases oZ
 exact ⟨rfl,_,(zw rfl),aw,_,(ah.pick [] _ (by decide) rfl),rfl,rfl⟩
 intro an o0
 refine zh Z Z Z (wF Z an) Z co (rU Z (wF Z an) (zY Z Z Z) (rU Z (wF Z an) (zD Z cm zt Z Zi) (zy Z Z Z (wF Z an) (ah.ldB (j:=0) Z Z Z Zm (v:=.slice bb ap.Legs.length bd) Z) Z (rU Z (wF Z an) (zW Z Z ZP) (rU Z (wF Z an) (zV Z Z Z) (zh Z Z Z (wF Z an) Z Z (ifc o0 ?_ ?_)))))))
 intro a7 o3
 refine zh Z Z Z (wT Z a7) Z f5 (rU Z (wT Z a7) (zD Z cV zj Z yX) (rU Z (wT Z a7) (zD Z Z Zh Z zC) (zy Z Z Z (wT Z a7) (ah.ldB (j:=1) Z Z Z zM (v:=jV p0.Rules.Laps) Z) Z (rU Z (wT Z a7) (ZU Z Z Z) (rU Z (wF Z an) (zX Z (Zl a7.out) Z) (oR Z (za Z (zo an.out) Z) (oM Z Z (ifc o3 ?_ ?_))))))))
 intro ao o5
 refine zf Z Z Z (zL Z Z (zo (fun h=>h ao.out))) (fun _=>zD Z cm zt Z Zi) (zy Z Z Z (zL Z Z (zo (fun h=>h ao.out))) (ah.ldB (j:=0) Z Z Z Zm (v:=.slice bb ap.Legs.length bd) Z) Z (zh Z Z Z (zL Z Z (zo (fun h=>h ao.out))) Z co ?_))
 have q:=ct.el (wAK ay)
 obtain ⟨jm,rq,uW,mF,eK,qO⟩:=q
 obtain ⟨rS,sl,iy,iN,rfl,uf,ug⟩:=qO
 replace eK:Cl aw jm (rq + bg.toNat * 3) [jV aj.Skier,.slice rS aj.Loops.length sl,.slice iy aj.Bouts.length iN]:=eK
 refine zf Z Z Z (zL Z Z (zo (fun h=>h ao.out))) (fun _=>zx Z Z mF Z ZP Zz (wAi ay) (wAj ay)) (zf Z Z Z (zL Z Z (zo (fun h=>h ao.out))) (fun _=>zD Z Z Zg Z yH) (zy Z Z Z (zL Z Z (zo (fun h=>h ao.out))) (ah.ldC (f:=2) eK (v:=.slice iy aj.Bouts.length iN) Z Z yQ Z) Z (zf Z Z Z (zL Z Z (zo (fun h=>h ao.out))) (fun _=>zW Z Z ZL) (zh Z Z Z (zL Z Z (zo (fun h=>h ao.out))) Z f7 (zf Z Z Z (zL Z Z (zo (fun h=>h ao.out))) (fun _=>ZU Z Z Z) (oR Z (za Z (zo (fun h=>h ao.out)) Z) (eN (ifc o5 ?_ ?_))))))))
 intro dD o6
 refine zn (zo (fun h=>h dD.out)) (ZO (zd (zF (rR fL3 Z (oM Z co (oR Z (zY Z Z Z) (oA Z Z (zg ?_))))))))
 have q:=nG o6
 obtain rfl:=q
 exact zF ⟨Z,_,Z,⟨aw,cV,f4,cm,Z,bT,ah⟩⟩
 intro dD o7
 refine cT Z dD (sR fL1 Z (oA Z Z (eN (zS (zU (zK ?_))))))
 have q:=wAM o7
 obtain ⟨sV,o8,jS⟩:=q
 have q:=bn sV jS
 obtain rfl:=q
 refine zK (zU (zU (zK ?_)))
 have q:=wAM o8
 obtain ⟨sY,o9,jT⟩:=q
 have q:=bf sY jT
 obtain rfl:=q
 refine zK (zU (zK ?_))
 cases o9
 exact ⟨rfl,_,(zw rfl),aw,_,(ah.pick [] _ (by decide) rfl),rfl,rfl⟩
 intro ao pa
 refine oT Z ao (oT Z ao (oT Z ao (oT Z ao (oT Z ao (oT Z ao (oT Z ao (oT Z ao (oT Z ao (oR Z (zX Z (Zl ao.out) Z) (eN (ZA Z (sR fL1 Z (oA Z Z (eN (zS (zU (zK ?_)))))))))))))))))
 have q:=wAM pa
 obtain ⟨sZ,pb,jU⟩:=q
 have q:=bn sZ jU
 obtain rfl:=q
 refine zK (zU (zU (zK ?_)))
 have q:=wAM pb
 obtain ⟨s3,pd,jW⟩:=q
 have q:=bf s3 jW
 obtain rfl:=q
 refine zK (zU (zK ?_))
 cases pd
 exact ⟨rfl,_,(zw rfl),aw,_,(ah.pick [] _ (by decide) rfl),rfl,rfl⟩
 intro a7 pe
 refine oF Z a7 (oF Z a7 (oF Z a7 (oF Z a7 (oF Z a7 (rU Z (wF Z an) (za Z (zo a7.out) Z) (oR Z (za Z (zo an.out) Z) (oM Z Z (zf Z Z Z (zL Z Z Z) (fun _=>zD Z cm zt Z Zi) (zy Z Z Z (zL Z Z Z) (ah.ldB (j:=0) Z Z Z Zm (v:=.slice bb ap.Legs.length bd) Z) Z (zh Z Z Z (zL Z Z Z) Z co ?_))))))))))
 have q:=ct.el (wAK ay)
 obtain ⟨jo,rt,uX,mG,eM,qP⟩:=q
 obtain ⟨rT,sm,iz,iO,rfl,uh,ui⟩:=qP
 replace eM:Cl aw jo (rt + bg.toNat * 3) [jV aj.Skier,.slice rT aj.Loops.length sm,.slice iz aj.Bouts.length iO]:=eM
 refine zf Z Z Z (zL Z Z Z) (fun _=>zx Z Z mG Z ZP Zz (wAi ay) (wAj ay)) (zf Z Z Z (zL Z Z Z) (fun _=>zD Z Z Zg Z yH) (zy Z Z Z (zL Z Z Z) (ah.ldC (f:=2) eM (v:=.slice iz aj.Bouts.length iO) Z Z yQ Z) Z (zf Z Z Z (zL Z Z Z) (fun _=>zW Z Z ZL) (zh Z Z Z (zL Z Z Z) Z f7 (zf Z Z Z (zL Z Z Z) (fun _=>ZU Z Z Z) (oR Z (za Z Z Z) (eN (ifc pe ?_ ?_))))))))
 intro dF pg
 refine zn (zo (fun h=>h dF.out)) (ZO (zd (zF (rR fL3 Z (oM Z co (oR Z (zY Z Z Z) (oA Z Z (zg ?_))))))))
 have q:=nG pg
 obtain rfl:=q
 exact zF ⟨Z,_,Z,⟨aw,cV,f4,cm,Z,bT,ah⟩⟩
 intro dF ph
 refine cT Z dF (sR fL1 Z (oA Z Z (eN (zS (zU (zK ?_))))))
 have q:=wAM ph
 obtain ⟨s4,pi,jX⟩:=q
 have q:=bn s4 jX
 obtain rfl:=q
 refine zK (zU (zU (zK ?_)))
 have q:=wAM pi
 obtain ⟨s5,pj,jY⟩:=q
 have q:=bf s5 jY
 obtain rfl:=q
 refine zK (zU (zK ?_))
 cases pj
 exact ⟨rfl,_,(zw rfl),aw,_,(ah.pick [] _ (by decide) rfl),rfl,rfl⟩
 have gS:=ig;rw [if_neg bp] at gS;replace bp:=zI bp
 refine cF Z bp (ZD (zb ?_))
 have q:=wAM gS
 obtain ⟨s6,pn,jZ⟩:=q
 have q:=bn s6 jZ
 obtain rfl:=q
 refine zb (zr (zd (zF (rR fL3 Z (oM Z dS (oR Z (zY Z Z Z) (oA Z Z (zg ?_))))))))
 have q:=nG pn
 obtain rfl:=q
 exact zF ⟨rfl,_,rfl,⟨aw,dR,rfl,((bU.trans ir).trans bT),(ah.pick [1] _ (by decide) rfl)⟩⟩
 have gT:=ij;rw [if_neg bt] at gT;replace bt:=zI bt
 refine cF Z bt (ZD (zb ?_))
 have q:=wAM gT
 obtain ⟨s7,pp,j4⟩:=q
 have q:=bf s7 j4
 obtain rfl:=q
 refine zb (zr (zF (zG (sR gDi Z (oR Z (zD Z bO zj Z zC) (oL Z (bR.ldB (j:=0) Z Z Z zM (v:=jV p0.Start) Z) (bnK pp fun vf lD pt=>zP 0 Z Z Z Z (zQ Z Z yo (zH Z (zH Z (zH Z zZ))) Z) bR (fun hs=>wAm p0.Start 0 36000 i9 cK hs lD) (.inr Z) ?_)))))))
 rintro cI tJ uM i8 di m4 ⟨rfl,rfl⟩
 have gz:sW w U cI [.blk b2 34 B0] i8:=m4
 refine eN (ifc pt ?_ ?_)
 intro dG pu
 refine ZA (congrArg nA dG.out) (sR fL1 Z (oA Z Z (eN (zS (zK ?_)))))
 cases pu
 exact ⟨rfl,_,(zw rfl),cI,_,(gz.pick [] _ (by decide) rfl),rfl,rfl⟩
 intro dG py
 refine zn (congrArg nA (nE.2 dG.out)) (kN (zG (sR fL1 Z (oA Z Z (eN (zR (yM (fun bZ σ_ w_=>∃ (U_:PHeap),σ_ 1=.pointer (some ⟨b2,0,none⟩)/\σ_ 9=jV bZ/\PHeap.Le cI U_/\sW w U U_ [.blk b2 34 B0] w_) py ?_ ?_)))))))
 exact ⟨cI,bO,Z,(zN _),gz⟩
 rintro bZ vn vz tS ⟨cg,cW,dT,cA,cu⟩ ii dg
 refine zG (sR fL5 Z (oM Z dT (oR Z (zD Z cW zj Z Zd) (oL Z (cu.ldB (j:=0) Z Z Z Zk (v:=.slice au p0.Teams.length av) Z) (oR Z (zW Z Z ZJ) (oR Z (zV Z Z Z) (eN ?_)))))))
 by_cases br:bZ < (↑p0.Teams.length:Int)
 have gU:=ii;rw [if_pos br] at gU;replace br:=zI br
 refine cT Z br (kN (zG (zR (sR (wGD gDa) Z (oR Z (zD Z cW zj Z Zd) (oL Z (cu.ldB (j:=0) Z Z Z Zk (v:=.slice au p0.Teams.length av) Z) (oM Z dT (bnK gU fun ax ep pz=>?_))))))))
 have lE:=cx.le cy
 have lG:=lE.le cz
 have lH:=lG.le bU
 have lI:=lH.le di
 have lJ:=lI.le cA
 have q:=lJ.el (wAK ep)
 obtain ⟨jp,ru,uY,mH,eP,qQ⟩:=q
 obtain ⟨cB,cC,bW,bY,rfl,lK,lL⟩:=qQ
 replace eP:Cl cg jp (ru + bZ.toNat * 3) [jV ax.Bib,.slice cB ax.Classes.length cC,.slice bW ax.Legs.length bY]:=eP
 refine oR Z (zx Z Z mH Z ZJ Ze (wAi ep) (wAj ep)) (oL Z (cu.ldCA (f:=0) eP Z Z Tryz.isAgg205 Ze (us:=[jV ax.Bib,.slice cB ax.Classes.length cC,.slice bW ax.Legs.length bY]) Z Z) (ZB (cs:=[jV 0,.slice none 0 0,.slice none 0 0]) Z Z Z Z Z YK Z cu ?_))
 intro tT bo m5
 let B2:List Value:=[jV ax.Bib,.slice cB ax.Classes.length cC,.slice bW ax.Legs.length bY]
 refine ZK (j:=0) (vs:=B2) Z Z Z Z m5 Z Z Z Z Ze (zJ Z) Z Z Z ?_
 intro fR m6
 have gC:sW w U cg [.blk bo 205 B2,.blk b2 34 B0] fR:=m6
 refine eN (zG (sR (.fl 0 (.fl 1 (.fx 2 (wQw (.fx 6 (.fl 7 .nil) .stop)) .stop))) Z (oR Z (zD Z Z zt Z zC) (oL Z (gC.ldB (j:=0) Z Z Z zM (v:=jV ax.Bib) Z) (bnK pz fun vg lM pC=>zP 0 Z Z Z Z (zQ Z Z yo (zH Z (zH Z (zH Z zZ))) Z) gC (fun hs=>wAm ax.Bib 1 999 fR cg hs lM) (.inr Z) ?_)))))
 rintro dt tK uN fS fC m7 ⟨rfl,rfl⟩
 have fq:sW w U dt [.blk bo 205 B2,.blk b2 34 B0] fS:=m7
 refine oM Z Z (ifc pC ?_ ?_)
 intro bh pD
 refine zc Z Z Z (zO Z Z (congrArg nA bh.out) Z) (zc Z Z Z (zO Z Z (congrArg nA bh.out) Z) (ZI Z Z Z (zO Z Z (congrArg nA bh.out) Z) (oR Z (zX Z (congrArg nA bh.out) Z) (eN (ZA Z (sR fL1 Z (oA Z Z (eN (zS (zK (zU (zK ?_))))))))))))
 have q:=wAM pD
 obtain ⟨s8,pE,j5⟩:=q
 have q:=dg s8 j5
 obtain rfl:=q
 refine zK (zU (zK ?_))
 cases pE
 exact ⟨rfl,_,(zw rfl),dt,_,(fq.pick [] _ (by decide) rfl),rfl,rfl⟩
 intro bh pF
 refine zf Z Z Z (zL Z Z (congrArg nA (nE.2 bh.out))) (fun _=>zD Z Z zt Z zT) (zy Z Z Z (zL Z Z (congrArg nA (nE.2 bh.out))) (fq.ldB (j:=0) Z Z Z ze (v:=.slice cB ax.Classes.length cC) Z) Z ?_)
 have lN:=lK.le fC
 refine bnK pF fun vh lO pG=>zP 0 Z Z Z (zL Z Z (congrArg nA (nE.2 bh.out))) (zQ Z Z Tryz.call118 (zH Z zZ) Z) fq (fun hs=>wFc ax.Classes cB cC fS dt hs lN lO) (.inr Z) ?_
 rintro cJ tL uO ja iq m8 ⟨rfl,rfl⟩
 have gD:sW w U cJ [.blk bo 205 B2,.blk b2 34 B0] ja:=m8
 refine oR Z (za Z (congrArg nA (nE.2 bh.out)) Z) (eN (ifc pG ?_ ?_))
 intro dH pH
 refine ZA (congrArg nA dH.out) (sR fL1 Z (oA Z Z (eN (zS (zK (zU (zK ?_)))))))
 have q:=wAM pH
 obtain ⟨s9,pI,j6⟩:=q
 have q:=dg s9 j6
 obtain rfl:=q
 refine zK (zU (zK ?_))
 cases pI
 exact ⟨rfl,_,(zw rfl),cJ,_,(gD.pick [] _ (by decide) rfl),rfl,rfl⟩
 intro dH pJ
 refine zn (congrArg nA (nE.2 dH.out)) (kN (sR fL1 Z (oA Z Z (eN (zR (yM (fun b4 σ_ w_=>∃ (U_:PHeap),σ_ 1=.pointer (some ⟨b2,0,none⟩)/\σ_ 9=jV bZ/\σ_ 10=.pointer (some ⟨bo,0,none⟩)/\σ_ 11=jV b4/\PHeap.Le cJ U_/\sW w U U_ [.blk bo 205 B2,.blk b2 34 B0] w_) pJ ?_ ?_))))))
 exact ⟨cJ,cW,dT,Z,Z,(zN _),gD⟩
 rintro b4 vp vB tU ⟨du,f8,f9,gb,gc,fD,ft⟩ ik gJ
 refine zG (sR fL5 Z (oM Z gc (oR Z (zD Z gb zt Z Zi) (oL Z (ft.ldB (j:=0) Z Z Z Zm (v:=.slice bW ax.Legs.length bY) Z) (oR Z (zW Z Z ZP) (oR Z (zV Z Z Z) (eN ?_)))))))
 by_cases bs:b4 < (↑ax.Legs.length:Int)
 have gV:=ik;rw [if_pos bs] at gV;replace bs:=zI bs
 refine cT Z bs (kN (zG (zR (sR fL1 Z (oA Z Z (eN (zR (yM (fun iZ σ_ w_=>∃ (U_:PHeap),σ_ 1=.pointer (some ⟨b2,0,none⟩)/\σ_ 9=jV bZ/\σ_ 10=.pointer (some ⟨bo,0,none⟩)/\σ_ 11=jV b4/\σ_ 12=jV iZ/\PHeap.Le du U_/\sW w U U_ [.blk bo 205 B2,.blk b2 34 B0] w_) gV ?_ ?_))))))))
 exact ⟨du,f8,f9,gb,gc,Z,(zN _),ft⟩
 rintro iZ vq vC jb ⟨cL,ge,gf,cX,cY,dU,fE,bF⟩ rd gK
 refine zG (sR fL9 Z (oM Z dU (oR Z (zD Z cX zt Z Zi) (oL Z (bF.ldB (j:=0) Z Z Z Zm (v:=.slice bW ax.Legs.length bY) Z) (oM Z cY (bnK rd fun bx bP pK=>?_))))))
 have lP:=lL.le fC
 have lQ:=lP.le iq
 have lR:=lQ.le fD
 have gr:=lR.le fE
 have q:=gr.el (wAK bP)
 obtain ⟨jq,rv,uZ,mI,eQ,qR⟩:=q
 obtain ⟨iA,iP,rV,sq,rfl,uj,uk⟩:=qR
 replace eQ:Cl cL jq (rv + b4.toNat * 3) [jV bx.Skier,.slice iA bx.Loops.length iP,.slice rV bx.Bouts.length sq]:=eQ
 refine oR Z (zx Z Z mI Z ZP Zz (wAi bP) (wAj bP)) (oR Z (zD Z Z Zg Z zT) (oL Z (bF.ldC (f:=1) eQ (v:=.slice iA bx.Loops.length iP) Z Z ze Z) (oR Z (zW Z Z zA) (oR Z (zV Z Z Z) (eN (ifc pK ?_ ?_))))))
 intro dI pL
 refine cT Z dI (kN (zG (zR (sR (wML (.fx 9 .nil .stop)) Z (oR Z (zD Z cX zt Z Zi) (oL Z (bF.ldB (j:=0) Z Z Z Zm (v:=.slice bW ax.Legs.length bY) Z) (oM Z cY ?_)))))))
 have q:=gr.el (wAK bP)
 obtain ⟨jr,rx,u0,mJ,eS,qS⟩:=q
 obtain ⟨iB,iQ,rW,sr,rfl,lS,ul⟩:=qS
 replace eS:Cl cL jr (rx + b4.toNat * 3) [jV bx.Skier,.slice iB bx.Loops.length iQ,.slice rW bx.Bouts.length sr]:=eS
 refine oR Z (zx Z Z mJ Z ZP Zz (wAi bP) (wAj bP)) (oR Z (zD Z Z Zg Z zT) (oL Z (bF.ldC (f:=1) eS (v:=.slice iB bx.Loops.length iQ) Z Z ze Z) (oM Z dU (bnK pL fun i2 eu pM=>?_))))
 have q:=lS.el (fun _=>rfl) (wAK eu)
 obtain ⟨t7,uI,mK,mY⟩:=q
 refine oR Z (zx Z Z mK Z zA zC (wAi eu) (wAj eu)) (oL Z (bF.ldC (f:=0) mY (v:=jV i2) Z Z zM Z) (bnK pM fun vi lT pN=>zP 0 Z Z Z Z (zQ Z Z yo (zH Z (zH Z (zH Z zZ))) Z) bF (fun hs=>wAm i2 1 9000 jb cL hs lT) (.inr Z) ?_))
 rintro dv tM uP jc rh m9 ⟨rfl,rfl⟩
 have gE:sW w U dv [.blk bo 205 B2,.blk b2 34 B0] jc:=m9
 refine eN (ifc pN ?_ ?_)
 intro dJ pO
 refine ZA (congrArg nA dJ.out) (sR fL1 Z (oA Z Z (eN (zS (zU (zK ?_))))))
 have q:=wAM pO
 obtain ⟨ta,pP,j7⟩:=q
 have q:=gK ta j7
 obtain rfl:=q
 refine zK (zU (zU (zK ?_)))
 have q:=wAM pP
 obtain ⟨tb,pQ,j8⟩:=q
 have q:=gJ tb j8
 obtain rfl:=q
 refine zK (zU (zU (zK ?_)))
 have q:=wAM pQ
 obtain ⟨tc,pR,j9⟩:=q
 have q:=dg tc j9
 obtain rfl:=q
 refine zK (zU (zK ?_))
 cases pR
 exact ⟨rfl,_,(zw rfl),dv,_,(gE.pick [] _ (by decide) rfl),rfl,rfl⟩
 intro dJ pS
 refine zn (congrArg nA (nE.2 dJ.out)) (ZO (zd (zF (rR fL3 Z (oM Z dU (oR Z (zY Z Z Z) (oA Z Z (zg ?_))))))))
 have q:=nG pS
 obtain rfl:=q
 exact zF ⟨Z,_,Z,⟨dv,ge,gf,cX,cY,Z,(fE.trans rh),gE⟩⟩
 intro dI pT
 refine cF Z dI (ZD (zb ?_))
 have q:=wAM pT
 obtain ⟨tf,pU,k6⟩:=q
 have q:=gK tf k6
 obtain rfl:=q
 refine zb (zr (zd (zF (rR fL3 Z (oM Z cY (oR Z (zY Z Z Z) (oA Z Z (zg ?_))))))))
 have q:=nG pU
 obtain rfl:=q
 exact zF ⟨Z,_,Z,⟨cL,ge,gf,cX,Z,(fD.trans fE),bF⟩⟩
 have gY:=ik;rw [if_neg bs] at gY;replace bs:=zI bs
 refine cF Z bs (ZD (zb ?_))
 have q:=wAM gY
 obtain ⟨th,pV,k8⟩:=q
 have q:=gJ th k8
 obtain rfl:=q
 refine zb (zr (zd (zF (rR fL3 Z (oM Z f9 (oR Z (zY Z Z Z) (oA Z Z (zg ?_))))))))
 have q:=nG pV
 obtain rfl:=q
 exact zF ⟨rfl,_,rfl,⟨du,f8,rfl,(((cA.trans fC).trans iq).trans fD),(ft.pick [1] _ (by decide) rfl)⟩⟩
 have gZ:=ii;rw [if_neg br] at gZ;replace br:=zI br
 refine cF Z br (ZD (zb ?_))
 have q:=wAM gZ
 obtain ⟨tj,pW,k9⟩:=q
 have q:=dg tj k9
 obtain rfl:=q
 refine zb (zr (zF (zG (sR fL1 Z (oA Z Z (eN (zR (yM (fun bL σ_ w_=>∃ (U_:PHeap),σ_ 1=.pointer (some ⟨b2,0,none⟩)/\σ_ 13=jV bL/\PHeap.Le cg U_/\sW w U U_ [.blk b2 34 B0] w_) pW ?_ ?_))))))))
 exact ⟨cg,cW,Z,(zN _),cu⟩
 rintro bL vr vD tV ⟨cM,dW,gg,dm,fu⟩ il gL
 refine zG (sR fL5 Z (oM Z gg (oR Z (zD Z dW zj Z Zd) (oL Z (fu.ldB (j:=0) Z Z Z Zk (v:=.slice au p0.Teams.length av) Z) (oR Z (zW Z Z ZJ) (oR Z (zV Z Z Z) (eN ?_)))))))
 by_cases bu:bL < (↑p0.Teams.length:Int)
 have g6:=il;rw [if_pos bu] at g6;replace bu:=zI bu
 refine cT Z bu (kN (zG (zR (sR fL1 Z (oA Z Z (eN (zR (yM (fun fM σ_ w_=>∃ (U_:PHeap),σ_ 1=.pointer (some ⟨b2,0,none⟩)/\σ_ 13=jV bL/\σ_ 14=jV fM/\PHeap.Le cM U_/\sW w U U_ [.blk b2 34 B0] w_) g6 ?_ ?_))))))))
 exact ⟨cM,dW,gg,Z,(zN _),fu⟩
 rintro fM vt vE fT ⟨bM,cp,cr,dX,fG,de⟩ re gM
 refine zG (sR fL9 Z (oM Z dX (oR Z (zD Z cp zj Z Zd) (oL Z (de.ldB (j:=0) Z Z Z Zk (v:=.slice au p0.Teams.length av) Z) (oM Z cr (bnK re fun a8 bi pY=>?_))))))
 have lY:=cx.le cy
 have lZ:=lY.le cz
 have l0:=lZ.le bU
 have l3:=l0.le di
 have l4:=l3.le cA
 have l5:=l4.le dm
 have eB:=l5.le fG
 have q:=eB.el (wAK bi)
 obtain ⟨ju,ry,u1,mL,eV,qT⟩:=q
 obtain ⟨rX,ss,iC,iR,rfl,um,uo⟩:=qT
 replace eV:Cl bM ju (ry + bL.toNat * 3) [jV a8.Bib,.slice rX a8.Classes.length ss,.slice iC a8.Legs.length iR]:=eV
 refine oR Z (zx Z Z mL Z ZJ Ze (wAi bi) (wAj bi)) (oR Z (zD Z Z zt Z Zi) (oL Z (de.ldC (f:=2) eV (v:=.slice iC a8.Legs.length iR) Z Z Zm Z) (oR Z (zW Z Z ZP) (oR Z (zV Z Z Z) (eN (ifc pY ?_ ?_))))))
 intro dK pZ
 refine cT Z dK (kN (zG (zR (zG (ZY ZQ [3,1,3,3,3,1,3,3,3,1,3,1,3,3,3,1,3,3,2] (wSI (.fx 18 .nil .stop)) (by kernel_rfl) ?_)))))
 have bG:=de.drew
 generalize hw_W557:({ fT with drawn:=fT.drawn + 1 }:World)=jd at bG ⊢
 refine oR Z (zD Z cp zj Z Zd) (oL Z (bG.ldB (j:=0) Z Z Z Zk (v:=.slice au p0.Teams.length av) Z) (oM Z cr ?_))
 have q:=eB.el (wAK bi)
 obtain ⟨jv,rC,u2,mN,eW,qU⟩:=q
 obtain ⟨rY,su,iD,iS,rfl,uq,l6⟩:=qU
 replace eW:Cl bM jv (rC + bL.toNat * 3) [jV a8.Bib,.slice rY a8.Classes.length su,.slice iD a8.Legs.length iS]:=eW
 refine oR Z (zx Z Z mN Z ZJ Ze (wAi bi) (wAj bi)) (oR Z (zD Z Z zt Z Zi) (oL Z (bG.ldC (f:=2) eW (v:=.slice iD a8.Legs.length iS) Z Z Zm Z) (oM Z dX (bnK pZ fun cD eC p6=>?_))))
 have q:=l6.el (wAK eC)
 obtain ⟨jw,rD,u3,mO,eY,qV⟩:=q
 obtain ⟨rZ,sv,r0,sw,rfl,ur,ut⟩:=qV
 replace eY:Cl bM jw (rD + fM.toNat * 3) [jV cD.Skier,.slice rZ cD.Loops.length sv,.slice r0 cD.Bouts.length sw]:=eY
 refine oR Z (zx Z Z mO Z ZP Zz (wAi eC) (wAj eC)) (oR Z (zD Z Z Zg Z zC) (oL Z (bG.ldC (f:=0) eY (v:=jV cD.Skier) Z Z zM Z) (oR Z (zD Z cp zj Z Zd) (oL Z (bG.ldB (j:=0) Z Z Z Zk (v:=.slice au p0.Teams.length av) Z) (oM Z cr ?_)))))
 have q:=eB.el (wAK bi)
 obtain ⟨jx,rE,u5,mP,eZ,qX⟩:=q
 obtain ⟨iE,iT,r6,sA,rfl,uu,uv⟩:=qX
 replace eZ:Cl bM jx (rE + bL.toNat * 3) [jV a8.Bib,.slice iE a8.Classes.length iT,.slice r6 a8.Legs.length sA]:=eZ
 refine oR Z (zx Z Z mP Z ZJ Ze (wAi bi) (wAj bi)) (oR Z (zD Z Z zt Z zT) (oL Z (bG.ldC (f:=1) eZ (v:=.slice iE a8.Classes.length iT) Z Z ze Z) (oR Z (zW Z Z zA) (oR Z (yA Z Z Z) (bnK p6 fun vk l7 p7=>zP 0 Z Z Z Z (zQ Z Z yo (zH Z (zH Z (zH Z zZ))) Z) bG (fun hs=>wAm cD.Skier 0 (w64 ((↑a8.Classes.length:Int) - 1)) jd bM hs l7) (.inr Z) ?_)))))
 rintro dw tN uQ je ri n1 ⟨rfl,rfl⟩
 have gG:sW w U dw [.blk b2 34 B0] je:=n1
 refine eN (ifc p7 ?_ ?_)
 intro dL p8
 refine ZA (congrArg nA dL.out) (sR fL1 Z (oA Z Z (eN (zS (zU (zK ?_))))))
 have q:=wAM p8
 obtain ⟨tp,p9,lb⟩:=q
 have q:=gM tp lb
 obtain rfl:=q
 refine zK (zU (zU (zK ?_)))
 have q:=wAM p9
 obtain ⟨tq,qa,lc⟩:=q
 have q:=gL tq lc
 obtain rfl:=q
 refine zK (zU (zK ?_))
 cases qa
 exact ⟨rfl,_,(zw rfl),dw,_,(gG.pick [] _ (by decide) rfl),rfl,rfl⟩
 intro dL qb
 refine zn (congrArg nA (nE.2 dL.out)) (ZO (zd (zF (rR fL3 Z (oM Z dX (oR Z (zY Z Z Z) (oA Z Z (zg ?_))))))))
 have q:=nG qb
 obtain rfl:=q
 exact zF ⟨Z,_,Z,⟨dw,cp,cr,Z,(fG.trans ri),gG⟩⟩
 intro dK qc
 refine cF Z dK (ZD (zb ?_))
 have q:=wAM qc
 obtain ⟨tr,qd,lg⟩:=q
 have q:=gM tr lg
 obtain rfl:=q
 refine zb (zr (zd (zF (rR fL3 Z (oM Z cr (oR Z (zY Z Z Z) (oA Z Z (zg ?_))))))))
 have q:=nG qd
 obtain rfl:=q
 exact zF ⟨Z,_,Z,⟨bM,cp,Z,(dm.trans fG),de⟩⟩
 have g7:=il;rw [if_neg bu] at g7;replace bu:=zI bu
 refine cF Z bu (ZD (zb ?_))
 have q:=wAM g7
 obtain ⟨tt,qe,lh⟩:=q
 have q:=gL tt lh
 obtain rfl:=q
 refine zb (zr (zF (zG (sR fL1 Z (oA Z Z (eN (zR (yM (fun bz σ_ w_=>∃ (U_:PHeap),σ_ 1=.pointer (some ⟨b2,0,none⟩)/\σ_ 15=jV bz/\PHeap.Le cM U_/\sW w U U_ [.blk b2 34 B0] w_) qe ?_ ?_))))))))
 exact ⟨cM,dW,Z,(zN _),fu⟩
 rintro bz vu vF tW ⟨cN,dY,gh,fH,fw⟩ im gN
 refine zG (sR fL5 Z (oM Z gh (oR Z (zD Z dY zj Z Zd) (oL Z (fw.ldB (j:=0) Z Z Z Zk (v:=.slice au p0.Teams.length av) Z) (oR Z (zW Z Z ZJ) (oR Z (zV Z Z Z) (eN ?_)))))))
 by_cases bv:bz < (↑p0.Teams.length:Int)
 have g8:=im;rw [if_pos bv] at g8;replace bv:=zI bv
 refine cT Z bv (kN (zG (zR (sR fL1 Z (oA Z Z (eN (zR (yM (fun cE σ_ w_=>∃ (U_:PHeap),σ_ 1=.pointer (some ⟨b2,0,none⟩)/\σ_ 15=jV bz/\σ_ 16=jV cE/\PHeap.Le cN U_/\sW w U U_ [.blk b2 34 B0] w_) g8 ?_ ?_))))))))
 exact ⟨cN,dY,gh,Z,(zN _),fw⟩
 rintro cE vv vG tX ⟨cO,dZ,d6,gi,fI,df⟩ rf gO
 refine zG (sR fL9 Z (oM Z gi (oR Z (zD Z dZ zj Z Zd) (oL Z (df.ldB (j:=0) Z Z Z Zk (v:=.slice au p0.Teams.length av) Z) (oM Z d6 (bnK rf fun be bj qf=>?_))))))
 have mb:=cx.le cy
 have mc:=mb.le cz
 have md:=mc.le bU
 have me:=md.le di
 have mg:=me.le cA
 have mh:=mg.le dm
 have mi:=mh.le fH
 have gu:=mi.le fI
 have q:=gu.el (wAK bj)
 obtain ⟨jy,rF,u6,mQ,fc,qY⟩:=q
 obtain ⟨r7,sB,iF,iU,rfl,ux,uy⟩:=qY
 replace fc:Cl cO jy (rF + bz.toNat * 3) [jV be.Bib,.slice r7 be.Classes.length sB,.slice iF be.Legs.length iU]:=fc
 refine oR Z (zx Z Z mQ Z ZJ Ze (wAi bj) (wAj bj)) (oR Z (zD Z Z zt Z Zi) (oL Z (df.ldC (f:=2) fc (v:=.slice iF be.Legs.length iU) Z Z Zm Z) (oR Z (zW Z Z ZP) (oR Z (zV Z Z Z) (eN (ifc qf ?_ ?_))))))
 intro dM qg
 refine cT Z dM (kN (zG (zR (sR fL1 Z (oA Z Z (eN (zR (yM (fun fN σ_ w_=>∃ (U_:PHeap),σ_ 1=.pointer (some ⟨b2,0,none⟩)/\σ_ 15=jV bz/\σ_ 16=jV cE/\σ_ 17=jV fN/\PHeap.Le cO U_/\sW w U U_ [.blk b2 34 B0] w_) qg ?_ ?_))))))))
 exact ⟨cO,dZ,d6,gi,Z,(zN _),df⟩
 rintro fN vw vH jf ⟨bE,cZ,c9,dd,d7,fJ,bm⟩ rg gP
 refine zG (sR fL13 Z (oM Z d7 (oR Z (zD Z cZ zj Z Zd) (oL Z (bm.ldB (j:=0) Z Z Z Zk (v:=.slice au p0.Teams.length av) Z) (oM Z c9 ?_)))))
 have gv:=gu.le fJ
 have q:=gv.el (wAK bj)
 obtain ⟨jz,rG,u7,mR,fd,qZ⟩:=q
 obtain ⟨r8,sC,iG,iV,rfl,uz,mj⟩:=qZ
 replace fd:Cl bE jz (rG + bz.toNat * 3) [jV be.Bib,.slice r8 be.Classes.length sC,.slice iG be.Legs.length iV]:=fd
 refine oR Z (zx Z Z mR Z ZJ Ze (wAi bj) (wAj bj)) (oR Z (zD Z Z zt Z Zi) (oL Z (bm.ldC (f:=2) fd (v:=.slice iG be.Legs.length iV) Z Z Zm Z) (oM Z dd (bnK rg fun bA bQ qi=>?_))))
 have q:=mj.el (wAK bQ)
 obtain ⟨jA,rH,u8,mS,fe,q0⟩:=q
 obtain ⟨r9,sD,iH,iW,rfl,uA,uB⟩:=q0
 replace fe:Cl bE jA (rH + cE.toNat * 3) [jV bA.Skier,.slice r9 bA.Loops.length sD,.slice iH bA.Bouts.length iW]:=fe
 refine oR Z (zx Z Z mS Z ZP Zz (wAi bQ) (wAj bQ)) (oR Z (zD Z Z Zg Z yH) (oL Z (bm.ldC (f:=2) fe (v:=.slice iH bA.Bouts.length iW) Z Z yQ Z) (oR Z (zW Z Z ZL) (oR Z (zV Z Z Z) (eN (ifc qi ?_ ?_))))))
 intro dN qj
 refine cT Z dN (kN (zG (zR (sR (wQC (.fx 13 (wRE (.fx 17 (.fx 18 (.fl 19 .nil) .stop) .stop)) .stop)) Z (oR Z (zD Z cZ zj Z Zd) (oL Z (bm.ldB (j:=0) Z Z Z Zk (v:=.slice au p0.Teams.length av) Z) (oM Z c9 ?_)))))))
 have q:=gv.el (wAK bj)
 obtain ⟨jB,rI,u9,mT,ff,q5⟩:=q
 obtain ⟨sa,sE,iI,iX,rfl,uC,mm⟩:=q5
 replace ff:Cl bE jB (rI + bz.toNat * 3) [jV be.Bib,.slice sa be.Classes.length sE,.slice iI be.Legs.length iX]:=ff
 refine oR Z (zx Z Z mT Z ZJ Ze (wAi bj) (wAj bj)) (oR Z (zD Z Z zt Z Zi) (oL Z (bm.ldC (f:=2) ff (v:=.slice iI be.Legs.length iX) Z Z Zm Z) (oM Z dd ?_)))
 have q:=mm.el (wAK bQ)
 obtain ⟨jC,rJ,va,mU,fg,q6⟩:=q
 obtain ⟨sb,sF,iJ,iY,rfl,uD,mn⟩:=q6
 replace fg:Cl bE jC (rJ + cE.toNat * 3) [jV bA.Skier,.slice sb bA.Loops.length sF,.slice iJ bA.Bouts.length iY]:=fg
 refine oR Z (zx Z Z mU Z ZP Zz (wAi bQ) (wAj bQ)) (oR Z (zD Z Z Zg Z yH) (oL Z (bm.ldC (f:=2) fg (v:=.slice iJ bA.Bouts.length iY) Z Z yQ Z) (oM Z d7 (bnK qj fun fO eD ql=>?_))))
 have q:=mn.el (wAK eD)
 obtain ⟨jD,rK,vb,mV,fh,q7⟩:=q
 obtain ⟨fK,fL,rfl,mp⟩:=q7
 replace fh:Cl bE jD (rK + fN.toNat * 1) [.slice fK fO.length fL]:=fh
 refine oR Z (zx Z Z mV Z ZL Zv (wAi eD) (wAj eD)) (oL Z (bm.ldC (f:=0) fh (v:=.slice fK fO.length fL) Z Z yb Z) ?_)
 have q:=bnd ql
 obtain ⟨⟨ca,tH⟩,mq,g9⟩:=q
 try dsimp only at g9
 refine zP 0 Z Z Z Z (zQ Z Z Tryz.call174 (zH Z zZ) Z) bm (fun hs=>wDt fO fK fL jf bE hs mp mq) (.inr Z) ?_
 rintro cP tP uR jg rj n4 ⟨rfl,rfl⟩
 have n5:sW w U cP [.blk b2 34 B0] jg:=n4
 refine oM Z Z (oR Z (ZF Z Z (v:=.agg #[jV ca.Spares,jV ca.Loops,jV ca.Unused]) Z) (oR Z (ZF Z Z (v:=jV tH) Z) (ZB (cs:=[jV 0,jV 0,jV 0]) Z Z Z Z Z yt Z n5 ?_)))
 intro tZ jE n7
 let B3:List Value:=[jV ca.Spares,jV ca.Loops,jV ca.Unused]
 refine ZK (j:=0) (vs:=B3) Z Z Z Z n7 Z Z Z Z yp (zJ Z) Z Z Z ?_
 intro jh n8
 have gI:sW w U cP [.blk jE 323 B3,.blk b2 34 B0] jh:=n8
 refine oA Z Z (eN (sR fL2 Z (oM Z Z (oR Z (ZU Z Z Z) (eN (ifc g9 ?_ ?_))))))
 intro dO qm
 refine zn (zo (fun h=>h dO.out)) (ZO (zd (zF (rR fL3 Z (oM Z d7 (oR Z (zY Z Z Z) (oA Z Z (zg ?_))))))))
 have q:=nG qm
 obtain rfl:=q
 exact zF ⟨rfl,_,rfl,⟨cP,cZ,c9,dd,rfl,(fJ.trans rj),(gI.pick [1] _ (by decide) rfl)⟩⟩
 intro dO qn
 refine cT Z dO (sR fL2 Z (oM Z Z (oA Z Z (eN (zS (zU (zK ?_)))))))
 have q:=wAM qn
 obtain ⟨tu,qo,li⟩:=q
 have q:=gP tu li
 obtain rfl:=q
 refine zK (zU (zU (zK ?_)))
 have q:=wAM qo
 obtain ⟨tv,qp,lj⟩:=q
 have q:=gO tv lj
 obtain rfl:=q
 refine zK (zU (zU (zK ?_)))
 have q:=wAM qp
 obtain ⟨tw,qq,lk⟩:=q
 have q:=gN tw lk
 obtain rfl:=q
 refine zK (zU (zK ?_))
 have hE:=nG qq;first | subst r | cases hE
 exact ⟨rfl,_,(zw rfl),cP,_,(gI.pick [] _ (by decide) rfl),rfl,rfl⟩
 intro dN qr
 refine cF Z dN (ZD (zb ?_))
 have q:=wAM qr
 obtain ⟨tz,qs,lm⟩:=q
 have q:=gP tz lm
 obtain rfl:=q
 refine zb (zr (zd (zF (rR fL3 Z (oM Z dd (oR Z (zY Z Z Z) (oA Z Z (zg ?_))))))))
 have q:=nG qs
 obtain rfl:=q
 exact zF ⟨Z,_,Z,⟨bE,cZ,c9,Z,(fI.trans fJ),bm⟩⟩
 intro dM qt
 refine cF Z dM (ZD (zb ?_))
 have q:=wAM qt
 obtain ⟨tA,qu,lq⟩:=q
 have q:=gO tA lq
 obtain rfl:=q
 refine zb (zr (zd (zF (rR fL3 Z (oM Z d6 (oR Z (zY Z Z Z) (oA Z Z (zg ?_))))))))
 have q:=nG qu
 obtain rfl:=q
 exact zF ⟨Z,_,Z,⟨cO,dZ,Z,(fH.trans fI),df⟩⟩
 have ib:=im;rw [if_neg bv] at ib;replace bv:=zI bv
 refine cF Z bv (ZD (zb ?_))
 have q:=wAM ib
 obtain ⟨tB,qv,ls⟩:=q
 have q:=gN tB ls
 obtain rfl:=q
 refine zb (zr (zF (zG (sR fL1 Z (oA Z Z (eN (zR (yM (fun bC σ_ w_=>∃ (U_:PHeap),σ_ 1=.pointer (some ⟨b2,0,none⟩)/\σ_ 20=jV bC/\PHeap.Le cN U_/\sW w U U_ [.blk b2 34 B0] w_) qv ?_ ?_))))))))
 exact ⟨cN,dY,Z,(zN _),fw⟩
 rintro bC vx vI t1 ⟨dy,gj,gm,it,fy⟩ io gQ
 refine zG (sR fL5 Z (oM Z gm (oR Z (zD Z gj zj Z Zd) (oL Z (fy.ldB (j:=0) Z Z Z Zk (v:=.slice au p0.Teams.length av) Z) (oR Z (zW Z Z ZJ) (oR Z (zV Z Z Z) (eN ?_)))))))
 by_cases bw:bC < (↑p0.Teams.length:Int)
 have dh:=io;rw [if_pos bw] at dh;replace bw:=zI bw
 refine cT Z bw (kN (zG (zR (sR fL1 Z (oA Z Z (eN (zR ?_)))))))
 have q:=wBQ dh
 obtain ⟨uJ,fz⟩:=q
 have q:=wBP fz
 obtain ⟨fB,om⟩:=q
 replace fB:=zI fB
 refine yF (fun bS _ σ_ w_=>∃ (U_:PHeap),σ_ 21=jV (↑bS:Int)/\σ_ 1=.pointer (some ⟨b2,0,none⟩)/\σ_ 20=jV bC/\PHeap.Le dy U_/\sW w U U_ [.blk b2 34 B0] w_) om ?_ ?_ ?_
 exact ⟨dy,Z,gj,gm,(zN _),fy⟩
 rintro bS ⟨⟩ vy vJ fV fA ⟨cQ,eh,d8,d9,iu,od⟩ ip oh
 try dsimp only at ip
 have fW:Hid ((↑bS:Int) < bC):=zI (wAo fA)
 replace fA:=zI fA
 have oq:Hid (w64 ((↑bS:Int) + 1)=(↑(bS + 1):Int)):=zI (by have h1:=fB.out;have h2:=fW.out;rw [wAQ] <;> omega)
 refine zG (sR fL3 rfl (zh rfl rfl rfl rfl rfl eh (zh rfl rfl rfl rfl rfl d9 (zf rfl rfl rfl rfl (fun _=>zV rfl rfl rfl) (eN (cT Z fW (kN (zG (zR (zG (ZY ZQ [3,1,3,3,3,1,3,1,3,3,3,1,3] fL13 (by kernel_rfl) ?_)))))))))))
 have bH:=od.drew
 generalize hw_W854:({ fV with drawn:=fV.drawn + 1 }:World)=t2 at bH ⊢
 refine oR Z (zD Z d8 zj Z Zd) (oL Z (bH.ldB (j:=0) Z Z Z Zk (v:=.slice au p0.Teams.length av) Z) (oM Z d9 (bnK ip fun dq eG qx=>?_)))
 have mr:=cx.le cy
 have ms:=mr.le cz
 have mw:=ms.le bU
 have mx:=mw.le di
 have my:=mx.le cA
 have mz:=my.le dm
 have mA:=mz.le fH
 have mB:=mA.le it
 have gw:=mB.le iu
 have q:=gw.el (wAK eG)
 obtain ⟨jF,rL,vc,mW,fj,q8⟩:=q
 obtain ⟨sc,sG,sd,sH,rfl,uE,uF⟩:=q8
 replace fj:Cl cQ jF (rL + bC.toNat * 3) [jV dq.Bib,.slice sc dq.Classes.length sG,.slice sd dq.Legs.length sH]:=fj
 refine oR Z (zx Z Z mW Z ZJ Ze (wAi eG) (wAj eG)) (oR Z (zD Z Z zt Z zC) (oL Z (bH.ldC (f:=0) fj (v:=jV dq.Bib) Z Z zM Z) (oR Z (zD Z d8 zj Z Zd) (oL Z (bH.ldB (j:=0) Z Z Z Zk (v:=.slice au p0.Teams.length av) Z) (oM Z eh (bnK qx fun dr gx qA=>?_))))))
 have q:=gw.el (wAK gx)
 obtain ⟨jG,rM,vd,mX,fk,q9⟩:=q
 obtain ⟨se,sI,sf,sJ,rfl,uG,uH⟩:=q9
 replace fk:Cl cQ jG (rM + bS * 3) [jV dr.Bib,.slice se dr.Classes.length sI,.slice sf dr.Legs.length sJ]:=fk
 refine oR Z (ZC Z Z mX Z ZJ Ze (wAg gx)) (oR Z (zD Z Z zt Z zC) (oL Z (bH.ldC (f:=0) fk (v:=jV dr.Bib) Z Z zM Z) (oR Z (yJ Z Z Z) (eN (ifc qA ?_ ?_)))))
 intro dQ qC
 refine cT Z dQ (sR fL1 Z (oA Z Z (eN (zS (zU (zK ?_))))))
 have q:=wAM qC
 obtain ⟨tD,qD,lv⟩:=q
 have q:=wBI dh fz (oh tD lv)
 obtain rfl:=q
 refine zK (zU (zU (zK ?_)))
 have q:=wAM qD
 obtain ⟨tE,qF,lw⟩:=q
 have q:=gQ tE lw
 obtain rfl:=q
 refine zK (zU (zK ?_))
 cases qF
 exact ⟨rfl,_,(zw rfl),cQ,_,(bH.pick [] _ (by decide) rfl),rfl,rfl⟩
 intro dQ qG
 refine cF Z dQ (ZO (zd (zF (rR fL3 Z (oM Z eh (oR Z (zz (zY Z Z Z) (congrArg (jV) oq.out)) (oA Z Z (zg ?_))))))))
 have q:=nG qG
 obtain rfl:=q
 exact zF ⟨Z,_,Z,⟨cQ,Z,d8,d9,iu,bH⟩⟩
 rintro ⟨⟩ vK t6 ⟨i4,lA,lz,gq,rk,oe⟩ oj
 have ic:=wCg dh fz oj
 try dsimp only at ic
 have jH:Hid (¬ ((↑((bC:Int) - 0).toNat:Int) < bC)):=zI (wAc)
 refine zG (sR fL3 Z (oM Z lA (oM Z gq (oR Z (zV Z Z Z) (eN (cF Z jH (ZD (zb (zb (zr (zd (zF (rR fL3 Z (oM Z gq (oR Z (zY Z Z Z) (oA Z Z (zg ?_)))))))))))))))))
 have q:=nG ic
 obtain rfl:=q
 exact zF ⟨Z,_,Z,⟨i4,lz,Z,(it.trans rk),oe⟩⟩
 have ie:=io;rw [if_neg bw] at ie;replace bw:=zI bw
 refine cF Z bw (ZD (zb ?_))
 have q:=wAM ie
 obtain ⟨tG,qH,lx⟩:=q
 have q:=gQ tG lx
 obtain rfl:=q
 refine zb (zr (zF (sR fL1 Z (oA Z Z (eN (zS ?_))))))
 cases qH
 exact ⟨rfl,_,(zw rfl),dy,_,(fy.pick [] _ (by decide) rfl),rfl,rfl⟩
 intro dA qI
 refine cT Z dA (sR fL2 Z (oM Z Z (oA Z Z (eN (zS (zK ?_))))))
 have hE:=nG qI;first | subst r | cases hE
 exact ⟨rfl,_,(zw rfl),U8,_,(fm.pick [] _ (by decide) rfl),rfl,rfl⟩
end Go.Proofs.YtabadkdjndnliaaGreat
