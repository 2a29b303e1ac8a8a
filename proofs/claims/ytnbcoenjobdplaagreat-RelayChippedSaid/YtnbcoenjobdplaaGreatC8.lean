import Derived.Test.YtnbcoenjobdplaaGreatC6
import Derived.Test.YtnbcoenjobdplaaGreatC5
import Derived.Test.YtnbcoenjobdplaaGreatC7
set_option linter.all false
open List renaming flatMap->hD,set->nG,length_append->nH,length_cons->nI,length_nil->nJ,replicate->nK
open Option.some renaming inj->nA
open Go.Value renaming bool->nB
open Bool renaming eq_false_iff->nD
open Int renaming toNat_natCast->nE
namespace Go.Proofs.YtnbcoenjobdplaaGreat
open Go.KL
def gCa:Sch:=.fx 1 (.fl 2 .nil) .stop
def gCb:Sch:=.fx 3 (.fl 4 .nil) .stop
def gCc:Sch:=.fx 8 (.fl 9 .nil) .stop
def gCd:Sch:=.fx 0 (.fl 1 .nil) .stop
def gCe:Sch:=.fx 3 (.fx 4 .nil .stop) .stop
def gCf:Sch:=.fl 0 (.fx 1 .nil .stop)
def gCg:Sch:=.fx 0 (.fl 1 (.fl 2 .nil)) .stop
def gCh:Sch:=.fl 0 gCa
def gCi:Sch:=.fx 3 (.fl 4 (.fx 5 .nil .stop)) .stop
def gCj:Sch:=.fx 0 gCa .stop
def gCk:Sch:=.fx 1 (.fl 2 (.fl 3 .nil)) .stop
def gCl:Sch:=.fx 7 gCc .stop
def gCm:Sch:=.fl 1 (.fx 2 (.fx 3 .nil .stop) .stop)
def gCn:Sch:=.fx 0 gCk .stop
def gCo:Sch:=.fl 0 (.fl 1 (.fx 2 (.fl 3 .nil) .stop))
def gCp:Sch:=.fl 0 (.fl 1 (.fx 2 (.fl 3 (.fl 4 .nil)) .stop))
def gCq:Sch:=.fl 0 (.fx 1 (.fl 2 gCe) .stop)
set_option maxHeartbeats 4000000
theorem wJr (p0:wAZ) (bt:Option Addr) (bu:Nat) (az:Option Addr) (aY:Nat) (w:World) (U:PHeap) (hS:St0 w U []) (c6:Sl U 1 bt bu p0.Rules.Classes.length (hD KL.encI p0.Rules.Classes)) (c8:SlR U wHM az aY p0.Teams) {r:(List (List Int)) × Int} (hm:wGB p0=some r):Gv Tryz.prog 39 [.agg #[.slice bt p0.Rules.Classes.length bu,jV p0.Rules.Each,jV p0.Rules.Laps,jV p0.Rules.Spare,jV p0.Rules.Loop,jV p0.Rules.Unused,jV p0.Start,.slice az p0.Teams.length aY]] w (wBD w [] U (fun U_ L_ v=>∃ (A0:Option Addr) (c0:Nat) (de:List Hd),v=.tuple #[.slice A0 r.1.length c0,jV r.2]/\L_=[.row A0 c0 23 1 (hD wHU de),inn 3 1 KL.encI de r.1])):=by
 unfold wGB at hm
 refine Gv.of Tryz.func39 Z Tryz.ntmps39 Tryz.results39 Z (sR gCg Z ?_)
 let B0:List Value:=[.slice bt p0.Rules.Classes.length bu,jV p0.Rules.Each,jV p0.Rules.Laps,jV p0.Rules.Spare,jV p0.Rules.Loop,jV p0.Rules.Unused,jV p0.Start,.slice az p0.Teams.length aY]
 refine ZH (cs:=B0) rfl rfl rfl rfl rfl rfl (by rfl) hS ?_
 intro W1 b2 cX
 refine oA Z Z (oA Z Z (eN (zI (sR gCh Z (oL Z (cX.ldBA (j:=0) Z Z Z ya Zk (vs:=B0) Z Z) (bnK hm fun x5 h6 fP=>zM 0 Z Z Z Z (zK Z Z Tryz.call65 (zD Z zO) Z) cX (fun hs=>wHx p0 bt bu az aY W1 U hs c6 c8 h6) (.inr Z) ?_))))))
 rintro U8 L9 gH cm dg er ⟨rfl,rfl⟩
 have bQ:sW w U U8 [.blk b2 28 B0] cm:=er
 refine oA Z Z (eN (sR fL2 Z (oM Z Z (oR Z (ZX Z Z Z) (eN (ifc fP ?_ ?_))))))
 intro bG fy
 refine zn (zt (fun h=>h bG.out)) (kN (sR (wCK gCb) Z (oR Z (zF Z Z zo Z Zw) (oL Z (bQ.ldB (j:=0) Z Z Z yO (v:=.slice az p0.Teams.length aY) Z) (oR Z (ze Z Z ZW) (bnK fy fun am cQ fE=>OKS.makeSliceN Z Z Z Z Z (wBr zu) wMm Z Z Z Z Z cQ bQ ?_))))))
 intro co av eC
 let B1:Res:=.row (some ⟨av,0,none⟩) am.length 23 1 (hD wHU (nK am.length (⟨none,0,0⟩:Hd)))
 have eR:sW w U U8 [B1,.blk b2 28 B0] co:=eC
 have eJ:=eR.innMade 3 1 KL.encI cQ
 have cW:sW w U U8 [inn 3 1 KL.encI (nK am.length (⟨none,0,0⟩:Hd)) am,B1,.blk b2 28 B0] co:=eJ
 refine oA Z Z (eN (zI (sR fL4 Z (oR Z (zF Z Z zo Z Zw) (oL Z (cW.ldB (j:=2) Z Z Z yO (v:=.slice az p0.Teams.length aY) Z) (oR Z (ze Z Z ZW) (oM Z Z (eN (zU (bnK fE fun gP fc fN=>?_))))))))))
 have q:=wAn fc
 obtain ⟨bV,fd⟩:=q
 replace bV:=zH bV
 refine CK.forN' (fun O br σ_ w_=>∃ (U_:PHeap) (bf:List Hd),σ_ 23=jV (↑O:Int)/\σ_ 1=.pointer (some ⟨b2,0,none⟩)/\σ_ 5=.slice (some ⟨av,0,none⟩) br.length am.length/\σ_ 21=.slice az p0.Teams.length aY/\σ_ 22=jV (↑p0.Teams.length:Int)/\PHeap.Le U8 U_/\sW w U U_ [.blk b2 28 B0,.row (some ⟨av,0,none⟩) am.length 23 1 (hD wHU bf),inn 3 1 KL.encI bf br] w_) fd ?_ ?_ ?_
 exact ⟨U8,(nK am.length (⟨none,0,0⟩:Hd)),rfl,rfl,rfl,rfl,rfl,(zL _),(cW.pick [2,1,0] _ (by decide) rfl)⟩
 rintro O br gM gU gm bT ⟨bp,bf,bA,dK,dL,cM,cN,bW,cY⟩ fU
 have cr:Hid ((↑O:Int) < (↑p0.Teams.length:Int)):=zH (wAj bT)
 replace bT:=zH bT
 have ft:Hid (w64 ((↑O:Int) + 1)=(↑(O + 1):Int)):=zH (by have h1:=bV.out;have h2:=cr.out;rw [wAX] <;> omega)
 refine sR fL1 Z (oR Z (zW Z bA cN) (eN (zI (cT Z cr (kN (zI (zU (sR (wCK gCi) Z (oM Z bA (bnK fU fun aj cR fO=>?_))))))))))
 have dX:=c8.le dg
 have dY:=dX.le bW
 have q:=dY.el (wAV cR)
 obtain ⟨dy,fY,gJ,ej,bP,fR⟩:=q
 obtain ⟨bB,bC,bj,bm,rfl,dZ,d7⟩:=fR
 replace bP:Cl bp dy (fY + O * 3) [jV aj.Bib,.slice bB aj.Classes.length bC,.slice bj aj.Legs.length bm]:=bP
 refine oR Z (ZE Z cM ej bA ZW Zd (wAq cR)) (oL Z (cY.ldCA (f:=0) bP Z Z ym Zd (us:=[jV aj.Bib,.slice bB aj.Classes.length bC,.slice bj aj.Legs.length bm]) Z Z) ?_)
 let B2:List Value:=[jV 0,.slice none 0 0,.slice none 0 0]
 refine zm (cs:=B2) Z Z Z Z Z yG Z cY ?_
 intro gq ak eX
 refine oA Z Z ?_
 let B3:List Value:=[jV aj.Bib,.slice bB aj.Classes.length bC,.slice bj aj.Legs.length bm]
 refine zh (j:=0) (vs:=B3) Z Z Z Z eX Z Z Z Z Zd (zA Z) Z Z Z ?_
 intro dt eY
 let B4:Res:=.row (some ⟨av,0,none⟩) am.length 23 1 (hD wHU bf)
 have eZ:sW w U bp [.blk ak 43 B3,.blk b2 28 B0,B4,inn 3 1 KL.encI bf br] dt:=eY
 refine eN (sR (.fx 0 .nil .stop) Z (zm (cs:=hD KL.encI (Arr.fill 8 0).l) Z Z Z Z Z Tryz.zeroValue143 Z eZ ?_))
 intro du ao e8
 have cZ:sW w U bp [.blk ao 143 (hD KL.encI (Arr.fill 8 0).l),.blk ak 43 B3,.blk b2 28 B0,B4,inn 3 1 KL.encI bf br] du:=e8
 refine eN (sR fL4 Z (oR Z (zF Z Z ZL Z yD) (oL Z (cZ.ldB (j:=1) Z Z Z yv (v:=.slice bj aj.Legs.length bm) Z) (oR Z (ze Z Z Zh) (oM Z Z (eN (zU ?_)))))))
 have q:=bnd fO
 obtain ⟨⟨gN,gO⟩,e9,dd⟩:=q
 try dsimp only at dd
 have q:=wAn e9
 obtain ⟨bU,fb⟩:=q
 replace bU:=zH bU
 refine CK.forN' (fun ap (ab,ah) σ_ w_=>∃ (U_:PHeap) (ac:List Hd),σ_ 31=jV (↑ap:Int)/\σ_ 1=.pointer (some ⟨b2,0,none⟩)/\σ_ 5=.slice (some ⟨av,0,none⟩) ah.length am.length/\σ_ 6=jV (↑O:Int)/\σ_ 7=.pointer (some ⟨ak,0,none⟩)/\σ_ 8=.pointer (some ⟨ao,0,none⟩)/\σ_ 21=.slice az p0.Teams.length aY/\σ_ 22=jV (↑p0.Teams.length:Int)/\σ_ 23=jV (↑O:Int)/\σ_ 29=.slice bj aj.Legs.length bm/\σ_ 30=jV (↑aj.Legs.length:Int)/\PHeap.Le bp U_/\sW w U U_ [.blk ao 143 (hD KL.encI ab.l),.blk ak 43 B3,.blk b2 28 B0,.row (some ⟨av,0,none⟩) am.length 23 1 (hD wHU ac),inn 3 1 KL.encI ac ah] w_) fb ?_ ?_ ?_
 exact ⟨bp,bf,Z,dK,dL,Z,Z,Z,cM,cN,bA,Z,Z,(zL _),cZ⟩
 rintro ap ⟨ab,ah⟩ gL gQ gf bS ⟨bn,ac,bq,bw,ct,cu,bI,bJ,cw,cy,cz,bK,bL,bs,cS⟩ df
 try dsimp only at df
 have cq:Hid ((↑ap:Int) < (↑aj.Legs.length:Int)):=zH (wAj bS)
 replace bS:=zH bS
 have db:Hid (w64 ((↑ap:Int) + 1)=(↑(ap + 1):Int)):=zH (by have h1:=bU.out;have h2:=cq.out;rw [wAX] <;> omega)
 refine sR fL1 Z (oR Z (zW Z bq bL) (eN (zI (cT Z cq (kN (zI (zU (sR (wCK gCi) Z (oM Z bq (bnK df fun ae cO fu=>?_))))))))))
 have dO:=d7.le bs
 have q:=dO.el (wAV cO)
 obtain ⟨dv,fW,gI,d8,bO,fQ⟩:=q
 obtain ⟨bX,bZ,bY,ca,rfl,gC,gD⟩:=fQ
 replace bO:Cl bn dv (fW + ap * 3) [jV ae.Skier,.slice bX ae.Loops.length bZ,.slice bY ae.Bouts.length ca]:=bO
 refine oR Z (ZE Z bK d8 bq Zh Zb (wAq cO)) (oL Z (cS.ldCA (f:=0) bO Z Z YI Zb (us:=[jV ae.Skier,.slice bX ae.Loops.length bZ,.slice bY ae.Bouts.length ca]) Z Z) (zm (cs:=B2) Z Z Z Z Z Zj Z cS ?_))
 intro gg au eu
 refine oA Z Z ?_
 let B5:List Value:=[jV ae.Skier,.slice bX ae.Loops.length bZ,.slice bY ae.Bouts.length ca]
 refine zh (j:=0) (vs:=B5) Z Z Z Z eu Z Z Z Z Zb (zA Z) Z Z Z ?_
 intro bE ew
 let B6:Res:=.row (some ⟨av,0,none⟩) am.length 23 1 (hD wHU ac)
 have ey:sW w U bn [.blk au 46 B5,.blk ao 143 (hD KL.encI ab.l),.blk ak 43 B3,.blk b2 28 B0,B6,inn 3 1 KL.encI ac ah] bE:=ew
 refine eN (zI (bnK fu fun dw fT fw=>yd (fun σ_ w_=>∃ (U_:PHeap),σ_ 1=.pointer (some ⟨b2,0,none⟩)/\σ_ 5=.slice (some ⟨av,0,none⟩) ah.length am.length/\σ_ 6=jV (↑O:Int)/\σ_ 7=.pointer (some ⟨ak,0,none⟩)/\σ_ 8=.pointer (some ⟨ao,0,none⟩)/\σ_ 9=jV (↑ap:Int)/\σ_ 10=.pointer (some ⟨au,0,none⟩)/\σ_ 21=.slice az p0.Teams.length aY/\σ_ 22=jV (↑p0.Teams.length:Int)/\σ_ 23=jV (↑O:Int)/\σ_ 29=.slice bj aj.Legs.length bm/\σ_ 30=jV (↑aj.Legs.length:Int)/\σ_ 31=jV (↑ap:Int)/\σ_ 58=.bool dw/\PHeap.Le bn U_/\sW w U U_ [.blk au 46 B5,.blk ao 143 (hD KL.encI ab.l),.blk ak 43 B3,.blk b2 28 B0,B6,inn 3 1 KL.encI ac ah] w_) ?_ ?_))
 refine ZN ZD [3,1,3,1,3,1,3,3,1,3,3,1,3,3,3,1,3,1,3,3,1,3,3] fL23 (by kernel_rfl) ?_
 have ax:=ey.drew
 generalize hw_W161:({ bE with drawn:=bE.drawn + 1 }:World)=gh at ax ⊢
 refine oR Z (zF Z bI ZL Z zS) (oL Z (ax.ldB (j:=2) Z Z Z zZ (v:=.slice bB aj.Classes.length bC) Z) (oR Z (zF Z Z ZU Z zC) (oL Z (ax.ldB (j:=0) Z Z Z zJ (v:=jV ae.Skier) Z) (bnK fT fun fZ bM fz=>?_))))
 have dP:=dZ.le bs
 have q:=dP.el (fun _=>rfl) (wAV bM)
 obtain ⟨gu,gF,d9,eo⟩:=q
 refine oR Z (Za Z Z d9 Z zB zC (wCh bM) (wCs bM)) (oL Z (ax.ldC (f:=0) eo (v:=jV fZ) Z Z zJ Z) (oR Z (zF Z bw zo Z ZO) (oR Z (zF Z Z ZA Z zS) (oL Z (ax.ldB (j:=3) Z Z Z zZ (v:=.slice bt p0.Rules.Classes.length bu) Z) (oM Z Z (bnK fz fun gb cP fA=>?_))))))
 have dQ:=c6.le dg
 have dR:=dQ.le bW
 have dS:=dR.le bs
 have q:=dS.el (fun _=>rfl) (wAV cP)
 obtain ⟨gv,gG,eh,ep⟩:=q
 refine oR Z (ZE Z Z eh Z zB zC (wAq cP)) (oL Z (ax.ldC (f:=0) ep (v:=jV gb) Z Z zJ Z) (oR Z (ZX Z Z Z) (oM Z Z (ifc fA ?_ ?_))))
 intro ai fB
 refine zY Z Z Z (zN Z Z (zt (fun h=>h ai.out))) (fun _=>zF Z Z ZU Z zC) (ZB Z Z Z (zN Z Z (zt (fun h=>h ai.out))) (ax.ldB (j:=0) Z Z Z zJ (v:=jV ae.Skier) Z) Z (bnK fB fun _ bN fC=>zY Z Z Z (zN Z Z (zt (fun h=>h ai.out))) (fun _=>YC Z bJ Z yV zC (wBa bN) (wBb bN)) ?_))
 have ff:=Arr.at_ ab (k:=ae.Skier.toNat) (by have hz0:=wAS bN;omega)
 refine ZB rfl rfl rfl (zN rfl rfl (zt (fun h=>h ai.out))) (ax.ldB (j:=1) rfl rfl rfl zJ (wAW (sz:=1) (fun _=>rfl) _ _ 0 _ ff (by first | omega | rfl | simp) rfl)) rfl (zY rfl rfl rfl (zN rfl rfl (zt (fun h=>h ai.out))) (fun _=>zF rfl bw zo rfl ZO) (zY rfl rfl rfl (zN rfl rfl (zt (fun h=>h ai.out))) (fun _=>zF rfl rfl ZA rfl zC) (ZB rfl rfl rfl (zN rfl rfl (zt (fun h=>h ai.out))) (ax.ldB (j:=3) rfl rfl rfl zJ (v:=jV p0.Rules.Each) rfl) rfl (zY rfl rfl rfl (zN rfl rfl (zt (fun h=>h ai.out))) (fun _=>YJ rfl rfl rfl) (zY rfl rfl rfl rfl (fun _=>za rfl (zt (fun h=>h ai.out)) rfl) (zg ?_))))))
 have q:=nA fC
 obtain rfl:=q
 exact zG ⟨Z,⟨bn,bw,ct,cu,bI,bJ,Z,Z,cw,cy,cz,bK,bL,bq,Z,(zL _),ax⟩⟩
 intro ai fD
 refine oT Z ai (oT Z ai (oT Z ai (oT Z ai (oT Z ai (oT Z ai (oT Z ai (oT Z ai (oR Z (zT Z (ZZ ai.out) Z) (zg ?_)))))))))
 cases fD
 exact zG ⟨Z,⟨bn,bw,ct,cu,bI,bJ,Z,Z,cw,cy,cz,bK,bL,bq,Z,(zL _),ax⟩⟩
 rintro gR cn ⟨aw,cA,bx,bz,cC,bh,dB,cD,cE,cG,cH,cI,cJ,cK,cL,dh,bi⟩
 refine ifc fw ?_ ?_
 intro bH fG
 refine zy (cL.trans (congrArg nB bH.out)) (rR (wNd (.fx 7 (.fx 8 (.fl 9 (.fx 10 .nil .stop)) .stop) .stop)) Z (oM Z bx (oM Z bz (oM Z bx (oM Z bz (bnK fG fun _ bb fH=>oR Z (ZE Z Z Z Z zu zS (wAS bb)) ?_))))))
 have c9:=bi.innFit (j:=5) rfl
 have fg:=wBK (xs:=ac) (k:=O) (by rw [c9.len];exact (wAS bb))
 have fS:Value.slice (gd ac O).A (gd ac O).n (gd ac O).c=.slice ((gd ac O).A) ((gd ah O).length) ((gd ac O).c):=by rw [c9.at_ (k:=O) (wAS bb)]
 refine ZB rfl rfl rfl rfl (RunsK.to (bi.ldR (j:=4) rfl rfl rfl rfl zZ (wAW (sz:=1) (fun _=>rfl) _ _ 0 _ fg (by first | omega | rfl | simp) rfl)) fS) rfl ?_
 have ez:sW w U aw [inn 3 1 KL.encI ac ah,.blk au 46 B5,.blk ao 143 (hD KL.encI ab.l),.blk ak 43 B3,.blk b2 28 B0,B6] cn:=bi.pick [5,0,1,2,3,4] _ (by decide) rfl
 have eA:=ez.innTake (k:=O) (wAS bb)
 let B7:Res:=.row ((gd ac O).A) ((gd ac O).c) 3 1 (hD KL.encI (gd ah O))
 have eB:sW w U aw [B7,wPh 3 1 KL.encI ac ah O,.blk au 46 B5,.blk ao 143 (hD KL.encI ab.l),.blk ak 43 B3,.blk b2 28 B0,B6] cn:=eA
 refine oM Z dB (zb (pv:=[(0,jV (↑ap:Int))]) (zs:=[jV 0]) (cs:=[jV (↑ap:Int)]) Z Z Z Z Z (wAA Z wAI) zB zC zw Z Z Z Z Z eB ?_)
 intro dn dx eD
 let B8:Res:=.row (some ⟨dx,0,none⟩) 1 3 1 (hD KL.encI [(↑ap:Int)])
 have cU:sW w U aw [B8,B7,wPh 3 1 KL.encI ac ah O,.blk au 46 B5,.blk ao 143 (hD KL.encI ab.l),.blk ak 43 B3,.blk b2 28 B0,B6] dn:=eD
 refine bnK fH fun ay dT fI=>Zr (j:=1) (enc:=KL.encI) (xs:=(gd ah O)) (ys:=[(↑ap:Int)]) (zs:=ay) rfl rfl rfl rfl rfl Zn wFr rfl rfl rfl rfl rfl rfl cU rfl rfl rfl (cU.srcR (j:=0) rfl (by decide) (wAB (f:=KL.encI) (sz:=1) (fun _=>rfl) [(↑ap:Int)])) (fun _=>rfl) (fun _=>rfl) dT rfl ?_
 intro aZ ba dp eE
 let B9:Res:=.row aZ ba 3 1 (hD KL.encI ay)
 have cV:sW w U aw [B8,B9,wPh 3 1 KL.encI ac ah O,.blk au 46 B5,.blk ao 143 (hD KL.encI ab.l),.blk ak 43 B3,.blk b2 28 B0,B6] dp:=eE
 refine oR Z (ZE Z Z Z Z zu zS (wAS bb)) ?_
 have da:=(cV.innHFit (j:=2) rfl).1
 have fh:=wBK (xs:=ac) (k:=O) (by rw [da.len];exact wAS bb)
 refine YO (j:=7) (vs:=wHU (⟨aZ,ay.length,ba⟩:Hd)) (cs':=hD wHU (nG ac O (⟨aZ,ay.length,ba⟩:Hd))) rfl rfl rfl rfl cV rfl rfl rfl rfl rfl zS (by rw [wAB (f:=wHU) (sz:=1) (fun _=>rfl),da.len];have hz:=wAS bb;show _ + 1 <= _;first | omega | (simp only [nE];omega)) rfl (wDA (sz:=1) (fo:=0) (fun _=>rfl) _ _ _ _ fh (by first | omega | (simp only [nE];omega)) (zA rfl) rfl) rfl ?_
 intro bF eF
 let bv:Res:=.row (some ⟨av,0,none⟩) am.length 23 1 (hD wHU (nG ac O (⟨aZ,ay.length,ba⟩:Hd)))
 have eG:sW w U aw [B8,B9,wPh 3 1 KL.encI ac ah O,.blk au 46 B5,.blk ao 143 (hD KL.encI ab.l),.blk ak 43 B3,.blk b2 28 B0,bv] bF:=eF
 have eH:sW w U aw [B9,wPh 3 1 KL.encI ac ah O,B8,.blk au 46 B5,.blk ao 143 (hD KL.encI ab.l),.blk ak 43 B3,.blk b2 28 B0,bv] bF:=eG.pick [1,2,0,3,4,5,6,7] _ (by decide) rfl
 have eI:=eH.innPut
 have bR:sW w U aw [inn 3 1 KL.encI (nG ac O (⟨aZ,ay.length,ba⟩:Hd)) (nG ah O ay),B8,.blk au 46 B5,.blk ao 143 (hD KL.encI ab.l),.blk ak 43 B3,.blk b2 28 B0,bv] bF:=eI
 refine eN (rR (wGx (.fx 6 .nil .stop)) Z (oR Z (zF Z cD ZU Z zC) (oL Z (bR.ldB (j:=2) Z Z Z zJ (v:=jV ae.Skier) Z) (bnK fI fun _ bd fJ=>oR Z (YC Z bh Z yV zC (wBa bd) (wBb bd)) ?_))))
 have fj:=Arr.at_ ab (k:=ae.Skier.toNat) (by have hz0:=wAS bd;omega)
 refine ZB rfl rfl rfl rfl (bR.ldB (j:=3) rfl rfl rfl zJ (wAW (sz:=1) (fun _=>rfl) _ _ 0 _ fj (by first | omega | rfl | simp) rfl)) rfl (zY rfl rfl rfl rfl (fun _=>zX rfl rfl rfl) (zY rfl rfl rfl rfl (fun _=>YC rfl bh rfl yV zC (wBa bd) (wBb bd)) ?_))
 have fk:=Arr.at_ ab (k:=ae.Skier.toNat) (by have hz0:=wAS bd;omega)
 refine zh (j:=3) (vs:=[jV (w64 ((ab.get ae.Skier.toNat) + 1))]) (cs':=hD KL.encI (ab.set ae.Skier.toNat (w64 ((ab.get ae.Skier.toNat) + 1))).l) rfl rfl rfl rfl bR rfl rfl rfl rfl zC (by have hz0:=wAS bd;simp only [nH,nI,nJ,nE,wCV (f:=KL.encI) (sz:=1) (N:=8) ab (fun _=>rfl) rfl];omega) rfl (wDA (sz:=1) (fo:=0) (fun _=>rfl) _ _ _ _ fk (by first | omega | rfl | simp) (zA rfl) rfl) rfl ?_
 intro dq eK
 have eM:sW w U aw [inn 3 1 KL.encI (nG ac O (⟨aZ,ay.length,ba⟩:Hd)) (nG ah O ay),B8,.blk au 46 B5,.blk ao 143 (hD KL.encI (ab.set ae.Skier.toNat (w64 ((ab.get ae.Skier.toNat) + 1))).l),.blk ak 43 B3,.blk b2 28 B0,bv] dq:=eK
 refine zg (zf (zG (rR fL2 Z (oR Z (zr (zX Z cK Z) (congrArg (jV) db.out)) (oM Z Z (zg ?_))))))
 cases fJ
 exact zG ⟨rfl,⟨aw,(nG ac O (⟨aZ,ay.length,ba⟩:Hd)),rfl,cA,(Eq.trans (b:=(.slice (some ⟨av,0,none⟩) ah.length am.length:Value)) (c:=(.slice (some ⟨av,0,none⟩) ((nG ah O ay).length) am.length:Value)) bx (by simp only [List.length_set])),bz,cC,bh,cE,cG,cH,cI,cJ,(bs.trans dh),(eM.pick [3,4,5,6,0] _ (by decide) rfl)⟩⟩
 intro bH fK
 refine zn (cL.trans (congrArg nB (nD.2 bH.out))) (kN (rR (wGx (.fx 6 .nil .stop)) Z (oR Z (zF Z cD ZU Z zC) (oL Z (bi.ldB (j:=0) Z Z Z zJ (v:=jV ae.Skier) Z) (bnK fK fun _ be fL=>oR Z (YC Z bh Z yV zC (wBa be) (wBb be)) ?_)))))
 have fm:=Arr.at_ ab (k:=ae.Skier.toNat) (by have hz0:=wAS be;omega)
 refine ZB rfl rfl rfl rfl (bi.ldB (j:=1) rfl rfl rfl zJ (wAW (sz:=1) (fun _=>rfl) _ _ 0 _ fm (by first | omega | rfl | simp) rfl)) rfl (zY rfl rfl rfl rfl (fun _=>zX rfl rfl rfl) (zY rfl rfl rfl rfl (fun _=>YC rfl bh rfl yV zC (wBa be) (wBb be)) ?_))
 have fq:=Arr.at_ ab (k:=ae.Skier.toNat) (by have hz0:=wAS be;omega)
 refine zh (j:=1) (vs:=[jV (w64 ((ab.get ae.Skier.toNat) + 1))]) (cs':=hD KL.encI (ab.set ae.Skier.toNat (w64 ((ab.get ae.Skier.toNat) + 1))).l) rfl rfl rfl rfl bi rfl rfl rfl rfl zC (by have hz0:=wAS be;simp only [nH,nI,nJ,nE,wCV (f:=KL.encI) (sz:=1) (N:=8) ab (fun _=>rfl) rfl];omega) rfl (wDA (sz:=1) (fo:=0) (fun _=>rfl) _ _ _ _ fq (by first | omega | rfl | simp) (zA rfl) rfl) rfl ?_
 intro dr eO
 have eQ:sW w U aw [.blk au 46 B5,.blk ao 143 (hD KL.encI (ab.set ae.Skier.toNat (w64 ((ab.get ae.Skier.toNat) + 1))).l),.blk ak 43 B3,.blk b2 28 B0,B6,inn 3 1 KL.encI ac ah] dr:=eO
 refine zg (zf (zG (rR fL2 Z (oR Z (zr (zX Z cK Z) (congrArg (jV) db.out)) (oM Z Z (zg ?_))))))
 cases fL
 exact zG ⟨rfl,⟨aw,ac,rfl,cA,bx,bz,cC,bh,cE,cG,cH,cI,cJ,(bs.trans dh),(eQ.pick [1,2,3,4,5] _ (by decide) rfl)⟩⟩
 rintro gS gi ⟨di,dU,dM,dC,dD,gw,gx,gy,dE,dF,dG,gz,dH,fV,eS⟩
 have dz:Hid (¬ ((↑(((↑aj.Legs.length:Int):Int) - 0).toNat:Int) < (↑aj.Legs.length:Int))):=zH (wAc)
 refine sR fL1 Z (oR Z (zW Z dM dH) (eN (zI (cF Z dz (ZJ (zd (zd (ZG (zf (zG (rR fL2 Z (oR Z (zr (zX Z dG Z) (congrArg (jV) ft.out)) (oM Z Z (zg ?_))))))))))))))
 cases dd
 exact zG ⟨rfl,⟨di,dU,rfl,dC,dD,dE,dF,(bW.trans fV),(eS.pick [2,3,4] _ (by decide) rfl)⟩⟩
 rintro gT gj ⟨dl,dV,dN,gA,dI,gB,dJ,gE,eT⟩
 have dA:Hid (¬ ((↑(((↑p0.Teams.length:Int):Int) - 0).toNat:Int) < (↑p0.Teams.length:Int))):=zH (wAc)
 refine sR fL1 Z (oR Z (zW Z dN dJ) (eN (zI (cF Z dA (ZJ (zd (zd (ZG (zG (sR fL3 Z (oM Z dI (oA Z Z (oA Z Z (eN (zP ?_)))))))))))))))
 cases fN
 exact ⟨rfl,_,(wEr rfl rfl),dl,_,(eT.pick [1,2] _ (by decide) rfl),(some ⟨av,0,none⟩),am.length,dV,rfl,rfl⟩
 intro bG fM
 refine cT Z bG (sR fL3 Z (oM Z Z (oA Z Z (oA Z Z (eN (zP (zR ?_)))))))
 have eU:=bQ.nilrow 23 1
 have eV:=eU.innNil 3 1 KL.encI
 have eW:sW w U U8 [inn 3 1 KL.encI ([]:List Hd) ([]:List (List Int)),.row none 0 23 1 [],.blk b2 28 B0] cm:=eV
 cases fM
 exact ⟨rfl,_,(wEr rfl rfl),U8,_,(eW.pick [1,0] _ (by decide) rfl),none,0,([]:List Hd),rfl,rfl⟩
theorem wEo (O:List Int) (an:Option Addr) (ap:Nat) (p1:List Int) (ao:Option Addr) (aq:Nat) (w:World) (U:PHeap) (hS:St0 w U []) (bs:Sl U 1 an ap O.length (hD KL.encI O)) (bt:Sl U 1 ao aq p1.length (hD KL.encI p1)) {r:Bool} (hm:wCp O p1=some r):Gv Tryz.prog 47 [.slice an O.length ap,.slice ao p1.length aq] w (wBD w [] U (fun U_ L_ v=>v=.bool r/\L_=[])):=by
 unfold wCp at hm
 refine Gv.of Tryz.func47 Z Tryz.ntmps47 Tryz.results47 Z (sR fL1 Z (oA Z Z (eN (zI (sR fL5 Z (oM Z Z (oR Z (ze Z Z zB) (oM Z Z (oR Z (ze Z Z zB) (oR Z (ZX Z Z Z) (eN ?_)))))))))))
 by_cases c1:(↑O.length:Int)=(↑p1.length:Int)
 have af:=hm;rw [if_pos c1] at af;replace c1:=zH c1
 refine zn (zt (fun h=>h c1.out)) (kN (zI (sR fL3 Z (oM Z Z (oR Z (ze Z Z zB) (oM Z Z (eN (zU ?_))))))))
 have q:=wBJ af
 obtain ⟨r5,ai⟩:=q
 have q:=wBI ai
 obtain ⟨ak,bw⟩:=q
 replace ak:=zH ak
 refine yB (fun k4 _ σ_ w_=>∃ (U_:PHeap),σ_ 13=jV (↑k4:Int)/\σ_ 0=.slice an O.length ap/\σ_ 1=.slice ao p1.length aq/\σ_ 12=jV (↑O.length:Int)/\PHeap.Le U U_/\sW w U U_ [] w_) bw ?_ ?_ ?_
 exact ⟨U,Z,Z,Z,Z,(zL _),hS⟩
 rintro k4 ⟨⟩ bR bT av aj ⟨au,ah,ax,ay,az,am,bq⟩ ba bu
 try dsimp only at ba
 have aw:Hid ((↑k4:Int) < (↑O.length:Int)):=zH (wAj aj)
 replace aj:=zH aj
 have bx:Hid (w64 ((↑k4:Int) + 1)=(↑(k4 + 1):Int)):=zH (by have h1:=ak.out;have h2:=aw.out;rw [wAX] <;> omega)
 refine sR fL1 rfl (zY rfl rfl rfl rfl (fun _=>zW rfl ah az) (eN (zI (cT Z aw (kN (zI (zU (sR fL2 rfl (zj rfl rfl rfl rfl rfl ah (yU rfl rfl rfl rfl rfl rfl (eN (zI (ZN ZD [3,3,3,1,3,3,3,1,3] fL9 (by kernel_rfl) ?_)))))))))))))
 have ac:=bq.drew
 generalize hw_W25:({ av with drawn:=av.drawn + 1 }:World)=bH at ac ⊢
 refine oM Z ax (oM Z Z (bnK ba fun bF aY bz=>?_))
 have bh:=bs.le am
 have q:=bh.el (fun _=>rfl) (wAV aY)
 obtain ⟨bJ,bO,bj,bn⟩:=q
 refine oR Z (ZE Z Z bj Z zB zC (wAq aY)) (oL Z (ac.ldC (f:=0) bn (v:=jV bF) Z Z zJ Z) (oM Z ay (oM Z Z (bnK bz fun bG aZ bA=>?_))))
 have bi:=bt.le am
 have q:=bi.el (fun _=>rfl) (wAV aZ)
 obtain ⟨bK,bP,bm,bp⟩:=q
 refine oR Z (ZE Z Z bm Z zB zC (wAq aZ)) (oL Z (ac.ldC (f:=0) bp (v:=jV bG) Z Z zJ Z) (oR Z (ZX Z Z Z) (eN (ifc bA ?_ ?_))))
 intro ag bB
 refine zn (zt (fun h=>h ag.out)) (ZT (zf (zG (rR fL2 Z (oR Z (zr (zX Z ah Z) (congrArg (jV) bx.out)) (oM Z Z (zg ?_)))))))
 have q:=nA bB
 obtain rfl:=q
 exact zG ⟨Z,_,Z,⟨au,Z,ax,ay,az,am,ac⟩⟩
 intro ag bC
 refine cT Z ag (sR fL1 Z (oA Z Z (eN (zP (zc (zR ?_))))))
 have q:=wAb bC
 obtain ⟨bE,bD,be⟩:=q
 have q:=wBC af ai (bu bE be)
 obtain rfl:=q
 refine zR (zc (zR ?_))
 have hE:=nA bD;first | subst r | cases hE
 exact ⟨Z,_,(zz Z),au,_,ac,Z,Z⟩
 rintro ⟨⟩ bS bI ⟨bb,bg,bL,bM,bf,bN,br⟩ bv
 have a7:=wCI af ai bv
 try dsimp only at a7
 have bd:Hid (¬ ((↑(((↑O.length:Int):Int) - 0).toNat:Int) < (↑O.length:Int))):=zH (wAc)
 refine sR fL1 Z (oR Z (zW Z bg bf) (eN (zI (cF Z bd (ZJ (zd (zd (ZG (zG (sR fL1 Z (oA Z Z (eN (zP ?_)))))))))))))
 have hE:=nA a7;first | subst r | cases hE
 exact ⟨Z,_,(zz Z),bb,_,br,Z,Z⟩
 have a8:=hm;rw [if_neg c1] at a8;replace c1:=zH c1
 refine cT Z c1 (sR fL1 Z (oA Z Z (eN (zP (zR ?_)))))
 have hE:=nA a8;first | subst r | cases hE
 exact ⟨Z,_,(zz Z),U,_,hS,Z,Z⟩
theorem wEJ (O:List (List Int)) (au:Option Addr) (ay:Nat) (p1:List (List Int)) (av:Option Addr) (az:Nat) (w:World) (U:PHeap) (hS:St0 w U []) (bJ:SlR U wDl au ay O) (bK:SlR U wDl av az p1) {r:Bool} (hm:wCJ O p1=some r):Gv Tryz.prog 40 [.slice au O.length ay,.slice av p1.length az] w (wBD w [] U (fun U_ L_ v=>v=.bool r/\L_=[])):=by
 unfold wCJ at hm
 refine Gv.of Tryz.func40 Z Tryz.ntmps40 Tryz.results40 Z (sR fL1 Z (oA Z Z (eN (zI (sR fL5 Z (oM Z Z (oR Z (ze Z Z zu) (oM Z Z (oR Z (ze Z Z zu) (oR Z (ZX Z Z Z) (eN ?_)))))))))))
 by_cases c1:(↑O.length:Int)=(↑p1.length:Int)
 have af:=hm;rw [if_pos c1] at af;replace c1:=zH c1
 refine zn (zt (fun h=>h c1.out)) (kN (zI (sR fL3 Z (oM Z Z (oR Z (ze Z Z zu) (oM Z Z (eN (zU ?_))))))))
 have q:=wBJ af
 obtain ⟨r5,an⟩:=q
 have q:=wBI an
 obtain ⟨ap,bN⟩:=q
 replace ap:=zH ap
 refine yB (fun k4 _ σ_ w_=>∃ (U_:PHeap),σ_ 13=jV (↑k4:Int)/\σ_ 0=.slice au O.length ay/\σ_ 1=.slice av p1.length az/\σ_ 12=jV (↑O.length:Int)/\PHeap.Le U U_/\sW w U U_ [] w_) bN ?_ ?_ ?_
 exact ⟨U,Z,Z,Z,Z,(zL _),hS⟩
 rintro k4 ⟨⟩ cr cu ba ao ⟨ag,aj,bd,be,bf,aq,bG⟩ bn bL
 try dsimp only at bn
 have bb:Hid ((↑k4:Int) < (↑O.length:Int)):=zH (wAj ao)
 replace ao:=zH ao
 have bO:Hid (w64 ((↑k4:Int) + 1)=(↑(k4 + 1):Int)):=zH (by have h1:=ap.out;have h2:=bb.out;rw [wAX] <;> omega)
 refine sR fL1 rfl (zY rfl rfl rfl rfl (fun _=>zW rfl aj bf) (eN (zI (cT Z bb (kN (zI (zU (sR fL2 rfl (zj rfl rfl rfl rfl rfl aj (yU rfl rfl rfl rfl rfl rfl (eN (zI (ZN ZD [3,3,3,1,3,3,3,1,2,3] (wQv gCc) (by kernel_rfl) ?_)))))))))))))
 have ae:=bG.drew
 generalize hw_W25:({ ba with drawn:=ba.drawn + 1 }:World)=bq at ae ⊢
 refine oM Z bd (oM Z Z (bnK bn fun a7 bg bP=>?_))
 have bz:=bJ.le aq
 have q:=bz.el (wAV bg)
 obtain ⟨bs,bY,co,bE,ak,bV⟩:=q
 obtain ⟨aw,aY,rfl,bA⟩:=bV
 replace ak:Cl ag bs (bY + k4 * 1) [.slice aw a7.length aY]:=ak
 refine oR Z (ZE Z Z bE Z zu zS (wAq bg)) (oL Z (ae.ldC (f:=0) ak (v:=.slice aw a7.length aY) Z Z zZ Z) (oM Z be (oM Z Z (bnK bP fun a8 bh bQ=>?_))))
 have bB:=bK.le aq
 have q:=bB.el (wAV bh)
 obtain ⟨bt,bZ,cp,bF,am,bW⟩:=q
 obtain ⟨ax,aZ,rfl,bC⟩:=bW
 replace am:Cl ag bt (bZ + k4 * 1) [.slice ax a8.length aZ]:=am
 refine oR Z (ZE Z Z bF Z zu zS (wAq bh)) (oL Z (ae.ldC (f:=0) am (v:=.slice ax a8.length aZ) Z Z zZ Z) (bnK bQ fun cq bD bR=>zM 0 Z Z Z Z (zK Z Z Tryz.call47 (zD Z (zD Z zO)) Z) ae (fun hs=>wEo a7 aw aY a8 ax aZ bq ag hs bA bC bD) (.inr Z) ?_))
 rintro ah cc cn br bX bH ⟨rfl,rfl⟩
 have bi:sW w U ah [] br:=bH
 refine oR Z (ZF Z Z) (eN (ifc bR ?_ ?_))
 intro ai bS
 refine zn (nC ai.out) (ZT (zf (zG (rR fL2 Z (oR Z (zr (zX Z aj Z) (congrArg (jV) bO.out)) (oM Z Z (zg ?_)))))))
 have q:=nA bS
 obtain rfl:=q
 exact zG ⟨Z,_,Z,⟨ah,Z,bd,be,bf,(aq.trans bX),bi⟩⟩
 intro ai bT
 refine zy (nF (ai.out)) (sR fL1 Z (oA Z Z (eN (zP (zc (zR ?_))))))
 have q:=wAb bT
 obtain ⟨ca,bU,bv⟩:=q
 have q:=wBC af an (bL ca bv)
 obtain rfl:=q
 refine zR (zc (zR ?_))
 have hE:=nA bU;first | subst r | cases hE
 exact ⟨Z,_,(zz Z),ah,_,bi,Z,Z⟩
 rintro ⟨⟩ ct cd ⟨bp,bx,cg,ci,bw,cj,bI⟩ bM
 have bj:=wCI af an bM
 try dsimp only at bj
 have bu:Hid (¬ ((↑(((↑O.length:Int):Int) - 0).toNat:Int) < (↑O.length:Int))):=zH (wAc)
 refine sR fL1 Z (oR Z (zW Z bx bw) (eN (zI (cF Z bu (ZJ (zd (zd (ZG (zG (sR fL1 Z (oA Z Z (eN (zP ?_)))))))))))))
 have hE:=nA bj;first | subst r | cases hE
 exact ⟨Z,_,(zz Z),bp,_,bI,Z,Z⟩
 have bm:=hm;rw [if_neg c1] at bm;replace c1:=zH c1
 refine cT Z c1 (sR fL1 Z (oA Z Z (eN (zP (zR ?_)))))
 have hE:=nA bm;first | subst r | cases hE
 exact ⟨Z,_,(zz Z),U,_,hS,Z,Z⟩
theorem wEu (O:List wAE) (ap:Option Addr) (au:Nat) (p1:List wAE) (aq:Option Addr) (av:Nat) (w:World) (U:PHeap) (hS:St0 w U []) (bu:Sl U 3 ap au O.length (hD wAJ O)) (bv:Sl U 3 aq av p1.length (hD wAJ p1)) {r:Bool} (hm:wCF O p1=some r):Gv Tryz.prog 41 [.slice ap O.length au,.slice aq p1.length av] w (wBD w [] U (fun U_ L_ v=>v=.bool r/\L_=[])):=by
 unfold wCF at hm
 refine Gv.of Tryz.func41 Z Tryz.ntmps41 Tryz.results41 Z (sR fL1 Z (oA Z Z (eN (zI (sR fL5 Z (oM Z Z (oR Z (ze Z Z Zs) (oM Z Z (oR Z (ze Z Z Zs) (oR Z (ZX Z Z Z) (eN ?_)))))))))))
 by_cases c1:(↑O.length:Int)=(↑p1.length:Int)
 have af:=hm;rw [if_pos c1] at af;replace c1:=zH c1
 refine zn (zt (fun h=>h c1.out)) (kN (zI (sR fL3 Z (oM Z Z (oR Z (ze Z Z Zs) (oM Z Z (eN (zU ?_))))))))
 have q:=wBJ af
 obtain ⟨r5,ak⟩:=q
 have q:=wBI ak
 obtain ⟨an,bz⟩:=q
 replace an:=zH an
 refine yB (fun k4 _ σ_ w_=>∃ (U_:PHeap),σ_ 13=jV (↑k4:Int)/\σ_ 0=.slice ap O.length au/\σ_ 1=.slice aq p1.length av/\σ_ 12=jV (↑O.length:Int)/\PHeap.Le U U_/\sW w U U_ [] w_) bz ?_ ?_ ?_
 exact ⟨U,Z,Z,Z,Z,(zL _),hS⟩
 rintro k4 ⟨⟩ bR bT ax am ⟨aw,aj,az,aY,aZ,ao,bs⟩ bd bw
 try dsimp only at bd
 have ay:Hid ((↑k4:Int) < (↑O.length:Int)):=zH (wAj am)
 replace am:=zH am
 have bA:Hid (w64 ((↑k4:Int) + 1)=(↑(k4 + 1):Int)):=zH (by have h1:=an.out;have h2:=ay.out;rw [wAX] <;> omega)
 refine sR fL1 rfl (zY rfl rfl rfl rfl (fun _=>zW rfl aj aZ) (eN (zI (cT Z ay (kN (zI (zU (sR fL2 rfl (zj rfl rfl rfl rfl rfl aj (yU rfl rfl rfl rfl rfl rfl (eN (zI (ZN ZD [3,3,3,1,3,3,3,1,3] fL9 (by kernel_rfl) ?_)))))))))))))
 have ac:=bs.drew
 generalize hw_W25:({ ax with drawn:=ax.drawn + 1 }:World)=bH at ac ⊢
 refine oM Z az (oM Z Z (bnK bd fun ag a7 bB=>?_))
 have bj:=bu.le ao
 have q:=bj.el (fun _=>rfl) (wAV a7)
 obtain ⟨bJ,bO,bn,bq⟩:=q
 refine oR Z (ZE Z Z bn Z Zs yX (wAq a7)) (oL Z (ac.ldCA (f:=0) bq Z Z Tryz.isAgg70 yX (us:=[jV ag.Bib,jV ag.Place,jV ag.Time]) Z Z) (oM Z aY (oM Z Z (bnK bB fun ah a8 bC=>?_))))
 have bm:=bv.le ao
 have q:=bm.el (fun _=>rfl) (wAV a8)
 obtain ⟨bK,bP,bp,br⟩:=q
 refine oR Z (ZE Z Z bp Z Zs yX (wAq a8)) (oL Z (ac.ldCA (f:=0) br Z Z Tryz.isAgg70 yX (us:=[jV ah.Bib,jV ah.Place,jV ah.Time]) Z Z) (oR Z (zr (Runs.neS (enc:=wAJ) (a:=ag) (b:=ah) Z Z Z eqT70 eqG70) (congrArg nB (decide_not).symm)) (eN (ifc bC ?_ ?_))))
 intro ai bD
 refine zn (zt (fun h=>h ai.out)) (ZT (zf (zG (rR fL2 Z (oR Z (zr (zX Z aj Z) (congrArg (jV) bA.out)) (oM Z Z (zg ?_)))))))
 have q:=nA bD
 obtain rfl:=q
 exact zG ⟨Z,_,Z,⟨aw,Z,az,aY,aZ,ao,ac⟩⟩
 intro ai bE
 refine cT Z ai (sR fL1 Z (oA Z Z (eN (zP (zc (zR ?_))))))
 have q:=wAb bE
 obtain ⟨bG,bF,bg⟩:=q
 have q:=wBC af ak (bw bG bg)
 obtain rfl:=q
 refine zR (zc (zR ?_))
 have hE:=nA bF;first | subst r | cases hE
 exact ⟨Z,_,(zz Z),aw,_,ac,Z,Z⟩
 rintro ⟨⟩ bS bI ⟨be,bi,bL,bM,bh,bN,bt⟩ bx
 have ba:=wCI af ak bx
 try dsimp only at ba
 have bf:Hid (¬ ((↑(((↑O.length:Int):Int) - 0).toNat:Int) < (↑O.length:Int))):=zH (wAc)
 refine sR fL1 Z (oR Z (zW Z bi bh) (eN (zI (cF Z bf (ZJ (zd (zd (ZG (zG (sR fL1 Z (oA Z Z (eN (zP ?_)))))))))))))
 have hE:=nA ba;first | subst r | cases hE
 exact ⟨Z,_,(zz Z),be,_,bt,Z,Z⟩
 have bb:=hm;rw [if_neg c1] at bb;replace c1:=zH c1
 refine cT Z c1 (sR fL1 Z (oA Z Z (eN (zP (zR ?_)))))
 have hE:=nA bb;first | subst r | cases hE
 exact ⟨Z,_,(zz Z),U,_,hS,Z,Z⟩
set_option maxHeartbeats 4000000
theorem wBV  (w:World) (U:PHeap) (hS:St0 w U [])  {r:wBX} (hm:wCY =some r):Gv Tryz.prog 43 [] w (wBD w [] U (fun U_ L_ v=>∃ (aq:Option Addr) (aw:Nat) (au:Option Addr) (ax:Nat) (ay:List Value),v=.agg #[.slice aq r.Classes.length aw,.slice au r.Times.length ax]/\L_=[.row aq aw 3 1 (hD KL.encI r.Classes),.row au ax 23 1 ay]/\RlL U_ wDl r.Times ay)):=by
 unfold wCY at hm
 refine Gv.of Tryz.func43 Z Tryz.ntmps43 Tryz.results43 Z (sR (.fx 0 .nil .stop) Z ?_)
 let O:List Value:=[.slice none 0 0,.slice none 0 0]
 refine zm (cs:=O) Z Z Z Z Z Tryz.zeroValue118 Z hS ?_
 intro W1 b2 bs
 refine eN (sR (.fx 0 (.fx 1 (.fx 2 (.fx 3 (.fx 4 (.fl 5 (.fx 6 .nil .stop)) .stop) .stop) .stop) .stop) .stop) Z (zb (pv:=[(0,jV 0),(1,jV 1),(2,jV 0)]) (zs:=[jV 0,jV 0,jV 0]) (cs:=[jV 0,jV 1,jV 0]) Z Z Z Z Z (wAA Z (wAA Z (wAA Z wAI))) zB zC zw Z Z Z Z Z bs ?_))
 intro W5 b6 bC
 let B1:Res:=.row (some ⟨b6,0,none⟩) 3 3 1 (hD KL.encI [0,1,0])
 have bD:sW w U U [B1,.blk b2 118 O] W5:=bC
 refine zb (pv:=[(0,jV 2300),(1,jV 9999)]) (zs:=[jV 0,jV 0]) (cs:=[jV 2300,jV 9999]) Z Z Z Z Z (wAA Z (wAA Z wAI)) zB zC zw Z Z Z Z Z bD ?_
 intro a8 af bi
 let B2:Res:=.row (some ⟨af,0,none⟩) 2 3 1 (hD KL.encI [2300,9999])
 have bj:sW w U U [B2,B1,.blk b2 118 O] a8:=bi
 refine zb (pv:=[(0,jV 2600),(1,jV 2400)]) (zs:=[jV 0,jV 0]) (cs:=[jV 2600,jV 2400]) Z Z Z Z Z (wAA Z (wAA Z wAI)) zB zC zw Z Z Z Z Z bj ?_
 intro ba ag bm
 let B3:Res:=.row (some ⟨ag,0,none⟩) 2 3 1 (hD KL.encI [2600,2400])
 have bn:sW w U U [B3,B2,B1,.blk b2 118 O] ba:=bm
 refine zb (pv:=[(0,jV 2250),(1,jV 9999)]) (zs:=[jV 0,jV 0]) (cs:=[jV 2250,jV 9999]) Z Z Z Z Z (wAA Z (wAA Z wAI)) zB zC zw Z Z Z Z Z bn ?_
 intro aj ah bp
 let B4:Res:=.row (some ⟨ah,0,none⟩) 2 3 1 (hD KL.encI [2250,9999])
 have bq:sW w U U [B4,B3,B2,B1,.blk b2 118 O] aj:=bp
 have q:=bq.freezeR (k:=2) (n:=[2300,9999].length) rfl (wAB (f:=KL.encI) (sz:=1) (fun _=>rfl) [2300,9999]) (by decide)
 obtain ⟨aZ,bK,bF,bt⟩:=q
 have bu:sW w U aZ [B4,B3,B1,.blk b2 118 O] aj:=bt
 have q:=bu.freezeR (k:=1) (n:=[2600,2400].length) rfl (wAB (f:=KL.encI) (sz:=1) (fun _=>rfl) [2600,2400]) (by decide)
 obtain ⟨a7,bI,bG,bv⟩:=q
 have bw:sW w U a7 [B4,B1,.blk b2 118 O] aj:=bv
 have q:=bw.freezeR (k:=0) (n:=[2250,9999].length) rfl (wAB (f:=KL.encI) (sz:=1) (fun _=>rfl) [2250,9999]) (by decide)
 obtain ⟨ae,aY,bH,bx⟩:=q
 have bz:sW w U ae [B1,.blk b2 118 O] aj:=bx
 let B5:List Value:=[.slice (some ⟨af,0,none⟩) 2 2,.slice (some ⟨ag,0,none⟩) 2 2,.slice (some ⟨ah,0,none⟩) 2 2]
 refine zb (pv:=[(0,.slice (some ⟨af,0,none⟩) 2 2),(1,.slice (some ⟨ag,0,none⟩) 2 2),(2,.slice (some ⟨ah,0,none⟩) 2 2)]) (zs:=[.slice none 0 0,.slice none 0 0,.slice none 0 0]) (cs:=B5) Z Z Z Z Z (wAA Z (wAA Z (wAA Z wAI))) zu zS YQ Z Z Z Z Z bz ?_
 intro bb ak br
 have bf:=bG.le aY
 have bg:=bF.le bI
 have bh:=bg.le aY
 have bE:RlL ae wDl [[2300,9999],[2600,2400],[2250,9999]] B5:=(RlL.cons (R:=wDl) (x:=[2300,9999]) (vs:=[.slice (some ⟨af,0,none⟩) 2 2]) ⟨(some ⟨af,0,none⟩),2,rfl,bh⟩ (RlL.cons (R:=wDl) (x:=[2600,2400]) (vs:=[.slice (some ⟨ag,0,none⟩) 2 2]) ⟨(some ⟨ag,0,none⟩),2,rfl,bf⟩ (RlL.cons (R:=wDl) (x:=[2250,9999]) (vs:=[.slice (some ⟨ah,0,none⟩) 2 2]) ⟨(some ⟨ah,0,none⟩),2,rfl,bH⟩ RlL.nil)))
 let B6:Res:=.row (some ⟨ak,0,none⟩) 3 23 1 B5
 have bA:sW w U ae [B6,B1,.blk b2 118 O] bb:=br
 let B7:List Value:=[.slice (some ⟨b6,0,none⟩) 3 3,.slice (some ⟨ak,0,none⟩) 3 3]
 refine oR Z (zx (pv:=[(0,.slice (some ⟨b6,0,none⟩) 3 3),(1,.slice (some ⟨ak,0,none⟩) 3 3)]) (z:=O) (cs:=B7) Z (wAA Z (wAA Z wAI)) Tryz.zeroValue118 wOI Z Z) (zh (j:=2) (vs:=B7) Z Z Z Z bA Z Z Z Z yi (zA Z) Z Z Z ?_)
 intro bd bB
 have az:sW w U ae [B6,B1,.blk b2 118 B7] bd:=bB
 refine eN (zP ?_)
 cases hm
 exact ⟨rfl,_,(wFz (v:=.agg B7.toArray) ⟨⟨_,rfl,(wBL Ye yi (az.blkAt (k:=2) rfl) (vs:=B7) rfl rfl)⟩,trivial⟩),ae,_,(az.pick [1,0] _ (by decide) rfl),(some ⟨b6,0,none⟩),3,(some ⟨ak,0,none⟩),3,B5,rfl,rfl,bE⟩
theorem wHG (p0:List Int) (ae:Option Addr) (ag:Nat) (O:wAL) (af:Nat) (ab:Option Addr) (ac:Nat) (w:World) (U:PHeap) (hS:St0 w U []) (ai:Sl U 1 ae ag p0.length (hD KL.encI p0)) (ah:Cl U af 0 [.slice ab O.Classes.length ac,jV O.Each,jV O.Laps,jV O.Spare,jV O.Loop,jV O.Unused]) (aj:Sl U 1 ab ac O.Classes.length (hD KL.encI O.Classes)) {r:Bool} (hm:wCZ p0 O=some r):Gv Tryz.prog 107 [.slice ae p0.length ag,.pointer (some ⟨af,0,none⟩)] w (wBD w [] U (fun U_ L_ v=>v=.bool r/\L_=[])):=by
 unfold wCZ at hm
 refine Gv.of Tryz.func107 Z Tryz.ntmps107 Tryz.results107 Z (sR fL1 Z (oA Z Z (eN (sR fL7 Z (oM Z Z (oR Z (ze Z Z zB) (oR Z (zF Z Z ZA Z zS) (oL Z (hS.ldC (f:=0) ah (v:=.slice ab O.Classes.length ac) Z Z zZ Z) (oR Z (ze Z Z zB) (oR Z (yc Z Z Z) (oA Z Z (eN (zP ?_)))))))))))))
 first | (obtain rfl:=nA hm) | cases hm
 exact ⟨Z,_,(zz Z),U,_,hS,Z,Z⟩
theorem wGZ (O:List Int) (aa:Option Addr) (ab:Nat) (p1:((List Int)->Option Bool)) (ag:Nat) (ac:Value) (w:World) (U:PHeap) (hS:St0 w U []) (am:Sl U 1 aa ab O.length (hD KL.encI O)) (an:Cl U ag 0 [ac]) (ao:FnOK Tryz.prog U ac wJm wJn p1) {r:Bool} (hm:wCA O p1=some r):Gv Tryz.prog 143 [.slice aa O.length ab,.pointer (some ⟨ag,0,none⟩)] w (wBD w [] U (fun U_ L_ v=>v=.bool r/\L_=[])):=by
 unfold wCA at hm
 refine Gv.of Tryz.func143 Z Tryz.ntmps143 Tryz.results143 Z (sR fL1 Z (oA Z Z (eN (sR gCp Z (oL Z (hS.ldC (f:=0) an (v:=ac) Z Z Tryz.isAgg170 Z) (oM Z Z (bnK hm fun x1 h2 ap=>yg (a:=O) Z Z Z Z Z Z (zD Z zO) hS ao ⟨aa,ab,Z,am⟩ h2 ?_)))))))
 rintro U4 L5 v6 W7 au ak ⟨rfl,rfl⟩
 have aj:sW w U U4 [] W7:=ak
 refine oR Z (ZF Z Z) (oA Z Z (eN (zP ?_)))
 cases ap
 exact ⟨Z,_,(zz Z),U4,_,aj,Z,Z⟩
theorem wFL (O:List (List Int)) (ak:Option Addr) (an:Nat) (p1:((List Int)->Option Bool)) (ap:Value) (w:World) (U:PHeap) (hS:St0 w U []) (bt:SlR U wDl ak an O) (bu:FnOK Tryz.prog U ap wJm wJn p1) {r:Int} (hm:wCP O p1=some r):Gv Tryz.prog 183 [.slice ak O.length an,ap] w (wBD w [] U (fun U_ L_ v=>v=jV r/\L_=[])):=by
 unfold wCP at hm
 refine Gv.of Tryz.func183 Z Tryz.ntmps183 Tryz.results183 Z (sR fL1 Z (oA Z Z (eN (zI (sR fL3 Z (oM Z Z (oR Z (ze Z Z zu) (oM Z Z (eN (zU ?_))))))))))
 have q:=wBJ hm
 obtain ⟨r3,ag⟩:=q
 have q:=wBI ag
 obtain ⟨ai,bx⟩:=q
 replace ai:=zH ai
 refine yB (fun k2 _ σ_ w_=>∃ (U_:PHeap),σ_ 8=jV (↑k2:Int)/\σ_ 0=.slice ak O.length an/\σ_ 1=ap/\σ_ 7=jV (↑O.length:Int)/\PHeap.Le U U_/\sW w U U_ [] w_) bx ?_ ?_ ?_
 exact ⟨U,Z,Z,Z,Z,(zL _),hS⟩
 rintro k2 ⟨⟩ bT bV W8 ah ⟨ba,ae,av,aw,ax,aj,az⟩ a7 bv
 try dsimp only at a7
 have au:Hid ((↑k2:Int) < (↑O.length:Int)):=zH (wAj ah)
 replace ah:=zH ah
 have bz:Hid (w64 ((↑k2:Int) + 1)=(↑(k2 + 1):Int)):=zH (by have h1:=ai.out;have h2:=au.out;rw [wAX] <;> omega)
 refine sR fL1 Z (oR Z (zW Z ae ax) (eN (zI (cT Z au (kN (zI (zU (sR fL2 Z (oM Z ae (oA Z Z (eN (sR (wHg (.fx 5 .nil .stop)) Z (oM Z aw (oM Z av (oM Z Z (bnK a7 fun aq ay bA=>?_))))))))))))))))
 have bj:=bt.le aj
 have q:=bj.el (wAV ay)
 obtain ⟨be,bH,bR,bq,af,bF⟩:=q
 obtain ⟨am,ao,rfl,bm⟩:=bF
 replace af:Cl ba be (bH + k2 * 1) [.slice am aq.length ao]:=af
 refine oR Z (ZE Z Z bq Z zu zS (wAq ay)) (oL Z (az.ldC (f:=0) af (v:=.slice am aq.length ao) Z Z zZ Z) (bnK bA fun bS bn bB=>?_))
 have bp:=bu.le aj
 refine yg (a:=aq) Z Z Z Z Z Z (zD Z zO) az bp ⟨am,ao,Z,bm⟩ bn ?_
 rintro ab bJ bQ bd bG br ⟨rfl,rfl⟩
 have aY:sW w U ab [] bd:=br
 refine eN (ifc bB ?_ ?_)
 intro ac bC
 refine zy (congrArg nB ac.out) (sR fL2 Z (oM Z Z (oA Z Z (eN (zP (zc (zR ?_)))))))
 have q:=wAb bC
 obtain ⟨bI,bD,bg⟩:=q
 have q:=wBC hm ag (bv bI bg)
 obtain rfl:=q
 refine zR (zc (zR ?_))
 cases bD
 exact ⟨Z,_,(zz Z),ab,_,aY,Z,Z⟩
 intro ac bE
 refine zn (congrArg nB (nD.2 ac.out)) (ZT (zf (zG (rR fL2 Z (oR Z (zr (zX Z ae Z) (congrArg (jV) bz.out)) (oM Z Z (zg ?_)))))))
 have q:=nA bE
 obtain rfl:=q
 exact zG ⟨Z,_,Z,⟨ab,Z,av,aw,ax,(aj.trans bG),aY⟩⟩
 rintro ⟨⟩ bU bK ⟨bb,bi,bM,bN,bh,bO,bs⟩ bw
 have aZ:=wCI hm ag bw
 try dsimp only at aZ
 have bf:Hid (¬ ((↑(((↑O.length:Int):Int) - 0).toNat:Int) < (↑O.length:Int))):=zH (wAc)
 refine sR fL1 Z (oR Z (zW Z bi bh) (eN (zI (cF Z bf (ZJ (zd (zd (ZG (zG (sR fL1 Z (oA Z Z (eN (zP ?_)))))))))))))
 cases aZ
 exact ⟨Z,_,(zz Z),bb,_,bs,Z,Z⟩
theorem wEi (O:List (List Int)) (ab:Option Addr) (ac:Nat) (p1:((List Int)->Option Bool)) (ae:Value) (w:World) (U:PHeap) (hS:St0 w U []) (am:SlR U wDl ab ac O) (an:FnOK Tryz.prog U ae wJm wJn p1) {r:Bool} (hm:wBj O p1=some r):Gv Tryz.prog 142 [.slice ab O.length ac,ae] w (wBD w [] U (fun U_ L_ v=>v=.bool r/\L_=[])):=by
 unfold wBj at hm
 refine Gv.of Tryz.func142 Z Tryz.ntmps142 Tryz.results142 Z (sR fL1 Z (oA Z Z (eN (sR gCp Z (oM Z Z (oM Z Z (bnK hm fun x1 h2 ag=>zM 0 Z Z Z Z (zK Z Z Tryz.call183 (zD Z (zD Z zO)) Z) hS (fun hs=>wFL O ab ac p1 ae w U hs am an h2) (.inr Z) ?_)))))))
 rintro U4 L5 v6 W7 ap ak ⟨rfl,rfl⟩
 have aj:sW w U U4 [] W7:=ak
 refine oR Z (YJ Z Z Z) (oA Z Z (eN (zP ?_)))
 first | (obtain rfl:=nA ag) | cases ag
 exact ⟨Z,_,(zz Z),U4,_,aj,Z,Z⟩
theorem wFU (p0:List (List Int)) (ag:Option Addr) (ah:Nat) (p1:((List Int)->Option Bool)) (ac:Value) (w:World) (U:PHeap) (hS:St0 w U []) (aZ:SlR U wDl ag ah p0) (ak:FnOK Tryz.prog U ac wJm wJn p1) {r:Bool} (hm:wDF p0 p1=some r):Gv Tryz.prog 106 [.slice ag p0.length ah,ac] w (wBD w [] U (fun U_ L_ v=>v=.bool r/\L_=[])):=by
 unfold wDF at hm
 refine Gv.of Tryz.func106 Z Tryz.ntmps106 Tryz.results106 Z (sR gCd Z (ZH (cs:=[ac]) Z Z Z Z Z Z (FnOK.cells ak) hS ?_))
 intro W1 O ay
 have q:=ay.freeze (k:=0) rfl
 obtain ⟨U5,am,aa,az⟩:=q
 replace aa:=Cl.of aa
 have aY:sW w U U5 [] W1:=az
 replace aa:Cl U5 O 0 [ac]:=aa
 refine oA Z Z (eN (sR gCp Z (oM Z Z (oR Z (yn Z zO (zD Z zO)) ?_))))
 have ap:=aZ.le am
 have aq:=ak.le am
 have av:FnOK Tryz.prog U5 (.func (.func 143) #[] #[.pointer (some ⟨O,0,none⟩)]) wJm wJn (fun x=>wCA x p1):=⟨143,[],[.pointer (some ⟨O,0,none⟩)],rfl,Tryz.call143,fun U1 w1 x y vs le hs ha hm=>by obtain ⟨pA_0,pc_0,rfl,hq0_0⟩:=ha;exact wGZ x pA_0 pc_0 p1 O ac w1 U1 hs hq0_0 (aa.le le) (aq.le le) hm⟩
 refine bnK hm fun be au a7=>zM 0 Z Z Z Z (zK Z Z Tryz.call142 (zD Z (zD Z zO)) Z) aY (fun hs=>wEi p0 ag ah (fun x=>wCA x p1) (.func (.func 143) #[] #[.pointer (some ⟨O,0,none⟩)]) W1 U5 hs ap av au) (.inr Z) ?_
 rintro ai ba bd ao bb aw ⟨rfl,rfl⟩
 have ax:sW w U ai [] ao:=aw
 refine oR Z (ZF Z Z) (oA Z Z (eN (zP ?_)))
 cases a7
 exact ⟨Z,_,(zz Z),ai,_,ax,Z,Z⟩
theorem wGa (O:Int) (w:World) (U:PHeap) (hS:St0 w U [])  {r:Bool} (hm:wCB O=some r):Gv Tryz.prog 109 [jV O] w (wBD w [] U (fun U_ L_ v=>v=.bool r/\L_=[])):=by
 unfold wCB at hm
 refine Gv.of Tryz.func109 Z Tryz.ntmps109 Tryz.results109 Z (sR fL1 Z (oA Z Z (eN (sR gCh Z (oM Z Z (bnK hm fun x1 h2 ag=>zM 0 Z Z Z Z (zK Z Z yf (zD Z (zD Z (zD Z zO))) Z) hS (fun hs=>wCH O 0 100000 w U hs h2) (.inr Z) ?_))))))
 rintro U4 L5 v6 W7 ai af ⟨rfl,rfl⟩
 have ae:sW w U U4 [] W7:=af
 refine oA Z Z (eN (zP ?_))
 have hE:=nA ag;first | subst r | cases hE
 exact ⟨Z,_,(zz Z),U4,_,ae,Z,Z⟩
theorem wHH (O:List Int) (aa:Option Addr) (ab:Nat) (w:World) (U:PHeap) (hS:St0 w U []) (ak:Sl U 1 aa ab O.length (hD KL.encI O)) {r:Bool} (hm:wCa O=some r):Gv Tryz.prog 108 [.slice aa O.length ab] w (wBD w [] U (fun U_ L_ v=>v=.bool r/\L_=[])):=by
 unfold wCa at hm
 refine Gv.of Tryz.func108 Z Tryz.ntmps108 Tryz.results108 Z (sR fL1 Z (oA Z Z (eN (sR gCh Z (oM Z Z ?_)))))
 have ah:FnOK Tryz.prog U (.func (.func 109) #[] #[]) wKm wLg wCB:=⟨109,[],[],rfl,Tryz.call109,fun U1 w1 x y vs le hs ha hm=>by obtain rfl:=ha;exact wGa x w1 U1 hs  hm⟩
 refine bnK hm fun x2 h3 am=>zM 0 Z Z Z Z (zK Z Z Tryz.call72 (zD Z (zD Z zO)) Z) hS (fun hs=>wCu O aa ab wCB (.func (.func 109) #[] #[]) w U hs ak ah h3) (.inr Z) ?_
 rintro U5 L6 v7 W8 ap ai ⟨rfl,rfl⟩
 have aj:sW w U U5 [] W8:=ai
 refine oA Z Z (eN (zP ?_))
 have hE:=nA am;first | subst r | cases hE
 exact ⟨Z,_,(zz Z),U5,_,aj,Z,Z⟩
theorem wEj (O:wAL) (aq:Option Addr) (au:Nat) (p1:wBX) (ah:Option Addr) (ai:Nat) (af:Option Addr) (ag:Nat) (w:World) (U:PHeap) (hS:St0 w U []) (ca:Sl U 1 aq au O.Classes.length (hD KL.encI O.Classes)) (cc:Sl U 1 ah ai p1.Classes.length (hD KL.encI p1.Classes)) (cd:SlR U wDl af ag p1.Times) {r:Int} (hm:wCx O p1=some r):Gv Tryz.prog 69 [.agg #[.slice aq O.Classes.length au,jV O.Each,jV O.Laps,jV O.Spare,jV O.Loop,jV O.Unused],.agg #[.slice ah p1.Classes.length ai,.slice af p1.Times.length ag]] w (wBD w [] U (fun U_ L_ v=>v=jV r/\L_=[])):=by
 unfold wCx at hm
 refine Gv.of Tryz.func69 Z Tryz.ntmps69 Tryz.results69 Z (sR gCj Z ?_)
 let B0:List Value:=[.slice aq O.Classes.length au,jV O.Each,jV O.Laps,jV O.Spare,jV O.Loop,jV O.Unused]
 refine ZH (cs:=B0) rfl rfl rfl rfl rfl rfl (by rfl) hS ?_
 intro W1 b2 bT
 have q:=bT.freeze (k:=0) rfl
 obtain ⟨U5,bh,ak,bX⟩:=q
 replace ak:=Cl.of ak
 have bZ:sW w U U5 [] W1:=bX
 replace ak:Cl U5 b2 0 B0:=ak
 let B1:List Value:=[.slice ah p1.Classes.length ai,.slice af p1.Times.length ag]
 refine ZH (cs:=B1) rfl rfl rfl rfl rfl rfl (by rfl) bZ ?_
 intro bw ao bs
 refine oA Z Z (eN (sR gCh Z (oL Z (bs.ldCA (f:=0) ak Z Z yS ZO (us:=B0) Z Z) ?_)))
 have bq:=ca.le bh
 refine bnK hm fun cR bz cg=>zM 0 Z Z Z Z (zK Z Z Tryz.call99 (zD Z zO) Z) bs (fun hs=>wFw O aq au bw U5 hs bq bz) (.inr Z) ?_
 rintro aY cG cM bj aw bS ⟨rfl,rfl⟩
 have be:sW w U aY [.blk ao 118 B1] bj:=bS
 refine oA Z Z (eN (zI (zU (sR fL3 Z (oM Z Z (oR Z (ZX Z Z Z) (oA Z Z (eN (ifc cg ?_ ?_)))))))))
 intro ba ci
 refine zn (zt (fun h=>h ba.out)) (sR (wCK (.fx 3 (wQE (.fx 18 (wRF (.nil)) .stop)) .stop)) Z (oR Z (zF Z Z yC Z zS) (oL Z (be.ldB (j:=0) Z Z Z zZ (v:=.slice ah p1.Classes.length ai) Z) (oR Z (ze Z Z zB) (bnK ci fun cS bA cj=>zM 0 Z Z Z Z (zK Z Z yf (zD Z (zD Z (zD Z zO))) Z) be (fun hs=>wCH (↑p1.Classes.length:Int) 1 8 bj aY hs bA) (.inr Z) ?_)))))
 rintro an cH cN bm ax bU ⟨rfl,rfl⟩
 have am:sW w U an [.blk ao 118 B1] bm:=bU
 refine oR Z (ZF Z Z) (oM Z Z (ifc cj ?_ ?_))
 intro ab cm
 refine zY Z Z Z (zN Z Z (nC ab.out)) (fun _=>zF Z Z yC Z Zq) (ZB Z Z Z (zN Z Z (nC ab.out)) (am.ldB (j:=0) Z Z Z yE (v:=.slice af p1.Times.length ag) Z) Z (zY Z Z Z (zN Z Z (nC ab.out)) (fun _=>ze Z Z zu) (zY Z Z Z (zN Z Z (nC ab.out)) (fun _=>zF Z Z yC Z zS) (ZB Z Z Z (zN Z Z (nC ab.out)) (am.ldB (j:=0) Z Z Z zZ (v:=.slice ah p1.Classes.length ai) Z) Z (zY Z Z Z (zN Z Z (nC ab.out)) (fun _=>ze Z Z zB) (zY Z Z Z (zN Z Z (nC ab.out)) (fun _=>ZX Z Z Z) (oR Z (za Z (nC ab.out) Z) (oM Z Z (ifc cm ?_ ?_)))))))))
 intro ac cn
 refine zY Z Z Z (zN Z Z (zt (fun h=>h ac.out))) (fun _=>zF Z Z yC Z Zq) (ZB Z Z Z (zN Z Z (zt (fun h=>h ac.out))) (am.ldB (j:=0) Z Z Z yE (v:=.slice af p1.Times.length ag) Z) Z (zY Z Z Z (zN Z Z (zt (fun h=>h ac.out))) (fun _=>yn Z zO (zD Z zO)) ?_))
 have bB:=cd.le bh
 have bC:=bB.le aw
 have br:=bC.le ax
 have bD:=ak.le aw
 have bE:=bD.le ax
 have bF:=bq.le aw
 have bG:=bF.le ax
 have bQ:FnOK Tryz.prog an (.func (.func 107) #[] #[.pointer (some ⟨b2,0,none⟩)]) wJm wJn (fun x=>wCZ x O):=⟨107,[],[.pointer (some ⟨b2,0,none⟩)],rfl,Tryz.call107,fun U1 w1 x y vs le hs ha hm=>by obtain ⟨pA_0,pc_0,rfl,hq0_0⟩:=ha;exact wHG x pA_0 pc_0 O b2 aq au w1 U1 hs hq0_0 (bE.le le) (bG.le le) hm⟩
 refine bnK cn fun cU bH co=>zM 0 Z Z Z (zN Z Z (zt (fun h=>h ac.out))) (zK Z Z Tryz.call106 (zD Z (zD Z zO)) Z) am (fun hs=>wFU p1.Times af ag (fun x=>wCZ x O) (.func (.func 107) #[] #[.pointer (some ⟨b2,0,none⟩)]) bm an hs br bQ bH) (.inr Z) ?_
 rintro a7 cI cO bn bu bV ⟨rfl,rfl⟩
 have bf:sW w U a7 [.blk ao 118 B1] bn:=bV
 refine zY Z Z Z (zN Z Z (zt (fun h=>h ac.out))) (fun _=>ZF Z Z) (oR Z (za Z (zt (fun h=>h ac.out)) Z) (oA Z Z (eN (ifc co ?_ ?_))))
 intro bb cp
 refine zn (nC bb.out) (sR (.fl 0 (.fl 1 (.fx 2 (wNe (.fx 7 (wKM (.nil)) .stop)) .stop))) Z (oR Z (zF Z Z yC Z zS) (oL Z (bf.ldB (j:=0) Z Z Z zZ (v:=.slice ah p1.Classes.length ai) Z) ?_)))
 have bI:=cc.le bh
 have bJ:=bI.le aw
 have bK:=bJ.le ax
 have bL:=bK.le bu
 refine bnK cp fun cV bM cq=>zM 0 Z Z Z Z (zK Z Z Tryz.call103 (zD Z zO) Z) bf (fun hs=>wFj p1.Classes ah ai bn a7 hs bL bM) (.inr Z) ?_
 rintro av cJ cP bp cE bW ⟨rfl,rfl⟩
 have bg:sW w U av [.blk ao 118 B1] bp:=bW
 refine oR Z (ZF Z Z) (oM Z Z (ifc cq ?_ ?_))
 intro ae cr
 refine zY Z Z Z (zN Z Z (nC ae.out)) (fun _=>zF Z Z yC Z Zq) (ZB Z Z Z (zN Z Z (nC ae.out)) (bg.ldB (j:=0) Z Z Z yE (v:=.slice af p1.Times.length ag) Z) Z ?_)
 have bN:=br.le bu
 have bO:=bN.le cE
 have bR:FnOK Tryz.prog av (.func (.func 108) #[] #[]) wJm wJn wCa:=⟨108,[],[],rfl,Tryz.call108,fun U1 w1 x y vs le hs ha hm=>by obtain ⟨pA_0,pc_0,rfl,hq0_0⟩:=ha;exact wHH x pA_0 pc_0 w1 U1 hs hq0_0 hm⟩
 refine bnK cr fun cW bP ct=>zM 0 Z Z Z (zN Z Z (nC ae.out)) (zK Z Z Tryz.call106 (zD Z (zD Z zO)) Z) bg (fun hs=>wFU p1.Times af ag wCa (.func (.func 108) #[] #[]) bp av hs bO bR bP) (.inr Z) ?_
 rintro a8 cK cQ bx cL bY ⟨rfl,rfl⟩
 have bt:sW w U a8 [.blk ao 118 B1] bx:=bY
 refine zY Z Z Z (zN Z Z (nC ae.out)) (fun _=>ZF Z Z) (oR Z (za Z (nC ae.out) Z) (oA Z Z (eN (ifc ct ?_ ?_))))
 intro bd cu
 refine zn (nC bd.out) (ZT (zf (zG (sR fL1 Z (oA Z Z (eN (zP ?_)))))))
 cases cu
 exact ⟨rfl,_,(zz rfl),a8,_,(bt.pick [] _ (by decide) rfl),rfl,rfl⟩
 intro bd cw
 refine zy (nF (bd.out)) (sR fL1 Z (oA Z Z (eN (zP (zc (zR ?_))))))
 cases cw
 exact ⟨rfl,_,(zz rfl),a8,_,(bt.pick [] _ (by decide) rfl),rfl,rfl⟩
 intro ae cy
 refine zk Z Z Z (zQ Z Z (nF (ae.out)) Z) (zk Z Z Z (zQ Z Z (nF (ae.out)) Z) (ZI Z Z Z (zQ Z Z (nF (ae.out)) Z) (zk Z Z Z (zQ Z Z (nF (ae.out)) Z) (oR Z (zT Z (nF (ae.out)) Z) (oA Z Z (eN (zy Z (sR fL1 Z (oA Z Z (eN (zP (zc (zR ?_)))))))))))))
 cases cy
 exact ⟨rfl,_,(zz rfl),av,_,(bg.pick [] _ (by decide) rfl),rfl,rfl⟩
 intro bb cz
 refine zy (nF (bb.out)) (sR fL1 Z (oA Z Z (eN (zP (zc (zR ?_))))))
 cases cz
 exact ⟨rfl,_,(zz rfl),a7,_,(bf.pick [] _ (by decide) rfl),rfl,rfl⟩
 intro ac cA
 refine oT Z ac (oT Z ac (oT Z ac (ZI Z Z Z (zQ Z Z (ZZ ac.out) Z) (oT Z ac (oR Z (zT Z (ZZ ac.out) Z) (oA Z Z (eN (zy Z (sR fL1 Z (oA Z Z (eN (zP (zc (zR ?_))))))))))))))
 cases cA
 exact ⟨rfl,_,(zz rfl),an,_,(am.pick [] _ (by decide) rfl),rfl,rfl⟩
 intro ab cC
 refine zk Z Z Z (zQ Z Z (nF (ab.out)) Z) (zk Z Z Z (zQ Z Z (nF (ab.out)) Z) (zk Z Z Z (zQ Z Z (nF (ab.out)) Z) (zk Z Z Z (zQ Z Z (nF (ab.out)) Z) (zk Z Z Z (zQ Z Z (nF (ab.out)) Z) (zk Z Z Z (zQ Z Z (nF (ab.out)) Z) (zk Z Z Z (zQ Z Z (nF (ab.out)) Z) (oR Z (zT Z (nF (ab.out)) Z) (oM Z Z (oN Z (oN Z (oN Z (ZI Z Z Z (zQ Z Z Z Z) (oN Z (oR Z (zT Z Z Z) (oA Z Z (eN (zy Z (sR fL1 Z (oA Z Z (eN (zP (zc (zR ?_)))))))))))))))))))))))
 cases cC
 exact ⟨rfl,_,(zz rfl),an,_,(am.pick [] _ (by decide) rfl),rfl,rfl⟩
 intro ba cD
 refine cT Z ba (sR fL2 Z (oM Z Z (oA Z Z (eN (zP (zc (zR ?_)))))))
 have hE:=nA cD;first | subst r | cases hE
 exact ⟨rfl,_,(zz rfl),aY,_,(be.pick [] _ (by decide) rfl),rfl,rfl⟩
theorem wEk (O:wAp) (ab:Option Addr) (ae:Nat) (ai:Option Addr) (aj:Nat) (ac:Option Addr) (af:Nat) (p1:Int) (p2:Int) (w:World) (U:PHeap) (hS:St0 w U []) (ax:Sl U 1 ab ae O.Squad.Classes.length (hD KL.encI O.Squad.Classes)) (bd:SlR U wDl ai aj O.Squad.Times) (ay:Sl U 1 ac af O.rules.Classes.length (hD KL.encI O.rules.Classes)) {r:Bool} (hm:wCy O p1 p2=some r):Gv Tryz.prog 74 [.agg #[.slice ab O.Squad.Classes.length ae,.slice ai O.Squad.Times.length aj,.slice ac O.rules.Classes.length af,jV O.rules.Each,jV O.rules.Laps,jV O.rules.Spare,jV O.rules.Loop,jV O.rules.Unused],jV p1,jV p2] w (wBD w [] U (fun U_ L_ v=>v=.bool r/\L_=[])):=by
 unfold wCy at hm
 refine Gv.of Tryz.func74 rfl Tryz.ntmps74 Tryz.results74 rfl (sR gCd rfl (ZH (cs:=[.slice ab O.Squad.Classes.length ae,.slice ai O.Squad.Times.length aj,.slice ac O.rules.Classes.length af,jV O.rules.Each,jV O.rules.Laps,jV O.rules.Spare,jV O.rules.Loop,jV O.rules.Unused]) rfl rfl rfl rfl rfl rfl (by rfl) hS ?_))
 intro W1 b2 aw
 refine yU rfl rfl rfl rfl rfl rfl (eN (zI (ZN ZD [3,3,1,3,3,1,3,3,1,3,3,1,3,3] fL14 (by kernel_rfl) ?_)))
 have aa:=aw.drew
 generalize hw_W6:({ W1 with drawn:=W1.drawn + 1 }:World)=W6 at aa ⊢
 refine oR Z (zF Z Z YF Z yi) (oR Z (zF Z Z yC Z zS) (oL Z (aa.ldB (j:=0) Z Z Z zZ (v:=.slice ab O.Squad.Classes.length ae) Z) (oM Z Z (bnK hm fun x7 h8 az=>?_))))
 have q:=ax.el (fun _=>rfl) (wAV h8)
 obtain ⟨a8,be,ap,au⟩:=q
 refine oR Z (Za Z Z ap Z zB zC (wCh h8) (wCs h8)) (oL Z (aa.ldC (f:=0) au (v:=jV x7) Z Z zJ Z) (oR Z (zF Z Z YF Z ZO) (oR Z (zF Z Z ZA Z zS) (oL Z (aa.ldB (j:=0) Z Z Z zZ (v:=.slice ac O.rules.Classes.length af) Z) (oM Z Z (bnK az fun aY ag am=>?_))))))
 have q:=ay.el (fun _=>rfl) (wAV ag)
 obtain ⟨ba,bf,aq,av⟩:=q
 refine oR Z (Za Z Z aq Z zB zC (wCh ag) (wCs ag)) (oL Z (aa.ldC (f:=0) av (v:=jV aY) Z Z zJ Z) (oR Z (yc Z Z Z) (oA Z Z (eN (zP ?_)))))
 first | (obtain rfl:=nA am) | cases am
 exact ⟨rfl,_,(zz rfl),U,_,(aa.pick [] _ (by decide) rfl),rfl,rfl⟩
theorem wHb (O:List Int) (af:Option Addr) (ag:Nat) (w:World) (U:PHeap) (hS:St0 w U []) (a8:Sl U 1 af ag O.length (hD KL.encI O)) {r:Int} (hm:wFg O=some r):Gv Tryz.prog 75 [.slice af O.length ag] w (wBD w [] U (fun U_ L_ v=>v=jV r/\L_=[])):=by
 unfold wFg at hm
 refine Gv.of Tryz.func75 Z Tryz.ntmps75 Tryz.results75 Z (sR fL1 Z (oA Z Z (eN (sR fL1 Z (oA Z Z (eN (zI (sR fL3 Z (oM Z Z (oR Z (ze Z Z zB) (oM Z Z (eN (zU (bnK hm fun bs bb bf=>?_))))))))))))))
 have q:=wAn bb
 obtain ⟨ae,ba⟩:=q
 replace ae:=zH ae
 refine CK.forN' (fun k7 x6 σ_ w_=>∃ (U_:PHeap),σ_ 8=jV (↑k7:Int)/\σ_ 3=jV x6/\σ_ 6=.slice af O.length ag/\σ_ 7=jV (↑O.length:Int)/\PHeap.Le U U_/\sW w U U_ [] w_) ba ?_ ?_ ?_
 exact ⟨U,Z,Z,Z,Z,(zL _),hS⟩
 rintro k7 x6 br bt bi ac ⟨ap,ab,av,ai,aj,an,am⟩ bg
 have ah:Hid ((↑k7:Int) < (↑O.length:Int)):=zH (wAj ac)
 replace ac:=zH ac
 have bd:Hid (w64 ((↑k7:Int) + 1)=(↑(k7 + 1):Int)):=zH (by have h1:=ae.out;have h2:=ah.out;rw [wAX] <;> omega)
 refine sR fL1 Z (oR Z (zW Z ab aj) (eN (zI (cT Z ah (kN (zI (zU (sR fL3 Z (bnK bg fun bh ak be=>?_)))))))))
 have az:=a8.le an
 have q:=az.el (fun _=>rfl) (wAV ak)
 obtain ⟨bm,bq,aY,aZ⟩:=q
 refine oR Z (ZE Z ai aY ab zB zC (wAq ak)) (oL Z (am.ldC (f:=0) aZ (v:=jV bh) Z Z zJ Z) (oA Z Z (eN (rR fL4 Z (oM Z av (oM Z Z (oR Z (zX Z Z Z) (oA Z Z (zg (zf (zG (rR fL2 Z (oR Z (zr (zX Z ab Z) (congrArg (jV) bd.out)) (oM Z Z (zg ?_)))))))))))))))
 cases be
 exact zG ⟨Z,⟨ap,Z,Z,ai,aj,an,am⟩⟩
 rintro bu bj ⟨aq,ay,aw,bn,ax,bp,a7⟩
 have au:Hid (¬ ((↑(((↑O.length:Int):Int) - 0).toNat:Int) < (↑O.length:Int))):=zH (wAc)
 refine sR fL1 Z (oR Z (zW Z ay ax) (eN (zI (cF Z au (ZJ (zd (zd (ZG (zG (sR fL2 Z (oM Z aw (oA Z Z (eN (zP ?_))))))))))))))
 have hE:=nA bf;first | subst r | cases hE
 exact ⟨Z,_,(zz Z),aq,_,a7,Z,Z⟩
theorem wHI (O:wAp) (aY:Option Addr) (a7:Nat) (aq:Option Addr) (au:Nat) (aZ:Option Addr) (a8:Nat) (p1:List Int) (bm:Option Addr) (bn:Nat) (w:World) (U:PHeap) (hS:St0 w U []) (cV:Sl U 1 aY a7 O.Squad.Classes.length (hD KL.encI O.Squad.Classes)) (cW:SlR U wDl aq au O.Squad.Times) (cX:Sl U 1 aZ a8 O.rules.Classes.length (hD KL.encI O.rules.Classes)) (cY:Sl U 1 bm bn p1.length (hD KL.encI p1)) {r:Int × Bool} (hm:wED O p1=some r):Gv Tryz.prog 111 [.agg #[.slice aY O.Squad.Classes.length a7,.slice aq O.Squad.Times.length au,.slice aZ O.rules.Classes.length a8,jV O.rules.Each,jV O.rules.Laps,jV O.rules.Spare,jV O.rules.Loop,jV O.rules.Unused],.slice bm p1.length bn] w (wBD w [] U (fun U_ L_ v=>v=.tuple #[jV r.1,.bool r.2]/\L_=[])):=by
 unfold wED at hm
 refine Gv.of Tryz.func111 Z Tryz.ntmps111 Tryz.results111 Z (sR gCg Z ?_)
 let B0:List Value:=[.slice aY O.Squad.Classes.length a7,.slice aq O.Squad.Times.length au,.slice aZ O.rules.Classes.length a8,jV O.rules.Each,jV O.rules.Laps,jV O.rules.Spare,jV O.rules.Loop,jV O.rules.Unused]
 refine ZH (cs:=B0) rfl rfl rfl rfl rfl rfl (by rfl) hS ?_
 intro W1 b2 bG
 refine oA Z Z (oA Z Z (eN (sR fL3 Z (oL Z (bG.ldBA (j:=0) Z Z Z Tryz.isAgg158 YR (vs:=B0) Z Z) (oR Z (yn Z (zD Z zO) zO) (oA Z Z (eN (sR fL1 Z (oA Z Z (eN (sR (.fx 0 .nil .stop) Z (zm (cs:=hD KL.encI (Arr.fill 8 0).l) Z Z Z Z Z Tryz.zeroValue227 Z bG ?_))))))))))))
 intro W5 b6 cQ
 have cU:sW w U U [.blk b6 227 (hD KL.encI (Arr.fill 8 0).l),.blk b2 158 B0] W5:=cQ
 refine eN (zI (sR fL3 Z (oM Z Z (oR Z (ze Z Z zB) (oM Z Z (eN (zU ?_)))))))
 have q:=wBJ hm
 obtain ⟨dP,az⟩:=q
 have q:=wBI az
 obtain ⟨bj,c6⟩:=q
 replace bj:=zH bj
 refine yB (fun am (ab,ao) σ_ w_=>∃ (U_:PHeap) (av:Option Addr) (aw:Nat),σ_ 15=jV (↑am:Int)/\σ_ 2=.pointer (some ⟨b2,0,none⟩)/\σ_ 6=.func (.func 74) #[.agg B0.toArray] #[]/\σ_ 7=.slice av ao.length aw/\σ_ 8=.pointer (some ⟨b6,0,none⟩)/\σ_ 13=.slice bm p1.length bn/\σ_ 14=jV (↑p1.length:Int)/\PHeap.Le U U_/\sW w U U_ [.blk b6 227 (hD KL.encI ab.l),.blk b2 158 B0,.row av aw 3 1 (hD KL.encI ao)] w_) c6 ?_ ?_ ?_
 have cO:=cU.nilrow 3 1
 exact ⟨U,none,0,rfl,rfl,rfl,rfl,rfl,rfl,rfl,(zL _),(cO.pick [1,2,0] _ (by decide) rfl)⟩
 rintro am ⟨ab,ao⟩ dV dX dD bi ⟨bu,av,aw,ay,be,bz,cm,ax,bA,bB,ap,bh⟩ bK bI
 try dsimp only at bK
 have bx:Hid ((↑am:Int) < (↑p1.length:Int)):=zH (wAj bi)
 replace bi:=zH bi
 have db:Hid (w64 ((↑am:Int) + 1)=(↑(am + 1):Int)):=zH (by have h1:=bj.out;have h2:=bx.out;rw [wAX] <;> omega)
 refine sR fL1 Z (oR Z (zW Z ay bB) (eN (zI (cT Z bx (kN (zI (zU (sR fL5 Z (oM Z ay (bnK bK fun aa bD di=>?_))))))))))
 have cr:=cY.le ap
 have q:=cr.el (fun _=>rfl) (wAV bD)
 obtain ⟨dF,dO,cC,cE⟩:=q
 refine oR Z (ZE Z bA cC ay zB zC (wAq bD)) (oL Z (bh.ldC (f:=0) cE (v:=jV aa) Z Z zJ Z) (oA Z Z (oA Z Z (eN (sR (wHg (.fx 5 .nil .stop)) Z (oM Z Z (bnK di fun _ af dl=>oR Z (YC Z ax Z Tryz.runUnderlying227 zC (wBa af) (wBb af)) ?_)))))))
 have c8:=Arr.at_ ab (k:=aa.toNat) (by have hz0:=wAS af;omega)
 refine ZB rfl rfl rfl rfl (bh.ldB (j:=0) rfl rfl rfl zJ (wAW (sz:=1) (fun _=>rfl) _ _ 0 _ c8 (by first | omega | rfl | simp) rfl)) rfl (zY rfl rfl rfl rfl (fun _=>zX rfl rfl rfl) (zY rfl rfl rfl rfl (fun _=>YC rfl ax rfl Tryz.runUnderlying227 zC (wBa af) (wBb af)) ?_))
 have c9:=Arr.at_ ab (k:=aa.toNat) (by have hz0:=wAS af;omega)
 refine zh (j:=0) (vs:=[jV (w64 ((ab.get aa.toNat) + 1))]) (cs':=hD KL.encI (ab.set aa.toNat (w64 ((ab.get aa.toNat) + 1))).l) rfl rfl rfl rfl bh rfl rfl rfl rfl zC (by have hz0:=wAS af;simp only [nH,nI,nJ,nE,wCV (f:=KL.encI) (sz:=1) (N:=8) ab (fun _=>rfl) rfl];omega) rfl (wDA (sz:=1) (fo:=0) (fun _=>rfl) _ _ _ _ c9 (by first | omega | rfl | simp) (zA rfl) rfl) rfl ?_
 intro bb cP
 let B1:Res:=.row av aw 3 1 (hD KL.encI ao)
 have cR:sW w U bu [.blk b6 227 (hD KL.encI (ab.set aa.toNat (w64 ((ab.get aa.toNat) + 1))).l),.blk b2 158 B0,B1] bb:=cP
 refine eN (zI (zI (ZN ZD [3,3,3,2,3,3,3,3,1,3,3,1,3,3] (wCK (.fx 3 (wQD (.nil)) .stop)) (by kernel_rfl) ?_)))
 have bH:=cR.drew
 generalize hw_W72:({ bb with drawn:=bb.drawn + 1 }:World)=bW at bH ⊢
 refine oM Z bz (oM Z Z (oM Z Z ?_))
 have ct:=cV.le ap
 have bE:=cW.le ap
 have cu:=cX.le ap
 refine bnK dl fun dU cw dm=>zM 0 Z Z Z Z (zK Z Z Tryz.call74 (zD Z (zD Z zO)) Z) bH (fun hs=>wEk O aY a7 aq au aZ a8 aa (↑am:Int) bW bu hs ct bE cu cw) (.inr Z) ?_
 rintro ak dA dR bX bL cS ⟨rfl,rfl⟩
 have aj:sW w U ak [.blk b6 227 (hD KL.encI (ab.set aa.toNat (w64 ((ab.get aa.toNat) + 1))).l),.blk b2 158 B0,B1] bX:=cS
 refine oR Z (ZF Z Z) (oM Z Z (ifc dm ?_ ?_))
 intro ac dn
 refine zj Z Z Z (zN Z Z (nC ac.out)) Z Z (zY Z Z Z (zN Z Z (nC ac.out)) (fun _=>YC Z ax Z Tryz.runUnderlying227 zC (wBa af) (wBb af)) ?_)
 have da:=Arr.at_ (ab.set aa.toNat (w64 ((ab.get aa.toNat) + 1))) (k:=aa.toNat) (by have hz0:=wAS af;omega)
 refine ZB rfl rfl rfl (zN rfl rfl (nC ac.out)) (aj.ldB (j:=0) rfl rfl rfl zJ (wAW (sz:=1) (fun _=>rfl) _ _ 0 _ da (by first | omega | rfl | simp) rfl)) rfl (zY rfl rfl rfl (zN rfl rfl (nC ac.out)) (fun _=>zF rfl be YF rfl ZO) (zY rfl rfl rfl (zN rfl rfl (nC ac.out)) (fun _=>zF rfl rfl ZA rfl zC) (ZB rfl rfl rfl (zN rfl rfl (nC ac.out)) (aj.ldB (j:=1) rfl rfl rfl zJ (v:=jV O.rules.Each) rfl) rfl (zY rfl rfl rfl (zN rfl rfl (nC ac.out)) (fun _=>yT rfl rfl rfl) (zY rfl rfl rfl rfl (fun _=>za rfl (nC ac.out) rfl) (eN (ifc dn ?_ ?_)))))))
 intro bd dp
 refine cT Z bd (sR fL2 Z (oA Z Z (oA Z Z (eN (zP (zR (zc (zR ?_))))))))
 have q:=wAb dp
 obtain ⟨dy,dq,cg⟩:=q
 have q:=wBC hm az (bI dy cg)
 obtain rfl:=q
 refine zR (zc (zR ?_))
 cases dq
 exact ⟨rfl,_,(wEr rfl rfl),ak,_,(aj.pick [] _ (by decide) rfl),rfl,rfl⟩
 intro bd dr
 refine cF Z bd (kN (rR (wQx (.fx 10 (.fx 11 (.fl 12 .nil) .stop) .stop)) Z (oM Z cm (oR Z (zF Z be YF Z yi) (oR Z (zF Z Z yC Z Zq) (oL Z (aj.ldB (j:=1) Z Z Z yE (v:=.slice aq O.Squad.Times.length au) Z) (oM Z Z (bnK dr fun bP bf dt=>?_))))))))
 have cy:=bE.le bL
 have q:=cy.el (wAV bf)
 obtain ⟨bZ,dw,dS,cz,bg,du⟩:=q
 obtain ⟨bM,bN,rfl,co⟩:=du
 replace bg:Cl ak bZ (dw + aa.toNat * 1) [.slice bM bP.length bN]:=bg
 refine oR Z (Za Z Z cz Z zu zS (wCh bf) (wCs bf)) (oL Z (aj.ldC (f:=0) bg (v:=.slice bM bP.length bN) Z Z zZ Z) (oM Z Z (bnK dt fun an bC dd=>?_)))
 have q:=co.el (fun _=>rfl) (wAV bC)
 obtain ⟨dE,dN,cA,cD⟩:=q
 refine oR Z (ZE Z Z cA Z zB zC (wAq bC)) (oL Z (aj.ldC (f:=0) cD (v:=jV an) Z Z zJ Z) (zb (pv:=[(0,jV an)]) (zs:=[jV 0]) (cs:=[jV an]) Z Z Z Z Z (wAA Z wAI) zB zC zw Z Z Z Z Z aj ?_))
 intro bS bY cG
 let B2:Res:=.row (some ⟨bY,0,none⟩) 1 3 1 (hD KL.encI [an])
 have bF:sW w U ak [B2,.blk b6 227 (hD KL.encI (ab.set aa.toNat (w64 ((ab.get aa.toNat) + 1))).l),.blk b2 158 B0,B1] bS:=cG
 refine bnK dd fun bO cp de=>Zr (j:=3) (enc:=KL.encI) (xs:=ao) (ys:=[an]) (zs:=bO) rfl rfl rfl rfl rfl Zn wFr rfl rfl rfl rfl rfl rfl bF rfl rfl rfl (bF.srcR (j:=0) rfl (by decide) (wAB (f:=KL.encI) (sz:=1) (fun _=>rfl) [an])) (fun _=>rfl) (fun _=>rfl) cp rfl ?_
 intro bq bw bT cH
 have cI:sW w U ak [B2,.blk b6 227 (hD KL.encI (ab.set aa.toNat (w64 ((ab.get aa.toNat) + 1))).l),.blk b2 158 B0,.row bq bw 3 1 (hD KL.encI bO)] bT:=cH
 refine oA Z Z (zg (zf (zG (rR fL2 Z (oR Z (zr (zX Z ay Z) (congrArg (jV) db.out)) (oM Z Z (zg ?_)))))))
 have q:=nA de
 obtain rfl:=q
 exact zG ⟨rfl,_,rfl,⟨ak,bq,bw,rfl,be,bz,rfl,ax,bA,bB,(ap.trans bL),(cI.pick [1,2,3] _ (by decide) rfl)⟩⟩
 intro ac df
 refine zk Z Z Z (zQ Z Z (nF (ac.out)) Z) (zk Z Z Z (zQ Z Z (nF (ac.out)) Z) (zk Z Z Z (zQ Z Z (nF (ac.out)) Z) (zk Z Z Z (zQ Z Z (nF (ac.out)) Z) (zk Z Z Z (zQ Z Z (nF (ac.out)) Z) (zk Z Z Z (zQ Z Z (nF (ac.out)) Z) (zk Z Z Z (zQ Z Z (nF (ac.out)) Z) (oR Z (zT Z (nF (ac.out)) Z) (eN (zy Z (sR fL2 Z (oA Z Z (oA Z Z (eN (zP (zR (zc (zR ?_)))))))))))))))))
 have q:=wAb df
 obtain ⟨dx,dg,cd⟩:=q
 have q:=wBC hm az (bI dx cd)
 obtain rfl:=q
 refine zR (zc (zR ?_))
 cases dg
 exact ⟨rfl,_,(wEr rfl rfl),ak,_,(aj.pick [] _ (by decide) rfl),rfl,rfl⟩
 rintro ⟨bQ,bp⟩ dW bv ⟨dB,bR,ca,cn,dG,dH,ci,dI,dJ,cj,dK,cJ⟩ cZ
 have bJ:=wCI hm az cZ
 try dsimp only at bJ
 have cc:Hid (¬ ((↑(((↑p1.length:Int):Int) - 0).toNat:Int) < (↑p1.length:Int))):=zH (wAc)
 refine sR fL1 Z (oR Z (zW Z cn cj) (eN (zI (cF Z cc (ZJ (zd (zd (ZG (zG (sR (.fl 0 gCk) Z (oM Z ci ?_)))))))))))
 have q:=cJ.freezeR (k:=2) (n:=bp.length) rfl (wAB (f:=KL.encI) (sz:=1) (fun _=>rfl) bp) (by decide)
 obtain ⟨bs,dL,dv,cK⟩:=q
 have cL:sW w U bs [.blk b6 227 (hD KL.encI bQ.l),.blk b2 158 B0] bv:=cK
 refine bnK bJ fun dT cq dh=>zM 0 Z Z Z Z (zK Z Z Tryz.call75 (zD Z zO) Z) cL (fun hs=>wHb bp bR ca bv bs hs dv cq) (.inr Z) ?_
 rintro bt dz dQ bU dM cM ⟨rfl,rfl⟩
 have cN:sW w U bt [.blk b6 227 (hD KL.encI bQ.l),.blk b2 158 B0] bU:=cM
 refine oA Z Z (oA Z Z (eN (zP ?_)))
 cases dh
 exact ⟨rfl,_,(wEr rfl rfl),bt,_,(cN.pick [] _ (by decide) rfl),rfl,rfl⟩
set_option maxHeartbeats 4000000
theorem wGq (n_:Nat):∀ (p0:List Int) (aq:Option Addr) (au:Nat) (O:wAp) (a8:Nat) (aZ:Option Addr) (bd:Nat) (bn:Option Addr) (bp:Nat) (a7:Option Addr) (be:Nat) (p2:List Int) (ac:Nat) (ag:Option Addr) (ak:Nat) (p3:Int) (ae:Nat) (p4:Int) (ba:Nat) (p5:Unit) (bb:Nat) (w:World) (U:PHeap) (hS:St0 w U [.blk ac 23 [.slice ag p2.length ak],.row ag ak 3 1 (hD KL.encI p2),.blk ae 3 [jV p3]]) (bC:Sl U 1 aq au p0.length (hD KL.encI p0)) (bD:Cl U a8 0 [.slice aZ O.Squad.Classes.length bd,.slice bn O.Squad.Times.length bp,.slice a7 O.rules.Classes.length be,jV O.rules.Each,jV O.rules.Laps,jV O.rules.Spare,jV O.rules.Loop,jV O.rules.Unused]) (co:Sl U 1 aZ bd O.Squad.Classes.length (hD KL.encI O.Squad.Classes)) (cp:SlR U wDl bn bp O.Squad.Times) (cq:Sl U 1 a7 be O.rules.Classes.length (hD KL.encI O.rules.Classes)) (bE:p2=[]->ag=none) (cV:Cl U ba 0 [jV p4]) (cr:Cl U bb 0 [.func (.func 110) #[] #[.pointer (some ⟨a8,0,none⟩),.pointer (some ⟨ac,0,none⟩),.pointer (some ⟨ae,0,none⟩),.pointer (some ⟨ba,0,none⟩),.pointer (some ⟨bb,0,none⟩)]]) {r:(List Int) × Int} (hm:wCz n_ p0 O p2 p3 p4 p5=some r),Gv Tryz.prog 110 [.slice aq p0.length au,.pointer (some ⟨a8,0,none⟩),.pointer (some ⟨ac,0,none⟩),.pointer (some ⟨ae,0,none⟩),.pointer (some ⟨ba,0,none⟩),.pointer (some ⟨bb,0,none⟩)] w (wBD w [.blk ac 23 [.slice ag p2.length ak],.row ag ak 3 1 (hD KL.encI p2),.blk ae 3 [jV p3]] U (fun U_ L_ v=>∃ (bT:Option Addr) (cM:Nat),v=.tuple #[]/\L_=[.row bT cM 3 1 (hD KL.encI r.1),.blk ac 23 [.slice bT r.1.length cM],.blk ae 3 [jV r.2]]/\(r.1=[]->bT=none))):=by
 induction n_ with
 | zero =>
  intros
  rename_i hm
  have fU:(none:Option ((List Int) × Int))=some _:=hm
  cases fU
 | succ n_ ih =>
  intro p0 aq au O a8 aZ bd bn bp a7 be p2 ac ag ak p3 ae p4 ba p5 bb w U hS bC bD co cp cq bE cV cr r hm
  have hm:wDT (wCz n_) p0 O p2 p3 p4 p5=some r:=hm
  unfold wDT at hm
  refine Gv.of Tryz.func110 Z Tryz.ntmps110 Tryz.results110 Z (zI (sR fL7 Z (oM Z Z (oR Z (ze Z Z zB) (oR Z (zF Z Z YF Z ZO) (oR Z (zF Z Z ZA Z zS) (oL Z (hS.ldC (f:=2) bD (v:=.slice a7 O.rules.Classes.length be) Z Z zZ Z) (oR Z (ze Z Z zB) (oR Z (yc Z Z Z) (eN ?_))))))))))
  by_cases c4:(↑p0.length:Int)=(↑O.rules.Classes.length:Int)
  ·have cZ:=hm;rw [if_pos c4] at cZ;replace c4:=zH c4
   refine cT Z c4 (zI (sR (.fl 0 (.fl 1 (.fx 2 (wPY (.nil)) .stop))) Z (oL Z (hS.ldCA (f:=0) bD Z Z Tryz.isAgg158 YR (us:=[.slice aZ O.Squad.Classes.length bd,.slice bn O.Squad.Times.length bp,.slice a7 O.rules.Classes.length be,jV O.rules.Each,jV O.rules.Laps,jV O.rules.Spare,jV O.rules.Loop,jV O.rules.Unused]) Z Z) (oM Z Z ?_))))
   have q:=bnd cZ
   obtain ⟨⟨x6,x7⟩,h8,c8⟩:=q
   try dsimp only at c8
   refine zM 0 Z Z Z Z (zK Z Z Tryz.call111 (zD Z (zD Z zO)) Z) hS (fun hs=>wHI O aZ bd bn bp a7 be p0 aq au w U hs co cp cq bC h8) (.inr Z) ?_
   rintro bx gK g9 ca da fd ⟨rfl,rfl⟩
   let B0:Res:=.row ag ak 3 1 (hD KL.encI p2)
   let B1:Res:=.blk ac 23 [.slice ag p2.length ak]
   let B2:Res:=.blk ae 3 [jV p3]
   have br:SW w [B1,B0,B2] U bx [B1,B0,B2] ca:=fd
   refine oM Z Z (oR Z (zi Z Z (v:=jV x6) Z) (oR Z (zi Z Z (v:=.bool x7) Z) (oA Z Z (oA Z Z (eN (sR wQB Z (oM Z Z (oM Z Z (ifc c8 ?_ ?_)))))))))
   ·intro aj gb
    refine ZB Z Z Z (zN Z Z (congrArg nB aj.out)) (br.ldB (j:=0) Z Z Z zZ (v:=.slice ag p2.length ak) Z) Z ?_
    have d9:ag.isNone=decide (p2=[]):=wLr (j:=1) br rfl (fun _=>rfl) (by decide) bE
    refine zY Z Z Z (zN Z Z (congrArg nB aj.out)) (fun _=>Runs.eqNilR Z Z Z zB d9) (zj Z Z Z (zN Z Z (congrArg nB aj.out)) Z Z (ifc gb ?_ ?_))
    ·intro aY ge
     refine oT Z aY (oT Z aY (oT Z aY (zY Z Z Z (zN Z Z (congrArg nB aj.out)) (fun _=>zT Z (ZZ aY.out) Z) (oR Z (zT Z (congrArg nB aj.out) Z) (eN (zy Z (rR gCq Z (oM Z Z ?_))))))))
     have eh:=bC.le da
     refine bnK ge fun db er gf=>zM 0 Z Z Z Z (zK Z Z Tryz.call66 (zD Z zO) Z) br (fun hs=>wCq p0 aq au ca bx hs eh er) (.inr Z) ?_
     rintro bH gN ie dx gY ft ⟨bQ,cd,rfl,rfl⟩
     let B3:Res:=.row bQ cd 3 1 (hD KL.encI db)
     have fC:SW w [B1,B0,B2] U bH [B3,B1,B0,B2] dx:=ft
     refine oM Z Z (bnK gf fun il eW gg=>?_)
     let B4:List Value:=[.slice bQ db.length cd]
     refine zh (j:=1) (vs:=B4) Z Z Z Z fC Z Z Z Z zS (zA Z) Z Z Z ?_
     intro dB fH
     have fJ:SW w [B1,B0,B2] U bH [B3,.blk ac 23 B4,B0,B2] dB:=fH
     refine zh (j:=3) (vs:=[jV x6]) Z Z Z Z fJ Z Z Z Z zC (zA Z) Z Z Z ?_
     intro dC fK
     have fL:SW w [B1,B0,B2] U bH [B3,.blk ac 23 B4,B0,.blk ae 3 [jV x6]] dC:=fK
     refine eN (zP (zR ?_))
     cases gg
     exact ⟨rfl,_,(wMc),bH,_,(fL.pick [0,1,3] _ (by decide) rfl),bQ,cd,rfl,rfl,(fun h=>absurd h (wMf eW))⟩
    ·intro aY gi
     refine zj Z Z Z (wF Z aY) Z Z (ZB Z Z Z (wF Z aY) (br.ldB (j:=2) Z Z Z zJ (v:=jV p3) Z) Z (rU Z (wF Z aY) (zW Z Z Z) (zY Z Z Z (zN Z Z (congrArg nB aj.out)) (fun _=>za Z (zt aY.out) Z) (oR Z (zT Z (congrArg nB aj.out) Z) (eN (ifc gi ?_ ?_))))))
     ·intro ci gj
      refine cT Z ci (rR gCq Z (oM Z Z ?_))
      have eZ:=bC.le da
      refine bnK gj fun de e8 gm=>zM 0 Z Z Z Z (zK Z Z Tryz.call66 (zD Z zO) Z) br (fun hs=>wCq p0 aq au ca bx hs eZ e8) (.inr Z) ?_
      rintro bI gP ii dD g8 fM ⟨bS,cj,rfl,rfl⟩
      let B5:Res:=.row bS cj 3 1 (hD KL.encI de)
      have fN:SW w [B1,B0,B2] U bI [B5,B1,B0,B2] dD:=fM
      refine oM Z Z (bnK gm fun im e9 gq=>?_)
      let B6:List Value:=[.slice bS de.length cj]
      refine zh (j:=1) (vs:=B6) Z Z Z Z fN Z Z Z Z zS (zA Z) Z Z Z ?_
      intro dE fO
      have fP:SW w [B1,B0,B2] U bI [B5,.blk ac 23 B6,B0,B2] dE:=fO
      refine zh (j:=3) (vs:=[jV x6]) Z Z Z Z fP Z Z Z Z zC (zA Z) Z Z Z ?_
      intro dF fQ
      have fR:SW w [B1,B0,B2] U bI [B5,.blk ac 23 B6,B0,.blk ae 3 [jV x6]] dF:=fQ
      refine eN (zP (zR ?_))
      cases gq
      exact ⟨rfl,_,(wMc),bI,_,(fR.pick [0,1,3] _ (by decide) rfl),bS,cj,rfl,rfl,(fun h=>absurd h (wMf e9))⟩
     ·intro ci gu
      refine cF Z ci (kN (zP (zR ?_)))
      cases gu
      exact ⟨rfl,_,(wMc),bx,_,(br.pick [1,0,2] _ (by decide) rfl),ag,ak,rfl,rfl,bE⟩
   ·intro aj gv
    refine zk Z Z Z (zQ Z Z (congrArg nB (nD.2 aj.out)) Z) (zk Z Z Z (zQ Z Z (congrArg nB (nD.2 aj.out)) Z) (zk Z Z Z (zQ Z Z (congrArg nB (nD.2 aj.out)) Z) (zk Z Z Z (wAd Z Z Z) (zk Z Z Z (wAd Z Z Z) (zk Z Z Z (wAd Z Z Z) (zk Z Z Z (zQ Z Z (congrArg nB (nD.2 aj.out)) Z) (oR Z (za Z (congrArg nB (nD.2 aj.out)) Z) (eN (zn Z (kN (zP (zR ?_))))))))))))
    cases gv
    exact ⟨rfl,_,(wMc),bx,_,(br.pick [1,0,2] _ (by decide) rfl),ag,ak,rfl,rfl,bE⟩
  ·have c6:=hm;rw [if_neg c4] at c6;replace c4:=zH c4
   refine cF Z c4 (kN (sR fL5 Z (oR Z (zF Z Z YF Z yi) (oR Z (zF Z Z yC Z zS) (oL Z (hS.ldC (f:=0) bD (v:=.slice aZ O.Squad.Classes.length bd) Z Z zZ Z) (oR Z (ze Z Z zB) (oM Z Z (eN (zU ?_)))))))))
   have q:=bnd c6
   obtain ⟨⟨ip,iq⟩,fS,c9⟩:=q
   try dsimp only at c9
   have q:=wAn fS
   obtain ⟨cw,fT⟩:=q
   replace cw:=zH cw
   let B7:Res:=.row ag ak 3 1 (hD KL.encI p2)
   let B8:Res:=.blk ac 23 [.slice ag p2.length ak]
   let B9:Res:=.blk ae 3 [jV p3]
   refine CK.forN' (fun aa (bs,bP) σ_ w_=>∃ (U_:PHeap) (av:Option Addr) (bj:Nat),σ_ 40=jV (↑aa:Int)/\σ_ 0=.slice aq p0.length au/\σ_ 1=.pointer (some ⟨a8,0,none⟩)/\σ_ 4=.pointer (some ⟨ba,0,none⟩)/\σ_ 5=.pointer (some ⟨bb,0,none⟩)/\σ_ 39=jV (↑O.Squad.Classes.length:Int)/\PHeap.Le U U_/\SW w [B8,B7,B9] U U_ [.row av bj 3 1 (hD KL.encI bs),.blk ac 23 [.slice av bs.length bj],.blk ae 3 [jV bP]] w_/\(bs=[]->av=none)) fT ?_ ?_ ?_
   ·exact ⟨U,ag,ak,rfl,rfl,rfl,rfl,rfl,rfl,(zL _),(hS.pick [1,0,2] _ (by decide) rfl),bE⟩
   ·rintro aa ⟨bs,bP⟩ io it dt cu ⟨cE,av,bj,bB,bJ,bK,bL,cm,bM,an,bN,cn⟩ cy
    try dsimp only at cy
    have cI:Hid ((↑aa:Int) < (↑O.Squad.Classes.length:Int)):=zH (wAj cu)
    replace cu:=zH cu
    have ct:Hid (w64 ((↑aa:Int) + 1)=(↑(aa + 1):Int)):=zH (by have h1:=cw.out;have h2:=cI.out;rw [wAX] <;> omega)
    refine sR fL1 Z (oR Z (zW Z bB bM) (eN (zI (cT Z cI (kN (zI (zU (sR fL2 Z (oM Z bB (oA Z Z (eN (sR (wQv gCc) Z (oM Z Z ?_)))))))))))))
    have cN:=cV.le an
    refine oL Z (bN.ldC (f:=0) cN (v:=jV p4) Z bL zJ Z) (oR Z (ZX Z Z Z) (oM Z Z ?_))
    by_cases ab:(↑aa:Int)=p4
    ·have cW:=cy;rw [if_pos ab] at cW;replace ab:=zH ab
     refine zk Z Z Z (zQ Z Z (zt (fun h=>h ab.out)) Z) (zk Z Z Z (zQ Z Z (zt (fun h=>h ab.out)) Z) (zk Z Z Z (zQ Z Z (zt (fun h=>h ab.out)) Z) (zk Z Z Z (zQ Z Z (zt (fun h=>h ab.out)) Z) (ZI Z Z Z (zQ Z Z (zt (fun h=>h ab.out)) Z) (oR Z (za Z (zt (fun h=>h ab.out)) Z) (eN (zn Z (ZT (zf (zG (rR fL2 Z (oR Z (zr (zX Z bB Z) (congrArg (jV) ct.out)) (oM Z Z (zg ?_))))))))))))))
     cases cW
     exact zG ⟨Z,⟨cE,av,bj,Z,bJ,bK,bL,cm,bM,an,bN,cn⟩⟩
    ·have cX:=cy;rw [if_neg ab] at cX;replace ab:=zH ab
     have cO:=bD.le an
     refine ZB Z Z Z (wT Z ab) (bN.ldCA (f:=0) cO Z bK Tryz.isAgg158 YR (us:=[.slice aZ O.Squad.Classes.length bd,.slice bn O.Squad.Times.length bp,.slice a7 O.rules.Classes.length be,jV O.rules.Each,jV O.rules.Laps,jV O.rules.Spare,jV O.rules.Loop,jV O.rules.Unused]) Z Z) Z (zj Z Z Z (wT Z ab) Z Z (zj Z Z Z (wT Z ab) Z bJ (rU Z (wT Z ab) (ze Z Z zB) ?_)))
     have cP:=co.le an
     have cQ:=cp.le an
     have cR:=cq.le an
     refine bnK cX fun ij dZ fV=>zM 0 Z Z Z (wT Z ab) (zK Z Z Tryz.call74 (zD Z (zD Z (zD Z zO))) Z) bN (fun hs=>wEk O aZ bd bn bp a7 be (↑aa:Int) (↑p0.length:Int) dt cE hs cP cQ cR dZ) (.inr Z) ?_
     rintro bY gL ib du ap fc ⟨rfl,rfl⟩
     let bf:Res:=.row av bj 3 1 (hD KL.encI bs)
     let bg:Res:=.blk ac 23 [.slice av bs.length bj]
     let bh:Res:=.blk ae 3 [jV bP]
     have cS:SW w [B8,B7,B9] U bY [bf,bg,bh] du:=fc
     refine oR Z (zT Z (ZZ ab.out) Z) (eN (ifc fV ?_ ?_))
     ·intro cc fW
      refine zy (congrArg nB cc.out) (bnK fW fun bO d7 fY=>bnK fY fun bq d8 fZ=>CK.webp (U0:=bY) (L0:=[bf,bg,bh]) ZD [pX 53 [] (.func (.func 110) #[] #[.pointer (some ⟨a8,0,none⟩),.pointer (some ⟨ac,0,none⟩),.pointer (some ⟨ae,0,none⟩),.pointer (some ⟨ba,0,none⟩),.pointer (some ⟨bb,0,none⟩)]),pW 54 [] (.slice aq p0.length au),⟨some 55,[55],[1],false,[],true,[],fun σ R=>∃ cA cJ,σ 55=.slice cA bO.length cJ/\R=[.row cA cJ 3 1 (hD KL.encI bO)]⟩,pW 56 [] (jV (↑aa:Int)),⟨some 57,[57],[3],false,[],true,[],fun σ R=>∃ az,σ 57=.slice (some ⟨az,0,none⟩) 1 1/\R=[.row (some ⟨az,0,none⟩) 1 3 1 (hD KL.encI [(↑aa:Int)])]⟩,⟨some 58,[58],[],false,[2,4],false,[],fun σ R=>∃ bw bA az,σ 58=.slice bw bq.length bA/\R=[.row bw bA 3 1 (hD KL.encI bq),.row (some ⟨az,0,none⟩) 1 3 1 (hD KL.encI [(↑aa:Int)])]⟩] [false] [(0,.slice aq p0.length au),(1,.pointer (some ⟨a8,0,none⟩)),(4,.pointer (some ⟨ba,0,none⟩)),(5,.pointer (some ⟨bb,0,none⟩)),(9,jV (↑aa:Int)),(39,jV (↑O.Squad.Classes.length:Int)),(40,jV (↑aa:Int))] (by kernel_rfl) ⟨bJ,bK,bL,cm,rfl,bM,bB,trivial⟩ cS ⟨?_,?_,?_,?_,?_,?_,trivial⟩ ?_)
      ·refine wpX ?_
       rintro _ _ _ _ _ ⟨_,_,_,dI,_⟩ gD _ ff gx
       have ej:=cr.le an
       have eo:=ej.le ap
       have ep:=eo.le gD
       exact yj Z Z Z Z (ff.ldC (f:=0) ep (v:=.func (.func 110) #[] #[.pointer (some ⟨a8,0,none⟩),.pointer (some ⟨ac,0,none⟩),.pointer (some ⟨ae,0,none⟩),.pointer (some ⟨ba,0,none⟩),.pointer (some ⟨bb,0,none⟩)]) Z dI Tryz.isAgg195 Z) gx
      ·refine wpW ?_
       rintro _ _ _ _ _ ⟨dJ,_⟩ _ _ _ gy
       exact oM Z dJ gy
      ·rintro _ _ dv dl dg _ _ gE ⟨⟨_,⟨dT,_⟩⟩,_⟩ rfl fg gz
       have eu:=bC.le an
       have ew:=eu.le ap
       have ey:=ew.le gE
       refine zM 0 Z Z Z Z (zK Z Z Tryz.call66 (zD dT zO) Z) fg (fun hs=>wCq p0 aq au dv dl hs ey d7) (.inr Z) ?_
       rintro dm gM ic dw gF fh ⟨cC,cK,rfl,rfl⟩
       have fj:SW w [B8,B7,B9] U dm (.row cC cK 3 1 (hD KL.encI bO) :: bf :: bg :: bh :: dg) dw:=fh
       exact gz _ _ _ _ gF fj ⟨cC,cK,Z,Z⟩
      ·refine wpW ?_
       rintro _ _ _ _ _ ⟨_,_,_,_,dK,_⟩ _ _ _ gA
       exact oM Z dK gA
      ·rintro _ _ _ dn dh _ _ _ ⟨⟨_,⟨dU,_⟩⟩,_⟩ rfl fk gB
       refine zb (pv:=[(0,jV (↑aa:Int))]) (zs:=[jV 0]) (cs:=[jV (↑aa:Int)]) Z Z Z Z Z (wAA dU wAI) zB zC zw Z Z Z Z Z fk ?_
       intro dy cH fm
       have fq:SW w [B8,B7,B9] U dn (.row (some ⟨cH,0,none⟩) 1 3 1 (hD KL.encI [(↑aa:Int)]) :: bf :: bg :: bh :: dh) dy:=fm
       exact gB _ _ _ _ (zL _) fq ⟨cH,Z,Z⟩
      ·rintro _ _ _ dp di _ _ _ _ ⟨_,_,⟨_,_,dW,rfl⟩,⟨_,_,⟨az,dV,rfl⟩,rfl,rfl⟩,rfl⟩ cU gC
       refine Zr (j:=0) (enc:=KL.encI) (xs:=bO) (ys:=[(↑aa:Int)]) (zs:=bq) rfl rfl rfl rfl rfl Zn wFr rfl rfl rfl rfl rfl rfl cU rfl dW dV (cU.srcR (j:=1) rfl (by decide) (wAB (f:=KL.encI) (sz:=1) (fun _=>rfl) [(↑aa:Int)])) (fun _=>rfl) (fun _=>rfl) d8 rfl ?_
       intro cD cL dz fu
       have fw:SW w [B8,B7,B9] U dp (.row cD cL 3 1 (hD KL.encI bq) :: .row (some ⟨az,0,none⟩) 1 3 1 (hD KL.encI [(↑aa:Int)]) :: bf :: bg :: bh :: di) dz:=fu
       exact gC _ _ _ _ (zL _) fw ⟨cD,cL,az,Z,Z⟩
      rintro gJ bz dq ⟨dL,dM,dN,dO,gR,dP,dQ,_⟩ bt _ ⟨dX,rfl⟩ _ ⟨gW,rfl⟩ _ _ _ ⟨gX,rfl⟩ _ _ _ ⟨bw,bA,az,dY,rfl⟩ fy
      let bG:Res:=.row (some ⟨az,0,none⟩) 1 3 1 (hD KL.encI [(↑aa:Int)])
      have fz:SW w [B8,B7,B9] U dq [.row bw bA 3 1 (hD KL.encI bq),bG,bf,bg,bh] bz:=fy
      show OKS _ _ _ _ _ _ (.fx 6 .nil .stop) gJ bz
      have q:=fz.freezeR (k:=0) (n:=bq.length) rfl (wAB (f:=KL.encI) (sz:=1) (fun _=>rfl) bq) (by decide)
      obtain ⟨bZ,bu,gw,fA⟩:=q
      have fB:SW w [B8,B7,B9] U bZ [bG,bf,bg,bh] bz:=fA
      have ez:=cO.le ap
      have eA:=ez.le bt
      have eB:=eA.le bu
      have eC:=cP.le ap
      have eD:=eC.le bt
      have eE:=eD.le bu
      have eF:=cQ.le ap
      have eG:=eF.le bt
      have eH:=eG.le bu
      have eI:=cR.le ap
      have eJ:=eI.le bt
      have eK:=eJ.le bu
      have eM:=cN.le ap
      have eO:=eM.le bt
      have eQ:=eO.le bu
      have eR:=cr.le an
      have eS:=eR.le ap
      have eT:=eS.le bt
      have eU:=eT.le bu
      have q:=bnd fZ
      obtain ⟨⟨dd,gH⟩,eV,cY⟩:=q
      try dsimp only at cY
      have fD:SW w [B8,B7,B9] U bZ [bg,bf,bh,bG] bz:=fB.pick [2,1,3,0] _ (by decide) rfl
      refine zM 3 Z Z Z Z (zK Z dX Tryz.call110 (zD dY zO) Z) fD (fun hs=>ih bq bw bA O a8 aZ bd bn bp a7 be bs ac av bj bP ae p4 ba () bb bz bZ hs gw eB eE eH eK cn eQ eU eV) (.inl Z) ?_
      rintro cG gO ig dA gG fE ⟨bR,cg,rfl,rfl,eX⟩
      have fG:SW w [B8,B7,B9] U cG [.row bR cg 3 1 (hD KL.encI dd),.blk ac 23 [.slice bR dd.length cg],.blk ae 3 [jV gH],bG] dA:=fE
      refine zg (zf (zG (rR fL2 Z (oR Z (zr (zX Z dQ Z) (congrArg (jV) ct.out)) (oM Z Z (zg ?_))))))
      cases cY
      exact zG ⟨rfl,⟨cG,bR,cg,rfl,dL,dM,dN,dO,dP,((((an.trans ap).trans bt).trans bu).trans gG),(fG.pick [0,1,2] _ (by decide) rfl),eX⟩⟩
     ·intro cc gh
      refine zn (congrArg nB (nD.2 cc.out)) (ZT (zf (zG (rR fL2 Z (oR Z (zr (zX Z bB Z) (congrArg (jV) ct.out)) (oM Z Z (zg ?_)))))))
      cases gh
      exact zG ⟨Z,⟨bY,av,bj,Z,bJ,bK,bL,cm,bM,(an.trans ap),cS,cn⟩⟩
   ·rintro ir gQ ⟨dr,df,dG,dS,gS,gT,gU,gV,dR,gZ,fI,eY⟩
    have dH:Hid (¬ ((↑(((↑O.Squad.Classes.length:Int):Int) - 0).toNat:Int) < (↑O.Squad.Classes.length:Int))):=zH (wAc)
    refine sR fL1 Z (oR Z (zW Z dS dR) (eN (zI (cF Z dH (ZJ (zd (zd (ZG ?_))))))))
    cases c9
    exact ⟨Z,_,(wMc),dr,_,fI,df,dG,Z,Z,eY⟩
theorem wEP (O:wAp) (ax:Option Addr) (aY:Nat) (ay:Option Addr) (aZ:Nat) (az:Option Addr) (a7:Nat) (p1:Int) (w:World) (U:PHeap) (hS:St0 w U []) (cg:Sl U 1 ax aY O.Squad.Classes.length (hD KL.encI O.Squad.Classes)) (ci:SlR U wDl ay aZ O.Squad.Times) (cj:Sl U 1 az a7 O.rules.Classes.length (hD KL.encI O.rules.Classes)) {r:(List Int) × Int} (hm:wCm O p1=some r):Gv Tryz.prog 70 [.agg #[.slice ax O.Squad.Classes.length aY,.slice ay O.Squad.Times.length aZ,.slice az O.rules.Classes.length a7,jV O.rules.Each,jV O.rules.Laps,jV O.rules.Spare,jV O.rules.Loop,jV O.rules.Unused],jV p1] w (wBD w [] U (fun U_ L_ v=>∃ (A0:Option Addr) (c0:Nat),v=.tuple #[.slice A0 r.1.length c0,jV r.2]/\L_=[.row A0 c0 3 1 (hD KL.encI r.1)]/\(r.1=[]->A0=none))):=by
 unfold wCm at hm
 refine Gv.of Tryz.func70 Z Tryz.ntmps70 Tryz.results70 Z (sR gCn Z ?_)
 let B0:List Value:=[.slice ax O.Squad.Classes.length aY,.slice ay O.Squad.Times.length aZ,.slice az O.rules.Classes.length a7,jV O.rules.Each,jV O.rules.Laps,jV O.rules.Spare,jV O.rules.Loop,jV O.rules.Unused]
 refine ZH (cs:=B0) rfl rfl rfl rfl rfl rfl (by rfl) hS ?_
 intro W1 b2 bR
 have q:=bR.freeze (k:=0) rfl
 obtain ⟨U5,be,aj,cc⟩:=q
 replace aj:=Cl.of aj
 have cd:sW w U U5 [] W1:=cc
 replace aj:Cl U5 b2 0 B0:=aj
 refine ZH (cs:=[jV p1]) rfl rfl rfl rfl rfl rfl (by rfl) cd ?_
 intro bt ap bK
 have q:=bK.freeze (k:=0) rfl
 obtain ⟨ao,aw,ah,bL⟩:=q
 replace ah:=Cl.of ah
 have bM:sW w U ao [] bt:=bL
 replace ah:Cl ao ap 0 [jV p1]:=ah
 refine oA Z Z (oA Z Z (eN (sR (.fx 0 .nil .stop) Z (zm (cs:=[.slice none 0 0]) Z Z Z Z Z YQ Z bM ?_))))
 intro cn aa bN
 refine eN (sR (.fx 0 (.fx 1 .nil .stop) .stop) Z (zm (cs:=[jV 0]) Z Z Z Z Z zw Z bN ?_))
 intro co af bO
 refine zh (j:=0) (vs:=[jV 0]) Z Z Z Z bO Z Z Z Z zC (zA Z) Z Z Z ?_
 intro bu bP
 let B1:Res:=.blk af 3 [jV 0]
 let B2:Res:=.blk aa 23 [.slice none 0 0]
 have bQ:sW w U ao [B1,B2] bu:=bP
 refine eN (sR (.fx 0 .nil .stop) Z (zm (cs:=[.nilFunc]) Z Z Z Z Z Tryz.zeroValue195 Z bQ ?_))
 intro cp ag bS
 refine eN (sR gCf Z (oR Z (yn Z zO (zD Z (zD Z (zD Z (zD Z (zD Z zO)))))) ?_))
 let B3:List Value:=[.func (.func 110) #[] #[.pointer (some ⟨b2,0,none⟩),.pointer (some ⟨aa,0,none⟩),.pointer (some ⟨af,0,none⟩),.pointer (some ⟨ap,0,none⟩),.pointer (some ⟨ag,0,none⟩)]]
 refine zh (j:=0) (vs:=B3) Z Z Z Z bS Z Z Z Z Tryz.sizeOf195 (zA Z) Z Z Z ?_
 intro ae bT
 have bp:sW w U ao [.blk ag 195 B3,B1,B2] ae:=bT
 refine eN (sR gCf Z (oL Z (bp.ldB (j:=0) Z Z Z Tryz.isAgg195 (v:=.func (.func 110) #[] #[.pointer (some ⟨b2,0,none⟩),.pointer (some ⟨aa,0,none⟩),.pointer (some ⟨af,0,none⟩),.pointer (some ⟨ap,0,none⟩),.pointer (some ⟨ag,0,none⟩)]) Z) ?_))
 have q:=bp.freeze (k:=0) rfl
 obtain ⟨ac,ak,ai,bU⟩:=q
 replace ai:=Cl.of ai
 have bV:sW w U ac [B1,B2] ae:=bU
 replace ai:Cl ac ag 0 B3:=ai
 have bW:=bV.nilrow 3 1
 let B4:Res:=.row none 0 3 1 (hD KL.encI ([]:List Int))
 let B5:Res:=.blk aa 23 [.slice none (([]:List Int).length) 0]
 have bX:sW w U ac [B4,B1,B5] ae:=bW
 have bv:=aj.le aw
 have bw:=bv.le ak
 have bx:=cg.le be
 have bz:=bx.le aw
 have bA:=bz.le ak
 have bB:=ci.le be
 have bC:=bB.le aw
 have bD:=bC.le ak
 have bE:=cj.le be
 have bF:=bE.le aw
 have bG:=bF.le ak
 have bH:=ah.le ak
 have q:=bnd hm
 obtain ⟨⟨bf,br⟩,bI,bq⟩:=q
 try dsimp only at bq
 have bY:sW w U ac [B5,B4,B1] ae:=bX.pick [2,0,1] _ (by decide) rfl
 refine zM 3 rfl rfl rfl rfl (zK rfl rfl Tryz.call110 (zD rfl zO) rfl) bY (fun hs=>wGq 1000 [] none 0 O b2 ax aY ay aZ az a7 ([]:List Int) aa none 0 0 af p1 ap () ag ae ac hs (by first | exact Sl.nil _ _ _ _ | exact SlR.nil) bw bA bD bG (fun _=>rfl) bH ai bI) (.inl rfl) ?_
 rintro bm cm ct bd cr bZ ⟨an,au,rfl,rfl,bJ⟩
 have ca:sW w U bm [.row an au 3 1 (hD KL.encI bf),.blk aa 23 [.slice an bf.length au],.blk af 3 [jV br]] bd:=bZ
 refine eN (zI (ZN ZD [1,1,3,3] fL4 (by kernel_rfl) ?_))
 have av:=ca.drew
 generalize hw_W74:({ bd with drawn:=bd.drawn + 1 }:World)=cq at av ⊢
 refine oL Z (av.ldB (j:=1) Z Z Z zZ (v:=.slice an bf.length au) Z) (oL Z (av.ldB (j:=2) Z Z Z zJ (v:=jV br) Z) (oA Z Z (oA Z Z (eN (zP ?_)))))
 cases bq
 exact ⟨rfl,_,(wEr rfl rfl),bm,_,(av.pick [0] _ (by decide) rfl),an,au,rfl,rfl,bJ⟩
theorem wLI (O:wAL) (ae:Option Addr) (ah:Nat) (p1:wBX) (af:Option Addr) (ai:Nat) (ag:Option Addr) (aj:Nat) (w:World) (U:PHeap) (hS:St0 w U []) (ba:Sl U 1 ae ah O.Classes.length (hD KL.encI O.Classes)) (bb:Sl U 1 af ai p1.Classes.length (hD KL.encI p1.Classes)) (bd:SlR U wDl ag aj p1.Times) {r:(List Int) × Int × Int} (hm:wGe O p1=some r):Gv Tryz.prog 42 [.agg #[.slice ae O.Classes.length ah,jV O.Each,jV O.Laps,jV O.Spare,jV O.Loop,jV O.Unused],.agg #[.slice af p1.Classes.length ai,.slice ag p1.Times.length aj]] w (wBD w [] U (fun U_ L_ v=>∃ (A0:Option Addr) (c0:Nat),v=.tuple #[.slice A0 r.1.length c0,jV r.2.1,jV r.2.2]/\L_=[.row A0 c0 3 1 (hD KL.encI r.1)])):=by
 unfold wGe at hm
 refine Gv.of Tryz.func42 Z Tryz.ntmps42 Tryz.results42 Z (sR (.fx 0 (.fx 1 (wOp (.nil)) .stop) .stop) Z ?_)
 let B0:List Value:=[.slice ae O.Classes.length ah,jV O.Each,jV O.Laps,jV O.Spare,jV O.Loop,jV O.Unused]
 refine ZH (cs:=B0) rfl rfl rfl rfl rfl rfl (by rfl) hS ?_
 intro W1 b2 bs
 let B1:List Value:=[.slice af p1.Classes.length ai,.slice ag p1.Times.length aj]
 refine ZH (cs:=B1) rfl rfl rfl rfl rfl rfl (by rfl) bs ?_
 intro W5 b6 aw
 refine oA Z Z (oA Z Z (oA Z Z (eN (zI (sR gCo Z (oL Z (aw.ldBA (j:=1) Z Z Z yS ZO (vs:=B0) Z Z) (oL Z (aw.ldBA (j:=0) Z Z Z Ye yi (vs:=B1) Z Z) (bnK hm fun x9 bh bw=>zM 0 Z Z Z Z (zK Z Z Tryz.call69 (zD Z (zD Z zO)) Z) aw (fun hs=>wEj O ae ah p1 af ai ag aj W5 U hs ba bb bd bh) (.inr Z) ?_))))))))
 rintro an bD bH aY ax br ⟨rfl,rfl⟩
 have am:sW w U an [.blk b6 118 B1,.blk b2 25 B0] aY:=br
 refine oA Z Z (eN (sR fL2 Z (oM Z Z (oR Z (ZX Z Z Z) (eN (ifc bw ?_ ?_))))))
 intro ap bx
 refine zn (zt (fun h=>h ap.out)) (kN (sR (wCK (.fx 3 (wSI (.nil)) .stop)) Z (oL Z (am.ldBA (j:=0) Z Z Z Ye yi (vs:=B1) Z Z) (oL Z (am.ldBA (j:=1) Z Z Z yS ZO (vs:=B0) Z Z) (oR Z (zx (pv:=[(0,.agg B1.toArray),(1,.agg B0.toArray)]) (z:=[.slice none 0 0,.slice none 0 0,.slice none 0 0,jV 0,jV 0,jV 0,jV 0,jV 0]) (cs:=[.slice af p1.Classes.length ai,.slice ag p1.Times.length aj,.slice ae O.Classes.length ah,jV O.Each,jV O.Laps,jV O.Spare,jV O.Loop,jV O.Unused]) Z (wAA Z (wAA Z wAI)) Tryz.zeroValue158 wJI Z Z) ?_)))))
 have bi:=bb.le ax
 have bj:=bd.le ax
 have bm:=ba.le ax
 have q:=bnd bx
 obtain ⟨⟨ay,bC⟩,bn,be⟩:=q
 try dsimp only at be
 refine zM 0 Z Z Z Z (zK Z Z Tryz.call70 (zD Z (zD Z zO)) Z) am (fun hs=>wEP (⟨p1,O⟩:wAp) af ai ag aj ae ah (-1) aY an hs bi bj bm bn) (.inr Z) ?_
 rintro ao bE bI bf bG bt ⟨ak,aq,rfl,rfl,bp⟩
 have av:sW w U ao [.row ak aq 3 1 (hD KL.encI ay),.blk b6 118 B1,.blk b2 25 B0] bf:=bt
 refine oM Z Z (oR Z (zi Z Z (v:=.slice ak ay.length aq) Z) (oR Z (zi Z Z (v:=jV bC) Z) (oA Z Z (oA Z Z (eN (zI (sR fL2 Z (oM Z Z ?_))))))))
 have bq:ak.isNone=decide (ay=[]):=wLr (j:=0) av rfl (fun _=>rfl) (by decide) bp
 refine oR Z (Runs.eqNilR Z Z Z zB bq) (eN (ifc be ?_ ?_))
 intro au bz
 refine cT Z au (sR fL3 Z (oA Z Z (oA Z Z (oA Z Z (eN (zP (zR ?_)))))))
 have bu:=av.nilrow 3 1
 cases bz
 exact ⟨rfl,_,(res3 rfl rfl rfl),ao,_,(bu.pick [0] _ (by decide) rfl),none,0,rfl,rfl⟩
 intro au bA
 refine cF Z au (kN (sR fL5 Z (oM Z Z (oM Z Z (oA Z Z (oA Z Z (oA Z Z (eN (zP ?_)))))))))
 cases bA
 exact ⟨rfl,_,(res3 rfl rfl rfl),ao,_,(av.pick [0] _ (by decide) rfl),ak,aq,rfl,rfl⟩
 intro ap bB
 refine cT Z ap (sR fL4 Z (oM Z Z (oA Z Z (oA Z Z (oA Z Z (eN (zP (zR ?_))))))))
 have bv:=am.nilrow 3 1
 cases bB
 exact ⟨rfl,_,(res3 rfl rfl rfl),an,_,(bv.pick [0] _ (by decide) rfl),none,0,rfl,rfl⟩
theorem wGX (O:Int) (w:World) (U:PHeap) (hS:St0 w U [])  {r:Bool} (hm:wBx O=some r):Gv Tryz.prog 71 [jV O] w (wBD w [] U (fun U_ L_ v=>v=.bool r/\L_=[])):=by
 unfold wBx at hm
 refine Gv.of Tryz.func71 Z Tryz.ntmps71 Tryz.results71 Z (sR fL1 Z (oA Z Z (eN (sR gCh Z (oM Z Z (bnK hm fun x1 h2 ag=>zM 0 Z Z Z Z (zK Z Z yf (zD Z (zD Z (zD Z zO))) Z) hS (fun hs=>wCH O (-1000000) 1000000 w U hs h2) (.inr Z) ?_))))))
 rintro U4 L5 v6 W7 ai af ⟨rfl,rfl⟩
 have ae:sW w U U4 [] W7:=af
 refine oA Z Z (eN (zP ?_))
 have hE:=nA ag;first | subst r | cases hE
 exact ⟨Z,_,(zz Z),U4,_,ae,Z,Z⟩
theorem wIt (O:Int) (w:World) (U:PHeap) (hS:St0 w U [])  {r:Bool} (hm:wDX O=some r):Gv Tryz.prog 73 [jV O] w (wBD w [] U (fun U_ L_ v=>v=.bool r/\L_=[])):=by
 unfold wDX at hm
 refine Gv.of Tryz.func73 Z Tryz.ntmps73 Tryz.results73 Z (sR fL1 Z (oA Z Z (eN (sR fL3 Z (oM Z Z (oR Z (YJ Z Z Z) (oA Z Z (eN (zP ?_)))))))))
 first | (obtain rfl:=nA hm) | cases hm
 exact ⟨Z,_,(zz Z),U,_,hS,Z,Z⟩
theorem wDh (p0:wAL) (ax:Option Addr) (aY:Nat) (p1:wBX) (ay:Option Addr) (aZ:Nat) (az:Option Addr) (a7:Nat) (p2:List Int) (au:Option Addr) (av:Nat) (p3:List Int) (am:Option Addr) (an:Nat) (w:World) (U:PHeap) (hS:St0 w U []) (cP:Sl U 1 ax aY p0.Classes.length (hD KL.encI p0.Classes)) (cQ:Sl U 1 ay aZ p1.Classes.length (hD KL.encI p1.Classes)) (cR:SlR U wDl az a7 p1.Times) (fC:Sl U 1 au av p2.length (hD KL.encI p2)) (fD:Sl U 1 am an p3.length (hD KL.encI p3)) {r:Int × Int} (hm:wGC p0 p1 p2 p3=some r):Gv Tryz.prog 44 [.agg #[.slice ax p0.Classes.length aY,jV p0.Each,jV p0.Laps,jV p0.Spare,jV p0.Loop,jV p0.Unused],.agg #[.slice ay p1.Classes.length aZ,.slice az p1.Times.length a7],.slice au p2.length av,.slice am p3.length an] w (wBD w [] U (fun U_ L_ v=>v=.tuple #[jV r.1,jV r.2]/\L_=[])):=by
 unfold wGC at hm
 refine Gv.of Tryz.func44 Z Tryz.ntmps44 Tryz.results44 Z (sR gCn Z ?_)
 let B0:List Value:=[.slice ax p0.Classes.length aY,jV p0.Each,jV p0.Laps,jV p0.Spare,jV p0.Loop,jV p0.Unused]
 refine ZH (cs:=B0) rfl rfl rfl rfl rfl rfl (by rfl) hS ?_
 intro W1 b2 ft
 let B1:List Value:=[.slice ay p1.Classes.length aZ,.slice az p1.Times.length a7]
 refine ZH (cs:=B1) rfl rfl rfl rfl rfl rfl (by rfl) ft ?_
 intro W5 b6 bO
 refine oA Z Z (oA Z Z (eN (sR gCo Z (oL Z (bO.ldBA (j:=1) Z Z Z yS ZO (vs:=B0) Z Z) (oL Z (bO.ldBA (j:=0) Z Z Z Ye yi (vs:=B1) Z Z) (bnK hm fun x9 dO fM=>zM 0 Z Z Z Z (zK Z Z Tryz.call69 (zD Z (zD Z zO)) Z) bO (fun hs=>wEj p0 ax aY p1 ay aZ az a7 W5 U hs cP cQ cR dO) (.inr Z) ?_))))))
 rintro a8 gH ij cd bq fd ⟨rfl,rfl⟩
 have ba:sW w U a8 [.blk b6 118 B1,.blk b2 25 B0] cd:=fd
 refine oA Z Z (eN (sR fL1 Z (oA Z Z (eN (zI (zU (sR fL3 Z (oM Z Z (oR Z (ZX Z Z Z) (oA Z Z (eN (ifc fM ?_ ?_))))))))))))
 intro bz fR
 refine zn (zt (fun h=>h bz.out)) (sR fL15 Z (oM Z Z (oR Z (ze Z Z zB) (oR Z (zF Z Z ZA Z zS) (oL Z (ba.ldB (j:=1) Z Z Z zZ (v:=.slice ax p0.Classes.length aY) Z) (oR Z (ze Z Z zB) (oR Z (ZX Z Z Z) (oM Z Z (ifc fR ?_ ?_)))))))))
 intro ac fZ
 refine zj Z Z Z (zN Z Z (zt (fun h=>h ac.out))) Z Z (zY Z Z Z (zN Z Z (zt (fun h=>h ac.out))) (fun _=>ze Z Z zB) (zY Z Z Z (zN Z Z (zt (fun h=>h ac.out))) (fun _=>zF Z Z yC Z zS) (ZB Z Z Z (zN Z Z (zt (fun h=>h ac.out))) (ba.ldB (j:=0) Z Z Z zZ (v:=.slice ay p1.Classes.length aZ) Z) Z (zY Z Z Z (zN Z Z (zt (fun h=>h ac.out))) (fun _=>ze Z Z zB) (zY Z Z Z (zN Z Z (zt (fun h=>h ac.out))) (fun _=>ZX Z Z Z) (oR Z (za Z (zt (fun h=>h ac.out)) Z) (oA Z Z (eN (ifc fZ ?_ ?_)))))))))
 intro bB gb
 refine zn (zt (fun h=>h bB.out)) (sR (.fl 0 (.fl 1 (.fx 2 (wNe (.fx 7 (wKM (.nil)) .stop)) .stop))) Z (oM Z Z (oM Z Z ?_)))
 have bJ:=fC.le bq
 have e9:FnOK Tryz.prog a8 (.func (.func 71) #[] #[]) wKm wLg wBx:=⟨71,[],[],rfl,Tryz.call71,fun U1 w1 x y vs le hs ha hm=>by obtain rfl:=ha;exact wGX x w1 U1 hs  hm⟩
 refine bnK gb fun iw eQ gu=>zM 0 Z Z Z Z (zK Z Z Tryz.call72 (zD Z (zD Z zO)) Z) ba (fun hs=>wCu p2 au av wBx (.func (.func 71) #[] #[]) cd a8 hs bJ e9 eQ) (.inr Z) ?_
 rintro bs gL ip cj bf fu ⟨rfl,rfl⟩
 have cM:sW w U bs [.blk b6 118 B1,.blk b2 25 B0] cj:=fu
 refine oR Z (ZF Z Z) (oM Z Z (ifc gu ?_ ?_))
 intro ak gv
 refine zj Z Z Z (zN Z Z (nC ak.out)) Z Z (zj Z Z Z (zN Z Z (nC ak.out)) Z Z ?_)
 have eR:=fD.le bq
 have cL:=eR.le bf
 have fb:FnOK Tryz.prog bs (.func (.func 71) #[] #[]) wKm wLg wBx:=⟨71,[],[],rfl,Tryz.call71,fun U1 w1 x y vs le hs ha hm=>by obtain rfl:=ha;exact wGX x w1 U1 hs  hm⟩
 refine bnK gv fun iz eS gw=>zM 0 Z Z Z (zN Z Z (nC ak.out)) (zK Z Z Tryz.call72 (zD Z (zD Z zO)) Z) cM (fun hs=>wCu p3 am an wBx (.func (.func 71) #[] #[]) cj bs hs cL fb eS) (.inr Z) ?_
 rintro bt gM iq cm bg fw ⟨rfl,rfl⟩
 have cN:sW w U bt [.blk b6 118 B1,.blk b2 25 B0] cm:=fw
 refine zY Z Z Z (zN Z Z (nC ak.out)) (fun _=>ZF Z Z) (oR Z (za Z (nC ak.out) Z) (oA Z Z (eN (ifc gw ?_ ?_))))
 intro bC gx
 refine zn (nC bC.out) (sR (.fl 0 gCk) Z (oM Z Z ?_))
 have bK:=cL.le bg
 have fc:FnOK Tryz.prog bt (.func (.func 73) #[] #[]) wKm wLg wDX:=⟨73,[],[],rfl,Tryz.call73,fun U1 w1 x y vs le hs ha hm=>by obtain rfl:=ha;exact wIt x w1 U1 hs  hm⟩
 refine bnK gx fun iA eT gy=>zM 0 Z Z Z Z (zK Z Z Tryz.call72 (zD Z (zD Z zO)) Z) cN (fun hs=>wCu p3 am an wDX (.func (.func 73) #[] #[]) cm bt hs bK fc eT) (.inr Z) ?_
 rintro bm gN ir dl aw fy ⟨rfl,rfl⟩
 have bw:sW w U bm [.blk b6 118 B1,.blk b2 25 B0] dl:=fy
 refine oR Z (ZF Z Z) (oA Z Z (eN (ifc gy ?_ ?_)))
 intro bD bW
 refine zn (nC bD.out) (ZT (zf (zG (zI (yL fun bx bp=>?_)))))
 have dJ:bx 2=.slice au p2.length av:=(bp 2).trans rfl
 have cA:bx 3=.slice am p3.length an:=(bp 3).trans rfl
 have cC:bx 4=.pointer (some ⟨b2,0,none⟩):=(bp 4).trans rfl
 have cD:bx 5=.pointer (some ⟨b6,0,none⟩):=(bp 5).trans rfl
 clear bp
 refine rR (wCK gCe) Z (oL Z (bw.ldBA (j:=0) Z Z cD Ye yi (vs:=B1) Z Z) (oL Z (bw.ldBA (j:=1) Z Z cC yS ZO (vs:=B0) Z Z) ?_))
 let B2:List Value:=[.slice ay p1.Classes.length aZ,.slice az p1.Times.length a7,.slice ax p0.Classes.length aY,jV p0.Each,jV p0.Laps,jV p0.Spare,jV p0.Loop,jV p0.Unused]
 let B3:List Value:=[.slice none 0 0,.slice none 0 0,.slice none 0 0,jV 0,jV 0,jV 0,jV 0,jV 0]
 refine oR Z (zx (pv:=[(0,.agg B1.toArray),(1,.agg B0.toArray)]) (z:=B3) (cs:=B2) Z (wAA Z (wAA Z wAI)) Tryz.zeroValue158 wJI Z Z) (zm (cs:=B3) Z Z Z Z Z Tryz.zeroValue158 Z bw ?_)
 intro gQ aq fz
 refine zh (j:=0) (vs:=B2) Z Z Z Z fz Z Z Z Z YR (zA Z) Z Z Z ?_
 intro dm fA
 have fB:sW w U bm [.blk aq 158 B2,.blk b6 118 B1,.blk b2 25 B0] dm:=fA
 refine eN (zI (sR fL3 Z (oM Z cA (oR Z (ze Z Z zB) (oM Z Z (eN (zU ?_)))))))
 have q:=wBJ bW
 obtain ⟨ii,bQ⟩:=q
 have q:=wBI bQ
 obtain ⟨bU,fK⟩:=q
 replace bU:=zH bU
 refine yB (fun ap _ σ_ w_=>∃ (U_:PHeap),σ_ 59=jV (↑ap:Int)/\σ_ 2=.slice au p2.length av/\σ_ 3=.slice am p3.length an/\σ_ 4=.pointer (some ⟨b2,0,none⟩)/\σ_ 5=.pointer (some ⟨b6,0,none⟩)/\σ_ 12=.pointer (some ⟨aq,0,none⟩)/\σ_ 57=.slice am p3.length an/\σ_ 58=jV (↑p3.length:Int)/\PHeap.Le bm U_/\sW w U U_ [.blk aq 158 B2,.blk b6 118 B1,.blk b2 25 B0] w_) fK ?_ ?_ ?_
 exact ⟨bm,Z,dJ,cA,cC,cD,Z,Z,Z,(zL _),fB⟩
 rintro ap ⟨⟩ iD iH gR bS ⟨cc,bv,cE,dK,dL,du,dv,cp,cq,bh,cO⟩ cX fI
 try dsimp only at cX
 have cn:Hid ((↑ap:Int) < (↑p3.length:Int)):=zH (wAj bS)
 replace bS:=zH bS
 have fL:Hid (w64 ((↑ap:Int) + 1)=(↑(ap + 1):Int)):=zH (by have h1:=bU.out;have h2:=cn.out;rw [wAX] <;> omega)
 refine sR fL1 Z (oR Z (zW Z bv cq) (eN (zI (cT Z cn (kN (zI (zU (sR fL5 Z (oM Z bv (bnK cX fun c8 cG bV=>?_))))))))))
 have dP:=bK.le aw
 have dQ:=dP.le bh
 have q:=dQ.el (fun _=>rfl) (wAV cG)
 obtain ⟨gS,ib,eU,eY⟩:=q
 refine oR Z (ZE Z cp eU bv zB zC (wAq cG)) (oL Z (cO.ldC (f:=0) eY (v:=jV c8) Z Z zJ Z) (oA Z Z (oA Z Z (eN (sR fL3 Z (oM Z cE (oR Z (ze Z Z zB) (oM Z Z (eN (zU ?_))))))))))
 have q:=wBJ bV
 obtain ⟨ig,bP⟩:=q
 have q:=wBI bP
 obtain ⟨bT,fJ⟩:=q
 replace bT:=zH bT
 refine yB (fun bd _ σ_ w_=>∃ (U_:PHeap),σ_ 66=jV (↑bd:Int)/\σ_ 2=.slice au p2.length av/\σ_ 3=.slice am p3.length an/\σ_ 4=.pointer (some ⟨b2,0,none⟩)/\σ_ 5=.pointer (some ⟨b6,0,none⟩)/\σ_ 12=.pointer (some ⟨aq,0,none⟩)/\σ_ 13=jV (↑ap:Int)/\σ_ 14=jV c8/\σ_ 57=.slice am p3.length an/\σ_ 58=jV (↑p3.length:Int)/\σ_ 59=jV (↑ap:Int)/\σ_ 64=.slice au p2.length av/\σ_ 65=jV (↑p2.length:Int)/\PHeap.Le cc U_/\sW w U U_ [.blk aq 158 B2,.blk b6 118 B1,.blk b2 25 B0] w_) fJ ?_ ?_ ?_
 exact ⟨cc,Z,cE,dK,dL,du,dv,Z,Z,cp,cq,bv,Z,Z,(zL _),cO⟩
 rintro bd ⟨⟩ iC iE de bR ⟨da,bn,cr,ct,cu,bE,bF,bu,bG,cw,cy,cz,bH,bI,be,bM⟩ cW fE
 try dsimp only at cW
 have co:Hid ((↑bd:Int) < (↑p2.length:Int)):=zH (wAj bR)
 replace bR:=zH bR
 have cS:Hid (w64 ((↑bd:Int) + 1)=(↑(bd + 1):Int)):=zH (by have h1:=bT.out;have h2:=co.out;rw [wAX] <;> omega)
 refine sR fL1 Z (oR Z (zW Z bn bI) (eN (zI (cT Z co (kN (zI (zU (sR fL5 Z (oM Z bn (bnK cW fun gF cH fN=>?_))))))))))
 have dR:=bJ.le bf
 have dS:=dR.le bg
 have dT:=dS.le aw
 have dU:=dT.le bh
 have dV:=dU.le be
 have q:=dV.el (fun _=>rfl) (wAV cH)
 obtain ⟨gT,ic,eV,eZ⟩:=q
 refine oR Z (ZE Z bH eV bn zB zC (wAq cH)) (oL Z (bM.ldC (f:=0) eZ (v:=jV gF) Z Z zJ Z) (oA Z Z (oA Z Z (eN (sR (wCK (.fx 3 (wQE (.nil)) .stop)) Z (oL Z (bM.ldBA (j:=0) Z Z bF Tryz.isAgg158 YR (vs:=B2) Z Z) (oM Z bu (oM Z Z ?_))))))))
 have dW:=cQ.le bq
 have dX:=dW.le bf
 have dY:=dX.le bg
 have dZ:=dY.le aw
 have d7:=dZ.le bh
 have d8:=d7.le be
 have d9:=cR.le bq
 have eh:=d9.le bf
 have ej:=eh.le bg
 have eo:=ej.le aw
 have ep:=eo.le bh
 have cI:=ep.le be
 have er:=cP.le bq
 have eu:=er.le bf
 have ew:=eu.le bg
 have ey:=ew.le aw
 have ez:=ey.le bh
 have eA:=ez.le be
 refine bnK fN fun iu eB fO=>zM 0 Z Z Z Z (zK Z Z Tryz.call74 (zD Z (zD Z (zD Z zO))) Z) bM (fun hs=>wEk (⟨p1,p0⟩:wAp) ay aZ az a7 ax aY (↑ap:Int) (↑bd:Int) de da hs d8 cI eA eB) (.inr Z) ?_
 rintro bj gI il df bX ff ⟨rfl,rfl⟩
 have bb:sW w U bj [.blk aq 158 B2,.blk b6 118 B1,.blk b2 25 B0] df:=ff
 refine oM Z Z (ifc fO ?_ ?_)
 intro O fP
 refine zj Z Z Z (zN Z Z (congrArg nB O.out)) Z Z (zj Z Z Z (zN Z Z (congrArg nB O.out)) Z bG (zY Z Z Z (zN Z Z (congrArg nB O.out)) (fun _=>Zy Z Z Z) (zY Z Z Z (zN Z Z (congrArg nB O.out)) (fun _=>zF Z bE yC Z Zq) (ZB Z Z Z (zN Z Z (congrArg nB O.out)) (bb.ldB (j:=1) Z Z Z yE (v:=.slice az p1.Times.length a7) Z) Z (zj Z Z Z (zN Z Z (congrArg nB O.out)) Z bu (bnK fP fun c9 cJ fQ=>?_))))))
 have eC:=cI.le bX
 have q:=eC.el (wAV cJ)
 obtain ⟨dn,gC,it,eW,bL,gz⟩:=q
 obtain ⟨cZ,c6,rfl,eD⟩:=gz
 replace bL:Cl bj dn (gC + ap * 1) [.slice cZ c9.length c6]:=bL
 refine zY Z Z Z (zN Z Z (congrArg nB O.out)) (fun _=>ZE Z Z eW Z zu zS (wAq cJ)) (ZB Z Z Z (zN Z Z (congrArg nB O.out)) (bb.ldC (f:=0) bL (v:=.slice cZ c9.length c6) Z Z zZ Z) Z (zj Z Z Z (zN Z Z (congrArg nB O.out)) Z Z (bnK fQ fun gG cK fS=>?_)))
 have q:=eD.el (fun _=>rfl) (wAV cK)
 obtain ⟨gU,ie,eX,e8⟩:=q
 refine zY Z Z Z (zN Z Z (congrArg nB O.out)) (fun _=>ZE Z Z eX Z zB zC (wAq cK)) (ZB Z Z Z (zN Z Z (congrArg nB O.out)) (bb.ldC (f:=0) e8 (v:=jV gG) Z Z zJ Z) Z (zY Z Z Z (zN Z Z (congrArg nB O.out)) (fun _=>yT Z Z Z) (oR Z (zT Z (congrArg nB O.out) Z) (eN (ifc fS ?_ ?_)))))
 intro bA fT
 refine cT Z bA (sR fL2 Z (oA Z Z (oA Z Z (eN (zP (zc (zR ?_)))))))
 have q:=wAb fT
 obtain ⟨gD,fU,dr⟩:=q
 have q:=wBC bV bP (fE gD dr)
 obtain rfl:=q
 refine zR (zc (zc (zR ?_)))
 have q:=wAb fU
 obtain ⟨gE,fV,dt⟩:=q
 have q:=wBC bW bQ (fI gE dt)
 obtain rfl:=q
 refine zR (zc (zR ?_))
 cases fV
 exact ⟨rfl,_,(wEr rfl rfl),bj,_,(bb.pick [] _ (by decide) rfl),rfl,rfl⟩
 intro bA fW
 refine cF Z bA (ZT (zf (zG (rR fL2 Z (oR Z (zr (zX Z bn Z) (congrArg (jV) cS.out)) (oM Z Z (zg ?_)))))))
 have q:=nA fW
 obtain rfl:=q
 exact zG ⟨Z,_,Z,⟨bj,Z,cr,ct,cu,bE,bF,bu,bG,cw,cy,cz,bH,bI,(be.trans bX),bb⟩⟩
 intro O fY
 refine zk Z Z Z (zQ Z Z (congrArg nB (nD.2 O.out)) Z) (zk Z Z Z (zQ Z Z (congrArg nB (nD.2 O.out)) Z) (zk Z Z Z (zQ Z Z (congrArg nB (nD.2 O.out)) Z) (zk Z Z Z (zQ Z Z (congrArg nB (nD.2 O.out)) Z) (zk Z Z Z (zQ Z Z (congrArg nB (nD.2 O.out)) Z) (zk Z Z Z (zQ Z Z (congrArg nB (nD.2 O.out)) Z) (zk Z Z Z (zQ Z Z (congrArg nB (nD.2 O.out)) Z) (zk Z Z Z (zQ Z Z (congrArg nB (nD.2 O.out)) Z) (zk Z Z Z (zQ Z Z (congrArg nB (nD.2 O.out)) Z) (zk Z Z Z (zQ Z Z (congrArg nB (nD.2 O.out)) Z) (zk Z Z Z (zQ Z Z (congrArg nB (nD.2 O.out)) Z) (zk Z Z Z (zQ Z Z (congrArg nB (nD.2 O.out)) Z) (oR Z (za Z (congrArg nB (nD.2 O.out)) Z) (eN (zn Z (ZT (zf (zG (rR fL2 Z (oR Z (zr (zX Z bn Z) (congrArg (jV) cS.out)) (oM Z Z (zg ?_)))))))))))))))))))))
 have q:=nA fY
 obtain rfl:=q
 exact zG ⟨Z,_,Z,⟨bj,Z,cr,ct,cu,bE,bF,bu,bG,cw,cy,cz,bH,bI,(be.trans bX),bb⟩⟩
 rintro ⟨⟩ iF gP ⟨db,dM,dw,dx,dy,dz,dA,gV,gW,dB,dC,dD,gX,dE,gA,fg⟩ fG
 have cU:=wCI bV bP fG
 try dsimp only at cU
 have dp:Hid (¬ ((↑(((↑p2.length:Int):Int) - 0).toNat:Int) < (↑p2.length:Int))):=zH (wAc)
 refine sR fL1 Z (oR Z (zW Z dM dE) (eN (zI (cF Z dp (ZJ (zd (zd (ZG (zf (zG (rR fL2 Z (oR Z (zr (zX Z dD Z) (congrArg (jV) fL.out)) (oM Z Z (zg ?_))))))))))))))
 have q:=nA cU
 obtain rfl:=q
 exact zG ⟨Z,_,Z,⟨db,Z,dw,dx,dy,dz,dA,dB,dC,(bh.trans gA),fg⟩⟩
 rintro ⟨⟩ iG cg ⟨dd,dN,dF,dG,dH,gY,gZ,g8,dI,cY,fh⟩ fH
 have cV:=wCI bW bQ fH
 try dsimp only at cV
 have dq:Hid (¬ ((↑(((↑p3.length:Int):Int) - 0).toNat:Int) < (↑p3.length:Int))):=zH (wAc)
 refine sR fL1 rfl (zY rfl rfl rfl rfl (fun _=>zW rfl dN dI) (eN (zI (cF Z dq (ZJ (zd (zd (ZG (zG (zI (ZN ZD [3,2,3,1,3,2,3,3,3,3] (.fl 0 (wOp (.fx 1 (.fx 5 (wSL (.nil)) .stop) .stop))) (by kernel_rfl) ?_)))))))))))
 have bN:=fh.drew
 generalize hw_W255:({ cg with drawn:=cg.drawn + 1 }:World)=dg at bN ⊢
 refine oM Z dF (oR Z (zF Z dH ZA Z zC) (oL Z (bN.ldB (j:=2) Z Z Z zJ (v:=jV p0.Each) Z) (oM Z dG ?_)))
 have eE:=bJ.le bf
 have eF:=eE.le bg
 have eG:=eF.le aw
 have eH:=eG.le cY
 refine bnK cV fun iv eI ge=>zM 0 Z Z Z Z (zK Z Z Tryz.call75 (zD Z zO) Z) bN (fun hs=>wHb p2 au av dg dd hs eH eI) (.inr Z) ?_
 rintro bZ gJ im ci gB fj ⟨rfl,rfl⟩
 have fk:sW w U bZ [.blk aq 158 B2,.blk b6 118 B1,.blk b2 25 B0] ci:=fj
 have eJ:=bK.le aw
 have eK:=eJ.le cY
 have eM:=eK.le gB
 refine bnK ge fun iy eO gf=>zM 0 Z Z Z Z (zK Z Z Tryz.call75 (zD Z zO) Z) fk (fun hs=>wHb p3 am an ci bZ hs eM eO) (.inr Z) ?_
 rintro ca gK io dh g9 fm ⟨rfl,rfl⟩
 have fq:sW w U ca [.blk aq 158 B2,.blk b6 118 B1,.blk b2 25 B0] dh:=fm
 refine oR Z (Runs.mulw Z Z Z) (oR Z (Zy Z Z Z) (oA Z Z (oA Z Z (eN (zP ?_)))))
 cases gf
 exact ⟨rfl,_,(wEr rfl rfl),ca,_,(fq.pick [] _ (by decide) rfl),rfl,rfl⟩
 intro bD gg
 refine zy (nF (bD.out)) (sR fL2 Z (oA Z Z (oA Z Z (eN (zP (zc (zR ?_)))))))
 cases gg
 exact ⟨rfl,_,(wEr rfl rfl),bm,_,(bw.pick [] _ (by decide) rfl),rfl,rfl⟩
 intro bC gh
 refine zy (nF (bC.out)) (sR fL2 Z (oA Z Z (oA Z Z (eN (zP (zc (zR ?_)))))))
 cases gh
 exact ⟨rfl,_,(wEr rfl rfl),bt,_,(cN.pick [] _ (by decide) rfl),rfl,rfl⟩
 intro ak gi
 refine zk Z Z Z (zQ Z Z (nF (ak.out)) Z) (zk Z Z Z (zQ Z Z (nF (ak.out)) Z) (ZI Z Z Z (zQ Z Z (nF (ak.out)) Z) (zk Z Z Z (zQ Z Z (nF (ak.out)) Z) (oR Z (zT Z (nF (ak.out)) Z) (oA Z Z (eN (zy Z (sR fL2 Z (oA Z Z (oA Z Z (eN (zP (zc (zR ?_))))))))))))))
 cases gi
 exact ⟨rfl,_,(wEr rfl rfl),bs,_,(cM.pick [] _ (by decide) rfl),rfl,rfl⟩
 intro bB gj
 refine cT Z bB (sR fL2 Z (oA Z Z (oA Z Z (eN (zP (zc (zR ?_)))))))
 cases gj
 exact ⟨rfl,_,(wEr rfl rfl),a8,_,(ba.pick [] _ (by decide) rfl),rfl,rfl⟩
 intro ac gm
 refine oT Z ac (oT Z ac (oT Z ac (oT Z ac (oT Z ac (oT Z ac (oR Z (zT Z (ZZ ac.out) Z) (oA Z Z (eN (zy Z (sR fL2 Z (oA Z Z (oA Z Z (eN (zP (zc (zR ?_))))))))))))))))
 cases gm
 exact ⟨rfl,_,(wEr rfl rfl),a8,_,(ba.pick [] _ (by decide) rfl),rfl,rfl⟩
 intro bz gq
 refine cT Z bz (sR fL3 Z (oM Z Z (oA Z Z (oA Z Z (eN (zP (zc (zR ?_))))))))
 cases gq
 exact ⟨rfl,_,(wEr rfl rfl),a8,_,(ba.pick [] _ (by decide) rfl),rfl,rfl⟩
set_option maxHeartbeats 4000000
theorem wLJ (O:wAL) (ah:Option Addr) (aj:Nat) (p1:wBX) (ae:Option Addr) (af:Nat) (ai:Option Addr) (ak:Nat) (p2:Int) (w:World) (U:PHeap) (hS:St0 w U []) (bz:Sl U 1 ah aj O.Classes.length (hD KL.encI O.Classes)) (bA:Sl U 1 ae af p1.Classes.length (hD KL.encI p1.Classes)) (bB:SlR U wDl ai ak p1.Times) {r:Int × Int} (hm:wGf O p1 p2=some r):Gv Tryz.prog 45 [.agg #[.slice ah O.Classes.length aj,jV O.Each,jV O.Laps,jV O.Spare,jV O.Loop,jV O.Unused],.agg #[.slice ae p1.Classes.length af,.slice ai p1.Times.length ak],jV p2] w (wBD w [] U (fun U_ L_ v=>v=.tuple #[jV r.1,jV r.2]/\L_=[])):=by
 unfold wGf at hm
 refine Gv.of Tryz.func45 Z Tryz.ntmps45 Tryz.results45 Z (sR gCn Z ?_)
 let B0:List Value:=[.slice ah O.Classes.length aj,jV O.Each,jV O.Laps,jV O.Spare,jV O.Loop,jV O.Unused]
 refine ZH (cs:=B0) rfl rfl rfl rfl rfl rfl (by rfl) hS ?_
 intro W1 b2 ca
 let B1:List Value:=[.slice ae p1.Classes.length af,.slice ai p1.Times.length ak]
 refine ZH (cs:=B1) rfl rfl rfl rfl rfl rfl (by rfl) ca ?_
 intro W5 b6 ba
 refine oA Z Z (oA Z Z (eN (sR gCo Z (oL Z (ba.ldBA (j:=1) Z Z Z yS ZO (vs:=B0) Z Z) (oL Z (ba.ldBA (j:=0) Z Z Z Ye yi (vs:=B1) Z Z) (bnK hm fun x9 bM cj=>zM 0 Z Z Z Z (zK Z Z Tryz.call69 (zD Z (zD Z zO)) Z) ba (fun hs=>wEj O ah aj p1 ae af ai ak W5 U hs bz bA bB bM) (.inr Z) ?_))))))
 rintro ax cu cI bn bd bY ⟨rfl,rfl⟩
 have a8:sW w U ax [.blk b6 118 B1,.blk b2 25 B0] bn:=bY
 refine oA Z Z (eN (zI (zU (sR fL3 Z (oM Z Z (oR Z (ZX Z Z Z) (oA Z Z (eN (ifc cj ?_ ?_)))))))))
 intro aY cm
 refine zn (zt (fun h=>h aY.out)) (sR (wHg (.fx 5 (.fl 6 (.fl 7 .nil)) .stop)) Z (oM Z Z (oR Z (zF Z Z yC Z zS) (oL Z (a8.ldB (j:=0) Z Z Z zZ (v:=.slice ae p1.Classes.length af) Z) (oR Z (ze Z Z zB) (oR Z (Zy Z Z Z) (bnK cm fun cM bN cn=>zM 0 Z Z Z Z (zK Z Z yf (zD Z (zD Z (zD Z zO))) Z) a8 (fun hs=>wCH p2 0 (w64 ((↑p1.Classes.length:Int) - 1)) bn ax hs bN) (.inr Z) ?_)))))))
 rintro ap cw cJ bH be bZ ⟨rfl,rfl⟩
 have aq:sW w U ap [.blk b6 118 B1,.blk b2 25 B0] bH:=bZ
 refine oR Z (ZF Z Z) (oA Z Z (eN (ifc cn ?_ ?_)))
 intro aZ co
 refine zn (nC aZ.out) (ZT (zf (zG (sR (wCK gCe) Z (oL Z (aq.ldBA (j:=0) Z Z Z Ye yi (vs:=B1) Z Z) (oL Z (aq.ldBA (j:=1) Z Z Z yS ZO (vs:=B0) Z Z) ?_))))))
 let B2:List Value:=[.slice ae p1.Classes.length af,.slice ai p1.Times.length ak,.slice ah O.Classes.length aj,jV O.Each,jV O.Laps,jV O.Spare,jV O.Loop,jV O.Unused]
 let B3:List Value:=[.slice none 0 0,.slice none 0 0,.slice none 0 0,jV 0,jV 0,jV 0,jV 0,jV 0]
 refine oR Z (zx (pv:=[(0,.agg B1.toArray),(1,.agg B0.toArray)]) (z:=B3) (cs:=B2) Z (wAA Z (wAA Z wAI)) Tryz.zeroValue158 wJI Z Z) (zm (cs:=B3) Z Z Z Z Z Tryz.zeroValue158 Z aq ?_)
 intro cC az cc
 refine zh (j:=0) (vs:=B2) Z Z Z Z cc Z Z Z Z YR (zA Z) Z Z Z ?_
 intro bp cd
 have bw:sW w U ap [.blk az 158 B2,.blk b6 118 B1,.blk b2 25 B0] bp:=cd
 refine eN (sR (.fl 0 (.fx 1 (wIK (.nil)) .stop)) Z (oL Z (bw.ldBA (j:=0) Z Z Z Tryz.isAgg158 YR (vs:=B2) Z Z) ?_))
 have bO:=bA.le bd
 have bt:=bO.le be
 have bP:=bB.le bd
 have bu:=bP.le be
 have bQ:=bz.le bd
 have bv:=bQ.le be
 have q:=bnd co
 obtain ⟨⟨bE,bF⟩,bR,bC⟩:=q
 try dsimp only at bC
 refine zM 0 Z Z Z Z (zK Z Z Tryz.call70 (zD Z (zD Z zO)) Z) bw (fun hs=>wEP (⟨p1,O⟩:wAp) ae af ai ak ah aj (-1) bp ap hs bt bu bv bR) (.inr Z) ?_
 rintro bm cy cK bq bf cg ⟨bh,br,rfl,rfl,cG⟩
 let B4:Res:=.row bh br 3 1 (hD KL.encI bE)
 have bx:sW w U bm [B4,.blk az 158 B2,.blk b6 118 B1,.blk b2 25 B0] bq:=cg
 refine oM Z Z (oR Z (zi Z Z (v:=.slice bh bE.length br) Z) (oR Z (zi Z Z (v:=jV bF) Z) (oA Z Z (oA Z Z (eN (sR (.fl 0 (.fl 1 (.fx 2 (wPY (.nil)) .stop))) Z (oL Z (bx.ldBA (j:=1) Z Z Z Tryz.isAgg158 YR (vs:=B2) Z Z) (oM Z Z ?_))))))))
 have bS:=bt.le bf
 have bT:=bu.le bf
 have bU:=bv.le bf
 have q:=bnd bC
 obtain ⟨⟨bg,bG⟩,bV,bD⟩:=q
 try dsimp only at bD
 refine zM 0 Z Z Z Z (zK Z Z Tryz.call70 (zD Z (zD Z zO)) Z) bx (fun hs=>wEP (⟨p1,O⟩:wAp) ae af ai ak ah aj p2 bq bm hs bS bT bU bV) (.inr Z) ?_
 rintro ay cz cL bJ cH ci ⟨aw,bs,rfl,rfl,bW⟩
 have bb:sW w U ay [.row aw bs 3 1 (hD KL.encI bg),B4,.blk az 158 B2,.blk b6 118 B1,.blk b2 25 B0] bJ:=ci
 refine oM Z Z (oR Z (zi Z Z (v:=.slice aw bg.length bs) Z) (oR Z (zi Z Z (v:=jV bG) Z) (oA Z Z (oA Z Z (eN (zI (sR fL2 Z (oM Z Z ?_))))))))
 have bX:aw.isNone=decide (bg=[]):=wLr (j:=0) bb rfl (fun _=>rfl) (by decide) bW
 refine oR Z (Runs.eqNilR Z Z Z zB bX) (eN (ifc bD ?_ ?_))
 intro a7 cp
 refine cT Z a7 (sR fL2 Z (oA Z Z (oA Z Z (eN (zP (zR ?_))))))
 cases cp
 exact ⟨rfl,_,(wEr rfl rfl),ay,_,(bb.pick [] _ (by decide) rfl),rfl,rfl⟩
 intro a7 cq
 refine cF Z a7 (kN (zI (yL fun av ao=>?_)))
 have cD:av 6=jV 0:=(ao 6).trans rfl
 have cE:av 7=jV 0:=(ao 7).trans rfl
 have bK:av 11=jV bF:=(ao 11).trans rfl
 have bL:av 13=jV bG:=(ao 13).trans rfl
 clear ao
 refine rR fL5 Z (oM Z bL (oM Z bK (oR Z (Zy Z Z Z) (oA Z Z (oA Z Z (eN (zP ?_)))))))
 cases cq
 exact ⟨rfl,_,(wEr rfl rfl),ay,_,(bb.pick [] _ (by decide) rfl),rfl,rfl⟩
 intro aZ cr
 refine zy (nF (aZ.out)) (sR fL2 Z (oA Z Z (oA Z Z (eN (zP (zc (zR ?_)))))))
 cases cr
 exact ⟨rfl,_,(wEr rfl rfl),ap,_,(aq.pick [] _ (by decide) rfl),rfl,rfl⟩
 intro aY ct
 refine cT Z aY (sR fL3 Z (oM Z Z (oA Z Z (oA Z Z (eN (zP (zc (zR ?_))))))))
 cases ct
 exact ⟨rfl,_,(wEr rfl rfl),ax,_,(a8.pick [] _ (by decide) rfl),rfl,rfl⟩
theorem wGV (O:wAD) (p1:(wAD->Option Bool)) (ag:Nat) (ac:Value) (w:World) (U:PHeap) (hS:St0 w U []) (an:Cl U ag 0 [ac]) (ao:FnOK Tryz.prog U ac wLF wLG p1) {r:Bool} (hm:wBk O p1=some r):Gv Tryz.prog 115 [.agg #[jV O.Lo,jV O.Hi],.pointer (some ⟨ag,0,none⟩)] w (wBD w [] U (fun U_ L_ v=>v=.bool r/\L_=[])):=by
 unfold wBk at hm
 refine Gv.of Tryz.func115 Z Tryz.ntmps115 Tryz.results115 Z (sR gCd Z ?_)
 let B0:List Value:=[jV O.Lo,jV O.Hi]
 refine ZH (cs:=B0) rfl rfl rfl rfl rfl rfl (by rfl) hS ?_
 intro W1 b2 ab
 refine oA Z Z (eN (sR gCp Z (oL Z (ab.ldC (f:=0) an (v:=ac) Z Z Tryz.isAgg163 Z) (oL Z (ab.ldBA (j:=0) Z Z Z yF ZK (vs:=B0) Z Z) (bnK hm fun x5 h6 ap=>yg (a:=O) Z Z Z Z Z Z (zD Z zO) ab ao Z h6 ?_)))))
 rintro U8 L9 aw ah av ak ⟨rfl,rfl⟩
 have am:sW w U U8 [.blk b2 76 B0] ah:=ak
 refine oR Z (ZF Z Z) (oA Z Z (eN (zP ?_)))
 cases ap
 exact ⟨rfl,_,(zz rfl),U8,_,(am.pick [] _ (by decide) rfl),rfl,rfl⟩
theorem wEK (O:List wAD) (aj:Option Addr) (ak:Nat) (p1:(wAD->Option Bool)) (am:Value) (w:World) (U:PHeap) (hS:St0 w U []) (bn:Sl U 2 aj ak O.length (hD wAH O)) (bp:FnOK Tryz.prog U am wLF wLG p1) {r:Int} (hm:wBW O p1=some r):Gv Tryz.prog 145 [.slice aj O.length ak,am] w (wBD w [] U (fun U_ L_ v=>v=jV r/\L_=[])):=by
 unfold wBW at hm
 refine Gv.of Tryz.func145 Z Tryz.ntmps145 Tryz.results145 Z (sR fL1 Z (oA Z Z (eN (zI (sR fL3 Z (oM Z Z (oR Z (ze Z Z ZQ) (oM Z Z (eN (zU ?_))))))))))
 have q:=wBJ hm
 obtain ⟨r3,af⟩:=q
 have q:=wBI af
 obtain ⟨ah,bs⟩:=q
 replace ah:=zH ah
 refine yB (fun k2 _ σ_ w_=>∃ (U_:PHeap),σ_ 8=jV (↑k2:Int)/\σ_ 0=.slice aj O.length ak/\σ_ 1=am/\σ_ 7=jV (↑O.length:Int)/\PHeap.Le U U_/\sW w U U_ [] w_) bs ?_ ?_ ?_
 exact ⟨U,Z,Z,Z,Z,(zL _),hS⟩
 rintro k2 ⟨⟩ bO bQ W8 ag ⟨bD,ae,ap,aq,au,ai,aw⟩ az bq
 try dsimp only at az
 have ao:Hid ((↑k2:Int) < (↑O.length:Int)):=zH (wAj ag)
 replace ag:=zH ag
 have bt:Hid (w64 ((↑k2:Int) + 1)=(↑(k2 + 1):Int)):=zH (by have h1:=ah.out;have h2:=ao.out;rw [wAX] <;> omega)
 refine sR fL1 Z (oR Z (zW Z ae au) (eN (zI (cT Z ao (kN (zI (zU (sR fL2 Z (oM Z ae (oA Z Z (eN (sR (wHg (.fx 5 .nil .stop)) Z (oM Z aq (oM Z ap (oM Z Z (bnK az fun an av bu=>?_))))))))))))))))
 have be:=bn.le ai
 have q:=be.el (fun _=>rfl) (wAV av)
 obtain ⟨bG,bK,bh,bi⟩:=q
 refine oR Z (ZE Z Z bh Z ZQ ZK (wAq av)) (oL Z (aw.ldCA (f:=0) bi Z Z yF ZK (us:=[jV an.Lo,jV an.Hi]) Z Z) (bnK bu fun bN bf bv=>?_))
 have bg:=bp.le ai
 refine yg (a:=an) Z Z Z Z Z Z (zD Z zO) aw bg Z bf ?_
 rintro ab bC bM a7 bA bj ⟨rfl,rfl⟩
 have ax:sW w U ab [] a7:=bj
 refine eN (ifc bv ?_ ?_)
 intro ac bw
 refine zy (congrArg nB ac.out) (sR fL2 Z (oM Z Z (oA Z Z (eN (zP (zc (zR ?_)))))))
 have q:=wAb bw
 obtain ⟨bB,bx,ba⟩:=q
 have q:=wBC hm af (bq bB ba)
 obtain rfl:=q
 refine zR (zc (zR ?_))
 cases bx
 exact ⟨Z,_,(zz Z),ab,_,ax,Z,Z⟩
 intro ac bz
 refine zn (congrArg nB (nD.2 ac.out)) (ZT (zf (zG (rR fL2 Z (oR Z (zr (zX Z ae Z) (congrArg (jV) bt.out)) (oM Z Z (zg ?_)))))))
 have q:=nA bz
 obtain rfl:=q
 exact zG ⟨Z,_,Z,⟨ab,Z,ap,aq,au,(ai.trans bA),ax⟩⟩
 rintro ⟨⟩ bP bE ⟨aZ,bd,bH,bI,bb,bJ,bm⟩ br
 have ay:=wCI hm af br
 try dsimp only at ay
 have a8:Hid (¬ ((↑(((↑O.length:Int):Int) - 0).toNat:Int) < (↑O.length:Int))):=zH (wAc)
 refine sR fL1 Z (oR Z (zW Z bd bb) (eN (zI (cF Z a8 (ZJ (zd (zd (ZG (zG (sR fL1 Z (oA Z Z (eN (zP ?_)))))))))))))
 cases ay
 exact ⟨Z,_,(zz Z),aZ,_,bm,Z,Z⟩
theorem wDt (O:List wAD) (ab:Option Addr) (ac:Nat) (p1:(wAD->Option Bool)) (ae:Value) (w:World) (U:PHeap) (hS:St0 w U []) (am:Sl U 2 ab ac O.length (hD wAH O)) (an:FnOK Tryz.prog U ae wLF wLG p1) {r:Bool} (hm:wBM O p1=some r):Gv Tryz.prog 114 [.slice ab O.length ac,ae] w (wBD w [] U (fun U_ L_ v=>v=.bool r/\L_=[])):=by
 unfold wBM at hm
 refine Gv.of Tryz.func114 Z Tryz.ntmps114 Tryz.results114 Z (sR fL1 Z (oA Z Z (eN (sR gCp Z (oM Z Z (oM Z Z (bnK hm fun x1 h2 ag=>zM 0 Z Z Z Z (zK Z Z Tryz.call145 (zD Z (zD Z zO)) Z) hS (fun hs=>wEK O ab ac p1 ae w U hs am an h2) (.inr Z) ?_)))))))
 rintro U4 L5 v6 W7 ap ak ⟨rfl,rfl⟩
 have aj:sW w U U4 [] W7:=ak
 refine oR Z (YJ Z Z Z) (oA Z Z (eN (zP ?_)))
 first | (obtain rfl:=nA ag) | cases ag
 exact ⟨Z,_,(zz Z),U4,_,aj,Z,Z⟩
theorem wGr (p0:List wAD) (ag:Option Addr) (ah:Nat) (p1:(wAD->Option Bool)) (ae:Value) (w:World) (U:PHeap) (hS:St0 w U []) (aZ:Sl U 2 ag ah p0.length (hD wAH p0)) (ak:FnOK Tryz.prog U ae wLF wLG p1) {r:Bool} (hm:wDr p0 p1=some r):Gv Tryz.prog 76 [.slice ag p0.length ah,ae] w (wBD w [] U (fun U_ L_ v=>v=.bool r/\L_=[])):=by
 unfold wDr at hm
 refine Gv.of Tryz.func76 Z Tryz.ntmps76 Tryz.results76 Z (sR gCd Z (ZH (cs:=[ae]) Z Z Z Z Z Z (FnOK.cells ak) hS ?_))
 intro W1 O ay
 have q:=ay.freeze (k:=0) rfl
 obtain ⟨U5,am,aa,az⟩:=q
 replace aa:=Cl.of aa
 have aY:sW w U U5 [] W1:=az
 replace aa:Cl U5 O 0 [ae]:=aa
 refine oA Z Z (eN (sR gCp Z (oM Z Z (oR Z (yn Z zO (zD Z zO)) ?_))))
 have ap:=aZ.le am
 have aq:=ak.le am
 have av:FnOK Tryz.prog U5 (.func (.func 115) #[] #[.pointer (some ⟨O,0,none⟩)]) wLF wLG (fun x=>wBk x p1):=⟨115,[],[.pointer (some ⟨O,0,none⟩)],rfl,Tryz.call115,fun U1 w1 x y vs le hs ha hm=>by obtain rfl:=ha;exact wGV x p1 O ae w1 U1 hs (aa.le le) (aq.le le) hm⟩
 refine bnK hm fun be au a7=>zM 0 Z Z Z Z (zK Z Z Tryz.call114 (zD Z (zD Z zO)) Z) aY (fun hs=>wDt p0 ag ah (fun x=>wBk x p1) (.func (.func 115) #[] #[.pointer (some ⟨O,0,none⟩)]) W1 U5 hs ap av au) (.inr Z) ?_
 rintro ai ba bd ao bb aw ⟨rfl,rfl⟩
 have ax:sW w U ai [] ao:=aw
 refine oR Z (ZF Z Z) (oA Z Z (eN (zP ?_)))
 cases a7
 exact ⟨Z,_,(zz Z),ai,_,ax,Z,Z⟩
theorem wIX (O:wAD) (w:World) (U:PHeap) (hS:St0 w U [])  {r:Bool} (hm:wDJ O=some r):Gv Tryz.prog 77 [.agg #[jV O.Lo,jV O.Hi]] w (wBD w [] U (fun U_ L_ v=>v=.bool r/\L_=[])):=by
 unfold wDJ at hm
 refine Gv.of Tryz.func77 rfl Tryz.ntmps77 Tryz.results77 rfl (sR gCd rfl (ZH (cs:=[jV O.Lo,jV O.Hi]) rfl rfl rfl rfl rfl rfl (by rfl) hS ?_))
 intro W1 b2 aa
 refine oA Z Z (eN (sR fL6 Z (oR Z (zF Z Z ZM Z zC) (oL Z (aa.ldB (j:=0) Z Z Z zJ (v:=jV O.Lo) Z) (oR Z (zF Z Z ZM Z zC) (oL Z (aa.ldB (j:=0) Z Z Z zJ (v:=jV O.Hi) Z) (oR Z (Runs.leq Z Z Z) (oA Z Z (eN (zP ?_))))))))))
 first | (obtain rfl:=nA hm) | cases hm
 exact ⟨rfl,_,(zz rfl),U,_,(aa.pick [] _ (by decide) rfl),rfl,rfl⟩
theorem wJP (p0:List wAD) (ap:Option Addr) (aq:Nat) (w:World) (U:PHeap) (hS:St0 w U []) (bY:Sl U 2 ap aq p0.length (hD wAH p0)) {r:(List wAD) × Int} (hm:wFh p0=some r):Gv Tryz.prog 46 [.slice ap p0.length aq] w (wBD w [] U (fun U_ L_ v=>∃ (A0:Option Addr) (c0:Nat),v=.tuple #[.slice A0 r.1.length c0,jV r.2]/\L_=[.row A0 c0 76 2 (hD wAH r.1)])):=by
 unfold wFh at hm
 refine Gv.of Tryz.func46 Z Tryz.ntmps46 Tryz.results46 Z (sR fL2 Z (oA Z Z (oA Z Z (eN (zI (zU (sR fL4 Z (oM Z Z (oR Z (ze Z Z ZQ) (oR Z (yT Z Z Z) (oA Z Z (eN ?_))))))))))))
 by_cases c1:40 < (↑p0.length:Int)
 have bZ:=hm;rw [if_pos c1] at bZ;replace c1:=zH c1
 refine cT Z c1 (sR fL2 Z (oA Z Z (oA Z Z (eN (zP (zc (zR ?_)))))))
 have dq:=hS.nilrow 76 2
 cases bZ
 exact ⟨Z,_,(wEr Z Z),U,_,dq,none,0,Z,Z⟩
 have ca:=hm;rw [if_neg c1] at ca;replace c1:=zH c1
 refine cF Z c1 (sR (.fl 0 gCk) Z (oM Z Z ?_))
 have c8:FnOK Tryz.prog U (.func (.func 77) #[] #[]) wLF wLG wDJ:=⟨77,[],[],rfl,Tryz.call77,fun U1 w1 x y vs le hs ha hm=>by obtain rfl:=ha;exact wIX x w1 U1 hs  hm⟩
 refine bnK ca fun x7 h8 dS=>zM 0 Z Z Z Z (zK Z Z Tryz.call76 (zD Z (zD Z zO)) Z) hS (fun hs=>wGr p0 ap aq wDJ (.func (.func 77) #[] #[]) w U hs bY c8 h8) (.inr Z) ?_
 rintro bp dX eD co dU dd ⟨rfl,rfl⟩
 have bU:sW w U bp [] co:=dd
 refine oR Z (ZF Z Z) (oA Z Z (eN (ifc dS ?_ ?_)))
 intro bB dN
 refine zn (nC bB.out) (ZT (zf (zG (sR fL1 Z (oA Z Z (eN (zI (sR fL3 Z (oM Z Z (oR Z (ze Z Z ZQ) (oM Z Z (eN (zU (bnK dN fun eH dz dQ=>?_))))))))))))))
 have q:=wAn dz
 obtain ⟨bE,dA⟩:=q
 replace bE:=zH bE
 refine CK.forN' (fun av aY σ_ w_=>∃ (U_:PHeap) (a7:Option Addr) (bd:Nat),σ_ 20=jV (↑av:Int)/\σ_ 0=.slice ap p0.length aq/\σ_ 4=.slice a7 aY.length bd/\σ_ 18=.slice ap p0.length aq/\σ_ 19=jV (↑p0.length:Int)/\PHeap.Le bp U_/\sW w U U_ [.row a7 bd 76 2 (hD wAH aY)] w_) dA ?_ ?_ ?_
 have dr:=bU.nilrow 76 2
 exact ⟨bp,none,0,Z,Z,Z,Z,Z,(zL _),dr⟩
 rintro av aY eG eM d9 bD ⟨bq,a7,bd,bs,bN,cP,bO,bP,cg,bX⟩ dT
 have bM:Hid ((↑av:Int) < (↑p0.length:Int)):=zH (wAj bD)
 replace bD:=zH bD
 have dD:Hid (w64 ((↑av:Int) + 1)=(↑(av + 1):Int)):=zH (by have h1:=bE.out;have h2:=bM.out;rw [wAX] <;> omega)
 refine sR fL1 Z (oR Z (zW Z bs bP) (eN (zI (cT Z bM (kN (zI (zU (sR (wCK gCi) Z (oM Z bs (bnK dT fun ax bR dR=>?_))))))))))
 have cV:=bY.le dU
 have bS:=cV.le cg
 have q:=bS.el (fun _=>rfl) (wAV bR)
 obtain ⟨ep,eC,cY,c6⟩:=q
 refine oR Z (ZE Z bO cY bs ZQ ZK (wAq bR)) (oL Z (bX.ldCA (f:=0) c6 Z Z yF ZK (us:=[jV ax.Lo,jV ax.Hi]) Z Z) ?_)
 let B0:List Value:=[jV 0,jV 0]
 refine zm (cs:=B0) Z Z Z Z Z ZY Z bX ?_
 intro eh ae dt
 refine oA Z Z ?_
 let B1:List Value:=[jV ax.Lo,jV ax.Hi]
 refine zh (j:=0) (vs:=B1) Z Z Z Z dt Z Z Z Z ZK (zA Z) Z Z Z ?_
 intro cy du
 let B2:Res:=.row a7 bd 76 2 (hD wAH aY)
 have dv:sW w U bq [.blk ae 76 B1,B2] cy:=du
 refine eN (sR (.fl 0 (.fx 1 (.fx 2 .nil .stop) .stop)) Z ?_)
 let B3:List Value:=[jV 1,jV 1]
 refine oR Z (zx (pv:=[(0,jV 1),(1,jV 1)]) (z:=B0) (cs:=B3) Z (wAA Z (wAA Z wAI)) ZY wDU Z Z) (zm (cs:=B0) Z Z Z Z Z ZY Z dv ?_)
 intro ej ai dw
 refine zh (j:=0) (vs:=B3) Z Z Z Z dw Z Z Z Z ZK (zA Z) Z Z Z ?_
 intro cz dx
 have dy:sW w U bq [.blk ai 76 B3,.blk ae 76 B1,B2] cz:=dx
 refine eN (zI (sR fL3 Z (oM Z bN (oR Z (ze Z Z ZQ) (oM Z Z (eN (zU ?_)))))))
 have q:=bnd dR
 obtain ⟨⟨bt,bu⟩,dB,cc⟩:=q
 try dsimp only at cc
 have q:=wAn dB
 obtain ⟨bF,dC⟩:=q
 replace bF:=zH bF
 refine CK.forN' (fun bn (au,ag) σ_ w_=>∃ (U_:PHeap),σ_ 28=jV (↑bn:Int)/\σ_ 0=.slice ap p0.length aq/\σ_ 4=.slice a7 aY.length bd/\σ_ 5=jV (↑av:Int)/\σ_ 6=.pointer (some ⟨ae,0,none⟩)/\σ_ 7=.pointer (some ⟨ai,0,none⟩)/\σ_ 18=.slice ap p0.length aq/\σ_ 19=jV (↑p0.length:Int)/\σ_ 20=jV (↑av:Int)/\σ_ 26=.slice ap p0.length aq/\σ_ 27=jV (↑p0.length:Int)/\PHeap.Le bq U_/\sW w U U_ [.blk ai 76 [jV au,jV ag],.blk ae 76 B1,B2] w_) dC ?_ ?_ ?_
 exact ⟨bq,Z,bN,cP,Z,Z,Z,bO,bP,bs,Z,Z,(zL _),dy⟩
 rintro bn ⟨au,ag⟩ eF eI dY bC ⟨ah,ao,be,bf,aj,an,ab,bg,bh,bi,ay,az,aZ,bT⟩ cd
 try dsimp only at cd
 have bK:Hid ((↑bn:Int) < (↑p0.length:Int)):=zH (wAj bC)
 replace bC:=zH bC
 have bm:Hid (w64 ((↑bn:Int) + 1)=(↑(bn + 1):Int)):=zH (by have h1:=bF.out;have h2:=bK.out;rw [wAX] <;> omega)
 refine sR fL1 Z (oR Z (zW Z ao az) (eN (zI (cT Z bK (kN (zI (zU (sR (wCK gCi) Z (oM Z ao (bnK cd fun aw bQ dE=>?_))))))))))
 have cS:=bS.le aZ
 have q:=cS.el (fun _=>rfl) (wAV bQ)
 obtain ⟨eo,eB,cX,cZ⟩:=q
 refine oR Z (ZE Z ay cX ao ZQ ZK (wAq bQ)) (oL Z (bT.ldCA (f:=0) cZ Z Z yF ZK (us:=[jV aw.Lo,jV aw.Hi]) Z Z) (zm (cs:=B0) Z Z Z Z Z ZY Z bT ?_))
 intro dZ br c9
 refine oA Z Z ?_
 let B4:List Value:=[jV aw.Lo,jV aw.Hi]
 refine zh (j:=0) (vs:=B4) Z Z Z Z c9 Z Z Z Z ZK (zA Z) Z Z Z ?_
 intro cp da
 have af:sW w U ah [.blk br 76 B4,.blk ai 76 [jV au,jV ag],.blk ae 76 B1,B2] cp:=da
 refine eN (zI (sR wQB Z (oM Z Z (oM Z aj (oR Z (ZX Z Z Z) (oM Z Z (ifc dE ?_ ?_)))))))
 intro O dF
 refine zk Z Z Z (zQ Z Z (zt (fun h=>h O.out)) Z) (zk Z Z Z (zQ Z Z (zt (fun h=>h O.out)) Z) (zk Z Z Z (zQ Z Z (zt (fun h=>h O.out)) Z) (zk Z Z Z (zQ Z Z (zt (fun h=>h O.out)) Z) (zk Z Z Z (zQ Z Z (zt (fun h=>h O.out)) Z) (oR Z (za Z (zt (fun h=>h O.out)) Z) (eN (zn Z (kN (sR wQB Z (oM Z Z (oM Z aj (oR Z (ZX Z Z Z) (oM Z Z (zk Z Z Z (zQ Z Z (zt (fun h=>h O.out)) Z) (zk Z Z Z (zQ Z Z (zt (fun h=>h O.out)) Z) (zk Z Z Z (zQ Z Z (zt (fun h=>h O.out)) Z) (zk Z Z Z (zQ Z Z (zt (fun h=>h O.out)) Z) (zk Z Z Z (zQ Z Z (zt (fun h=>h O.out)) Z) (oR Z (za Z (zt (fun h=>h O.out)) Z) (eN (zn Z (ZT (zf (zG (rR fL2 Z (oR Z (zr (zX Z ao Z) (congrArg (jV) bm.out)) (oM Z Z (zg ?_))))))))))))))))))))))))))))
 cases dF
 exact zG ⟨rfl,⟨ah,rfl,be,bf,aj,an,ab,bg,bh,bi,ay,az,aZ,(af.pick [1,2,3] _ (by decide) rfl)⟩⟩
 intro O dG
 refine rU Z (wT Z O) (zF Z Z ZM Z zC) (ZB Z Z Z (wT Z O) (af.ldB (j:=0) Z Z Z zJ (v:=jV aw.Hi) Z) Z (rU Z (wT Z O) (zF Z an ZM Z zC) (ZB Z Z Z (wT Z O) (af.ldB (j:=2) Z Z Z zJ (v:=jV ax.Lo) Z) Z (rU Z (wT Z O) (zW Z Z Z) (oR Z (zT Z (ZZ O.out) Z) (eN (ifc dG ?_ ?_)))))))
 intro bx dH
 refine cT Z bx (rR (wEL (.fx 4 .nil .stop)) Z (oR Z (zF Z ab ZM Z zC) (oL Z (af.ldB (j:=1) Z Z Z zJ (v:=jV au) Z) (oR Z (zX Z Z Z) (oR Z (zF Z ab ZM Z zC) (zh (j:=1) (vs:=[jV (w64 (au + 1))]) Z Z Z Z af Z Z Z Z zC (zA Z) Z Z Z ?_))))))
 intro cq db
 have bj:sW w U ah [.blk br 76 B4,.blk ai 76 [jV (w64 (au + 1)),jV ag],.blk ae 76 B1,B2] cq:=db
 refine eN (sR wQB Z (oM Z Z (oM Z aj (oR Z (ZX Z Z Z) (oM Z Z (rU Z (wT Z O) (zF Z Z ZM Z zC) (ZB Z Z Z (wT Z O) (bj.ldB (j:=0) Z Z Z zJ (v:=jV aw.Lo) Z) Z (rU Z (wT Z O) (zF Z an ZM Z zC) (ZB Z Z Z (wT Z O) (bj.ldB (j:=2) Z Z Z zJ (v:=jV ax.Hi) Z) Z (rU Z (wT Z O) (zW Z Z Z) (oR Z (zT Z (ZZ O.out) Z) (eN (ifc dH ?_ ?_)))))))))))))
 intro bz dI
 refine cT Z bz (rR (wEL (.fx 4 .nil .stop)) Z (oR Z (zF Z ab ZM Z zC) (oL Z (bj.ldB (j:=1) Z Z Z zJ (v:=jV ag) Z) (oR Z (zX Z Z Z) (oR Z (zF Z ab ZM Z zC) (zh (j:=1) (vs:=[jV (w64 (ag + 1))]) Z Z Z Z bj Z Z Z Z zC (zA Z) Z Z Z ?_))))))
 intro cr de
 have df:sW w U ah [.blk br 76 B4,.blk ai 76 [jV (w64 (au + 1)),jV (w64 (ag + 1))],.blk ae 76 B1,B2] cr:=de
 refine zg (zf (zG (rR fL2 Z (oR Z (zr (zX Z ao Z) (congrArg (jV) bm.out)) (oM Z Z (zg ?_))))))
 cases dI
 exact zG ⟨rfl,⟨ah,rfl,be,bf,aj,an,ab,bg,bh,bi,ay,az,aZ,(df.pick [1,2,3] _ (by decide) rfl)⟩⟩
 intro bz dJ
 refine cF Z bz (ZT (zf (zG (rR fL2 Z (oR Z (zr (zX Z ao Z) (congrArg (jV) bm.out)) (oM Z Z (zg ?_)))))))
 cases dJ
 exact zG ⟨rfl,⟨ah,rfl,be,bf,aj,an,ab,bg,bh,bi,ay,az,aZ,(bj.pick [1,2,3] _ (by decide) rfl)⟩⟩
 intro bx dK
 refine cF Z bx (kN (sR wQB Z (oM Z Z (oM Z aj (oR Z (ZX Z Z Z) (oM Z Z (rU Z (wT Z O) (zF Z Z ZM Z zC) (ZB Z Z Z (wT Z O) (af.ldB (j:=0) Z Z Z zJ (v:=jV aw.Lo) Z) Z (rU Z (wT Z O) (zF Z an ZM Z zC) (ZB Z Z Z (wT Z O) (af.ldB (j:=2) Z Z Z zJ (v:=jV ax.Hi) Z) Z (rU Z (wT Z O) (zW Z Z Z) (oR Z (zT Z (ZZ O.out) Z) (eN (ifc dK ?_ ?_))))))))))))))
 intro bA dL
 refine cT Z bA (rR (wEL (.fx 4 .nil .stop)) Z (oR Z (zF Z ab ZM Z zC) (oL Z (af.ldB (j:=1) Z Z Z zJ (v:=jV ag) Z) (oR Z (zX Z Z Z) (oR Z (zF Z ab ZM Z zC) (zh (j:=1) (vs:=[jV (w64 (ag + 1))]) Z Z Z Z af Z Z Z Z zC (zA Z) Z Z Z ?_))))))
 intro ct dg
 have dh:sW w U ah [.blk br 76 B4,.blk ai 76 [jV au,jV (w64 (ag + 1))],.blk ae 76 B1,B2] ct:=dg
 refine zg (zf (zG (rR fL2 Z (oR Z (zr (zX Z ao Z) (congrArg (jV) bm.out)) (oM Z Z (zg ?_))))))
 cases dL
 exact zG ⟨rfl,⟨ah,rfl,be,bf,aj,an,ab,bg,bh,bi,ay,az,aZ,(dh.pick [1,2,3] _ (by decide) rfl)⟩⟩
 intro bA dM
 refine cF Z bA (ZT (zf (zG (rR fL2 Z (oR Z (zr (zX Z ao Z) (congrArg (jV) bm.out)) (oM Z Z (zg ?_)))))))
 cases dM
 exact zG ⟨rfl,⟨ah,rfl,be,bf,aj,an,ab,bg,bh,bi,ay,az,aZ,(af.pick [1,2,3] _ (by decide) rfl)⟩⟩
 rintro eJ d7 ⟨bw,cQ,cG,cH,er,eu,cI,cJ,cK,cL,ew,cM,dV,bV⟩
 have cC:Hid (¬ ((↑(((↑p0.length:Int):Int) - 0).toNat:Int) < (↑p0.length:Int))):=zH (wAc)
 refine sR fL1 Z (oR Z (zW Z cQ cM) (eN (zI (cF Z cC (ZJ (zd (zd (ZG (zG (rR (.fl 0 (.fl 1 (.fx 2 gCb .stop))) Z (oM Z cH ?_)))))))))))
 let B5:List Value:=[jV bt,jV bu]
 refine oL Z (bV.ldBA (j:=0) Z Z cI yF ZK (vs:=B5) Z Z) (zb (pv:=[(0,.agg B5.toArray)]) (zs:=B0) (cs:=B5) Z Z Z Z Z (wAA Z wAI) ZQ ZK ZY Z Z Z Z Z bV ?_)
 intro cu cA di
 let B6:Res:=.row (some ⟨cA,0,none⟩) 1 76 2 (hD wAH [(⟨bt,bu⟩:wAD)])
 have bW:sW w U bw [B6,.blk ai 76 B5,.blk ae 76 B1,B2] cu:=di
 refine bnK cc fun ci cU dO=>Zr (j:=3) (enc:=wAH) (xs:=aY) (ys:=[(⟨bt,bu⟩:wAD)]) (zs:=ci) rfl rfl rfl rfl rfl Tryz.underlying80 wOO rfl rfl rfl rfl rfl rfl bW rfl rfl rfl (bW.srcR (j:=0) rfl (by decide) (wAB (f:=wAH) (sz:=2) (fun _=>rfl) [(⟨bt,bu⟩:wAD)])) (fun _=>rfl) (fun _=>rfl) cU rfl ?_
 intro bH bL cw dl
 have dm:sW w U bw [B6,.blk ai 76 B5,.blk ae 76 B1,.row bH bL 76 2 (hD wAH ci)] cw:=dl
 refine oA Z Z (zg (zf (zG (rR fL2 Z (oR Z (zr (zX Z cL Z) (congrArg (jV) dD.out)) (oM Z Z (zg ?_)))))))
 cases dO
 exact zG ⟨rfl,⟨bw,bH,bL,rfl,cG,rfl,cJ,cK,(cg.trans dV),(dm.pick [3] _ (by decide) rfl)⟩⟩
 rintro eK d8 ⟨cn,cj,cD,cR,ey,cN,ez,cO,eA,dn⟩
 have cE:Hid (¬ ((↑(((↑p0.length:Int):Int) - 0).toNat:Int) < (↑p0.length:Int))):=zH (wAc)
 refine sR fL1 Z (oR Z (zW Z cR cO) (eN (zI (cF Z cE (ZJ (zd (zd (ZG (zG (sR fL3 Z (oM Z cN (oA Z Z (oA Z Z (eN (zP ?_)))))))))))))))
 cases dQ
 exact ⟨Z,_,(wEr Z Z),cn,_,dn,cj,cD,Z,Z⟩
 intro bB dP
 refine zy (nF (bB.out)) (sR fL2 Z (oA Z Z (oA Z Z (eN (zP (zc (zR ?_)))))))
 have dp:=bU.nilrow 76 2
 cases dP
 exact ⟨Z,_,(wEr Z Z),bp,_,dp,none,0,Z,Z⟩
theorem wFl (O:List wAD) (an:Option Addr) (ap:Nat) (p1:List wAD) (ao:Option Addr) (aq:Nat) (w:World) (U:PHeap) (hS:St0 w U []) (bu:Sl U 2 an ap O.length (hD wAH O)) (bv:Sl U 2 ao aq p1.length (hD wAH p1)) {r:Bool} (hm:wCn O p1=some r):Gv Tryz.prog 48 [.slice an O.length ap,.slice ao p1.length aq] w (wBD w [] U (fun U_ L_ v=>v=.bool r/\L_=[])):=by
 unfold wCn at hm
 refine Gv.of Tryz.func48 Z Tryz.ntmps48 Tryz.results48 Z (sR fL1 Z (oA Z Z (eN (zI (sR fL5 Z (oM Z Z (oR Z (ze Z Z ZQ) (oM Z Z (oR Z (ze Z Z ZQ) (oR Z (ZX Z Z Z) (eN ?_)))))))))))
 by_cases c1:(↑O.length:Int)=(↑p1.length:Int)
 have af:=hm;rw [if_pos c1] at af;replace c1:=zH c1
 refine zn (zt (fun h=>h c1.out)) (kN (zI (sR fL3 Z (oM Z Z (oR Z (ze Z Z ZQ) (oM Z Z (eN (zU ?_))))))))
 have q:=wBJ af
 obtain ⟨r5,ai⟩:=q
 have q:=wBI ai
 obtain ⟨ak,bz⟩:=q
 replace ak:=zH ak
 refine yB (fun k4 _ σ_ w_=>∃ (U_:PHeap),σ_ 13=jV (↑k4:Int)/\σ_ 0=.slice an O.length ap/\σ_ 1=.slice ao p1.length aq/\σ_ 12=jV (↑O.length:Int)/\PHeap.Le U U_/\sW w U U_ [] w_) bz ?_ ?_ ?_
 exact ⟨U,Z,Z,Z,Z,(zL _),hS⟩
 rintro k4 ⟨⟩ bR bT ax aj ⟨aw,ah,az,aY,aZ,am,bs⟩ bd bw
 try dsimp only at bd
 have ay:Hid ((↑k4:Int) < (↑O.length:Int)):=zH (wAj aj)
 replace aj:=zH aj
 have bA:Hid (w64 ((↑k4:Int) + 1)=(↑(k4 + 1):Int)):=zH (by have h1:=ak.out;have h2:=ay.out;rw [wAX] <;> omega)
 refine sR fL1 rfl (zY rfl rfl rfl rfl (fun _=>zW rfl ah aZ) (eN (zI (cT Z ay (kN (zI (zU (sR fL2 rfl (zj rfl rfl rfl rfl rfl ah (yU rfl rfl rfl rfl rfl rfl (eN (zI (ZN ZD [3,3,3,1,3,3,3,1,3] fL9 (by kernel_rfl) ?_)))))))))))))
 have ac:=bs.drew
 generalize hw_W25:({ ax with drawn:=ax.drawn + 1 }:World)=bH at ac ⊢
 refine oM Z az (oM Z Z (bnK bd fun au a7 bB=>?_))
 have bj:=bu.le am
 have q:=bj.el (fun _=>rfl) (wAV a7)
 obtain ⟨bJ,bO,bn,bq⟩:=q
 refine oR Z (ZE Z Z bn Z ZQ ZK (wAq a7)) (oL Z (ac.ldCA (f:=0) bq Z Z yF ZK (us:=[jV au.Lo,jV au.Hi]) Z Z) (oM Z aY (oM Z Z (bnK bB fun av a8 bC=>?_))))
 have bm:=bv.le am
 have q:=bm.el (fun _=>rfl) (wAV a8)
 obtain ⟨bK,bP,bp,br⟩:=q
 refine oR Z (ZE Z Z bp Z ZQ ZK (wAq a8)) (oL Z (ac.ldCA (f:=0) br Z Z yF ZK (us:=[jV av.Lo,jV av.Hi]) Z Z) (oR Z (zr (Runs.neS (enc:=wAH) (a:=au) (b:=av) Z Z Z wQb wQa) (congrArg nB (decide_not).symm)) (eN (ifc bC ?_ ?_))))
 intro ag bD
 refine zn (zt (fun h=>h ag.out)) (ZT (zf (zG (rR fL2 Z (oR Z (zr (zX Z ah Z) (congrArg (jV) bA.out)) (oM Z Z (zg ?_)))))))
 have q:=nA bD
 obtain rfl:=q
 exact zG ⟨Z,_,Z,⟨aw,Z,az,aY,aZ,am,ac⟩⟩
 intro ag bE
 refine cT Z ag (sR fL1 Z (oA Z Z (eN (zP (zc (zR ?_))))))
 have q:=wAb bE
 obtain ⟨bG,bF,bg⟩:=q
 have q:=wBC af ai (bw bG bg)
 obtain rfl:=q
 refine zR (zc (zR ?_))
 have hE:=nA bF;first | subst r | cases hE
 exact ⟨Z,_,(zz Z),aw,_,ac,Z,Z⟩
 rintro ⟨⟩ bS bI ⟨be,bi,bL,bM,bh,bN,bt⟩ bx
 have ba:=wCI af ai bx
 try dsimp only at ba
 have bf:Hid (¬ ((↑(((↑O.length:Int):Int) - 0).toNat:Int) < (↑O.length:Int))):=zH (wAc)
 refine sR fL1 Z (oR Z (zW Z bi bh) (eN (zI (cF Z bf (ZJ (zd (zd (ZG (zG (sR fL1 Z (oA Z Z (eN (zP ?_)))))))))))))
 have hE:=nA ba;first | subst r | cases hE
 exact ⟨Z,_,(zz Z),be,_,bt,Z,Z⟩
 have bb:=hm;rw [if_neg c1] at bb;replace c1:=zH c1
 refine cT Z c1 (sR fL1 Z (oA Z Z (eN (zP (zR ?_)))))
 have hE:=nA bb;first | subst r | cases hE
 exact ⟨Z,_,(zz Z),U,_,hS,Z,Z⟩
theorem wFV  (w:World) (U:PHeap) (hS:St0 w U [])  {r:Bool} (hm:wBU =some r):Gv Tryz.prog 12 [] w (wBD w [] U (fun U_ L_ v=>v=.bool r/\L_=[])):=by
 unfold wBU at hm
 refine Gv.of Tryz.func12 Z Tryz.ntmps12 Tryz.results12 Z (sR fL1 Z (oA Z Z (eN (sR (.fx 0 (.fl 1 (.fl 2 (.fx 3 (wSH gCl) .stop))) .stop) Z (bnK hm fun x1 h2 va=>zM 0 Z Z Z Z (zK Z Z Tryz.call36 zO Z) hS (fun hs=>wEE w U hs h2) (.inr Z) ?_)))))
 rintro U4 L5 v6 W7 z6 t7 ⟨jc,lB,lC,rfl,rfl,mJ⟩
 have rk:sW w U U4 [.row jc lB 47 1 lC] W7:=t7
 have q:=rk.freezeRR (R:=wHL) (k:=0) rfl mJ rfl (by decide)
 obtain ⟨dv,xU,vP,rz⟩:=q
 have il:sW w U dv [] W7:=rz
 refine bnK va fun eH ie uV=>?_
 have q:=vP.el (wAV ie)
 obtain ⟨lx,wY,AG,qj,dX,vx⟩:=q
 obtain ⟨eD,eF,rfl,n9⟩:=vx
 replace dX:Cl dv lx (wY + 0 * 1) [.slice eD eH.length eF]:=dX
 refine oR Z (ZE Z Z qj Z Zo yM (wAq ie)) (oL Z (il.ldC (f:=0) dX (v:=.slice eD eH.length eF) Z Z YT Z) ?_)
 have q:=bnd uV
 obtain ⟨⟨bw,iZ⟩,od,iC⟩:=q
 try dsimp only at iC
 refine zM 0 Z Z Z Z (zK Z Z Tryz.call11 (zD Z zO) Z) il (fun hs=>wFK eH eD eF W7 dv hs n9 od) (.inr Z) ?_
 rintro dy xn Ao k5 xW so ⟨rfl,rfl⟩
 have sv:sW w U dy [] k5:=so
 refine oM Z Z (oR Z (zi Z Z (v:=.agg #[jV bw.Spares,jV bw.Loops,jV bw.Unused]) Z) (oR Z (zi Z Z (v:=jV iZ) Z) ?_))
 let B0:List Value:=[jV 0,jV 0,jV 0]
 refine zm (cs:=B0) Z Z Z Z Z yH Z sv ?_
 intro xH aa sG
 let O:List Value:=[jV bw.Spares,jV bw.Loops,jV bw.Unused]
 refine zh (j:=0) (vs:=O) Z Z Z Z sG Z Z Z Z Zx (zA Z) Z Z Z ?_
 intro gj sN
 have sO:sW w U dy [.blk aa 49 O] gj:=sN
 refine oA Z Z (eN (sR (.fx 0 (.fl 1 (.fl 2 (.fx 3 (wSH gCl) .stop))) .stop) Z (bnK iC fun AO oD vt=>zM 0 Z Z Z Z (zK Z Z Tryz.call36 zO Z) sO (fun hs=>wEE gj dy hs oD) (.inr Z) ?_)))
 rintro jD xt As dH xZ sP ⟨je,lH,lI,rfl,rfl,oE⟩
 have sQ:sW w U jD [.row je lH 47 1 lI,.blk aa 49 O] dH:=sP
 have q:=sQ.freezeRR (R:=wHL) (k:=0) rfl oE rfl (by decide)
 obtain ⟨dA,x8,wd,s3⟩:=q
 have ir:sW w U dA [.blk aa 49 O] dH:=s3
 refine bnK vt fun eM ij vv=>?_
 have q:=wd.el (wAV ij)
 obtain ⟨lz,wZ,AH,qk,dY,vz⟩:=q
 obtain ⟨eE,eG,rfl,pn⟩:=vz
 replace dY:Cl dA lz (wZ + 3 * 1) [.slice eE eM.length eG]:=dY
 refine oR Z (ZE Z Z qk Z Zo yM (wAq ij)) (oL Z (ir.ldC (f:=0) dY (v:=.slice eE eM.length eG) Z Z YT Z) ?_)
 have q:=bnd vv
 obtain ⟨⟨bz,w7⟩,pH,iG⟩:=q
 try dsimp only at iG
 refine zM 0 Z Z Z Z (zK Z Z Tryz.call11 (zD Z zO) Z) ir (fun hs=>wFK eM eE eG dH dA hs pn pH) (.inr Z) ?_
 rintro dB xB AB lm z7 ub ⟨rfl,rfl⟩
 have ue:sW w U dB [.blk aa 49 O] lm:=ub
 refine oM Z Z (oR Z (zi Z Z (v:=.agg #[jV bz.Spares,jV bz.Loops,jV bz.Unused]) Z) (oR Z (zi Z Z (v:=jV w7) Z) (zm (cs:=B0) Z Z Z Z Z yH Z ue ?_)))
 intro xI ac uo
 let B2:List Value:=[jV bz.Spares,jV bz.Loops,jV bz.Unused]
 refine zh (j:=0) (vs:=B2) Z Z Z Z uo Z Z Z Z Zx (zA Z) Z Z Z ?_
 intro gv uv
 have qm:sW w U dB [.blk ac 49 B2,.blk aa 49 O] gv:=uv
 refine oA Z Z (eN (sR (.fx 0 (.fx 1 (wIK (.nil)) .stop) .stop) Z (bnK iG fun cW ma uz=>zM 0 Z Z Z Z (zK Z Z Tryz.call38 zO Z) qm (fun hs=>wDk gv dB hs ma) (.inr Z) ?_)))
 rintro ji w9 Aa cC xK qD ⟨eR,gP,da,dN,gQ,rfl,rfl,mB⟩
 have qU:sW w U ji [.row eR gP 3 1 (hD KL.encI cW.Rules.Classes),.row da dN 43 3 gQ,.blk ac 49 B2,.blk aa 49 O] cC:=qD
 have q:=qU.freezeR (k:=0) (n:=cW.Rules.Classes.length) rfl (wAB (f:=KL.encI) (sz:=1) (fun _=>rfl) cW.Rules.Classes) (by decide)
 obtain ⟨jo,wI,vL,rc⟩:=q
 have re:sW w U jo [.row da dN 43 3 gQ,.blk ac 49 B2,.blk aa 49 O] cC:=rc
 have mG:=mB.le wI
 have q:=re.freezeRR (R:=wHM) (k:=0) rfl mG rfl (by decide)
 obtain ⟨fD,wK,vM,rf⟩:=q
 have rh:sW w U fD [.blk ac 49 B2,.blk aa 49 O] cC:=rf
 have mH:=vL.le wK
 have q:=bnd uz
 obtain ⟨⟨iY,w0⟩,mI,iy⟩:=q
 try dsimp only at iy
 refine zM 0 Z Z Z Z (zK Z Z Tryz.call37 (zD Z zO) Z) rh (fun hs=>wHz cW eR gP da dN cC fD hs mH vM mI) (.inr Z) ?_
 rintro fE xf Ag gg xT ri ⟨db,dO,lD,rfl,rfl,mK⟩
 let B3:Res:=.row db dO 23 1 lD
 have rj:sW w U fE [B3,.blk ac 49 B2,.blk aa 49 O] gg:=ri
 refine oM Z Z (oR Z (zi Z Z (v:=.slice db iY.length dO) Z) (oR Z (zi Z Z (v:=jV w0) Z) (oA Z Z (oA Z Z (eN (sR (.fx 0 (.fx 1 (wIK (.nil)) .stop) .stop) Z (bnK iy fun cY mL uT=>zM 0 Z Z Z Z (zK Z Z Tryz.call38 zO Z) rj (fun hs=>wDk gg fE hs mL) (.inr Z) ?_)))))))
 rintro jq xg Ah cH wL rn ⟨eS,gR,dd,dP,gS,rfl,rfl,mM⟩
 have ro:sW w U jq [.row eS gR 3 1 (hD KL.encI cY.Rules.Classes),.row dd dP 43 3 gS,B3,.blk ac 49 B2,.blk aa 49 O] cH:=rn
 have q:=ro.freezeR (k:=0) (n:=cY.Rules.Classes.length) rfl (wAB (f:=KL.encI) (sz:=1) (fun _=>rfl) cY.Rules.Classes) (by decide)
 obtain ⟨jr,iK,vN,rp⟩:=q
 have rq:sW w U jr [.row dd dP 43 3 gS,B3,.blk ac 49 B2,.blk aa 49 O] cH:=rp
 have mN:=mM.le iK
 have q:=rq.freezeRR (R:=wHM) (k:=0) rfl mN rfl (by decide)
 obtain ⟨fG,iL,vO,rv⟩:=q
 have rx:sW w U fG [B3,.blk ac 49 B2,.blk aa 49 O] cH:=rv
 have mO:=vN.le iL
 have q:=bnd uT
 obtain ⟨⟨cq,w5⟩,mP,iz⟩:=q
 try dsimp only at iz
 refine zM 0 Z Z Z Z (zK Z Z Tryz.call14 (zD Z zO) Z) rx (fun hs=>wJO cY eS gR dd dP cH fG hs mO vO mP) (.inr Z) ?_
 rintro fH xh Ai gh wM ry ⟨de,dQ,rfl,rfl⟩
 let B4:Res:=.row de dQ 70 3 (hD wAJ cq)
 have rA:sW w U fH [B4,B3,.blk ac 49 B2,.blk aa 49 O] gh:=ry
 refine oM Z Z (oR Z (zi Z Z (v:=.slice de cq.length dQ) Z) (oR Z (zi Z Z (v:=jV w5) Z) (oA Z Z (oA Z Z (eN (sR (.fx 0 (.fx 1 (wIK (.nil)) .stop) .stop) Z (bnK iz fun cZ mQ uU=>zM 0 Z Z Z Z (zK Z Z Tryz.call38 zO Z) rA (fun hs=>wDk gh fH hs mQ) (.inr Z) ?_)))))))
 rintro jt xi Aj cI wN rB ⟨eT,gT,df,dR,gU,rfl,rfl,mS⟩
 have rC:sW w U jt [.row eT gT 3 1 (hD KL.encI cZ.Rules.Classes),.row df dR 43 3 gU,B4,B3,.blk ac 49 B2,.blk aa 49 O] cI:=rB
 have q:=rC.freezeR (k:=0) (n:=cZ.Rules.Classes.length) rfl (wAB (f:=KL.encI) (sz:=1) (fun _=>rfl) cZ.Rules.Classes) (by decide)
 obtain ⟨ju,iM,vQ,rD⟩:=q
 have rE:sW w U ju [.row df dR 43 3 gU,B4,B3,.blk ac 49 B2,.blk aa 49 O] cI:=rD
 have mT:=mS.le iM
 have q:=rE.freezeRR (R:=wHM) (k:=0) rfl mT rfl (by decide)
 obtain ⟨fI,iN,vR,rF⟩:=q
 have rG:sW w U fI [B4,B3,.blk ac 49 B2,.blk aa 49 O] cI:=rF
 have mU:=vQ.le iN
 have q:=bnd uU
 obtain ⟨⟨eI,w6⟩,mV,iA⟩:=q
 try dsimp only at iA
 refine zM 0 Z Z Z Z (zK Z Z Tryz.call39 (zD Z zO) Z) rG (fun hs=>wJr cZ eT gT df dR cI fI hs mU vR mV) (.inr Z) ?_
 rintro jv xj Ak gi wO rH ⟨dg,dS,ig,rfl,rfl⟩
 have rI:sW w U jv [.row dg dS 23 1 (hD wHU ig),inn 3 1 KL.encI ig eI,B4,B3,.blk ac 49 B2,.blk aa 49 O] gi:=rH
 have q:=St.freezeN (R:=wDl) rI (fun _ _ _ _ h=>⟨_,_,rfl,h⟩) (fun _=>rfl) (by decide) rfl
 obtain ⟨aw,wP,vS,rJ⟩:=q
 have aZ:sW w U aw [B4,B3,.blk ac 49 B2,.blk aa 49 O] gi:=rJ
 refine oM Z Z (oR Z (zi Z Z (v:=.slice dg eI.length dS) Z) (oR Z (zi Z Z (v:=jV w6) Z) (oA Z Z (oA Z Z (eN (zI (bnK iA fun ly iH uW=>yd (fun σ_ w_=>∃ (U_:PHeap),σ_ 95=.bool ly/\PHeap.Le aw U_/\sW w U U_ [.blk ac 49 B2,.blk aa 49 O] w_) ?_ ?_)))))))
 refine rR (wSD (.fx 30 (.fx 31 (.fx 32 (.fx 33 (wRK (.fx 40 (.fx 41 (wRL (.fx 46 (.fx 47 (.fl 48 (.fl 49 .nil)) .stop) .stop)) .stop) .stop)) .stop) .stop) .stop) .stop)) Z (oM Z Z (oR Z (ZX Z Z Z) (oM Z Z ?_)))
 by_cases au:iZ=0
 have iB:=iH;rw [if_pos au] at iB;replace au:=zH au
 refine zj Z Z Z (zN Z Z (zt (fun h=>h au.out))) Z Z (zY Z Z Z (zN Z Z (zt (fun h=>h au.out))) (fun _=>ZX Z Z Z) (oR Z (za Z (zt (fun h=>h au.out)) Z) (oM Z Z (ifc iB ?_ ?_))))
 intro br uX
 refine zj Z Z Z (zN Z Z (zt (fun h=>h br.out))) Z Z (zY Z Z Z (zN Z Z (zt (fun h=>h br.out))) (fun _=>ZX Z Z Z) (oR Z (za Z (zt (fun h=>h br.out)) Z) (oM Z Z (ifc uX ?_ ?_))))
 intro bs uY
 refine zj Z Z Z (zN Z Z (zt (fun h=>h bs.out))) Z Z (zY Z Z Z (zN Z Z (zt (fun h=>h bs.out))) (fun _=>ZX Z Z Z) (oR Z (za Z (zt (fun h=>h bs.out)) Z) (oM Z Z (ifc uY ?_ ?_))))
 intro bt uZ
 refine zj Z Z Z (zN Z Z (zt (fun h=>h bt.out))) Z Z (zY Z Z Z (zN Z Z (zt (fun h=>h bt.out))) (fun _=>ZX Z Z Z) (oR Z (za Z (zt (fun h=>h bt.out)) Z) (oM Z Z (ifc uZ ?_ ?_))))
 intro bb u0
 refine ZB Z Z Z (zN Z Z (zt (fun h=>h bb.out))) (aZ.ldBA (j:=3) Z Z Z YK Zx (vs:=O) Z Z) Z (zY Z Z Z (zN Z Z (zt (fun h=>h bb.out))) (fun _=>zx (pv:=[(0,jV 1)]) (z:=B0) (cs:=[jV 1,jV 0,jV 0]) Z (wAA Z wAI) yH wGz Z Z) (zY Z Z Z (zN Z Z (zt (fun h=>h bb.out))) (fun _=>zr (Runs.neS (enc:=wBe) (a:=bw) (b:=(⟨1,0,0⟩:wAi)) Z Z Z wQZ wQY) (congrArg nB (decide_not).symm)) (oR Z (za Z (zt (fun h=>h bb.out)) Z) (oM Z Z (ifc u0 ?_ ?_)))))
 intro bd u7
 refine ZB Z Z Z (zN Z Z (zt (fun h=>h bd.out))) (aZ.ldBA (j:=2) Z Z Z YK Zx (vs:=B2) Z Z) Z (zY Z Z Z (zN Z Z (zt (fun h=>h bd.out))) (fun _=>zx (pv:=[(1,jV 1),(2,jV 3)]) (z:=B0) (cs:=[jV 0,jV 1,jV 3]) Z (wAA Z (wAA Z wAI)) yH wGz Z Z) (zY Z Z Z (zN Z Z (zt (fun h=>h bd.out))) (fun _=>zr (Runs.neS (enc:=wBe) (a:=bz) (b:=(⟨0,1,3⟩:wAi)) Z Z Z wQZ wQY) (congrArg nB (decide_not).symm)) (oR Z (za Z (zt (fun h=>h bd.out)) Z) (oM Z Z (ifc u7 ?_ ?_)))))
 intro ap u9
 refine zj Z Z Z (zN Z Z (zt (fun h=>h ap.out))) Z Z (zb (pv:=[(0,jV 2200),(1,jV 4600)]) (zs:=[jV 0,jV 0]) (cs:=[jV 2200,jV 4600]) Z Z Z (zN Z Z (zt (fun h=>h ap.out))) Z (wAA Z (wAA Z wAI)) zB zC zw Z Z Z Z Z aZ ?_)
 intro j6 bU rK
 let B5:Res:=.row (some ⟨bU,0,none⟩) 2 3 1 (hD KL.encI [2200,4600])
 have rL:sW w U aw [B5,B4,B3,.blk ac 49 B2,.blk aa 49 O] j6:=rK
 refine zb (pv:=[(0,jV 2150),(1,jV 4800)]) (zs:=[jV 0,jV 0]) (cs:=[jV 2150,jV 4800]) Z Z Z (zN Z Z (zt (fun h=>h ap.out))) Z (wAA Z (wAA Z wAI)) zB zC zw Z Z Z Z Z rL ?_
 intro dD bV rM
 let B6:Res:=.row (some ⟨bV,0,none⟩) 2 3 1 (hD KL.encI [2150,4800])
 have rN:sW w U aw [B6,B5,B4,B3,.blk ac 49 B2,.blk aa 49 O] dD:=rM
 have q:=rN.freezeR (k:=1) (n:=[2200,4600].length) rfl (wAB (f:=KL.encI) (sz:=1) (fun _=>rfl) [2200,4600]) (by decide)
 obtain ⟨jw,cd,vT,rP⟩:=q
 have rQ:sW w U jw [B6,B4,B3,.blk ac 49 B2,.blk aa 49 O] dD:=rP
 have q:=rQ.freezeR (k:=0) (n:=[2150,4800].length) rfl (wAB (f:=KL.encI) (sz:=1) (fun _=>rfl) [2150,4800]) (by decide)
 obtain ⟨dw,bK,vU,rS⟩:=q
 have rT:sW w U dw [B4,B3,.blk ac 49 B2,.blk aa 49 O] dD:=rS
 let B7:List Value:=[.slice (some ⟨bU,0,none⟩) 2 2,.slice (some ⟨bV,0,none⟩) 2 2]
 refine zb (pv:=[(0,.slice (some ⟨bU,0,none⟩) 2 2),(1,.slice (some ⟨bV,0,none⟩) 2 2)]) (zs:=[.slice none 0 0,.slice none 0 0]) (cs:=B7) Z Z Z (zN Z Z (zt (fun h=>h ap.out))) Z (wAA Z (wAA Z wAI)) zu zS YQ Z Z Z Z Z rT ?_
 intro cJ gA rO
 have mW:=vT.le bK
 have vw:RlL dw wDl [[2200,4600],[2150,4800]] B7:=(RlL.cons (R:=wDl) (x:=[2200,4600]) (vs:=[.slice (some ⟨bU,0,none⟩) 2 2]) ⟨(some ⟨bU,0,none⟩),2,rfl,mW⟩ (RlL.cons (R:=wDl) (x:=[2150,4800]) (vs:=[.slice (some ⟨bV,0,none⟩) 2 2]) ⟨(some ⟨bV,0,none⟩),2,rfl,vU⟩ RlL.nil))
 let B8:Res:=.row (some ⟨gA,0,none⟩) 2 23 1 B7
 have rV:sW w U dw [B8,B4,B3,.blk ac 49 B2,.blk aa 49 O] cJ:=rO
 have mX:=mK.le wL
 have mY:=mX.le iK
 have mZ:=mY.le iL
 have m4:=mZ.le wM
 have m5:=m4.le wN
 have m6:=m5.le iM
 have m7:=m6.le iN
 have m8:=m7.le wO
 have m9:=m8.le wP
 have n3:=m9.le cd
 have n4:=n3.le bK
 have q:=rV.freezeRR (R:=wDl) (k:=2) rfl n4 rfl (by decide)
 obtain ⟨jx,cg,vV,rW⟩:=q
 have rX:sW w U jx [B8,B4,.blk ac 49 B2,.blk aa 49 O] cJ:=rW
 have n5:=vw.le cg
 have q:=rX.freezeRR (R:=wDl) (k:=0) rfl n5 rfl (by decide)
 obtain ⟨fJ,ci,vW,rY⟩:=q
 have rZ:sW w U fJ [B4,.blk ac 49 B2,.blk aa 49 O] cJ:=rY
 have n7:=vV.le ci
 refine bnK u9 fun AL n8 vb=>zM 0 Z Z Z (zN Z Z (zt (fun h=>h ap.out))) (zK Z Z Tryz.call40 (zD Z (zD Z zO)) Z) rZ (fun hs=>wEJ iY db dO [[2200,4600],[2150,4800]] (some ⟨gA,0,none⟩) 2 cJ fJ hs n7 vW n8) (.inr Z) ?_
 rintro dx xk Al j7 cN r6 ⟨rfl,rfl⟩
 have im:sW w U dx [B4,.blk ac 49 B2,.blk aa 49 O] j7:=r6
 refine zY Z Z Z (zN Z Z (zt (fun h=>h ap.out))) (fun _=>ZF Z Z) (oR Z (za Z (zt (fun h=>h ap.out)) Z) (oM Z Z (ifc vb ?_ ?_)))
 intro aq vc
 refine zj Z Z Z (zN Z Z (nC aq.out)) Z Z ?_
 let B9:List Value:=[jV 7,jV 1,jV 4600]
 refine zY Z Z Z (zN Z Z (nC aq.out)) (fun _=>zx (pv:=[(0,jV 7),(1,jV 1),(2,jV 4600)]) (z:=B0) (cs:=B9) Z (wAA Z (wAA Z (wAA Z wAI))) yo wHt Z Z) ?_
 let e9:List Value:=[jV 3,jV 2,jV 8400]
 refine zY Z Z Z (zN Z Z (nC aq.out)) (fun _=>zx (pv:=[(0,jV 3),(1,jV 2),(2,jV 8400)]) (z:=B0) (cs:=e9) Z (wAA Z (wAA Z (wAA Z wAI))) yo wHt Z Z) (zb (pv:=[(0,.agg B9.toArray),(1,.agg e9.toArray)]) (zs:=[jV 0,jV 0,jV 0,jV 0,jV 0,jV 0]) (cs:=[jV 7,jV 1,jV 4600,jV 3,jV 2,jV 8400]) Z Z Z (zN Z Z (nC aq.out)) Z (wAA Z (wAA Z wAI)) Zs yX yo Z Z Z Z Z im ?_)
 intro cK gB r7
 let fb:Res:=.row (some ⟨gB,0,none⟩) 2 70 3 (hD wAJ [(⟨7,1,4600⟩:wAE),(⟨3,2,8400⟩:wAE)])
 have r8:sW w U dx [fb,B4,.blk ac 49 B2,.blk aa 49 O] cK:=r7
 have q:=r8.freezeR (k:=1) (n:=cq.length) rfl (wAB (f:=wAJ) (sz:=3) (fun _=>rfl) cq) (by decide)
 obtain ⟨jy,eh,vX,r9⟩:=q
 have sa:sW w U jy [fb,.blk ac 49 B2,.blk aa 49 O] cK:=r9
 have q:=sa.freezeR (k:=0) (n:=[(⟨7,1,4600⟩:wAE),(⟨3,2,8400⟩:wAE)].length) rfl (wAB (f:=wAJ) (sz:=3) (fun _=>rfl) [(⟨7,1,4600⟩:wAE),(⟨3,2,8400⟩:wAE)]) (by decide)
 obtain ⟨fK,cO,vY,sb⟩:=q
 have sc:sW w U fK [.blk ac 49 B2,.blk aa 49 O] cK:=sb
 have oa:=vX.le cO
 refine bnK vc fun AM oc vd=>zM 0 Z Z Z (zN Z Z (nC aq.out)) (zK Z Z Tryz.call41 (zD Z (zD Z zO)) Z) sc (fun hs=>wEu cq de dQ [(⟨7,1,4600⟩:wAE),(⟨3,2,8400⟩:wAE)] (some ⟨gB,0,none⟩) 2 cK fK hs oa vY oc) (.inr Z) ?_
 rintro cA xl Am j8 ej sd ⟨rfl,rfl⟩
 have io:sW w U cA [.blk ac 49 B2,.blk aa 49 O] j8:=sd
 refine zY Z Z Z (zN Z Z (nC aq.out)) (fun _=>ZF Z Z) (oR Z (za Z (nC aq.out) Z) (oM Z Z (ifc vd ?_ ?_)))
 intro ay ve
 refine zj Z Z Z (zN Z Z (nC ay.out)) Z Z ?_
 let ct:List Value:=[.slice none 0 0,.slice none 0 0]
 refine zb (pv:=[(0,.slice none 0 0),(1,.slice none 0 0)]) (zs:=ct) (cs:=ct) Z Z Z (zN Z Z (nC ay.out)) Z (wAA Z (wAA Z wAI)) zu zS YQ Z Z Z Z Z io ?_
 intro dE gC se
 have vy:RlL cA wDl [[],[]] ct:=(RlL.cons (R:=wDl) (x:=[]) (vs:=[.slice none 0 0]) ⟨none,0,rfl,(by first | exact Sl.nil _ _ _ _ | exact SlR.nil)⟩ (RlL.cons (R:=wDl) (x:=[]) (vs:=[.slice none 0 0]) ⟨none,0,rfl,(by first | exact Sl.nil _ _ _ _ | exact SlR.nil)⟩ RlL.nil))
 have sf:sW w U cA [.row (some ⟨gC,0,none⟩) 2 23 1 ct,.blk ac 49 B2,.blk aa 49 O] dE:=se
 have q:=sf.freezeRR (R:=wDl) (k:=0) rfl vy rfl (by decide)
 obtain ⟨fL,iO,vZ,sg⟩:=q
 have sh:sW w U fL [.blk ac 49 B2,.blk aa 49 O] dE:=sg
 have oe:=vS.le cd
 have og:=oe.le bK
 have oh:=og.le cg
 have oi:=oh.le ci
 have oj:=oi.le cN
 have ol:=oj.le eh
 have om:=ol.le cO
 have oo:=om.le ej
 have oq:=oo.le iO
 refine bnK ve fun AN ot vf=>zM 0 Z Z Z (zN Z Z (nC ay.out)) (zK Z Z Tryz.call40 (zD Z (zD Z zO)) Z) sh (fun hs=>wEJ eI dg dS [[],[]] (some ⟨gC,0,none⟩) 2 dE fL hs oq vZ ot) (.inr Z) ?_
 rintro fM xm An j9 wQ sj ⟨rfl,rfl⟩
 have sm:sW w U fM [.blk ac 49 B2,.blk aa 49 O] j9:=sj
 refine zY Z Z Z (zN Z Z (nC ay.out)) (fun _=>ZF Z Z) (oR Z (za Z (nC ay.out) Z) (zg ?_))
 cases vf
 exact zG ⟨Z,⟨fM,Z,(((((((((cd.trans bK).trans cg).trans ci).trans cN).trans eh).trans cO).trans ej).trans iO).trans wQ),sm⟩⟩
 intro ay vg
 refine zk Z Z Z (zQ Z Z (nF (ay.out)) Z) (ZI Z Z Z (zQ Z Z (nF (ay.out)) Z) (ZI Z Z Z (zQ Z Z (nF (ay.out)) Z) (zk Z Z Z (zQ Z Z (nF (ay.out)) Z) (oR Z (zT Z (nF (ay.out)) Z) (zg ?_)))))
 cases vg
 exact zG ⟨Z,⟨cA,Z,(((((((cd.trans bK).trans cg).trans ci).trans cN).trans eh).trans cO).trans ej),io⟩⟩
 intro aq vh
 refine zk Z Z Z (zQ Z Z (nF (aq.out)) Z) (zk Z Z Z (zQ Z Z (nF (aq.out)) Z) (zk Z Z Z (zQ Z Z (nF (aq.out)) Z) (ZI Z Z Z (zQ Z Z (nF (aq.out)) Z) (ZI Z Z Z (zQ Z Z (nF (aq.out)) Z) (zk Z Z Z (zQ Z Z (nF (aq.out)) Z) (oR Z (zT Z (nF (aq.out)) Z) (oM Z Z (oN Z (ZI Z Z Z (zQ Z Z Z Z) (ZI Z Z Z (zQ Z Z Z Z) (oN Z (oR Z (zT Z Z Z) (zg ?_)))))))))))))
 cases vh
 exact zG ⟨rfl,⟨dx,rfl,((((cd.trans bK).trans cg).trans ci).trans cN),(im.pick [1,2] _ (by decide) rfl)⟩⟩
 intro ap vi
 refine oT Z ap (ZI Z Z Z (zQ Z Z (ZZ ap.out) Z) (ZI Z Z Z (zQ Z Z (ZZ ap.out) Z) (ZI Z Z Z (zQ Z Z (ZZ ap.out) Z) (ZI Z Z Z (zQ Z Z (ZZ ap.out) Z) (oT Z ap (oR Z (zT Z (ZZ ap.out) Z) (oM Z Z (oN Z (oN Z (oN Z (ZI Z Z Z (zQ Z Z Z Z) (ZI Z Z Z (zQ Z Z Z Z) (oN Z (oR Z (zT Z Z Z) (oM Z Z (oN Z (ZI Z Z Z (zQ Z Z Z Z) (ZI Z Z Z (zQ Z Z Z Z) (oN Z (oR Z (zT Z Z Z) (zg ?_)))))))))))))))))))))
 cases vi
 exact zG ⟨rfl,⟨aw,rfl,(zL _),(aZ.pick [2,3] _ (by decide) rfl)⟩⟩
 intro bd vj
 refine oT Z bd (oT Z bd (oT Z bd (oR Z (zT Z (ZZ bd.out) Z) (oM Z Z (oN Z (ZI Z Z Z (zQ Z Z Z Z) (ZI Z Z Z (zQ Z Z Z Z) (ZI Z Z Z (zQ Z Z Z Z) (ZI Z Z Z (zQ Z Z Z Z) (oN Z (oR Z (zT Z Z Z) (oM Z Z (oN Z (oN Z (oN Z (ZI Z Z Z (zQ Z Z Z Z) (ZI Z Z Z (zQ Z Z Z Z) (oN Z (oR Z (zT Z Z Z) (oM Z Z (oN Z (ZI Z Z Z (zQ Z Z Z Z) (ZI Z Z Z (zQ Z Z Z Z) (oN Z (oR Z (zT Z Z Z) (zg ?_))))))))))))))))))))))))))
 cases vj
 exact zG ⟨rfl,⟨aw,rfl,(zL _),(aZ.pick [2,3] _ (by decide) rfl)⟩⟩
 intro bb vk
 refine oT Z bb (oT Z bb (oT Z bb (oR Z (zT Z (ZZ bb.out) Z) (oM Z Z (oN Z (oN Z (oN Z (oR Z (zT Z Z Z) (oM Z Z (oN Z (ZI Z Z Z (zQ Z Z Z Z) (ZI Z Z Z (zQ Z Z Z Z) (ZI Z Z Z (zQ Z Z Z Z) (ZI Z Z Z (zQ Z Z Z Z) (oN Z (oR Z (zT Z Z Z) (oM Z Z (oN Z (oN Z (oN Z (ZI Z Z Z (zQ Z Z Z Z) (ZI Z Z Z (zQ Z Z Z Z) (oN Z (oR Z (zT Z Z Z) (oM Z Z (oN Z (ZI Z Z Z (zQ Z Z Z Z) (ZI Z Z Z (zQ Z Z Z Z) (oN Z (oR Z (zT Z Z Z) (zg ?_)))))))))))))))))))))))))))))))
 cases vk
 exact zG ⟨rfl,⟨aw,rfl,(zL _),(aZ.pick [2,3] _ (by decide) rfl)⟩⟩
 intro bt vl
 refine oT Z bt (oT Z bt (oR Z (zT Z (ZZ bt.out) Z) (oM Z Z (oN Z (oN Z (oN Z (oR Z (zT Z Z Z) (oM Z Z (oN Z (oN Z (oN Z (oR Z (zT Z Z Z) (oM Z Z (oN Z (ZI Z Z Z (zQ Z Z Z Z) (ZI Z Z Z (zQ Z Z Z Z) (ZI Z Z Z (zQ Z Z Z Z) (ZI Z Z Z (zQ Z Z Z Z) (oN Z (oR Z (zT Z Z Z) (oM Z Z (oN Z (oN Z (oN Z (ZI Z Z Z (zQ Z Z Z Z) (ZI Z Z Z (zQ Z Z Z Z) (oN Z (oR Z (zT Z Z Z) (oM Z Z (oN Z (ZI Z Z Z (zQ Z Z Z Z) (ZI Z Z Z (zQ Z Z Z Z) (oN Z (oR Z (zT Z Z Z) (zg ?_)))))))))))))))))))))))))))))))))))
 cases vl
 exact zG ⟨rfl,⟨aw,rfl,(zL _),(aZ.pick [2,3] _ (by decide) rfl)⟩⟩
 intro bs vm
 refine oT Z bs (oT Z bs (oR Z (zT Z (ZZ bs.out) Z) (oM Z Z (oN Z (oN Z (oR Z (zT Z Z Z) (oM Z Z (oN Z (oN Z (oN Z (oR Z (zT Z Z Z) (oM Z Z (oN Z (oN Z (oN Z (oR Z (zT Z Z Z) (oM Z Z (oN Z (ZI Z Z Z (zQ Z Z Z Z) (ZI Z Z Z (zQ Z Z Z Z) (ZI Z Z Z (zQ Z Z Z Z) (ZI Z Z Z (zQ Z Z Z Z) (oN Z (oR Z (zT Z Z Z) (oM Z Z (oN Z (oN Z (oN Z (ZI Z Z Z (zQ Z Z Z Z) (ZI Z Z Z (zQ Z Z Z Z) (oN Z (oR Z (zT Z Z Z) (oM Z Z (oN Z (ZI Z Z Z (zQ Z Z Z Z) (ZI Z Z Z (zQ Z Z Z Z) (oN Z (oR Z (zT Z Z Z) (zg ?_)))))))))))))))))))))))))))))))))))))))
 cases vm
 exact zG ⟨rfl,⟨aw,rfl,(zL _),(aZ.pick [2,3] _ (by decide) rfl)⟩⟩
 intro br vn
 refine oT Z br (oT Z br (oR Z (zT Z (ZZ br.out) Z) (oM Z Z (oN Z (oN Z (oR Z (zT Z Z Z) (oM Z Z (oN Z (oN Z (oR Z (zT Z Z Z) (oM Z Z (oN Z (oN Z (oN Z (oR Z (zT Z Z Z) (oM Z Z (oN Z (oN Z (oN Z (oR Z (zT Z Z Z) (oM Z Z (oN Z (ZI Z Z Z (zQ Z Z Z Z) (ZI Z Z Z (zQ Z Z Z Z) (ZI Z Z Z (zQ Z Z Z Z) (ZI Z Z Z (zQ Z Z Z Z) (oN Z (oR Z (zT Z Z Z) (oM Z Z (oN Z (oN Z (oN Z (ZI Z Z Z (zQ Z Z Z Z) (ZI Z Z Z (zQ Z Z Z Z) (oN Z (oR Z (zT Z Z Z) (oM Z Z (oN Z (ZI Z Z Z (zQ Z Z Z Z) (ZI Z Z Z (zQ Z Z Z Z) (oN Z (oR Z (zT Z Z Z) (zg ?_)))))))))))))))))))))))))))))))))))))))))))
 cases vn
 exact zG ⟨rfl,⟨aw,rfl,(zL _),(aZ.pick [2,3] _ (by decide) rfl)⟩⟩
 have iD:=iH;rw [if_neg au] at iD;replace au:=zH au
 refine oT Z au (oT Z au (oR Z (zT Z (ZZ au.out) Z) (oM Z Z (oN Z (oN Z (oR Z (zT Z Z Z) (oM Z Z (oN Z (oN Z (oR Z (zT Z Z Z) (oM Z Z (oN Z (oN Z (oR Z (zT Z Z Z) (oM Z Z (oN Z (oN Z (oN Z (oR Z (zT Z Z Z) (oM Z Z (oN Z (oN Z (oN Z (oR Z (zT Z Z Z) (oM Z Z (oN Z (ZI Z Z Z (zQ Z Z Z Z) (ZI Z Z Z (zQ Z Z Z Z) (ZI Z Z Z (zQ Z Z Z Z) (ZI Z Z Z (zQ Z Z Z Z) (oN Z (oR Z (zT Z Z Z) (oM Z Z (oN Z (oN Z (oN Z (ZI Z Z Z (zQ Z Z Z Z) (ZI Z Z Z (zQ Z Z Z Z) (oN Z (oR Z (zT Z Z Z) (oM Z Z (oN Z (ZI Z Z Z (zQ Z Z Z Z) (ZI Z Z Z (zQ Z Z Z Z) (oN Z (oR Z (zT Z Z Z) (zg ?_)))))))))))))))))))))))))))))))))))))))))))))))
 cases iD
 exact zG ⟨rfl,⟨aw,rfl,(zL _),(aZ.pick [2,3] _ (by decide) rfl)⟩⟩
 rintro AQ k6 ⟨fN,ic,xV,ip⟩
 refine ifc uW ?_ ?_
 intro dT vo
 refine zy (ic.trans (congrArg nB dT.out)) (sR fL1 Z (oA Z Z (eN (zP (zR ?_)))))
 have hE:=nA vo;first | subst r | cases hE
 exact ⟨rfl,_,(zz rfl),fN,_,(ip.pick [] _ (by decide) rfl),rfl,rfl⟩
 intro dT vp
 refine zn (ic.trans (congrArg nB (nD.2 dT.out))) (kN (sR (.fx 0 gCm .stop) Z (bnK vp fun aj ou vq=>zM 0 Z Z Z Z (zK Z Z Tryz.call38 zO Z) ip (fun hs=>wDk k6 fN hs ou) (.inr Z) ?_)))
 rintro dz xo Ap k8 xX sn ⟨az,aY,jd,lE,lF,rfl,rfl,xJ⟩
 let ah:Res:=.row jd lE 43 3 lF
 let dm:Res:=.row az aY 3 1 (hD KL.encI aj.Rules.Classes)
 have sq:sW w U dz [dm,ah,.blk ac 49 B2,.blk aa 49 O] k8:=sn
 let ae:List Value:=[.slice az aj.Rules.Classes.length aY,jV aj.Rules.Each,jV aj.Rules.Laps,jV aj.Rules.Spare,jV aj.Rules.Loop,jV aj.Rules.Unused]
 refine oR Z (Runs.fld Z Z zo Z (wEw yS ZO (vs:=ae) Z)) (zm (cs:=[.slice none 0 0,jV 0,jV 0,jV 0,jV 0,jV 0]) Z Z Z Z Z Tryz.zeroValue25 Z sq ?_)
 intro xG af su
 refine zh (j:=0) (vs:=ae) Z Z Z Z su Z Z Z Z ZO (zA Z) Z Z Z ?_
 intro dF sw
 have sA:sW w U dz [.blk af 25 ae,dm,ah,.blk ac 49 B2,.blk aa 49 O] dF:=sw
 refine eN (zI (ZN ZD [1,2,2,3,3,3,3,3,3,3] (.fl 0 (.fx 1 (.fx 2 (fC3_9 (.nil)) .stop) .stop)) (by kernel_rfl) ?_))
 have d7:=sA.drew
 generalize hw_W434:({ dF with drawn:=dF.drawn + 1 }:World)=k9 at d7 ⊢
 refine oL Z (d7.ldBA (j:=0) Z Z Z yS ZO (vs:=ae) Z Z) (bnK vq fun c6 ov vr=>zM 0 Z Z Z Z (zK Z Z Tryz.call43 zO Z) d7 (fun hs=>wBV k9 dz hs ov) (.inr Z) ?_)
 rintro jA xp Aq bT xY sC ⟨eU,gV,eV,gW,lG,rfl,rfl,ow⟩
 let fc:Res:=.row eU gV 3 1 (hD KL.encI c6.Classes)
 let dn:Res:=.row eV gW 23 1 lG
 have sD:sW w U jA [fc,dn,.blk af 25 ae,dm,ah,.blk ac 49 B2,.blk aa 49 O] bT:=sC
 have q:=sD.freezeR (k:=3) (n:=aj.Rules.Classes.length) rfl (wAB (f:=KL.encI) (sz:=1) (fun _=>rfl) aj.Rules.Classes) (by decide)
 obtain ⟨jB,wR,wa,sE⟩:=q
 have sF:sW w U jB [fc,dn,.blk af 25 ae,ah,.blk ac 49 B2,.blk aa 49 O] bT:=sE
 have q:=sF.freezeR (k:=0) (n:=c6.Classes.length) rfl (wAB (f:=KL.encI) (sz:=1) (fun _=>rfl) c6.Classes) (by decide)
 obtain ⟨jC,iP,wb,sH⟩:=q
 have sI:sW w U jC [dn,.blk af 25 ae,ah,.blk ac 49 B2,.blk aa 49 O] bT:=sH
 have ox:=ow.le wR
 have oy:=ox.le iP
 have q:=sI.freezeRR (R:=wDl) (k:=0) rfl oy rfl (by decide)
 obtain ⟨fO,iQ,wc,sJ⟩:=q
 have sK:sW w U fO [.blk af 25 ae,ah,.blk ac 49 B2,.blk aa 49 O] bT:=sJ
 have oz:=wa.le iP
 have bf:=oz.le iQ
 have oB:=wb.le iQ
 have q:=bnd vr
 obtain ⟨⟨bx,eJ,eK⟩,oC,iE⟩:=q
 try dsimp only at iE
 refine zM 0 Z Z Z Z (zK Z Z Tryz.call42 (zD Z (zD Z zO)) Z) sK (fun hs=>wLI aj.Rules az aY c6 eU gV eV gW bT fO hs bf oB wc oC) (.inr Z) ?_
 rintro ax xq Ar dG bv sL ⟨bO,bW,rfl,rfl⟩
 let ag:Res:=.row bO bW 3 1 (hD KL.encI bx)
 have sM:sW w U ax [ag,.blk af 25 ae,ah,.blk ac 49 B2,.blk aa 49 O] dG:=sL
 refine oM Z Z (oR Z (zi Z Z (v:=.slice bO bx.length bW) Z) (oR Z (zi Z Z (v:=jV eJ) Z) (oR Z (zi Z Z (v:=jV eK) Z) (oA Z Z (oA Z Z (oA Z Z (eN ?_)))))))
 have q:=bnd iE
 obtain ⟨⟨ja,jb⟩,wC,iF⟩:=q
 try dsimp only at iF
 refine yd (fun σ_ w_=>∃ (U_:PHeap),σ_ 2=jV eK/\σ_ 4=jV ja/\σ_ 11=.pointer (some ⟨af,0,none⟩)/\σ_ 12=.slice bO bx.length bW/\σ_ 13=jV eJ/\σ_ 14=jV jb/\PHeap.Le ax U_/\sW w U U_ [.blk af 25 ae,.blk ac 49 B2,.blk aa 49 O,ag] w_) ?_ ?_
 refine bnK wC fun ai bX vu=>?_
 have q:=bnd vu
 obtain ⟨⟨bM,bN⟩,bJ,bu⟩:=q
 try dsimp only at bu
 refine ZN ZD [1,2,2,2,2,3,3,3,3,3] (.fl 0 (.fx 1 (.fx 2 (.fx 3 (.fx 4 (wIh (.nil)) (.stop)) (.stop)) (.fx 3 (.fx 2 (.fx 4 (wIh (.nil)) (.stop)) (.stop)) (.stop))) (.fx 2 (.fx 1 (.fx 3 (.fx 4 (wIh (.nil)) (.stop)) (.stop)) (.fx 3 (.fx 1 (.fx 4 (wIh (.nil)) (.stop)) (.stop)) (.stop))) (.fx 3 (.fx 1 (.fx 2 (.fx 4 (wIh (.nil)) (.stop)) (.stop)) (.fx 2 (.fx 1 (.fx 4 (wIh (.nil)) (.stop)) (.stop)) (.stop))) (.stop))))) (by kernel_rfl) ?_
 have ca:=sM.drew
 generalize hw_W658:({ dG with drawn:=dG.drawn + 1 }:World)=lb at ca ⊢
 refine oL Z (ca.ldBA (j:=1) Z Z Z yS ZO (vs:=ae) Z Z) (yp ?_ ?_)
 refine zM 0 Z Z Z Z (zK Z Z Tryz.call43 zO Z) ca (fun hs=>wBV lb ax hs bX) (.inr Z) ?_
 rintro bS xu Av lc cP sS ⟨dh,dU,di,dV,lJ,rfl,rfl,ii⟩
 let bP:Res:=.row dh dU 3 1 (hD KL.encI ai.Classes)
 let bg:Res:=.row di dV 23 1 lJ
 have iq:sW w U bS [bP,bg,ag,.blk af 25 ae,ah,.blk ac 49 B2,.blk aa 49 O] lc:=sS
 refine yp ?_ ?_
 refine zb (pv:=[(0,jV 2250),(1,jV 2400)]) (zs:=[jV 0,jV 0]) (cs:=[jV 2250,jV 2400]) Z Z Z Z Z (wAA Z (wAA Z wAI)) zB zC zw Z Z Z Z Z iq ?_
 intro lf gD sT
 let cu:Res:=.row (some ⟨gD,0,none⟩) 2 3 1 (hD KL.encI [2250,2400])
 have sU:sW w U bS [cu,bP,bg,ag,.blk af 25 ae,ah,.blk ac 49 B2,.blk aa 49 O] lf:=sT
 refine zb (pv:=[(0,jV 0),(1,jV 0),(2,jV 0)]) (zs:=B0) (cs:=B0) Z Z Z Z Z (wAA Z (wAA Z (wAA Z wAI))) zB zC zw Z Z Z Z Z sU ?_
 intro bD gE sV
 let cw:Res:=.row (some ⟨gE,0,none⟩) 3 3 1 (hD KL.encI [0,0,0])
 have sX:sW w U bS [cw,cu,bP,bg,ag,.blk af 25 ae,ah,.blk ac 49 B2,.blk aa 49 O] bD:=sV
 have q:=sX.freezeR (k:=2) (n:=ai.Classes.length) rfl (wAB (f:=KL.encI) (sz:=1) (fun _=>rfl) ai.Classes) (by decide)
 obtain ⟨jE,eo,we,sY⟩:=q
 have sZ:sW w U jE [cw,cu,bg,ag,.blk af 25 ae,ah,.blk ac 49 B2,.blk aa 49 O] bD:=sY
 have oG:=ii.le eo
 have q:=sZ.freezeRR (R:=wDl) (k:=2) rfl oG rfl (by decide)
 obtain ⟨jF,ep,wg,s4⟩:=q
 have s5:sW w U jF [cw,cu,ag,.blk af 25 ae,ah,.blk ac 49 B2,.blk aa 49 O] bD:=s4
 have q:=s5.freezeR (k:=1) (n:=[2250,2400].length) rfl (wAB (f:=KL.encI) (sz:=1) (fun _=>rfl) [2250,2400]) (by decide)
 obtain ⟨jG,cQ,wh,s6⟩:=q
 have s7:sW w U jG [cw,ag,.blk af 25 ae,ah,.blk ac 49 B2,.blk aa 49 O] bD:=s6
 have q:=s7.freezeR (k:=0) (n:=[0,0,0].length) rfl (wAB (f:=KL.encI) (sz:=1) (fun _=>rfl) [0,0,0]) (by decide)
 obtain ⟨fP,cj,wi,s8⟩:=q
 have s9:sW w U fP [ag,.blk af 25 ae,ah,.blk ac 49 B2,.blk aa 49 O] bD:=s8
 have oH:=bf.le bv
 have oI:=oH.le cP
 have oJ:=oI.le eo
 have oK:=oJ.le ep
 have oO:=oK.le cQ
 have oP:=oO.le cj
 have oQ:=we.le ep
 have oS:=oQ.le cQ
 have oU:=oS.le cj
 have oV:=wg.le cQ
 have oW:=oV.le cj
 have oX:=wh.le cj
 refine zM 0 Z Z Z Z (zK Z Z Tryz.call44 (zD Z (zD Z (zD Z (zD Z zO)))) Z) s9 (fun hs=>wDh aj.Rules az aY ai dh dU di dV [2250,2400] (some ⟨gD,0,none⟩) 2 [0,0,0] (some ⟨gE,0,none⟩) 3 bD fP hs oP oU oW oX wi bJ) (.inr Z) ?_
 rintro fQ xv Aw lh wS ta ⟨rfl,rfl⟩
 have tb:sW w U fQ [ag,.blk af 25 ae,ah,.blk ac 49 B2,.blk aa 49 O] lh:=ta
 refine oM Z Z (oR Z (zi Z Z (v:=jV bM) Z) (oR Z (zi Z Z (v:=jV bN) Z) (oA Z Z (oA Z Z (zg ?_)))))
 cases bu
 exact zG ⟨rfl,⟨fQ,rfl,rfl,rfl,rfl,rfl,rfl,(((((cP.trans eo).trans ep).trans cQ).trans cj).trans wS),(tb.pick [1,3,4,0] _ (by decide) rfl)⟩⟩
 refine zb (pv:=[(0,jV 0),(1,jV 0),(2,jV 0)]) (zs:=B0) (cs:=B0) Z Z Z Z Z (wAA Z (wAA Z (wAA Z wAI))) zB zC zw Z Z Z Z Z iq ?_
 intro li gF tc
 let bQ:Res:=.row (some ⟨gF,0,none⟩) 3 3 1 (hD KL.encI [0,0,0])
 have te:sW w U bS [bQ,bP,bg,ag,.blk af 25 ae,ah,.blk ac 49 B2,.blk aa 49 O] li:=tc
 refine zb (pv:=[(0,jV 2250),(1,jV 2400)]) (zs:=[jV 0,jV 0]) (cs:=[jV 2250,jV 2400]) Z Z Z Z Z (wAA Z (wAA Z wAI)) zB zC zw Z Z Z Z Z te ?_
 intro bE gG tf
 let dp:Res:=.row (some ⟨gG,0,none⟩) 2 3 1 (hD KL.encI [2250,2400])
 have tg:sW w U bS [dp,bQ,bP,bg,ag,.blk af 25 ae,ah,.blk ac 49 B2,.blk aa 49 O] bE:=tf
 have q:=tg.freezeR (k:=2) (n:=ai.Classes.length) rfl (wAB (f:=KL.encI) (sz:=1) (fun _=>rfl) ai.Classes) (by decide)
 obtain ⟨jH,er,wj,th⟩:=q
 have tj:sW w U jH [dp,bQ,bg,ag,.blk af 25 ae,ah,.blk ac 49 B2,.blk aa 49 O] bE:=th
 have oY:=ii.le er
 have q:=tj.freezeRR (R:=wDl) (k:=2) rfl oY rfl (by decide)
 obtain ⟨jI,eu,wk,tp⟩:=q
 have tq:sW w U jI [dp,bQ,ag,.blk af 25 ae,ah,.blk ac 49 B2,.blk aa 49 O] bE:=tp
 have q:=tq.freezeR (k:=0) (n:=[2250,2400].length) rfl (wAB (f:=KL.encI) (sz:=1) (fun _=>rfl) [2250,2400]) (by decide)
 obtain ⟨jJ,cR,wl,tt⟩:=q
 have tu:sW w U jJ [bQ,ag,.blk af 25 ae,ah,.blk ac 49 B2,.blk aa 49 O] bE:=tt
 have q:=tu.freezeR (k:=0) (n:=[0,0,0].length) rfl (wAB (f:=KL.encI) (sz:=1) (fun _=>rfl) [0,0,0]) (by decide)
 obtain ⟨fR,cm,wm,tv⟩:=q
 have tw:sW w U fR [ag,.blk af 25 ae,ah,.blk ac 49 B2,.blk aa 49 O] bE:=tv
 have oZ:=bf.le bv
 have o0:=oZ.le cP
 have o3:=o0.le er
 have o5:=o3.le eu
 have o6:=o5.le cR
 have o7:=o6.le cm
 have o8:=wj.le eu
 have o9:=o8.le cR
 have pd:=o9.le cm
 have pe:=wk.le cR
 have pf:=pe.le cm
 have pg:=wl.le cm
 refine zM 0 Z Z Z Z (zK Z Z Tryz.call44 (zD Z (zD Z (zD Z (zD Z zO)))) Z) tw (fun hs=>wDh aj.Rules az aY ai dh dU di dV [2250,2400] (some ⟨gG,0,none⟩) 2 [0,0,0] (some ⟨gF,0,none⟩) 3 bE fR hs o7 pd pf pg wm bJ) (.inr Z) ?_
 rintro fS xw Ax lj wU tx ⟨rfl,rfl⟩
 have tz:sW w U fS [ag,.blk af 25 ae,ah,.blk ac 49 B2,.blk aa 49 O] lj:=tx
 refine oM Z Z (oR Z (zi Z Z (v:=jV bM) Z) (oR Z (zi Z Z (v:=jV bN) Z) (oA Z Z (oA Z Z (zg ?_)))))
 cases bu
 exact zG ⟨rfl,⟨fS,rfl,rfl,rfl,rfl,rfl,rfl,(((((cP.trans er).trans eu).trans cR).trans cm).trans wU),(tz.pick [1,3,4,0] _ (by decide) rfl)⟩⟩
 refine yp ?_ ?_
 refine zb (pv:=[(0,jV 2250),(1,jV 2400)]) (zs:=[jV 0,jV 0]) (cs:=[jV 2250,jV 2400]) Z Z Z Z Z (wAA Z (wAA Z wAI)) zB zC zw Z Z Z Z Z ca ?_
 intro gm dJ tA
 let a8:Res:=.row (some ⟨dJ,0,none⟩) 2 3 1 (hD KL.encI [2250,2400])
 have it:sW w U ax [a8,ag,.blk af 25 ae,ah,.blk ac 49 B2,.blk aa 49 O] gm:=tA
 refine yp ?_ ?_
 refine zM 0 Z Z Z Z (zK Z Z Tryz.call43 zO Z) it (fun hs=>wBV gm ax hs bX) (.inr Z) ?_
 rintro fT xx Ay lk iR tB ⟨eW,gX,eX,gY,lK,rfl,rfl,ph⟩
 let fd:Res:=.row eW gX 3 1 (hD KL.encI ai.Classes)
 let dq:Res:=.row eX gY 23 1 lK
 have tC:sW w U fT [fd,dq,a8,ag,.blk af 25 ae,ah,.blk ac 49 B2,.blk aa 49 O] lk:=tB
 refine zb (pv:=[(0,jV 0),(1,jV 0),(2,jV 0)]) (zs:=B0) (cs:=B0) Z Z Z Z Z (wAA Z (wAA Z (wAA Z wAI))) zB zC zw Z Z Z Z Z tC ?_
 intro bF gH tD
 let cy:Res:=.row (some ⟨gH,0,none⟩) 3 3 1 (hD KL.encI [0,0,0])
 have tE:sW w U fT [cy,fd,dq,a8,ag,.blk af 25 ae,ah,.blk ac 49 B2,.blk aa 49 O] bF:=tD
 have q:=tE.freezeR (k:=1) (n:=ai.Classes.length) rfl (wAB (f:=KL.encI) (sz:=1) (fun _=>rfl) ai.Classes) (by decide)
 obtain ⟨jK,ew,wn,tF⟩:=q
 have tG:sW w U jK [cy,dq,a8,ag,.blk af 25 ae,ah,.blk ac 49 B2,.blk aa 49 O] bF:=tF
 have pj:=ph.le ew
 have q:=tG.freezeRR (R:=wDl) (k:=1) rfl pj rfl (by decide)
 obtain ⟨jL,ey,wo,tH⟩:=q
 have tI:sW w U jL [cy,a8,ag,.blk af 25 ae,ah,.blk ac 49 B2,.blk aa 49 O] bF:=tH
 have q:=tI.freezeR (k:=1) (n:=[2250,2400].length) rfl (wAB (f:=KL.encI) (sz:=1) (fun _=>rfl) [2250,2400]) (by decide)
 obtain ⟨jM,cS,wp,tJ⟩:=q
 have tK:sW w U jM [cy,ag,.blk af 25 ae,ah,.blk ac 49 B2,.blk aa 49 O] bF:=tJ
 have q:=tK.freezeR (k:=0) (n:=[0,0,0].length) rfl (wAB (f:=KL.encI) (sz:=1) (fun _=>rfl) [0,0,0]) (by decide)
 obtain ⟨fU,cn,wq,tL⟩:=q
 have tM:sW w U fU [ag,.blk af 25 ae,ah,.blk ac 49 B2,.blk aa 49 O] bF:=tL
 have po:=bf.le bv
 have pp:=po.le iR
 have pq:=pp.le ew
 have pu:=pq.le ey
 have py:=pu.le cS
 have pz:=py.le cn
 have pB:=wn.le ey
 have pC:=pB.le cS
 have pD:=pC.le cn
 have pE:=wo.le cS
 have pF:=pE.le cn
 have pG:=wp.le cn
 refine zM 0 Z Z Z Z (zK Z Z Tryz.call44 (zD Z (zD Z (zD Z (zD Z zO)))) Z) tM (fun hs=>wDh aj.Rules az aY ai eW gX eX gY [2250,2400] (some ⟨dJ,0,none⟩) 2 [0,0,0] (some ⟨gH,0,none⟩) 3 bF fU hs pz pD pF pG wq bJ) (.inr Z) ?_
 rintro fV xz Az ll wV tN ⟨rfl,rfl⟩
 have tO:sW w U fV [ag,.blk af 25 ae,ah,.blk ac 49 B2,.blk aa 49 O] ll:=tN
 refine oM Z Z (oR Z (zi Z Z (v:=jV bM) Z) (oR Z (zi Z Z (v:=jV bN) Z) (oA Z Z (oA Z Z (zg ?_)))))
 cases bu
 exact zG ⟨rfl,⟨fV,rfl,rfl,rfl,rfl,rfl,rfl,(((((iR.trans ew).trans ey).trans cS).trans cn).trans wV),(tO.pick [1,3,4,0] _ (by decide) rfl)⟩⟩
 refine zb (pv:=[(0,jV 0),(1,jV 0),(2,jV 0)]) (zs:=B0) (cs:=B0) Z Z Z Z Z (wAA Z (wAA Z (wAA Z wAI))) zB zC zw Z Z Z Z Z it ?_
 intro gq gI tP
 let bR:Res:=.row (some ⟨gI,0,none⟩) 3 3 1 (hD KL.encI [0,0,0])
 have tQ:sW w U ax [bR,a8,ag,.blk af 25 ae,ah,.blk ac 49 B2,.blk aa 49 O] gq:=tP
 refine zM 0 Z Z Z Z (zK Z Z Tryz.call43 zO Z) tQ (fun hs=>wBV gq ax hs bX) (.inr Z) ?_
 rintro jN xA AA bG iS tR ⟨eY,gZ,dl,dW,g8,rfl,rfl,pI⟩
 have tS:sW w U jN [.row eY gZ 3 1 (hD KL.encI ai.Classes),.row dl dW 23 1 g8,bR,a8,ag,.blk af 25 ae,ah,.blk ac 49 B2,.blk aa 49 O] bG:=tR
 have q:=tS.freezeR (k:=0) (n:=ai.Classes.length) rfl (wAB (f:=KL.encI) (sz:=1) (fun _=>rfl) ai.Classes) (by decide)
 obtain ⟨jO,ez,wr,tT⟩:=q
 have tU:sW w U jO [.row dl dW 23 1 g8,bR,a8,ag,.blk af 25 ae,ah,.blk ac 49 B2,.blk aa 49 O] bG:=tT
 have pJ:=pI.le ez
 have q:=tU.freezeRR (R:=wDl) (k:=0) rfl pJ rfl (by decide)
 obtain ⟨jP,eA,wt,tV⟩:=q
 have tW:sW w U jP [bR,a8,ag,.blk af 25 ae,ah,.blk ac 49 B2,.blk aa 49 O] bG:=tV
 have q:=tW.freezeR (k:=1) (n:=[2250,2400].length) rfl (wAB (f:=KL.encI) (sz:=1) (fun _=>rfl) [2250,2400]) (by decide)
 obtain ⟨jQ,cU,wu,tX⟩:=q
 have tY:sW w U jQ [bR,ag,.blk af 25 ae,ah,.blk ac 49 B2,.blk aa 49 O] bG:=tX
 have q:=tY.freezeR (k:=0) (n:=[0,0,0].length) rfl (wAB (f:=KL.encI) (sz:=1) (fun _=>rfl) [0,0,0]) (by decide)
 obtain ⟨fW,co,wv,tZ⟩:=q
 have t6:sW w U fW [ag,.blk af 25 ae,ah,.blk ac 49 B2,.blk aa 49 O] bG:=tZ
 have pK:=bf.le bv
 have pL:=pK.le iS
 have pM:=pL.le ez
 have pN:=pM.le eA
 have pO:=pN.le cU
 have pP:=pO.le co
 have pQ:=wr.le eA
 have pR:=pQ.le cU
 have pS:=pR.le co
 have pT:=wt.le cU
 have pU:=pT.le co
 have pV:=wu.le co
 refine zM 0 Z Z Z Z (zK Z Z Tryz.call44 (zD Z (zD Z (zD Z (zD Z zO)))) Z) t6 (fun hs=>wDh aj.Rules az aY ai eY gZ dl dW [2250,2400] (some ⟨dJ,0,none⟩) 2 [0,0,0] (some ⟨gI,0,none⟩) 3 bG fW hs pP pS pU pV wv bJ) (.inr Z) ?_
 rintro fY xC AC lq wW t8 ⟨rfl,rfl⟩
 have ua:sW w U fY [ag,.blk af 25 ae,ah,.blk ac 49 B2,.blk aa 49 O] lq:=t8
 refine oM Z Z (oR Z (zi Z Z (v:=jV bM) Z) (oR Z (zi Z Z (v:=jV bN) Z) (oA Z Z (oA Z Z (zg ?_)))))
 cases bu
 exact zG ⟨rfl,⟨fY,rfl,rfl,rfl,rfl,rfl,rfl,(((((iS.trans ez).trans eA).trans cU).trans co).trans wW),(ua.pick [1,3,4,0] _ (by decide) rfl)⟩⟩
 refine zb (pv:=[(0,jV 0),(1,jV 0),(2,jV 0)]) (zs:=B0) (cs:=B0) Z Z Z Z Z (wAA Z (wAA Z (wAA Z wAI))) zB zC zw Z Z Z Z Z ca ?_
 intro gu dK uc
 let av:Res:=.row (some ⟨dK,0,none⟩) 3 3 1 (hD KL.encI [0,0,0])
 have iu:sW w U ax [av,ag,.blk af 25 ae,ah,.blk ac 49 B2,.blk aa 49 O] gu:=uc
 refine yp ?_ ?_
 refine zM 0 Z Z Z Z (zK Z Z Tryz.call43 zO Z) iu (fun hs=>wBV gu ax hs bX) (.inr Z) ?_
 rintro fZ xD AD lu iT ud ⟨eZ,g9,e8,ib,lL,rfl,rfl,pY⟩
 let ff:Res:=.row eZ g9 3 1 (hD KL.encI ai.Classes)
 let dr:Res:=.row e8 ib 23 1 lL
 have uf:sW w U fZ [ff,dr,av,ag,.blk af 25 ae,ah,.blk ac 49 B2,.blk aa 49 O] lu:=ud
 refine zb (pv:=[(0,jV 2250),(1,jV 2400)]) (zs:=[jV 0,jV 0]) (cs:=[jV 2250,jV 2400]) Z Z Z Z Z (wAA Z (wAA Z wAI)) zB zC zw Z Z Z Z Z uf ?_
 intro bH gJ ug
 let dt:Res:=.row (some ⟨gJ,0,none⟩) 2 3 1 (hD KL.encI [2250,2400])
 have uh:sW w U fZ [dt,ff,dr,av,ag,.blk af 25 ae,ah,.blk ac 49 B2,.blk aa 49 O] bH:=ug
 have q:=uh.freezeR (k:=1) (n:=ai.Classes.length) rfl (wAB (f:=KL.encI) (sz:=1) (fun _=>rfl) ai.Classes) (by decide)
 obtain ⟨jR,eB,ww,ui⟩:=q
 have uj:sW w U jR [dt,dr,av,ag,.blk af 25 ae,ah,.blk ac 49 B2,.blk aa 49 O] bH:=ui
 have pZ:=pY.le eB
 have q:=uj.freezeRR (R:=wDl) (k:=1) rfl pZ rfl (by decide)
 obtain ⟨jS,eC,wy,uk⟩:=q
 have ul:sW w U jS [dt,av,ag,.blk af 25 ae,ah,.blk ac 49 B2,.blk aa 49 O] bH:=uk
 have q:=ul.freezeR (k:=0) (n:=[2250,2400].length) rfl (wAB (f:=KL.encI) (sz:=1) (fun _=>rfl) [2250,2400]) (by decide)
 obtain ⟨jT,cV,wz,um⟩:=q
 have un:sW w U jT [av,ag,.blk af 25 ae,ah,.blk ac 49 B2,.blk aa 49 O] bH:=um
 have q:=un.freezeR (k:=0) (n:=[0,0,0].length) rfl (wAB (f:=KL.encI) (sz:=1) (fun _=>rfl) [0,0,0]) (by decide)
 obtain ⟨gb,cp,wA,uq⟩:=q
 have ur:sW w U gb [ag,.blk af 25 ae,ah,.blk ac 49 B2,.blk aa 49 O] bH:=uq
 have p6:=bf.le bv
 have p7:=p6.le iT
 have p8:=p7.le eB
 have p9:=p8.le eC
 have qa:=p9.le cV
 have qb:=qa.le cp
 have qc:=ww.le eC
 have qd:=qc.le cV
 have qe:=qd.le cp
 have qf:=wy.le cV
 have qh:=qf.le cp
 have qi:=wz.le cp
 refine zM 0 Z Z Z Z (zK Z Z Tryz.call44 (zD Z (zD Z (zD Z (zD Z zO)))) Z) ur (fun hs=>wDh aj.Rules az aY ai eZ g9 e8 ib [2250,2400] (some ⟨gJ,0,none⟩) 2 [0,0,0] (some ⟨dK,0,none⟩) 3 bH gb hs qb qe qh qi wA bJ) (.inr Z) ?_
 rintro ge xE AE lw wX ut ⟨rfl,rfl⟩
 have uu:sW w U ge [ag,.blk af 25 ae,ah,.blk ac 49 B2,.blk aa 49 O] lw:=ut
 refine oM Z Z (oR Z (zi Z Z (v:=jV bM) Z) (oR Z (zi Z Z (v:=jV bN) Z) (oA Z Z (oA Z Z (zg ?_)))))
 cases bu
 exact zG ⟨rfl,⟨ge,rfl,rfl,rfl,rfl,rfl,rfl,(((((iT.trans eB).trans eC).trans cV).trans cp).trans wX),(uu.pick [1,3,4,0] _ (by decide) rfl)⟩⟩
 refine zb (pv:=[(0,jV 2250),(1,jV 2400)]) (zs:=[jV 0,jV 0]) (cs:=[jV 2250,jV 2400]) Z Z Z Z Z (wAA Z (wAA Z wAI)) zB zC zw Z Z Z Z Z iu ?_
 intro gw gK uw
 let cz:Res:=.row (some ⟨gK,0,none⟩) 2 3 1 (hD KL.encI [2250,2400])
 have ux:sW w U ax [cz,av,ag,.blk af 25 ae,ah,.blk ac 49 B2,.blk aa 49 O] gw:=uw
 refine zM 0 Z Z Z Z (zK Z Z Tryz.call43 zO Z) ux (fun hs=>wBV gw ax hs bX) (.inr Z) ?_
 rintro jU xF AF bI iU uy ⟨eO,gL,c8,dL,gM,rfl,rfl,l7⟩
 have qn:sW w U jU [.row eO gL 3 1 (hD KL.encI ai.Classes),.row c8 dL 23 1 gM,cz,av,ag,.blk af 25 ae,ah,.blk ac 49 B2,.blk aa 49 O] bI:=uy
 have q:=qn.freezeR (k:=0) (n:=ai.Classes.length) rfl (wAB (f:=KL.encI) (sz:=1) (fun _=>rfl) ai.Classes) (by decide)
 obtain ⟨jf,d8,vA,qo⟩:=q
 have qp:sW w U jf [.row c8 dL 23 1 gM,cz,av,ag,.blk af 25 ae,ah,.blk ac 49 B2,.blk aa 49 O] bI:=qo
 have l8:=l7.le d8
 have q:=qp.freezeRR (R:=wDl) (k:=0) rfl l8 rfl (by decide)
 obtain ⟨jg,d9,vB,qq⟩:=q
 have qr:sW w U jg [cz,av,ag,.blk af 25 ae,ah,.blk ac 49 B2,.blk aa 49 O] bI:=qq
 have q:=qr.freezeR (k:=0) (n:=[2250,2400].length) rfl (wAB (f:=KL.encI) (sz:=1) (fun _=>rfl) [2250,2400]) (by decide)
 obtain ⟨jh,cM,vC,qs⟩:=q
 have qt:sW w U jh [av,ag,.blk af 25 ae,ah,.blk ac 49 B2,.blk aa 49 O] bI:=qs
 have q:=qt.freezeR (k:=0) (n:=[0,0,0].length) rfl (wAB (f:=KL.encI) (sz:=1) (fun _=>rfl) [0,0,0]) (by decide)
 obtain ⟨ft,cc,vD,qu⟩:=q
 have qv:sW w U ft [ag,.blk af 25 ae,ah,.blk ac 49 B2,.blk aa 49 O] bI:=qu
 have mb:=bf.le bv
 have mc:=mb.le iU
 have md:=mc.le d8
 have me:=md.le d9
 have mf:=me.le cM
 have mg:=mf.le cc
 have mh:=vA.le d9
 have mi:=mh.le cM
 have mj:=mi.le cc
 have ml:=vB.le cM
 have mm:=ml.le cc
 have mn:=vC.le cc
 refine zM 0 Z Z Z Z (zK Z Z Tryz.call44 (zD Z (zD Z (zD Z (zD Z zO)))) Z) qv (fun hs=>wDh aj.Rules az aY ai eO gL c8 dL [2250,2400] (some ⟨gK,0,none⟩) 2 [0,0,0] (some ⟨dK,0,none⟩) 3 bI ft hs mg mj mm mn vD bJ) (.inr Z) ?_
 rintro fu w8 z8 jW wD qw ⟨rfl,rfl⟩
 have qx:sW w U fu [ag,.blk af 25 ae,ah,.blk ac 49 B2,.blk aa 49 O] jW:=qw
 refine oM Z Z (oR Z (zi Z Z (v:=jV bM) Z) (oR Z (zi Z Z (v:=jV bN) Z) (oA Z Z (oA Z Z (zg ?_)))))
 cases bu
 exact zG ⟨rfl,⟨fu,rfl,rfl,rfl,rfl,rfl,rfl,(((((iU.trans d8).trans d9).trans cM).trans cc).trans wD),(qx.pick [1,3,4,0] _ (by decide) rfl)⟩⟩
 rintro AP gf ⟨jj,lM,lN,lO,lQ,lR,lU,wE,qy⟩
 refine zI (ZN ZD [1,2,2,3,3,3,3,3] (.fl 0 (.fx 1 (.fx 2 (wPY (.nil)) .stop) .stop)) (by kernel_rfl) ?_)
 have dZ:=qy.drew
 generalize hw_W1065:({ gf with drawn:=gf.drawn + 1 }:World)=jX at dZ ⊢
 refine oL Z (dZ.ldBA (j:=0) Z Z lO yS ZO (vs:=ae) Z Z) (bnK iF fun cX mo uA=>zM 0 Z Z Z Z (zK Z Z Tryz.call43 zO Z) dZ (fun hs=>wBV jX jj hs mo) (.inr Z) ?_)
 rintro jk xa Ab cD wG qz ⟨eQ,gN,c9,dM,gO,rfl,rfl,mp⟩
 have qA:sW w U jk [.row eQ gN 3 1 (hD KL.encI cX.Classes),.row c9 dM 23 1 gO,.blk af 25 ae,.blk ac 49 B2,.blk aa 49 O,ag] cD:=qz
 have q:=qA.freezeR (k:=0) (n:=cX.Classes.length) rfl (wAB (f:=KL.encI) (sz:=1) (fun _=>rfl) cX.Classes) (by decide)
 obtain ⟨jl,iI,vE,qB⟩:=q
 have qC:sW w U jl [.row c9 dM 23 1 gO,.blk af 25 ae,.blk ac 49 B2,.blk aa 49 O,ag] cD:=qB
 have mq:=mp.le iI
 have q:=qC.freezeRR (R:=wDl) (k:=0) rfl mq rfl (by decide)
 obtain ⟨fw,iJ,vF,qE⟩:=q
 have qF:sW w U fw [.blk af 25 ae,.blk ac 49 B2,.blk aa 49 O,ag] cD:=qE
 have mr:=bf.le bv
 have ms:=mr.le wE
 have mu:=ms.le wG
 have mw:=mu.le iI
 have mx:=mw.le iJ
 have my:=vE.le iJ
 have q:=bnd uA
 obtain ⟨⟨iV,iW⟩,mz,iv⟩:=q
 try dsimp only at iv
 refine zM 0 Z Z Z Z (zK Z Z Tryz.call45 (zD Z (zD Z (zD Z zO))) Z) qF (fun hs=>wLJ aj.Rules az aY cX eQ gN c9 dM 2 cD fw hs mx my vF mz) (.inr Z) ?_
 rintro fy xb Ac jY xM qG ⟨rfl,rfl⟩
 have qH:sW w U fy [.blk af 25 ae,.blk ac 49 B2,.blk aa 49 O,ag] jY:=qG
 refine oM Z Z (oR Z (zi Z Z (v:=jV iV) Z) (oR Z (zi Z Z (v:=jV iW) Z) (oA Z Z (oA Z Z (eN (sR (wCK (.fx 3 (.fx 4 (wIh (.nil)) .stop) .stop)) Z ?_))))))
 let bh:List Value:=[jV 0,jV 0]
 refine oR Z (zx (pv:=[(0,jV 100),(1,jV 200)]) (z:=bh) (cs:=[jV 100,jV 200]) Z (wAA Z (wAA Z wAI)) ZY wDU Z Z) (oR Z (zx (pv:=[(0,jV 150),(1,jV 300)]) (z:=bh) (cs:=[jV 150,jV 300]) Z (wAA Z (wAA Z wAI)) ZY wDU Z Z) (oR Z (zx (pv:=[(0,jV 250),(1,jV 260)]) (z:=bh) (cs:=[jV 250,jV 260]) Z (wAA Z (wAA Z wAI)) ZY wDU Z Z) (zb (pv:=[(0,.agg #[jV 100,jV 200]),(1,.agg #[jV 150,jV 300]),(2,.agg #[jV 250,jV 260])]) (zs:=[jV 0,jV 0,jV 0,jV 0,jV 0,jV 0]) (cs:=[jV 100,jV 200,jV 150,jV 300,jV 250,jV 260]) Z Z Z Z Z (wAA Z (wAA Z (wAA Z wAI))) ZQ ZK ZY Z Z Z Z Z qH ?_)))
 intro dC gx qI
 have qJ:sW w U fy [.row (some ⟨gx,0,none⟩) 3 76 2 (hD wAH [(⟨100,200⟩:wAD),(⟨150,300⟩:wAD),(⟨250,260⟩:wAD)]),.blk af 25 ae,.blk ac 49 B2,.blk aa 49 O,ag] dC:=qI
 have q:=qJ.freezeR (k:=0) (n:=[(⟨100,200⟩:wAD),(⟨150,300⟩:wAD),(⟨250,260⟩:wAD)].length) rfl (wAB (f:=wAH) (sz:=2) (fun _=>rfl) [(⟨100,200⟩:wAD),(⟨150,300⟩:wAD),(⟨250,260⟩:wAD)]) (by decide)
 obtain ⟨fz,xN,vG,qK⟩:=q
 have qL:sW w U fz [.blk af 25 ae,.blk ac 49 B2,.blk aa 49 O,ag] dC:=qK
 have q:=bnd iv
 obtain ⟨⟨bL,iX⟩,mA,iw⟩:=q
 try dsimp only at iw
 refine zM 0 Z Z Z Z (zK Z Z Tryz.call46 (zD Z zO) Z) qL (fun hs=>wJP [(⟨100,200⟩:wAD),(⟨150,300⟩:wAD),(⟨250,260⟩:wAD)] (some ⟨gx,0,none⟩) 3 dC fz hs vG mA) (.inr Z) ?_
 rintro bB xc Ad jZ xO qM ⟨cr,cL,rfl,rfl⟩
 let bA:Res:=.row cr cL 76 2 (hD wAH bL)
 have bY:sW w U bB [bA,.blk af 25 ae,.blk ac 49 B2,.blk aa 49 O,ag] jZ:=qM
 refine oM Z Z (oR Z (zi Z Z (v:=.slice cr bL.length cL) Z) (oR Z (zi Z Z (v:=jV iX) Z) (oA Z Z (oA Z Z (eN (zI (yL fun be a7=>?_)))))))
 have lV:be 2=jV eK:=(a7 2).trans lM
 have lW:be 4=jV ja:=(a7 4).trans lN
 have lY:be 6=jV iW:=(a7 6).trans rfl
 have lZ:be 8=jV iX:=(a7 8).trans rfl
 have l0:be 12=.slice bO bx.length bW:=(a7 12).trans lQ
 have l3:be 13=jV eJ:=(a7 13).trans lR
 have l4:be 14=jV jb:=(a7 14).trans lU
 have l5:be 15=jV iV:=(a7 15).trans rfl
 have l6:be 16=.slice cr bL.length cL:=(a7 16).trans rfl
 clear a7
 refine rR (wOo (.fx 16 (.fx 17 (wRE (.fx 36 (.fx 37 (.fl 38 (.fl 39 .nil)) .stop) .stop)) .stop) .stop)) Z (oM Z lV (oR Z (yc Z Z Z) (oM Z Z (ifc iw ?_ ?_))))
 intro bi uB
 refine zj Z Z Z (wT Z bi) Z lW (rU Z (wT Z bi) (yc Z Z Z) (oR Z (zT Z (ZZ bi.out) Z) (oM Z Z (ifc uB ?_ ?_))))
 intro bj uC
 refine zj Z Z Z (wT Z bj) Z lY (rU Z (wT Z bj) (yc Z Z Z) (oR Z (zT Z (ZZ bj.out) Z) (oM Z Z (ifc uC ?_ ?_))))
 intro bm uD
 refine zj Z Z Z (wT Z bm) Z lZ (rU Z (wT Z bm) (yc Z Z Z) (oR Z (zT Z (ZZ bm.out) Z) (oM Z Z (ifc uD ?_ ?_))))
 intro ba uE
 refine zj Z Z Z (wT Z ba) Z l0 (zb (pv:=[(0,jV 2),(1,jV 1)]) (zs:=bh) (cs:=[jV 2,jV 1]) Z Z Z (wT Z ba) Z (wAA Z (wAA Z wAI)) zB zC zw Z Z Z Z Z bY ?_)
 intro cE gy qN
 let fg:Res:=.row (some ⟨gy,0,none⟩) 2 3 1 (hD KL.encI [2,1])
 have qO:sW w U bB [fg,bA,.blk af 25 ae,.blk ac 49 B2,.blk aa 49 O,ag] cE:=qN
 have q:=qO.freezeR (k:=5) (n:=bx.length) rfl (wAB (f:=KL.encI) (sz:=1) (fun _=>rfl) bx) (by decide)
 obtain ⟨jm,xP,vH,qP⟩:=q
 have qQ:sW w U jm [fg,bA,.blk af 25 ae,.blk ac 49 B2,.blk aa 49 O] cE:=qP
 have q:=qQ.freezeR (k:=0) (n:=[2,1].length) rfl (wAB (f:=KL.encI) (sz:=1) (fun _=>rfl) [2,1]) (by decide)
 obtain ⟨fA,wH,vI,qR⟩:=q
 have qS:sW w U fA [bA,.blk af 25 ae,.blk ac 49 B2,.blk aa 49 O] cE:=qR
 have mC:=vH.le wH
 refine bnK uE fun AJ mD uF=>zM 0 Z Z Z (wT Z ba) (zK Z Z Tryz.call47 (zD Z (zD Z zO)) Z) qS (fun hs=>wEo bx bO bW [2,1] (some ⟨gy,0,none⟩) 2 cE fA hs mC vI mD) (.inr Z) ?_
 rintro bC xd Ae j0 xQ qT ⟨rfl,rfl⟩
 have bZ:sW w U bC [bA,.blk af 25 ae,.blk ac 49 B2,.blk aa 49 O] j0:=qT
 refine oR Z (zT Z (ZZ ba.out) Z) (oM Z Z (ifc uF ?_ ?_))
 intro bn uG
 refine zj Z Z Z (zN Z Z (congrArg nB bn.out)) Z l3 (zY Z Z Z (zN Z Z (congrArg nB bn.out)) (fun _=>yc Z Z Z) (oR Z (zT Z (congrArg nB bn.out) Z) (oM Z Z (ifc uG ?_ ?_))))
 intro bp uH
 refine zj Z Z Z (wT Z bp) Z l4 (rU Z (wT Z bp) (yc Z Z Z) (oR Z (zT Z (ZZ bp.out) Z) (oM Z Z (ifc uH ?_ ?_))))
 intro bq uI
 refine zj Z Z Z (wT Z bq) Z l5 (rU Z (wT Z bq) (yc Z Z Z) (oR Z (zT Z (ZZ bq.out) Z) (oM Z Z (ifc uI ?_ ?_))))
 intro ao uJ
 refine zj Z Z Z (wT Z ao) Z l6 (rU Z (wT Z ao) (zx (pv:=[(0,jV 1),(1,jV 2)]) (z:=bh) (cs:=[jV 1,jV 2]) Z (wAA Z (wAA Z wAI)) ZY wDU Z Z) (rU Z (wT Z ao) (zx (pv:=[(0,jV 1),(1,jV 3)]) (z:=bh) (cs:=[jV 1,jV 3]) Z (wAA Z (wAA Z wAI)) ZY wDU Z Z) (rU Z (wT Z ao) (zx (pv:=[(0,jV 2),(1,jV 3)]) (z:=bh) (cs:=[jV 2,jV 3]) Z (wAA Z (wAA Z wAI)) ZY wDU Z Z) (zb (pv:=[(0,.agg #[jV 1,jV 2]),(1,.agg #[jV 1,jV 3]),(2,.agg #[jV 2,jV 3])]) (zs:=[jV 0,jV 0,jV 0,jV 0,jV 0,jV 0]) (cs:=[jV 1,jV 2,jV 1,jV 3,jV 2,jV 3]) Z Z Z (wT Z ao) Z (wAA Z (wAA Z (wAA Z wAI))) ZQ ZK ZY Z Z Z Z Z bZ ?_))))
 intro cG gz qV
 let fh:Res:=.row (some ⟨gz,0,none⟩) 3 76 2 (hD wAH [(⟨1,2⟩:wAD),(⟨1,3⟩:wAD),(⟨2,3⟩:wAD)])
 have qW:sW w U bC [fh,bA,.blk af 25 ae,.blk ac 49 B2,.blk aa 49 O] cG:=qV
 have q:=qW.freezeR (k:=1) (n:=bL.length) rfl (wAB (f:=wAH) (sz:=2) (fun _=>rfl) bL) (by decide)
 obtain ⟨jp,xR,vJ,qX⟩:=q
 have qY:sW w U jp [fh,.blk af 25 ae,.blk ac 49 B2,.blk aa 49 O] cG:=qX
 have q:=qY.freezeR (k:=0) (n:=[(⟨1,2⟩:wAD),(⟨1,3⟩:wAD),(⟨2,3⟩:wAD)].length) rfl (wAB (f:=wAH) (sz:=2) (fun _=>rfl) [(⟨1,2⟩:wAD),(⟨1,3⟩:wAD),(⟨2,3⟩:wAD)]) (by decide)
 obtain ⟨fB,wJ,vK,qZ⟩:=q
 have q0:sW w U fB [.blk af 25 ae,.blk ac 49 B2,.blk aa 49 O] cG:=qZ
 have mE:=vJ.le wJ
 refine bnK uJ fun AK mF uK=>zM 0 Z Z Z (wT Z ao) (zK Z Z Tryz.call48 (zD Z (zD Z zO)) Z) q0 (fun hs=>wFl bL cr cL [(⟨1,2⟩:wAD),(⟨1,3⟩:wAD),(⟨2,3⟩:wAD)] (some ⟨gz,0,none⟩) 3 cG fB hs mE vK mF) (.inr Z) ?_
 rintro fC xe Af j5 xS q8 ⟨rfl,rfl⟩
 have q9:sW w U fC [.blk af 25 ae,.blk ac 49 B2,.blk aa 49 O] j5:=q8
 refine oR Z (zT Z (ZZ ao.out) Z) (oA Z Z (eN (zP ?_)))
 have hE:=nA uK;first | subst r | cases hE
 exact ⟨rfl,_,(zz rfl),fC,_,(q9.pick [] _ (by decide) rfl),rfl,rfl⟩
 intro ao uL
 refine oF Z ao (oF Z ao (oF Z ao (oF Z ao (ZI Z Z Z (zQ Z Z (zt ao.out) Z) (ZI Z Z Z (zQ Z Z (zt ao.out) Z) (oR Z (za Z (zt ao.out) Z) (oA Z Z (eN (zP ?_)))))))))
 have hE:=nA uL;first | subst r | cases hE
 exact ⟨rfl,_,(zz rfl),bC,_,(bZ.pick [] _ (by decide) rfl),rfl,rfl⟩
 intro bq uM
 refine oF Z bq (oF Z bq (oR Z (za Z (zt bq.out) Z) (oM Z Z (oN Z (oN Z (oN Z (oN Z (ZI Z Z Z (zQ Z Z Z Z) (ZI Z Z Z (zQ Z Z Z Z) (oR Z (za Z Z Z) (oA Z Z (eN (zP ?_)))))))))))))
 have hE:=nA uM;first | subst r | cases hE
 exact ⟨rfl,_,(zz rfl),bC,_,(bZ.pick [] _ (by decide) rfl),rfl,rfl⟩
 intro bp uN
 refine oF Z bp (oF Z bp (oR Z (za Z (zt bp.out) Z) (oM Z Z (oN Z (oN Z (oR Z (za Z Z Z) (oM Z Z (oN Z (oN Z (oN Z (oN Z (ZI Z Z Z (zQ Z Z Z Z) (ZI Z Z Z (zQ Z Z Z Z) (oR Z (za Z Z Z) (oA Z Z (eN (zP ?_)))))))))))))))))
 have hE:=nA uN;first | subst r | cases hE
 exact ⟨rfl,_,(zz rfl),bC,_,(bZ.pick [] _ (by decide) rfl),rfl,rfl⟩
 intro bn uO
 refine zk Z Z Z (zQ Z Z (congrArg nB (nD.2 bn.out)) Z) (zk Z Z Z (zQ Z Z (congrArg nB (nD.2 bn.out)) Z) (oR Z (za Z (congrArg nB (nD.2 bn.out)) Z) (oM Z Z (oN Z (oN Z (oR Z (za Z Z Z) (oM Z Z (oN Z (oN Z (oR Z (za Z Z Z) (oM Z Z (oN Z (oN Z (oN Z (oN Z (ZI Z Z Z (zQ Z Z Z Z) (ZI Z Z Z (zQ Z Z Z Z) (oR Z (za Z Z Z) (oA Z Z (eN (zP ?_)))))))))))))))))))))
 have hE:=nA uO;first | subst r | cases hE
 exact ⟨rfl,_,(zz rfl),bC,_,(bZ.pick [] _ (by decide) rfl),rfl,rfl⟩
 intro ba uP
 refine oF Z ba (ZI Z Z Z (zQ Z Z (zt ba.out) Z) (ZI Z Z Z (zQ Z Z (zt ba.out) Z) (oR Z (za Z (zt ba.out) Z) (oM Z Z (oN Z (oN Z (oR Z (za Z Z Z) (oM Z Z (oN Z (oN Z (oR Z (za Z Z Z) (oM Z Z (oN Z (oN Z (oR Z (za Z Z Z) (oM Z Z (oN Z (oN Z (oN Z (oN Z (ZI Z Z Z (zQ Z Z Z Z) (ZI Z Z Z (zQ Z Z Z Z) (oR Z (za Z Z Z) (oA Z Z (eN (zP ?_))))))))))))))))))))))))))
 have hE:=nA uP;first | subst r | cases hE
 exact ⟨rfl,_,(zz rfl),bB,_,(bY.pick [] _ (by decide) rfl),rfl,rfl⟩
 intro bm uQ
 refine oF Z bm (oF Z bm (oR Z (za Z (zt bm.out) Z) (oM Z Z (oN Z (ZI Z Z Z (zQ Z Z Z Z) (ZI Z Z Z (zQ Z Z Z Z) (oR Z (za Z Z Z) (oM Z Z (oN Z (oN Z (oR Z (za Z Z Z) (oM Z Z (oN Z (oN Z (oR Z (za Z Z Z) (oM Z Z (oN Z (oN Z (oR Z (za Z Z Z) (oM Z Z (oN Z (oN Z (oN Z (oN Z (ZI Z Z Z (zQ Z Z Z Z) (ZI Z Z Z (zQ Z Z Z Z) (oR Z (za Z Z Z) (oA Z Z (eN (zP ?_))))))))))))))))))))))))))))))
 have hE:=nA uQ;first | subst r | cases hE
 exact ⟨rfl,_,(zz rfl),bB,_,(bY.pick [] _ (by decide) rfl),rfl,rfl⟩
 intro bj uR
 refine oF Z bj (oF Z bj (oR Z (za Z (zt bj.out) Z) (oM Z Z (oN Z (oN Z (oR Z (za Z Z Z) (oM Z Z (oN Z (ZI Z Z Z (zQ Z Z Z Z) (ZI Z Z Z (zQ Z Z Z Z) (oR Z (za Z Z Z) (oM Z Z (oN Z (oN Z (oR Z (za Z Z Z) (oM Z Z (oN Z (oN Z (oR Z (za Z Z Z) (oM Z Z (oN Z (oN Z (oR Z (za Z Z Z) (oM Z Z (oN Z (oN Z (oN Z (oN Z (ZI Z Z Z (zQ Z Z Z Z) (ZI Z Z Z (zQ Z Z Z Z) (oR Z (za Z Z Z) (oA Z Z (eN (zP ?_))))))))))))))))))))))))))))))))))
 have hE:=nA uR;first | subst r | cases hE
 exact ⟨rfl,_,(zz rfl),bB,_,(bY.pick [] _ (by decide) rfl),rfl,rfl⟩
 intro bi uS
 refine oF Z bi (oF Z bi (oR Z (za Z (zt bi.out) Z) (oM Z Z (oN Z (oN Z (oR Z (za Z Z Z) (oM Z Z (oN Z (oN Z (oR Z (za Z Z Z) (oM Z Z (oN Z (ZI Z Z Z (zQ Z Z Z Z) (ZI Z Z Z (zQ Z Z Z Z) (oR Z (za Z Z Z) (oM Z Z (oN Z (oN Z (oR Z (za Z Z Z) (oM Z Z (oN Z (oN Z (oR Z (za Z Z Z) (oM Z Z (oN Z (oN Z (oR Z (za Z Z Z) (oM Z Z (oN Z (oN Z (oN Z (oN Z (ZI Z Z Z (zQ Z Z Z Z) (ZI Z Z Z (zQ Z Z Z Z) (oR Z (za Z Z Z) (oA Z Z (eN (zP ?_))))))))))))))))))))))))))))))))))))))
 have hE:=nA uS;first | subst r | cases hE
 exact ⟨rfl,_,(zz rfl),bB,_,(bY.pick [] _ (by decide) rfl),rfl,rfl⟩
set_option maxHeartbeats 4000000
theorem wFm (p0:Int) (p1:Int) (p2:Int) (w:World) (U:PHeap) (hS:St0 w U [])  {r:Bool} (hm:wDs p0 p1 p2=some r):Gv Tryz.prog 134 [jV p0,jV p1,jV p2] w (wBD w [] U (fun U_ L_ v=>v=.bool r/\L_=[])):=by
 unfold wDs at hm
 refine Gv.of Tryz.func134 Z Tryz.ntmps134 Tryz.results134 Z (sR fL1 Z (oA Z Z (eN (sR fL9 Z (oM Z Z (oM Z Z (oR Z (YJ Z Z Z) (oM Z Z ?_))))))))
 by_cases O:p1 <= p0
 have aa:=hm;rw [if_pos O] at aa;replace O:=zH O
 refine zj Z Z Z (wT Z O) Z Z (zj Z Z Z (wT Z O) Z Z (rU Z (wT Z O) (Runs.leq Z Z Z) (oR Z (zT Z (ZZ O.out) Z) (oA Z Z (eN (zP ?_))))))
 first | (obtain rfl:=nA aa) | cases aa
 exact ⟨Z,_,(zz Z),U,_,hS,Z,Z⟩
 have ae:=hm;rw [if_neg O] at ae;replace O:=zH O
 refine oF Z O (oF Z O (oF Z O (oR Z (za Z (zt O.out) Z) (oA Z Z (eN (zP ?_))))))
 have hE:=nA ae;first | subst r | cases hE
 exact ⟨Z,_,(zz Z),U,_,hS,Z,Z⟩
theorem wIY (O:List Int) (aj:Option Addr) (ak:Nat) (p1:(Int->Option Bool)) (am:Value) (w:World) (U:PHeap) (hS:St0 w U []) (bn:Sl U 1 aj ak O.length (hD KL.encI O)) (bp:FnOK Tryz.prog U am wKm wLg p1) {r:Bool} (hm:wDK O p1=some r):Gv Tryz.prog 163 [.slice aj O.length ak,am] w (wBD w [] U (fun U_ L_ v=>v=.bool r/\L_=[])):=by
 unfold wDK at hm
 refine Gv.of Tryz.func163 Z Tryz.ntmps163 Tryz.results163 Z (sR fL1 Z (oA Z Z (eN (zI (sR fL3 Z (oM Z Z (oR Z (ze Z Z zB) (oM Z Z (eN (zU ?_))))))))))
 have q:=wBJ hm
 obtain ⟨r3,af⟩:=q
 have q:=wBI af
 obtain ⟨ah,bs⟩:=q
 replace ah:=zH ah
 refine yB (fun k2 _ σ_ w_=>∃ (U_:PHeap),σ_ 9=jV (↑k2:Int)/\σ_ 1=am/\σ_ 7=.slice aj O.length ak/\σ_ 8=jV (↑O.length:Int)/\PHeap.Le U U_/\sW w U U_ [] w_) bs ?_ ?_ ?_
 exact ⟨U,Z,Z,Z,Z,(zL _),hS⟩
 rintro k2 ⟨⟩ bO bQ W8 ag ⟨bD,ae,ao,ap,aq,ai,av⟩ ay bq
 try dsimp only at ay
 have an:Hid ((↑k2:Int) < (↑O.length:Int)):=zH (wAj ag)
 replace ag:=zH ag
 have bt:Hid (w64 ((↑k2:Int) + 1)=(↑(k2 + 1):Int)):=zH (by have h1:=ah.out;have h2:=an.out;rw [wAX] <;> omega)
 refine sR fL1 Z (oR Z (zW Z ae aq) (eN (zI (cT Z an (kN (zI (zU (sR fL3 Z (bnK ay fun aY au bu=>?_)))))))))
 have be:=bn.le ai
 have q:=be.el (fun _=>rfl) (wAV au)
 obtain ⟨bG,bK,bh,bi⟩:=q
 refine oR Z (ZE Z ap bh ae zB zC (wAq au)) (oL Z (av.ldC (f:=0) bi (v:=jV aY) Z Z zJ Z) (oA Z Z (eN (sR gCo Z (oM Z ao (oM Z Z (bnK bu fun bN bf bv=>?_)))))))
 have bg:=bp.le ai
 refine yg (a:=aY) Z Z Z Z Z Z (zD Z zO) av bg Z bf ?_
 rintro ab bC bM a7 bA bj ⟨rfl,rfl⟩
 have aw:sW w U ab [] a7:=bj
 refine oR Z (ZF Z Z) (eN (ifc bv ?_ ?_))
 intro ac bw
 refine zn (nC ac.out) (ZT (zf (zG (rR fL2 Z (oR Z (zr (zX Z ae Z) (congrArg (jV) bt.out)) (oM Z Z (zg ?_)))))))
 have q:=nA bw
 obtain rfl:=q
 exact zG ⟨Z,_,Z,⟨ab,Z,ao,ap,aq,(ai.trans bA),aw⟩⟩
 intro ac bx
 refine zy (nF (ac.out)) (sR fL1 Z (oA Z Z (eN (zP (zc (zR ?_))))))
 have q:=wAb bx
 obtain ⟨bB,bz,ba⟩:=q
 have q:=wBC hm af (bq bB ba)
 obtain rfl:=q
 refine zR (zc (zR ?_))
 have hE:=nA bz;first | subst r | cases hE
 exact ⟨Z,_,(zz Z),ab,_,aw,Z,Z⟩
 rintro ⟨⟩ bP bE ⟨aZ,bd,bH,bI,bb,bJ,bm⟩ br
 have ax:=wCI hm af br
 try dsimp only at ax
 have a8:Hid (¬ ((↑(((↑O.length:Int):Int) - 0).toNat:Int) < (↑O.length:Int))):=zH (wAc)
 refine sR fL1 Z (oR Z (zW Z bd bb) (eN (zI (cF Z a8 (ZJ (zd (zd (ZG (zG (sR fL1 Z (oA Z Z (eN (zP ?_)))))))))))))
 have hE:=nA ax;first | subst r | cases hE
 exact ⟨Z,_,(zz Z),aZ,_,bm,Z,Z⟩
theorem wJs (O:Int) (w:World) (U:PHeap) (hS:St0 w U [])  {r:Bool} (hm:wDa O=some r):Gv Tryz.prog 164 [jV O] w (wBD w [] U (fun U_ L_ v=>v=.bool r/\L_=[])):=by
 unfold wDa at hm
 refine Gv.of Tryz.func164 Z Tryz.ntmps164 Tryz.results164 Z (sR fL1 Z (oA Z Z (eN (sR gCh Z (oM Z Z (bnK hm fun x1 h2 ag=>zM 0 Z Z Z Z (zK Z Z Tryz.call134 (zD Z (zD Z (zD Z zO))) Z) hS (fun hs=>wFm O 0 360000 w U hs h2) (.inr Z) ?_))))))
 rintro U4 L5 v6 W7 ai af ⟨rfl,rfl⟩
 have ae:sW w U U4 [] W7:=af
 refine oA Z Z (eN (zP ?_))
 have hE:=nA ag;first | subst r | cases hE
 exact ⟨Z,_,(zz Z),U4,_,ae,Z,Z⟩
theorem wGb (O:List wAD) (am:Option Addr) (an:Nat) (p1:(wAD->Option Bool)) (ao:Value) (w:World) (U:PHeap) (hS:St0 w U []) (bv:Sl U 2 am an O.length (hD wAH O)) (bw:FnOK Tryz.prog U ao wLF wLG p1) {r:Bool} (hm:wCC O p1=some r):Gv Tryz.prog 165 [.slice am O.length an,ao] w (wBD w [] U (fun U_ L_ v=>v=.bool r/\L_=[])):=by
 unfold wCC at hm
 refine Gv.of Tryz.func165 Z Tryz.ntmps165 Tryz.results165 Z (sR fL1 Z (oA Z Z (eN (zI (sR fL3 Z (oM Z Z (oR Z (ze Z Z ZQ) (oM Z Z (eN (zU ?_))))))))))
 have q:=wBJ hm
 obtain ⟨r3,ah⟩:=q
 have q:=wBI ah
 obtain ⟨aj,bA⟩:=q
 replace aj:=zH aj
 refine yB (fun k2 _ σ_ w_=>∃ (U_:PHeap),σ_ 9=jV (↑k2:Int)/\σ_ 1=ao/\σ_ 7=.slice am O.length an/\σ_ 8=jV (↑O.length:Int)/\PHeap.Le U U_/\sW w U U_ [] w_) bA ?_ ?_ ?_
 exact ⟨U,Z,Z,Z,Z,(zL _),hS⟩
 rintro k2 ⟨⟩ bV bX W8 ai ⟨ba,ag,au,av,aw,ak,ay⟩ a7 bx
 try dsimp only at a7
 have aq:Hid ((↑k2:Int) < (↑O.length:Int)):=zH (wAj ai)
 replace ai:=zH ai
 have bB:Hid (w64 ((↑k2:Int) + 1)=(↑(k2 + 1):Int)):=zH (by have h1:=aj.out;have h2:=aq.out;rw [wAX] <;> omega)
 refine sR fL1 Z (oR Z (zW Z ag aw) (eN (zI (cT Z aq (kN (zI (zU (sR (.fl 0 gCm) Z (bnK a7 fun ab ax bC=>?_)))))))))
 have bj:=bv.le ak
 have q:=bj.el (fun _=>rfl) (wAV ax)
 obtain ⟨bN,bR,bp,bq⟩:=q
 refine oR Z (ZE Z av bp ag ZQ ZK (wAq ax)) (oL Z (ay.ldCA (f:=0) bq Z Z yF ZK (us:=[jV ab.Lo,jV ab.Hi]) Z Z) (zm (cs:=[jV 0,jV 0]) Z Z Z Z Z ZY Z ay ?_))
 intro bK ap br
 let B0:List Value:=[jV ab.Lo,jV ab.Hi]
 refine zh (j:=0) (vs:=B0) Z Z Z Z br Z Z Z Z ZK (zA Z) Z Z Z ?_
 intro bd bs
 have az:sW w U ba [.blk ap 76 B0] bd:=bs
 refine eN (sR gCo Z (oM Z au (oL Z (az.ldBA (j:=0) Z Z Z yF ZK (vs:=B0) Z Z) (bnK bC fun bU bm bD=>?_))))
 have bn:=bw.le ak
 refine yg (a:=ab) Z Z Z Z Z Z (zD Z zO) az bn Z bm ?_
 rintro ae bJ bT be bH bt ⟨rfl,rfl⟩
 have aY:sW w U ae [.blk ap 76 B0] be:=bt
 refine oR Z (ZF Z Z) (eN (ifc bD ?_ ?_))
 intro af bE
 refine zn (nC af.out) (ZT (zf (zG (rR fL2 Z (oR Z (zr (zX Z ag Z) (congrArg (jV) bB.out)) (oM Z Z (zg ?_)))))))
 have q:=nA bE
 obtain rfl:=q
 exact zG ⟨rfl,_,rfl,⟨ae,rfl,au,av,aw,(ak.trans bH),(aY.pick [] _ (by decide) rfl)⟩⟩
 intro af bF
 refine zy (nF (af.out)) (sR fL1 Z (oA Z Z (eN (zP (zc (zR ?_))))))
 have q:=wAb bF
 obtain ⟨bI,bG,bg⟩:=q
 have q:=wBC hm ah (bx bI bg)
 obtain rfl:=q
 refine zR (zc (zR ?_))
 have hE:=nA bG;first | subst r | cases hE
 exact ⟨rfl,_,(zz rfl),ae,_,(aY.pick [] _ (by decide) rfl),rfl,rfl⟩
 rintro ⟨⟩ bW bL ⟨bb,bi,bO,bP,bh,bQ,bu⟩ bz
 have aZ:=wCI hm ah bz
 try dsimp only at aZ
 have bf:Hid (¬ ((↑(((↑O.length:Int):Int) - 0).toNat:Int) < (↑O.length:Int))):=zH (wAc)
 refine sR fL1 Z (oR Z (zW Z bi bh) (eN (zI (cF Z bf (ZJ (zd (zd (ZG (zG (sR fL1 Z (oA Z Z (eN (zP ?_)))))))))))))
 have hE:=nA aZ;first | subst r | cases hE
 exact ⟨Z,_,(zz Z),bb,_,bu,Z,Z⟩
theorem wHN (p0:wAD) (p1:Int) (p2:Int) (w:World) (U:PHeap) (hS:St0 w U [])  {r:Bool} (hm:wDb p0 p1 p2=some r):Gv Tryz.prog 167 [.agg #[jV p0.Lo,jV p0.Hi],jV p1,jV p2] w (wBD w [] U (fun U_ L_ v=>v=.bool r/\L_=[])):=by
 unfold wDb at hm
 refine Gv.of Tryz.func167 rfl Tryz.ntmps167 Tryz.results167 rfl (sR gCd rfl (ZH (cs:=[jV p0.Lo,jV p0.Hi]) rfl rfl rfl rfl rfl rfl (by rfl) hS ?_))
 intro W1 b2 ac
 refine oA Z Z (eN (sR fL18 Z (oR Z (zF Z Z ZM Z zC) (oL Z (ac.ldB (j:=0) Z Z Z zJ (v:=jV p0.Lo) Z) (oR Z (zF Z Z ZM Z zC) (oL Z (ac.ldB (j:=0) Z Z Z zJ (v:=jV p0.Hi) Z) (oR Z (Runs.leq Z Z Z) (oM Z Z ?_))))))))
 by_cases O:p0.Lo <= p0.Hi
 have af:=hm;rw [if_pos O] at af;replace O:=zH O
 refine rU Z (wT Z O) (zF Z Z ZM Z zC) (ZB Z Z Z (wT Z O) (ac.ldB (j:=0) Z Z Z zJ (v:=jV p0.Lo) Z) Z (zj Z Z Z (wT Z O) Z Z (rU Z (wT Z O) (YJ Z Z Z) (oR Z (zT Z (ZZ O.out) Z) (oM Z Z (ifc af ?_ ?_))))))
 intro c7 ag
 refine rU Z (wT Z c7) (zF Z Z ZM Z zC) (ZB Z Z Z (wT Z c7) (ac.ldB (j:=0) Z Z Z zJ (v:=jV p0.Hi) Z) Z (zj Z Z Z (wT Z c7) Z Z (rU Z (wT Z c7) (Runs.leq Z Z Z) (oR Z (zT Z (ZZ c7.out) Z) (oA Z Z (eN (zP ?_)))))))
 first | (obtain rfl:=nA ag) | cases ag
 exact ⟨rfl,_,(zz rfl),U,_,(ac.pick [] _ (by decide) rfl),rfl,rfl⟩
 intro c7 aj
 refine oF Z c7 (oF Z c7 (oF Z c7 (oF Z c7 (oR Z (za Z (zt c7.out) Z) (oA Z Z (eN (zP ?_)))))))
 have hE:=nA aj;first | subst r | cases hE
 exact ⟨rfl,_,(zz rfl),U,_,(ac.pick [] _ (by decide) rfl),rfl,rfl⟩
 have ae:=hm;rw [if_neg O] at ae;replace O:=zH O
 refine oF Z O (oF Z O (oF Z O (oF Z O (oR Z (za Z (zt O.out) Z) (oM Z Z (oN Z (oN Z (oN Z (oN Z (oR Z (za Z Z Z) (oA Z Z (eN (zP ?_)))))))))))))
 have hE:=nA ae;first | subst r | cases hE
 exact ⟨rfl,_,(zz rfl),U,_,(ac.pick [] _ (by decide) rfl),rfl,rfl⟩
theorem wJt (O:wAD) (w:World) (U:PHeap) (hS:St0 w U [])  {r:Bool} (hm:wDc O=some r):Gv Tryz.prog 166 [.agg #[jV O.Lo,jV O.Hi]] w (wBD w [] U (fun U_ L_ v=>v=.bool r/\L_=[])):=by
 unfold wDc at hm
 refine Gv.of Tryz.func166 Z Tryz.ntmps166 Tryz.results166 Z (sR gCd Z ?_)
 let B0:List Value:=[jV O.Lo,jV O.Hi]
 refine ZH (cs:=B0) rfl rfl rfl rfl rfl rfl (by rfl) hS ?_
 intro W1 b2 ac
 refine oA Z Z (eN (sR gCh Z (oL Z (ac.ldBA (j:=0) Z Z Z yF ZK (vs:=B0) Z Z) (bnK hm fun x5 h6 ak=>zM 0 Z Z Z Z (zK Z Z Tryz.call167 (zD Z (zD Z (zD Z zO))) Z) ac (fun hs=>wHN O 0 360000 W1 U hs h6) (.inr Z) ?_))))
 rintro U8 L9 ao af an ai ⟨rfl,rfl⟩
 have aj:sW w U U8 [.blk b2 76 B0] af:=ai
 refine oA Z Z (eN (zP ?_))
 have hE:=nA ak;first | subst r | cases hE
 exact ⟨rfl,_,(zz rfl),U8,_,(aj.pick [] _ (by decide) rfl),rfl,rfl⟩
theorem wGL (O:List wAR) (am:Option Addr) (an:Nat) (p1:(wAR->Option Bool)) (ao:Value) (w:World) (U:PHeap) (hS:St0 w U []) (bv:Sl U 3 am an O.length (hD wAU O)) (bw:FnOK Tryz.prog U ao wRi wRj p1) {r:Bool} (hm:wBi O p1=some r):Gv Tryz.prog 168 [.slice am O.length an,ao] w (wBD w [] U (fun U_ L_ v=>v=.bool r/\L_=[])):=by
 unfold wBi at hm
 refine Gv.of Tryz.func168 Z Tryz.ntmps168 Tryz.results168 Z (sR fL1 Z (oA Z Z (eN (zI (sR fL3 Z (oM Z Z (oR Z (ze Z Z yK) (oM Z Z (eN (zU ?_))))))))))
 have q:=wBJ hm
 obtain ⟨r3,ah⟩:=q
 have q:=wBI ah
 obtain ⟨aj,bA⟩:=q
 replace aj:=zH aj
 refine yB (fun k2 _ σ_ w_=>∃ (U_:PHeap),σ_ 9=jV (↑k2:Int)/\σ_ 1=ao/\σ_ 7=.slice am O.length an/\σ_ 8=jV (↑O.length:Int)/\PHeap.Le U U_/\sW w U U_ [] w_) bA ?_ ?_ ?_
 exact ⟨U,Z,Z,Z,Z,(zL _),hS⟩
 rintro k2 ⟨⟩ bV bX W8 ai ⟨ba,ag,au,av,aw,ak,ay⟩ a7 bx
 try dsimp only at a7
 have aq:Hid ((↑k2:Int) < (↑O.length:Int)):=zH (wAj ai)
 replace ai:=zH ai
 have bB:Hid (w64 ((↑k2:Int) + 1)=(↑(k2 + 1):Int)):=zH (by have h1:=aj.out;have h2:=aq.out;rw [wAX] <;> omega)
 refine sR fL1 Z (oR Z (zW Z ag aw) (eN (zI (cT Z aq (kN (zI (zU (sR (.fl 0 gCm) Z (bnK a7 fun aa ax bC=>?_)))))))))
 have bj:=bv.le ak
 have q:=bj.el (fun _=>rfl) (wAV ax)
 obtain ⟨bN,bR,bp,bq⟩:=q
 refine oR Z (ZE Z av bp ag yK yy (wAq ax)) (oL Z (ay.ldCA (f:=0) bq Z Z Tryz.isAgg78 yy (us:=[jV aa.Offset.Lo,jV aa.Offset.Hi,jV aa.Error]) Z Z) (zm (cs:=[jV 0,jV 0,jV 0]) Z Z Z Z Z Tryz.zeroValue78 Z ay ?_))
 intro bK ap br
 let B0:List Value:=[jV aa.Offset.Lo,jV aa.Offset.Hi,jV aa.Error]
 refine zh (j:=0) (vs:=B0) Z Z Z Z br Z Z Z Z yy (zA Z) Z Z Z ?_
 intro bd bs
 have az:sW w U ba [.blk ap 78 B0] bd:=bs
 refine eN (sR gCo Z (oM Z au (oL Z (az.ldBA (j:=0) Z Z Z Tryz.isAgg78 yy (vs:=B0) Z Z) (bnK bC fun bU bm bD=>?_))))
 have bn:=bw.le ak
 refine yg (a:=aa) Z Z Z Z Z Z (zD Z zO) az bn Z bm ?_
 rintro ae bJ bT be bH bt ⟨rfl,rfl⟩
 have aY:sW w U ae [.blk ap 78 B0] be:=bt
 refine oR Z (ZF Z Z) (eN (ifc bD ?_ ?_))
 intro af bE
 refine zn (nC af.out) (ZT (zf (zG (rR fL2 Z (oR Z (zr (zX Z ag Z) (congrArg (jV) bB.out)) (oM Z Z (zg ?_)))))))
 have q:=nA bE
 obtain rfl:=q
 exact zG ⟨rfl,_,rfl,⟨ae,rfl,au,av,aw,(ak.trans bH),(aY.pick [] _ (by decide) rfl)⟩⟩
 intro af bF
 refine zy (nF (af.out)) (sR fL1 Z (oA Z Z (eN (zP (zc (zR ?_))))))
 have q:=wAb bF
 obtain ⟨bI,bG,bg⟩:=q
 have q:=wBC hm ah (bx bI bg)
 obtain rfl:=q
 refine zR (zc (zR ?_))
 have hE:=nA bG;first | subst r | cases hE
 exact ⟨rfl,_,(zz rfl),ae,_,(aY.pick [] _ (by decide) rfl),rfl,rfl⟩
 rintro ⟨⟩ bW bL ⟨bb,bi,bO,bP,bh,bQ,bu⟩ bz
 have aZ:=wCI hm ah bz
 try dsimp only at aZ
 have bf:Hid (¬ ((↑(((↑O.length:Int):Int) - 0).toNat:Int) < (↑O.length:Int))):=zH (wAc)
 refine sR fL1 Z (oR Z (zW Z bi bh) (eN (zI (cF Z bf (ZJ (zd (zd (ZG (zG (sR fL1 Z (oA Z Z (eN (zP ?_)))))))))))))
 have hE:=nA aZ;first | subst r | cases hE
 exact ⟨Z,_,(zz Z),bb,_,bu,Z,Z⟩
theorem wJu (O:wAR) (w:World) (U:PHeap) (hS:St0 w U [])  {r:Bool} (hm:wDd O=some r):Gv Tryz.prog 169 [.agg #[jV O.Offset.Lo,jV O.Offset.Hi,jV O.Error]] w (wBD w [] U (fun U_ L_ v=>v=.bool r/\L_=[])):=by
 unfold wDd at hm
 refine Gv.of Tryz.func169 Z Tryz.ntmps169 Tryz.results169 Z (sR gCd Z ?_)
 let B0:List Value:=[jV O.Offset.Lo,jV O.Offset.Hi,jV O.Error]
 refine ZH (cs:=B0) rfl rfl rfl rfl rfl rfl (by rfl) hS ?_
 intro W1 b2 ai
 refine oA Z Z (eN (sR (.fl 0 (.fl 1 (.fx 2 (wSF (.fx 6 (.fl 7 (.fl 8 .nil)) .stop)) .stop))) Z (oR Z (zF Z Z YM Z ZK) (oL Z (ai.ldBA (j:=0) Z Z Z yF ZK (vs:=[jV O.Offset.Lo,jV O.Offset.Hi]) Z Z) (bnK hm fun x5 h6 ax=>zM 0 Z Z Z Z (zK Z Z Tryz.call167 (zD Z (zD Z (zD Z zO))) Z) ai (fun hs=>wHN O.Offset (-36000) 36000 W1 U hs h6) (.inr Z) ?_)))))
 rintro U8 L9 a7 ag aY ao ⟨rfl,rfl⟩
 have ae:sW w U U8 [.blk b2 78 B0] ag:=ao
 refine oM Z Z (ifc ax ?_ ?_)
 intro aa au
 refine zY Z Z Z (zN Z Z (congrArg nB aa.out)) (fun _=>zF Z Z YM Z zC) (ZB Z Z Z (zN Z Z (congrArg nB aa.out)) (ae.ldB (j:=0) Z Z Z zJ (v:=jV O.Error) Z) Z (bnK au fun ba am av=>zM 0 Z Z Z (zN Z Z (congrArg nB aa.out)) (zK Z Z Tryz.call134 (zD Z (zD Z (zD Z zO))) Z) ae (fun hs=>wFm O.Error 0 600 ag U8 hs am) (.inr Z) ?_))
 rintro af ay a8 ak aZ ap ⟨rfl,rfl⟩
 have aq:sW w U af [.blk b2 78 B0] ak:=ap
 refine oR Z (zT Z (congrArg nB aa.out) Z) (oA Z Z (eN (zP ?_)))
 have hE:=nA av;first | subst r | cases hE
 exact ⟨rfl,_,(zz rfl),af,_,(aq.pick [] _ (by decide) rfl),rfl,rfl⟩
 intro aa aw
 refine zk Z Z Z (zQ Z Z (congrArg nB (nD.2 aa.out)) Z) (zk Z Z Z (zQ Z Z (congrArg nB (nD.2 aa.out)) Z) (ZI Z Z Z (zQ Z Z (congrArg nB (nD.2 aa.out)) Z) (oR Z (za Z (congrArg nB (nD.2 aa.out)) Z) (oA Z Z (eN (zP ?_))))))
 have hE:=nA aw;first | subst r | cases hE
 exact ⟨rfl,_,(zz rfl),U8,_,(ae.pick [] _ (by decide) rfl),rfl,rfl⟩
theorem wEC (O:List wAP) (am:Option Addr) (an:Nat) (p1:(wAP->Option Bool)) (ao:Value) (w:World) (U:PHeap) (hS:St0 w U []) (bv:Sl U 4 am an O.length (hD wAG O)) (bw:FnOK Tryz.prog U ao wQS wQT p1) {r:Bool} (hm:wBA O p1=some r):Gv Tryz.prog 170 [.slice am O.length an,ao] w (wBD w [] U (fun U_ L_ v=>v=.bool r/\L_=[])):=by
 unfold wBA at hm
 refine Gv.of Tryz.func170 Z Tryz.ntmps170 Tryz.results170 Z (sR fL1 Z (oA Z Z (eN (zI (sR fL3 Z (oM Z Z (oR Z (ze Z Z yb) (oM Z Z (eN (zU ?_))))))))))
 have q:=wBJ hm
 obtain ⟨r3,ah⟩:=q
 have q:=wBI ah
 obtain ⟨aj,bA⟩:=q
 replace aj:=zH aj
 refine yB (fun k2 _ σ_ w_=>∃ (U_:PHeap),σ_ 9=jV (↑k2:Int)/\σ_ 1=ao/\σ_ 7=.slice am O.length an/\σ_ 8=jV (↑O.length:Int)/\PHeap.Le U U_/\sW w U U_ [] w_) bA ?_ ?_ ?_
 exact ⟨U,Z,Z,Z,Z,(zL _),hS⟩
 rintro k2 ⟨⟩ bV bX W8 ai ⟨ba,ag,au,av,aw,ak,ay⟩ a7 bx
 try dsimp only at a7
 have aq:Hid ((↑k2:Int) < (↑O.length:Int)):=zH (wAj ai)
 replace ai:=zH ai
 have bB:Hid (w64 ((↑k2:Int) + 1)=(↑(k2 + 1):Int)):=zH (by have h1:=aj.out;have h2:=aq.out;rw [wAX] <;> omega)
 refine sR fL1 Z (oR Z (zW Z ag aw) (eN (zI (cT Z aq (kN (zI (zU (sR (.fl 0 gCm) Z (bnK a7 fun aa ax bC=>?_)))))))))
 have bj:=bv.le ak
 have q:=bj.el (fun _=>rfl) (wAV ax)
 obtain ⟨bN,bR,bp,bq⟩:=q
 refine oR Z (ZE Z av bp ag yb yI (wAq ax)) (oL Z (ay.ldCA (f:=0) bq Z Z Tryz.isAgg85 yI (us:=[jV aa.Skier,jV aa.Mat,jV aa.Clock,jV aa.Time]) Z Z) (zm (cs:=[jV 0,jV 0,jV 0,jV 0]) Z Z Z Z Z YD Z ay ?_))
 intro bK ap br
 let B0:List Value:=[jV aa.Skier,jV aa.Mat,jV aa.Clock,jV aa.Time]
 refine zh (j:=0) (vs:=B0) Z Z Z Z br Z Z Z Z yI (zA Z) Z Z Z ?_
 intro bd bs
 have az:sW w U ba [.blk ap 85 B0] bd:=bs
 refine eN (sR gCo Z (oM Z au (oL Z (az.ldBA (j:=0) Z Z Z Tryz.isAgg85 yI (vs:=B0) Z Z) (bnK bC fun bU bm bD=>?_))))
 have bn:=bw.le ak
 refine yg (a:=aa) Z Z Z Z Z Z (zD Z zO) az bn Z bm ?_
 rintro ae bJ bT be bH bt ⟨rfl,rfl⟩
 have aY:sW w U ae [.blk ap 85 B0] be:=bt
 refine oR Z (ZF Z Z) (eN (ifc bD ?_ ?_))
 intro af bE
 refine zn (nC af.out) (ZT (zf (zG (rR fL2 Z (oR Z (zr (zX Z ag Z) (congrArg (jV) bB.out)) (oM Z Z (zg ?_)))))))
 have q:=nA bE
 obtain rfl:=q
 exact zG ⟨rfl,_,rfl,⟨ae,rfl,au,av,aw,(ak.trans bH),(aY.pick [] _ (by decide) rfl)⟩⟩
 intro af bF
 refine zy (nF (af.out)) (sR fL1 Z (oA Z Z (eN (zP (zc (zR ?_))))))
 have q:=wAb bF
 obtain ⟨bI,bG,bg⟩:=q
 have q:=wBC hm ah (bx bI bg)
 obtain rfl:=q
 refine zR (zc (zR ?_))
 have hE:=nA bG;first | subst r | cases hE
 exact ⟨rfl,_,(zz rfl),ae,_,(aY.pick [] _ (by decide) rfl),rfl,rfl⟩
 rintro ⟨⟩ bW bL ⟨bb,bi,bO,bP,bh,bQ,bu⟩ bz
 have aZ:=wCI hm ah bz
 try dsimp only at aZ
 have bf:Hid (¬ ((↑(((↑O.length:Int):Int) - 0).toNat:Int) < (↑O.length:Int))):=zH (wAc)
 refine sR fL1 Z (oR Z (zW Z bi bh) (eN (zI (cF Z bf (ZJ (zd (zd (ZG (zG (sR fL1 Z (oA Z Z (eN (zP ?_)))))))))))))
 have hE:=nA aZ;first | subst r | cases hE
 exact ⟨Z,_,(zz Z),bb,_,bu,Z,Z⟩
theorem wJv (O:wAP) (w:World) (U:PHeap) (hS:St0 w U [])  {r:Bool} (hm:wDe O=some r):Gv Tryz.prog 171 [.agg #[jV O.Skier,jV O.Mat,jV O.Clock,jV O.Time]] w (wBD w [] U (fun U_ L_ v=>v=.bool r/\L_=[])):=by
 unfold wDe at hm
 refine Gv.of Tryz.func171 Z Tryz.ntmps171 Tryz.results171 Z (sR gCd Z ?_)
 let B0:List Value:=[jV O.Skier,jV O.Mat,jV O.Clock,jV O.Time]
 refine ZH (cs:=B0) rfl rfl rfl rfl rfl rfl (by rfl) hS ?_
 intro W1 b2 ac
 refine oA Z Z (eN (sR gCo Z (oR Z (zF Z Z Zt Z zC) (oL Z (ac.ldB (j:=0) Z Z Z zJ (v:=jV O.Time) Z) (bnK hm fun x5 h6 ak=>zM 0 Z Z Z Z (zK Z Z Tryz.call134 (zD Z (zD Z (zD Z zO))) Z) ac (fun hs=>wFm O.Time 0 360000 W1 U hs h6) (.inr Z) ?_)))))
 rintro U8 L9 ao af an ai ⟨rfl,rfl⟩
 have aj:sW w U U8 [.blk b2 85 B0] af:=ai
 refine oA Z Z (eN (zP ?_))
 have hE:=nA ak;first | subst r | cases hE
 exact ⟨rfl,_,(zz rfl),U8,_,(aj.pick [] _ (by decide) rfl),rfl,rfl⟩
theorem wFS (O:wAF) (ae:Option Addr) (ag:Nat) (af:Option Addr) (ah:Nat) (an:Option Addr) (ap:Nat) (ao:Option Addr) (aq:Nat) (p1:wAa) (w:World) (U:PHeap) (hS:St0 w U []) (bm:Sl U 1 ae ag O.Starts.length (hD KL.encI O.Starts)) (bn:Sl U 2 af ah O.Splits.length (hD wAH O.Splits)) (bp:Sl U 3 an ap O.Clocks.length (hD wAU O.Clocks)) (bq:Sl U 4 ao aq O.Readings.length (hD wAG O.Readings)) {r:Bool} (hm:wBF O p1=some r):Gv Tryz.prog 97 [.agg #[.slice ae O.Starts.length ag,.slice af O.Splits.length ah,.slice an O.Clocks.length ap,.slice ao O.Readings.length aq],.agg #[jV p1.Skier,jV p1.Mat]] w (wBD w [] U (fun U_ L_ v=>v=.bool r/\L_=[])):=by
 unfold wBF at hm
 refine Gv.of Tryz.func97 Z Tryz.ntmps97 Tryz.results97 Z (sR gCj Z ?_)
 let B0:List Value:=[.slice ae O.Starts.length ag,.slice af O.Splits.length ah,.slice an O.Clocks.length ap,.slice ao O.Readings.length aq]
 refine ZH (cs:=B0) rfl rfl rfl rfl rfl rfl (by rfl) hS ?_
 intro W1 b2 ba
 let B1:List Value:=[jV p1.Skier,jV p1.Mat]
 refine ZH (cs:=B1) rfl rfl rfl rfl rfl rfl (by rfl) ba ?_
 intro W5 b6 am
 refine oA Z Z (eN (sR (wGx (.fx 6 (wSN (.fx 13 (.fl 14 (.fl 15 .nil)) .stop)) .stop)) Z (oR Z (zF Z Z Tryz.runUnderlying92 Z zC) (oL Z (am.ldB (j:=0) Z Z Z zJ (v:=jV p1.Skier) Z) (oR Z (zF Z Z zq Z zS) (oL Z (am.ldB (j:=1) Z Z Z zZ (v:=.slice ae O.Starts.length ag) Z) (oR Z (ze Z Z zB) (oR Z (Zy Z Z Z) (bnK hm fun x9 aY bd=>zM 0 Z Z Z Z (zK Z Z Tryz.call134 (zD Z (zD Z (zD Z zO))) Z) am (fun hs=>wFm p1.Skier 0 (w64 ((↑O.Starts.length:Int) - 1)) W5 U hs aY) (.inr Z) ?_)))))))))
 rintro ak bh bt av br a7 ⟨rfl,rfl⟩
 have ac:sW w U ak [.blk b6 92 B1,.blk b2 83 B0] av:=a7
 refine oM Z Z (ifc bd ?_ ?_)
 intro aa be
 refine zY Z Z Z (zN Z Z (congrArg nB aa.out)) (fun _=>zF Z Z Tryz.runUnderlying92 Z zC) (ZB Z Z Z (zN Z Z (congrArg nB aa.out)) (ac.ldB (j:=0) Z Z Z zJ (v:=jV p1.Mat) Z) Z (zY Z Z Z (zN Z Z (congrArg nB aa.out)) (fun _=>zF Z Z zq Z yz) (ZB Z Z Z (zN Z Z (congrArg nB aa.out)) (ac.ldB (j:=1) Z Z Z Yb (v:=.slice af O.Splits.length ah) Z) Z (zY Z Z Z (zN Z Z (congrArg nB aa.out)) (fun _=>ze Z Z ZQ) (bnK be fun bv aZ bf=>zM 0 Z Z Z (zN Z Z (congrArg nB aa.out)) (zK Z Z Tryz.call134 (zD Z (zD Z (zD Z zO))) Z) ac (fun hs=>wFm p1.Mat 0 (↑O.Splits.length:Int) av ak hs aZ) (.inr Z) ?_)))))
 rintro au bi bu ay bs a8 ⟨rfl,rfl⟩
 have bb:sW w U au [.blk b6 92 B1,.blk b2 83 B0] ay:=a8
 refine oR Z (zT Z (congrArg nB aa.out) Z) (oA Z Z (eN (zP ?_)))
 have hE:=nA bf;first | subst r | cases hE
 exact ⟨rfl,_,(zz rfl),au,_,(bb.pick [] _ (by decide) rfl),rfl,rfl⟩
 intro aa bg
 refine zk Z Z Z (zQ Z Z (congrArg nB (nD.2 aa.out)) Z) (zk Z Z Z (zQ Z Z (congrArg nB (nD.2 aa.out)) Z) (zk Z Z Z (zQ Z Z (congrArg nB (nD.2 aa.out)) Z) (zk Z Z Z (zQ Z Z (congrArg nB (nD.2 aa.out)) Z) (zk Z Z Z (zQ Z Z (congrArg nB (nD.2 aa.out)) Z) (ZI Z Z Z (zQ Z Z (congrArg nB (nD.2 aa.out)) Z) (oR Z (za Z (congrArg nB (nD.2 aa.out)) Z) (oA Z Z (eN (zP ?_)))))))))
 have hE:=nA bg;first | subst r | cases hE
 exact ⟨rfl,_,(zz rfl),ak,_,(ac.pick [] _ (by decide) rfl),rfl,rfl⟩
theorem wJw (p0:wAP) (O:wAF) (ax:Nat) (ah:Option Addr) (ak:Nat) (ai:Option Addr) (am:Nat) (ac:Option Addr) (ae:Nat) (aj:Option Addr) (an:Nat) (w:World) (U:PHeap) (hS:St0 w U []) (aw:Cl U ax 0 [.slice ah O.Starts.length ak,.slice ai O.Splits.length am,.slice ac O.Clocks.length ae,.slice aj O.Readings.length an]) (bd:Sl U 1 ah ak O.Starts.length (hD KL.encI O.Starts)) (be:Sl U 2 ai am O.Splits.length (hD wAH O.Splits)) (bf:Sl U 3 ac ae O.Clocks.length (hD wAU O.Clocks)) (bg:Sl U 4 aj an O.Readings.length (hD wAG O.Readings)) {r:Bool} (hm:wDf p0 O=some r):Gv Tryz.prog 172 [.agg #[jV p0.Skier,jV p0.Mat,jV p0.Clock,jV p0.Time],.pointer (some ⟨ax,0,none⟩)] w (wBD w [] U (fun U_ L_ v=>v=.bool r/\L_=[])):=by
 unfold wDf at hm
 refine Gv.of Tryz.func172 Z Tryz.ntmps172 Tryz.results172 Z (sR gCd Z ?_)
 let B0:List Value:=[jV p0.Skier,jV p0.Mat,jV p0.Clock,jV p0.Time]
 refine ZH (cs:=B0) rfl rfl rfl rfl rfl rfl (by rfl) hS ?_
 intro W1 b2 ag
 refine oA Z Z (eN (sR (wGx (.fx 6 (wSO (.fx 14 (.fl 15 (.fl 16 .nil)) .stop)) .stop)) Z (oL Z (ag.ldCA (f:=0) aw Z Z Zv Zg (us:=[.slice ah O.Starts.length ak,.slice ai O.Splits.length am,.slice ac O.Clocks.length ae,.slice aj O.Readings.length an]) Z Z) (oR Z (zF Z Z Zt Z zC) (oL Z (ag.ldB (j:=0) Z Z Z zJ (v:=jV p0.Skier) Z) (oR Z (zF Z Z Zt Z zC) (oL Z (ag.ldB (j:=0) Z Z Z zJ (v:=jV p0.Mat) Z) (oR Z (zx (pv:=[(0,jV p0.Skier),(1,jV p0.Mat)]) (z:=[jV 0,jV 0]) (cs:=[jV p0.Skier,jV p0.Mat]) Z (wAA Z (wAA Z wAI)) YS wIx Z Z) (bnK hm fun x5 h6 bm=>zM 0 Z Z Z Z (zK Z Z Tryz.call97 (zD Z (zD Z zO)) Z) ag (fun hs=>wFS O ah ak ai am ac ae aj an (⟨p0.Skier,p0.Mat⟩:wAa) W1 U hs bd be bf bg h6) (.inr Z) ?_)))))))))
 rintro U8 L9 bs au bn a8 ⟨rfl,rfl⟩
 have af:sW w U U8 [.blk b2 85 B0] au:=a8
 refine oM Z Z (ifc bm ?_ ?_)
 intro ab bh
 refine zY Z Z Z (zN Z Z (congrArg nB ab.out)) (fun _=>zF Z Z Zt Z zC) (ZB Z Z Z (zN Z Z (congrArg nB ab.out)) (af.ldB (j:=0) Z Z Z zJ (v:=jV p0.Clock) Z) Z (zY Z Z Z (zN Z Z (congrArg nB ab.out)) (fun _=>zF Z Z zq Z YW) ?_))
 have aY:=aw.le bn
 refine ZB Z Z Z (zN Z Z (congrArg nB ab.out)) (af.ldC (f:=2) aY (v:=.slice ac O.Clocks.length ae) Z Z Yc Z) Z (zY Z Z Z (zN Z Z (congrArg nB ab.out)) (fun _=>ze Z Z yK) (zY Z Z Z (zN Z Z (congrArg nB ab.out)) (fun _=>Zy Z Z Z) (bnK bh fun bu aZ bi=>zM 0 Z Z Z (zN Z Z (congrArg nB ab.out)) (zK Z Z Tryz.call134 (zD Z (zD Z (zD Z zO))) Z) af (fun hs=>wFm p0.Clock 0 (w64 ((↑O.Clocks.length:Int) - 1)) au U8 hs aZ) (.inr Z) ?_)))
 rintro aq bp bt az br ba ⟨rfl,rfl⟩
 have bb:sW w U aq [.blk b2 85 B0] az:=ba
 refine oR Z (zT Z (congrArg nB ab.out) Z) (oA Z Z (eN (zP ?_)))
 have hE:=nA bi;first | subst r | cases hE
 exact ⟨rfl,_,(zz rfl),aq,_,(bb.pick [] _ (by decide) rfl),rfl,rfl⟩
 intro ab bj
 refine zk Z Z Z (zQ Z Z (congrArg nB (nD.2 ab.out)) Z) (zk Z Z Z (zQ Z Z (congrArg nB (nD.2 ab.out)) Z) (zk Z Z Z (zQ Z Z (congrArg nB (nD.2 ab.out)) Z) (zk Z Z Z (zQ Z Z (congrArg nB (nD.2 ab.out)) Z) (zk Z Z Z (zQ Z Z (congrArg nB (nD.2 ab.out)) Z) (zk Z Z Z (zQ Z Z (congrArg nB (nD.2 ab.out)) Z) (ZI Z Z Z (zQ Z Z (congrArg nB (nD.2 ab.out)) Z) (oR Z (za Z (congrArg nB (nD.2 ab.out)) Z) (oA Z Z (eN (zP ?_))))))))))
 have hE:=nA bj;first | subst r | cases hE
 exact ⟨rfl,_,(zz rfl),U8,_,(af.pick [] _ (by decide) rfl),rfl,rfl⟩
theorem wLK (O:wAF) (am:Option Addr) (ap:Nat) (an:Option Addr) (aq:Nat) (ao:Option Addr) (au:Nat) (ah:Option Addr) (ai:Nat) (w:World) (U:PHeap) (hS:St0 w U []) (cM:Sl U 1 am ap O.Starts.length (hD KL.encI O.Starts)) (cN:Sl U 2 an aq O.Splits.length (hD wAH O.Splits)) (cO:Sl U 3 ao au O.Clocks.length (hD wAU O.Clocks)) (cP:Sl U 4 ah ai O.Readings.length (hD wAG O.Readings)) {r:Int} (hm:wFJ O=some r):Gv Tryz.prog 132 [.agg #[.slice am O.Starts.length ap,.slice an O.Splits.length aq,.slice ao O.Clocks.length au,.slice ah O.Readings.length ai]] w (wBD w [] U (fun U_ L_ v=>v=jV r/\L_=[])):=by
 unfold wFJ at hm
 refine Gv.of Tryz.func132 Z Tryz.ntmps132 Tryz.results132 Z (sR gCd Z ?_)
 let B0:List Value:=[.slice am O.Starts.length ap,.slice an O.Splits.length aq,.slice ao O.Clocks.length au,.slice ah O.Readings.length ai]
 refine ZH (cs:=B0) rfl rfl rfl rfl rfl rfl (by rfl) hS ?_
 intro W1 b2 cH
 have q:=cH.freeze (k:=0) rfl
 obtain ⟨U5,be,aw,cL⟩:=q
 replace aw:=Cl.of aw
 have bM:sW w U U5 [] W1:=cL
 replace aw:Cl U5 b2 0 B0:=aw
 refine oA Z Z (eN (zI (zU (sR (wCK (.fx 3 (wSK (.nil)) .stop)) Z (oR Z (zF Z Z zq Z zS) (oL Z (bM.ldC (f:=0) aw (v:=.slice am O.Starts.length ap) Z Z zZ Z) (oR Z (ze Z Z zB) (bnK hm fun dF bT cS=>zM 0 Z Z Z Z (zK Z Z Tryz.call134 (zD Z (zD Z (zD Z zO))) Z) bM (fun hs=>wFm (↑O.Starts.length:Int) 1 8 W1 U5 hs bT) (.inr Z) ?_))))))))
 rintro ak dt dA bw ay cG ⟨rfl,rfl⟩
 have ag:sW w U ak [] bw:=cG
 refine oR Z (ZF Z Z) (oM Z Z (ifc cS ?_ ?_))
 intro aa c8
 refine zY Z Z Z (zN Z Z (nC aa.out)) (fun _=>zF Z Z zq Z yz) ?_
 have ax:=aw.le ay
 refine ZB Z Z Z (zN Z Z (nC aa.out)) (ag.ldC (f:=1) ax (v:=.slice an O.Splits.length aq) Z Z Yb Z) Z (zY Z Z Z (zN Z Z (nC aa.out)) (fun _=>ze Z Z ZQ) (zY Z Z Z (zN Z Z (nC aa.out)) (fun _=>yT Z Z Z) (oR Z (za Z (nC aa.out) Z) (oM Z Z (ifc c8 ?_ ?_)))))
 intro ab c9
 refine oT Z ab (oT Z ab (oT Z ab (oT Z ab (oR Z (zT Z (ZZ ab.out) Z) (oM Z Z (oN Z (oN Z (oN Z (oN Z (oR Z (zT Z Z Z) (oA Z Z (eN (zy Z (sR fL1 Z (oA Z Z (eN (zP (zc (zR ?_)))))))))))))))))))
 cases c9
 exact ⟨Z,_,(zz Z),ak,_,ag,Z,Z⟩
 intro ab da
 refine rU Z (wF Z ab) (zF Z Z zq Z YW) (ZB Z Z Z (wF Z ab) (ag.ldC (f:=2) ax (v:=.slice ao O.Clocks.length au) Z Z Yc Z) Z (rU Z (wF Z ab) (ze Z Z yK) (rU Z (wF Z ab) (yT Z Z Z) (oR Z (za Z (zt ab.out) Z) (oM Z Z (ifc da ?_ ?_))))))
 intro ac db
 refine oT Z ac (oT Z ac (oT Z ac (oT Z ac (oR Z (zT Z (ZZ ac.out) Z) (oA Z Z (eN (zy Z (sR fL1 Z (oA Z Z (eN (zP (zc (zR ?_)))))))))))))
 cases db
 exact ⟨Z,_,(zz Z),ak,_,ag,Z,Z⟩
 intro ac dd
 refine rU Z (wF Z ac) (zF Z Z zq Z yQ) (ZB Z Z Z (wF Z ac) (ag.ldC (f:=3) ax (v:=.slice ah O.Readings.length ai) Z Z YU Z) Z (rU Z (wF Z ac) (ze Z Z yb) (rU Z (wF Z ac) (yT Z Z Z) (oR Z (za Z (zt ac.out) Z) (oA Z Z (eN (ifc dd ?_ ?_)))))))
 intro bj de
 refine cT Z bj (sR fL1 Z (oA Z Z (eN (zP (zc (zR ?_))))))
 cases de
 exact ⟨Z,_,(zz Z),ak,_,ag,Z,Z⟩
 intro bj df
 refine cF Z bj (sR (.fl 0 (.fl 1 (.fx 2 (wNe (.fx 7 (wKM (.nil)) .stop)) .stop))) Z (oR Z (zF Z Z zq Z zS) (oL Z (ag.ldC (f:=0) ax (v:=.slice am O.Starts.length ap) Z Z zZ Z) ?_)))
 have ca:=cM.le be
 have bE:=ca.le ay
 have cy:FnOK Tryz.prog ak (.func (.func 164) #[] #[]) wKm wLg wDa:=⟨164,[],[],rfl,Tryz.call164,fun U1 w1 x y vs le hs ha hm=>by obtain rfl:=ha;exact wJs x w1 U1 hs  hm⟩
 refine bnK df fun dH cc dg=>zM 0 Z Z Z Z (zK Z Z Tryz.call163 (zD Z (zD Z zO)) Z) ag (fun hs=>wIY O.Starts am ap wDa (.func (.func 164) #[] #[]) bw ak hs bE cy cc) (.inr Z) ?_
 rintro a8 du dB bx az cI ⟨rfl,rfl⟩
 have br:sW w U a8 [] bx:=cI
 refine oR Z (ZF Z Z) (oM Z Z (ifc dg ?_ ?_))
 intro ae dh
 refine zY Z Z Z (zN Z Z (nC ae.out)) (fun _=>zF Z Z zq Z yz) ?_
 have bF:=ax.le az
 refine ZB Z Z Z (zN Z Z (nC ae.out)) (br.ldC (f:=1) bF (v:=.slice an O.Splits.length aq) Z Z Yb Z) Z ?_
 have cd:=cN.le be
 have cg:=cd.le ay
 have bG:=cg.le az
 have cz:FnOK Tryz.prog a8 (.func (.func 166) #[] #[]) wLF wLG wDc:=⟨166,[],[],rfl,Tryz.call166,fun U1 w1 x y vs le hs ha hm=>by obtain rfl:=ha;exact wJt x w1 U1 hs  hm⟩
 refine bnK dh fun dI ci di=>zM 0 Z Z Z (zN Z Z (nC ae.out)) (zK Z Z Tryz.call165 (zD Z (zD Z zO)) Z) br (fun hs=>wGb O.Splits an aq wDc (.func (.func 166) #[] #[]) bx a8 hs bG cz ci) (.inr Z) ?_
 rintro ba dv dC bz aY cJ ⟨rfl,rfl⟩
 have bs:sW w U ba [] bz:=cJ
 refine zY Z Z Z (zN Z Z (nC ae.out)) (fun _=>ZF Z Z) (oR Z (za Z (nC ae.out) Z) (oA Z Z (eN (ifc di ?_ ?_))))
 intro bm dl
 refine zn (nC bm.out) (sR gCp Z (oR Z (zF Z Z zq Z YW) ?_))
 have bH:=bF.le aY
 refine oL Z (bs.ldC (f:=2) bH (v:=.slice ao O.Clocks.length au) Z Z Yc Z) ?_
 have cj:=cO.le be
 have cm:=cj.le ay
 have cn:=cm.le az
 have bI:=cn.le aY
 have cA:FnOK Tryz.prog ba (.func (.func 169) #[] #[]) wRi wRj wDd:=⟨169,[],[],rfl,Tryz.call169,fun U1 w1 x y vs le hs ha hm=>by obtain rfl:=ha;exact wJu x w1 U1 hs  hm⟩
 refine bnK dl fun dJ co dm=>zM 0 Z Z Z Z (zK Z Z Tryz.call168 (zD Z (zD Z zO)) Z) bs (fun hs=>wGL O.Clocks ao au wDd (.func (.func 169) #[] #[]) bz ba hs bI cA co) (.inr Z) ?_
 rintro bb dw dD bA aZ cK ⟨rfl,rfl⟩
 have bt:sW w U bb [] bA:=cK
 refine oR Z (ZF Z Z) (oA Z Z (eN (ifc dm ?_ ?_)))
 intro bn dn
 refine zn (nC bn.out) (zI (yL fun dq bN=>?_))
 have bp:dq 1=.pointer (some ⟨b2,0,none⟩):=(bN 1).trans rfl
 clear bN
 refine rR gCp Z (oR Z (zF Z bp zq Z yQ) ?_)
 have bJ:=bH.le aZ
 refine oL Z (bt.ldC (f:=3) bJ (v:=.slice ah O.Readings.length ai) Z Z YU Z) ?_
 have cp:=cP.le be
 have cq:=cp.le ay
 have cr:=cq.le az
 have ct:=cr.le aY
 have bK:=ct.le aZ
 have cC:FnOK Tryz.prog bb (.func (.func 171) #[] #[]) wQS wQT wDe:=⟨171,[],[],rfl,Tryz.call171,fun U1 w1 x y vs le hs ha hm=>by obtain rfl:=ha;exact wJv x w1 U1 hs  hm⟩
 refine bnK dn fun dK cu dp=>zM 0 Z Z Z Z (zK Z Z Tryz.call170 (zD Z (zD Z zO)) Z) bt (fun hs=>wEC O.Readings ah ai wDe (.func (.func 171) #[] #[]) bA bb hs bK cC cu) (.inr Z) ?_
 rintro bd dx dE bB a7 cD ⟨rfl,rfl⟩
 have bq:sW w U bd [] bB:=cD
 refine oR Z (ZF Z Z) (oA Z Z (eN (ifc dp ?_ ?_)))
 intro bh cQ
 refine zn (nC bh.out) (sR (wCK (.fx 3 (.fl 4 (.fl 5 .nil)) .stop)) Z (oR Z (zF Z bp zq Z yQ) ?_))
 have bC:=bJ.le a7
 refine oL Z (bq.ldC (f:=3) bC (v:=.slice ah O.Readings.length ai) Z Z YU Z) (oR Z (yn Z zO (zD bp zO)) ?_)
 have bD:=bK.le a7
 have bP:=bE.le az
 have bQ:=bP.le aY
 have bR:=bQ.le aZ
 have bS:=bR.le a7
 have bU:=bG.le aY
 have bV:=bU.le aZ
 have bW:=bV.le a7
 have bX:=bI.le aZ
 have bY:=bX.le a7
 have cw:FnOK Tryz.prog bd (.func (.func 172) #[] #[.pointer (some ⟨b2,0,none⟩)]) wQS wQT (fun x=>wDf x O):=⟨172,[],[.pointer (some ⟨b2,0,none⟩)],rfl,Tryz.call172,fun U1 w1 x y vs le hs ha hm=>by obtain rfl:=ha;exact wJw x O b2 am ap an aq ao au ah ai w1 U1 hs (bC.le le) (bS.le le) (bW.le le) (bY.le le) (bD.le le) hm⟩
 refine bnK cQ fun dG bZ cR=>zM 0 Z Z Z Z (zK Z Z Tryz.call170 (zD Z (zD Z zO)) Z) bq (fun hs=>wEC O.Readings ah ai (fun x=>wDf x O) (.func (.func 172) #[] #[.pointer (some ⟨b2,0,none⟩)]) bB bd hs bD cw bZ) (.inr Z) ?_
 rintro bf dr dz bO dy cE ⟨rfl,rfl⟩
 have bL:sW w U bf [] bO:=cE
 refine oR Z (ZF Z Z) (oA Z Z (eN (ifc cR ?_ ?_)))
 intro bi cU
 refine zn (nC bi.out) (ZT (zf (zG (sR fL1 Z (oA Z Z (eN (zP ?_)))))))
 cases cU
 exact ⟨Z,_,(zz Z),bf,_,bL,Z,Z⟩
 intro bi cV
 refine zy (nF (bi.out)) (sR fL1 Z (oA Z Z (eN (zP (zc (zR ?_))))))
 cases cV
 exact ⟨Z,_,(zz Z),bf,_,bL,Z,Z⟩
 intro bh cW
 refine zy (nF (bh.out)) (sR fL1 Z (oA Z Z (eN (zP (zc (zR ?_))))))
 cases cW
 exact ⟨Z,_,(zz Z),bd,_,bq,Z,Z⟩
 intro bn cX
 refine zy (nF (bn.out)) (sR fL1 Z (oA Z Z (eN (zP (zc (zR ?_))))))
 cases cX
 exact ⟨Z,_,(zz Z),bb,_,bt,Z,Z⟩
 intro bm cY
 refine zy (nF (bm.out)) (sR fL1 Z (oA Z Z (eN (zP (zc (zR ?_))))))
 cases cY
 exact ⟨Z,_,(zz Z),ba,_,bs,Z,Z⟩
 intro ae cZ
 refine zk Z Z Z (zQ Z Z (nF (ae.out)) Z) (zk Z Z Z (zQ Z Z (nF (ae.out)) Z) (ZI Z Z Z (zQ Z Z (nF (ae.out)) Z) (zk Z Z Z (zQ Z Z (nF (ae.out)) Z) (oR Z (zT Z (nF (ae.out)) Z) (oA Z Z (eN (zy Z (sR fL1 Z (oA Z Z (eN (zP (zc (zR ?_)))))))))))))
 cases cZ
 exact ⟨Z,_,(zz Z),a8,_,br,Z,Z⟩
 intro aa c6
 refine zk Z Z Z (zQ Z Z (nF (aa.out)) Z) (zk Z Z Z (zQ Z Z (nF (aa.out)) Z) (zk Z Z Z (zQ Z Z (nF (aa.out)) Z) (zk Z Z Z (zQ Z Z (nF (aa.out)) Z) (oR Z (zT Z (nF (aa.out)) Z) (oM Z Z (oN Z (oN Z (oN Z (oN Z (oR Z (zT Z Z Z) (oM Z Z (oN Z (oN Z (oN Z (oN Z (oR Z (zT Z Z Z) (oA Z Z (eN (zy Z (sR fL1 Z (oA Z Z (eN (zP (zc (zR ?_)))))))))))))))))))))))))
 cases c6
 exact ⟨Z,_,(zz Z),ak,_,ag,Z,Z⟩
end Go.Proofs.YtnbcoenjobdplaaGreat
