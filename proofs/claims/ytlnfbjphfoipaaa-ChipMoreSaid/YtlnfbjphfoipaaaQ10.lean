import Derived.Test.YtlnfbjphfoipaaaQ7
import Derived.Test.YtlnfbjphfoipaaaQ6
import Derived.Test.YtlnfbjphfoipaaaQ8
import Derived.Test.YtlnfbjphfoipaaaQ9
set_option linter.all false
open List renaming flatMap->hD,set->hH,length_set->nA,getElem_cons_succ->nB,getElem_cons_zero->nD,getElem_toArray->nE,forall_mem_cons->nJ
open Option.some renaming inj->hJ
open Int renaming toNat_natCast->nH
open Go.Value renaming bool->nI
open Bool renaming eq_false_iff->nL
open Option renaming map->nM
namespace Go.Proofs.Ytlnfbjphfoipaaa
open Go.KL
def gAa:Sch:=.fx 0 (.fl 1 .nil) .stop
def gAb:Sch:=.fl 0 (.fx 1 .nil .stop)
def gAc:Sch:=.fx 2 (.fx 3 .nil .stop) .stop
def gAd:Sch:=.fl 0 (.fx 1 (.fl 2 .nil) .stop)
def gAe:Sch:=.fx 6 (.fx 7 (.fl 8 .nil) .stop) .stop
def gAf:Sch:=.fx 15 (.fl 16 (.fx 18 .nil .stop)) .stop
def gAg:Sch:=.fx 5 (.fl 6 (.fx 7 .nil .stop)) .stop
def gAh:Sch:=.fx 19 (.fl 23 (.fl 24 .nil)) .stop
def gAi:Sch:=.fx 10 gAf .stop
def gAj:Sch:=.fl 0 (.fl 1 gAc)
def gAk:Sch:=.fl 0 (.fx 1 gAc .stop)
set_option maxHeartbeats 4000000
theorem wGb (p0:Int) (p1:wAJ) (p2:Int) (ah:Nat) (w:World) (U:PHeap) (hS:St0 w U []) (ai:Cl U ah 0 [jV p2]) {r:Bool} (hm:wCs p0 p1 p2=some r):Gv Try.prog 67 [jV p0,.agg #[jV p1.Skier,jV p1.Mat,jV p1.Clock,jV p1.Time],.pointer (some ⟨ah,0,none⟩)] w (wBw w [] U (fun U_ L_ v=>v=.bool r/\L_=[])):=by
 unfold wCs at hm
 refine Gv.of Try.func67 rfl Try.ntmps67 Try.results67 rfl (sR gAa rfl (zy (cs:=[jV p1.Skier,jV p1.Mat,jV p1.Clock,jV p1.Time]) rfl rfl rfl rfl rfl rfl (by rfl) hS ?_))
 intro W1 b2 ae
 refine oA Z Z (eN (sR fL5 Z (oR Z (zE Z Z ZJ Z zC) (oL Z (ae.ldB (j:=0) Z Z Z zG (v:=jV p1.Skier) Z) (oL Z (ae.ldC (f:=0) ai (v:=jV p2) Z Z zG Z) (oR Z (yO Z Z Z) (oA Z Z (eN (zR ?_)))))))))
 first | (obtain rfl:=hJ hm) | cases hm
 exact ⟨rfl,_,(ZL rfl),U,_,(ae.pick [] _ (by decide) rfl),rfl,rfl⟩
theorem wHc (p0:wAE) (a8:Option Addr) (a9:Nat) (bg:Option Addr) (bj:Nat) (bh:Option Addr) (bk:Nat) (bi:Option Addr) (bm:Nat) (w:World) (U:PHeap) (hS:St0 w U []) (cG:Sl U 1 a8 a9 p0.Starts.length (hD KL.encI p0.Starts)) (cH:Sl U 2 bg bj p0.Splits.length (hD wAC p0.Splits)) (cI:Sl U 3 bh bk p0.Clocks.length (hD wAA p0.Clocks)) (cJ:Sl U 4 bi bm p0.Readings.length (hD wAB p0.Readings)) {r:(List Int) × Int} (hm:wEZ p0=some r):Gv Try.prog 30 [.agg #[.slice a8 p0.Starts.length a9,.slice bg p0.Splits.length bj,.slice bh p0.Clocks.length bk,.slice bi p0.Readings.length bm]] w (wBw w [] U (fun U_ L_ v=>∃ (A0:Option Addr) (c0:Nat),v=.tuple #[.slice A0 r.1.length c0,jV r.2]/\L_=[.row A0 c0 3 1 (hD KL.encI r.1)])):=by
 unfold wEZ at hm
 refine Gv.of Try.func30 Z Try.ntmps30 Try.results30 Z (sR (.fx 0 (.fl 1 (.fl 2 .nil)) .stop) Z ?_)
 let B0:List Value:=[.slice a8 p0.Starts.length a9,.slice bg p0.Splits.length bj,.slice bh p0.Clocks.length bk,.slice bi p0.Readings.length bm]
 refine zy (cs:=B0) rfl rfl rfl rfl rfl rfl (by rfl) hS ?_
 intro W1 b2 cD
 refine oA Z Z (oA Z Z (eN (sR (.fl 0 (.fx 1 (wHH (.nil)) .stop)) Z (oL Z (cD.ldBA (j:=0) Z Z Z zf zY (vs:=B0) Z Z) ?_))))
 have q:=bnd hm
 obtain ⟨⟨x5,x6⟩,h7,be⟩:=q
 try dsimp only at be
 refine zF 0 Z Z Z Z (zD Z Z Try.call60 (zB Z zJ) Z) cD (fun hs=>wDr p0 a8 a9 bg bj bh bk bi bm W1 U hs cG cH cI cJ h7) (.inr Z) ?_
 rintro U9 fE fP br bt cB cz
 rcases x5 with _ | an
 try dsimp only at be
 obtain ⟨rfl,rfl⟩:=cz
 have eI:sW w U U9 [.blk b2 28 B0] br:=cB
 refine oM Z Z (oR Z (zT Z Z (v:=.pointer none) Z) (oR Z (zT Z Z (v:=jV x6) Z) (oA Z Z (oA Z Z (eN (zM (zd (sR fL3 Z (oM Z Z (oR Z (Ze Z Z Z) (oA Z Z (eN (ifc be ?_ ?_)))))))))))))
 intro bE fj
 refine ZE (ZD (fun h=>h bE.out)) (sR gAd Z (oM Z Z ?_))
 cases fj
 intro bE fk
 refine cT Z bE (sR fL3 Z (oM Z Z (oA Z Z (oA Z Z (eN (zR (zq (zW ?_))))))))
 have eJ:=eI.nilrow 3 1
 cases fk
 exact ⟨rfl,_,(wDf rfl rfl),U9,_,(eJ.pick [0] _ (by decide) rfl),none,0,rfl,rfl⟩
 try dsimp only at be
 obtain ⟨bA,bV,cr,bX,ct,bY,cu,ca,cx,ah,aj,ai,bw,bD,rfl,rfl,dT,dU,dV,dW,dX⟩:=cz
 let B1:Res:=.blk bA 124 [.slice bV an.Race.Starts.length cr,.slice bX an.Race.Splits.length ct,.slice bY an.Race.Clocks.length cu,.slice ca an.Race.Readings.length cx,.map (some ah),.slice bw an.edges.length bD]
 have cE:sW w U U9 [B1,.obj ah (.map aj ai),.row bw bD 130 7 (hD wAQ an.edges),.blk b2 28 B0] br:=cB
 refine oM Z Z (oR Z (zT Z Z (v:=.pointer (some ⟨bA,0,none⟩)) Z) (oR Z (zT Z Z (v:=jV x6) Z) (oA Z Z (oA Z Z (eN (zM (zd (sR fL3 Z (oM Z Z (oR Z (Ze Z Z Z) (oA Z Z (eN (ifc be ?_ ?_)))))))))))))
 intro bF fm
 refine ZE (ZD (fun h=>h bF.out)) (sR gAd Z (oM Z Z ?_))
 have q:=cE.freezeR (k:=2) (n:=an.edges.length) rfl (wAD (f:=wAQ) (sz:=7) (fun _=>rfl) an.edges) (by decide)
 obtain ⟨cd,ao,fz,eO⟩:=q
 have eU:sW w U cd [B1,.obj ah (.map aj ai),.blk b2 28 B0] br:=eO
 have dY:=dT.le ao
 have dZ:=dU.le ao
 have d7:=dV.le ao
 have d9:=dW.le ao
 refine bnK fm fun fU ef fq=>zF 2 Z Z Z Z (zD Z Z Try.call63 (zB Z zJ) Z) eU (fun hs=>wBk an bA bV cr bX ct bY cu ca cx ah aj ai bw bD br cd hs dY dZ d7 d9 dX fz ef) (.inl Z) ?_
 rintro bp fI fS cX bu eV ⟨rfl,rfl⟩
 have bL:sW w U bp [B1,.obj ah (.map aj ai),.blk b2 28 B0] cX:=eV
 refine oA Z Z (eN (ifc fq ?_ ?_))
 intro bG ft
 refine ZI (congrArg nI bG.out) (sR fL2 Z (oA Z Z (oA Z Z (eN (zR (zq (zW ?_)))))))
 have eX:=bL.nilrow 3 1
 cases ft
 exact ⟨rfl,_,(wDf rfl rfl),bp,_,(eX.pick [0] _ (by decide) rfl),none,0,rfl,rfl⟩
 intro bG fu
 refine ZE (congrArg nI (nL.2 bG.out)) (Zo (ZA (zL (sR fL1 Z (oA Z Z (eN (zM (sR fL4 Z (oR Z (zE Z Z zI Z ZB) (oL Z (bL.ldB (j:=2) Z Z Z ZK (v:=.slice a8 p0.Starts.length a9) Z) (oR Z (zx Z Z zK) (oM Z Z (eN (zd (bnK fu fun fY eZ fw=>?_)))))))))))))))
 have q:=wAx eZ
 obtain ⟨bN,e0⟩:=q
 replace bN:=zO bN
 refine CK.forN' (fun af bf σ_ w_=>∃ (U_:PHeap) (ba:Option Addr) (bd:Nat),σ_ 24=jV (↑af:Int)/\σ_ 1=.pointer (some ⟨b2,0,none⟩)/\σ_ 6=.slice ba bf.length bd/\σ_ 23=jV (↑p0.Starts.length:Int)/\PHeap.Le bp U_/\sW w U U_ [B1,.obj ah (.map aj ai),.blk b2 28 B0,.row ba bd 3 1 (hD KL.encI bf)] w_) e0 ?_ ?_ ?_
 have eY:=bL.nilrow 3 1
 exact ⟨bp,none,0,rfl,rfl,rfl,rfl,(zP _),(eY.pick [1,2,3,0] _ (by decide) rfl)⟩
 rintro af bf fV f4 fM bM ⟨cP,ba,bd,bs,bH,cy,bI,az,ej⟩ fA
 have ci:Hid ((↑af:Int) < (↑p0.Starts.length:Int)):=zO (wAs bM)
 replace bM:=zO bM
 have cK:Hid (w64 ((↑af:Int) + 1)=(↑(af + 1):Int)):=zO (by have h1:=bN.out;have h2:=ci.out;rw [wAU] <;> omega)
 refine sR fL1 Z (oR Z (ze Z bs bI) (eN (zM (cT Z ci (kN (zM (zd (sR (.fl 0 (.fx 1 (.fx 2 .nil .stop) .stop)) Z (oM Z bs (zQ (cs:=[jV 0]) Z Z Z Z Z zz Z ej ?_))))))))))
 intro fJ av ek
 let B2:List Value:=[jV (↑af:Int)]
 refine zU (j:=0) (vs:=B2) Z Z Z Z ek Z Z Z Z zC (zA Z) Z Z Z ?_
 intro bx en
 let B3:Res:=.row ba bd 3 1 (hD KL.encI bf)
 have cA:sW w U cP [.blk av 3 B2,B1,.obj ah (.map aj ai),.blk b2 28 B0,B3] bx:=en
 refine eN (sR (.fl 0 (.fl 1 (.fx 2 (.fl 3 (.fl 4 .nil)) .stop))) Z (oL Z (cA.ldBA (j:=3) Z Z bH zf zY (vs:=B0) Z Z) ?_))
 have q:=cA.freeze (k:=0) rfl
 obtain ⟨bo,a7,ay,eo⟩:=q
 replace ay:=Cl.of ay
 have ep:sW w U bo [B1,.obj ah (.map aj ai),.blk b2 28 B0,B3] bx:=eo
 replace ay:Cl bo av 0 B2:=ay
 refine oR Z (Runs.mkf Z zJ (zB Z zJ)) ?_
 have de:=cG.le bt
 have df:=de.le ao
 have dg:=df.le bu
 have dh:=dg.le az
 have di:=dh.le a7
 have dk:=cH.le bt
 have dl:=dk.le ao
 have dm:=dl.le bu
 have dp:=dm.le az
 have dq:=dp.le a7
 have dr:=cI.le bt
 have dt:=dr.le ao
 have du:=dt.le bu
 have dv:=du.le az
 have dw:=dv.le a7
 have dx:=cJ.le bt
 have dy:=dx.le ao
 have dz:=dy.le bu
 have dA:=dz.le az
 have dB:=dA.le a7
 have eh:FnOK Try.prog bo (.func (.func 67) #[] #[.pointer (some ⟨av,0,none⟩)]) wIz wJA (fun x=>wCs x.1 x.2 (↑af:Int)):=⟨67,[],[.pointer (some ⟨av,0,none⟩)],rfl,Try.call67,fun U1 w1 x y vs le hs ha hm=>by obtain rfl:=ha;exact wGb x.1 x.2 (↑af:Int) av w1 U1 hs (ay.le le) hm⟩
 refine bnK fA fun am dC fb=>zF 0 Z Z Z Z (zD Z Z Try.call64 (zB Z (zB Z zJ)) Z) ep (fun hs=>wBp p0 a8 a9 bg bj bh bk bi bm (fun x=>wCs x.1 x.2 (↑af:Int)) (.func (.func 67) #[] #[.pointer (some ⟨av,0,none⟩)]) bx bo hs di dq dw dB eh dC) (.inr Z) ?_
 rintro cQ fG fQ bz bO er ⟨cf,bS,cm,bT,cn,bU,co,bW,cp,aq,ax,aw,bv,bB,rfl,rfl,dD,dE,dH,dI,dJ⟩
 let B4:Res:=.blk cf 124 [.slice bS am.Race.Starts.length cm,.slice bT am.Race.Splits.length cn,.slice bU am.Race.Clocks.length co,.slice bW am.Race.Readings.length cp,.map (some aq),.slice bv am.edges.length bB]
 have eu:sW w U cQ [B4,.obj aq (.map ax aw),.row bv bB 130 7 (hD wAQ am.edges),B1,.obj ah (.map aj ai),.blk b2 28 B0,B3] bz:=er
 refine oR Z (Runs.mkf Z (zB Z zJ) zJ) (oA Z Z (eN (sR gAb Z (oM Z Z ?_))))
 have q:=eu.freezeR (k:=2) (n:=am.edges.length) rfl (wAD (f:=wAQ) (sz:=7) (fun _=>rfl) am.edges) (by decide)
 obtain ⟨cc,ap,fy,ew⟩:=q
 have ey:sW w U cc [B4,.obj aq (.map ax aw),B1,.obj ah (.map aj ai),.blk b2 28 B0,B3] bz:=ew
 have dK:=dD.le ap
 have dL:=dE.le ap
 have dM:=dH.le ap
 have dN:=dI.le ap
 refine bnK fb fun fT dO fc=>zF 2 Z Z Z Z (zD Z Z Try.call63 zJ Z) ey (fun hs=>wBk am cf bS cm bT cn bU co bW cp aq ax aw bv bB bz cc hs dK dL dM dN dJ fy dO) (.inl Z) ?_
 rintro bc fH fR cU bQ eA ⟨rfl,rfl⟩
 have bJ:sW w U bc [B4,.obj aq (.map ax aw),B1,.obj ah (.map aj ai),.blk b2 28 B0,B3] cU:=eA
 refine eN (ifc fc ?_ ?_)
 intro bC fd
 refine ZI (congrArg nI bC.out) (rR (.fl 0 (.fl 1 (.fx 2 (.fx 3 (.fl 4 .nil) .stop) .stop))) Z (oM Z cy ?_))
 have dP:=ay.le bO
 have dQ:=dP.le ap
 have dR:=dQ.le bQ
 refine oL Z (bJ.ldC (f:=0) dR (v:=jV (↑af:Int)) Z Z zG Z) (zr (pv:=[(0,jV (↑af:Int))]) (zs:=[jV 0]) (cs:=B2) Z Z Z Z Z (wAH Z wAO) zK zC zz Z Z Z Z Z bJ ?_)
 intro cV cY eD
 let B5:Res:=.row (some ⟨cY,0,none⟩) 1 3 1 (hD KL.encI [(↑af:Int)])
 have cC:sW w U bc [B5,B4,.obj aq (.map ax aw),B1,.obj ah (.map aj ai),.blk b2 28 B0,B3] cV:=eD
 refine bnK fd fun cL dS ff=>Zw (j:=6) (enc:=KL.encI) (xs:=bf) (ys:=[(↑af:Int)]) (zs:=cL) rfl rfl rfl rfl rfl yb wGu rfl rfl rfl rfl rfl rfl cC rfl rfl rfl (cC.srcR (j:=0) rfl (by decide) (wAD (f:=KL.encI) (sz:=1) (fun _=>rfl) [(↑af:Int)])) (fun _=>rfl) (fun _=>rfl) dS rfl ?_
 intro bZ cw cW eE
 have eF:sW w U bc [B5,B4,.obj aq (.map ax aw),B1,.obj ah (.map aj ai),.blk b2 28 B0,.row bZ cw 3 1 (hD KL.encI cL)] cW:=eE
 refine oA Z Z (zh (ZA (zL (rR fL2 Z (oR Z (ZH (za Z bs Z) (congrArg (jV) cK.out)) (oM Z Z (zh ?_)))))))
 cases ff
 exact zL ⟨rfl,⟨bc,bZ,cw,rfl,bH,rfl,bI,((((az.trans a7).trans bO).trans ap).trans bQ),(eF.pick [3,4,5,6] _ (by decide) rfl)⟩⟩
 intro bC fg
 refine ZE (congrArg nI (nL.2 bC.out)) (Zo (ZA (zL (rR fL2 Z (oR Z (ZH (za Z bs Z) (congrArg (jV) cK.out)) (oM Z Z (zh ?_)))))))
 cases fg
 exact zL ⟨rfl,⟨bc,ba,bd,rfl,bH,cy,bI,((((az.trans a7).trans bO).trans ap).trans bQ),(bJ.pick [2,3,4,5] _ (by decide) rfl)⟩⟩
 rintro fZ fK ⟨cR,cN,cZ,dd,fN,da,db,fO,eG⟩
 have c6:Hid (¬ ((↑(((↑p0.Starts.length:Int):Int) - 0).toNat:Int) < (↑p0.Starts.length:Int))):=zO (wAc)
 refine sR fL1 Z (oR Z (ze Z dd db) (eN (zM (cF Z c6 (Zb (zo (zo (ZV (zL (sR fL3 Z (oM Z da (oA Z Z (oA Z Z (eN (zR ?_)))))))))))))))
 cases fw
 exact ⟨rfl,_,(wDf rfl rfl),cR,_,(eG.pick [3] _ (by decide) rfl),cN,cZ,rfl,rfl⟩
 intro bF fh
 refine cT Z bF (sR fL3 Z (oM Z Z (oA Z Z (oA Z Z (eN (zR (zq (zW ?_))))))))
 have eH:=cE.nilrow 3 1
 cases fh
 exact ⟨rfl,_,(wDf rfl rfl),U9,_,(eH.pick [0] _ (by decide) rfl),none,0,rfl,rfl⟩
theorem wDH (p0:List Int) (aq:Option Addr) (av:Nat) (p1:List Int) (au:Option Addr) (aw:Nat) (w:World) (U:PHeap) (hS:St0 w U []) (bt:Sl U 1 aq av p0.length (hD KL.encI p0)) (bu:Sl U 1 au aw p1.length (hD KL.encI p1)) {r:Bool} (hm:wBs p0 p1=some r):Gv Try.prog 56 [.slice aq p0.length av,.slice au p1.length aw] w (wBw w [] U (fun U_ L_ v=>v=.bool r/\L_=[])):=by
 unfold wBs at hm
 refine Gv.of Try.func56 Z Try.ntmps56 Try.results56 Z (sR fL1 Z (oA Z Z (eN (zM (sR fL5 Z (oM Z Z (oR Z (zx Z Z zK) (oM Z Z (oR Z (zx Z Z zK) (oR Z (Ze Z Z Z) (eN ?_)))))))))))
 by_cases c1:(↑p0.length:Int)=(↑p1.length:Int)
 have ai:=hm;rw [if_pos c1] at ai;replace c1:=zO c1
 refine ZE (ZD (fun h=>h c1.out)) (kN (zM (sR fL3 Z (oM Z Z (oR Z (zx Z Z zK) (oM Z Z (eN (zd ?_))))))))
 have q:=wBy ai
 obtain ⟨r5,am⟩:=q
 have q:=wBx am
 obtain ⟨ao,bx⟩:=q
 replace ao:=zO ao
 refine yX (fun k4 _ σ_ w_=>∃ (U_:PHeap),σ_ 13=jV (↑k4:Int)/\σ_ 0=.slice aq p0.length av/\σ_ 1=.slice au p1.length aw/\σ_ 12=jV (↑p0.length:Int)/\PHeap.Le U U_/\sW w U U_ [] w_) bx ?_ ?_ ?_
 exact ⟨U,Z,Z,Z,Z,(zP _),hS⟩
 rintro k4 ⟨⟩ bU bW ay an ⟨ax,ak,a7,a8,a9,ap,br⟩ be bv
 try dsimp only at be
 have az:Hid ((↑k4:Int) < (↑p0.length:Int)):=zO (wAs an)
 replace an:=zO an
 have bz:Hid (w64 ((↑k4:Int) + 1)=(↑(k4 + 1):Int)):=zO (by have h1:=ao.out;have h2:=az.out;rw [wAU] <;> omega)
 refine sR fL1 rfl (zc rfl rfl rfl rfl (fun _=>ze rfl ak a9) (eN (zM (cT Z az (kN (zM (zd (sR fL2 rfl (zw rfl rfl rfl rfl rfl ak (yI rfl rfl rfl rfl rfl rfl (eN (zM (zt zu [3,3,3,1,3,3,3,1,3] fL9 (by kernel_rfl) ?_)))))))))))))
 have ag:=br.drew
 generalize hw_W25:({ ay with drawn:=ay.drawn + 1 }:World)=bI at ag ⊢
 refine oM Z a7 (oM Z Z (bnK be fun bG ba bA=>?_))
 have bk:=bt.le ap
 have q:=bk.el (fun _=>rfl) (wAb ba)
 obtain ⟨bL,bR,bn,bp⟩:=q
 refine oR Z (Zk Z Z bn Z zK zC (wCl ba)) (oL Z (ag.ldC (f:=0) bp (v:=jV bG) Z Z zG Z) (oM Z a8 (oM Z Z (bnK bA fun bH bb bB=>?_))))
 have bm:=bu.le ap
 have q:=bm.el (fun _=>rfl) (wAb bb)
 obtain ⟨bM,bS,bo,bq⟩:=q
 refine oR Z (Zk Z Z bo Z zK zC (wCl bb)) (oL Z (ag.ldC (f:=0) bq (v:=jV bH) Z Z zG Z) (oR Z (Ze Z Z Z) (eN (ifc bB ?_ ?_))))
 intro aj bC
 refine ZE (ZD (fun h=>h aj.out)) (Zo (ZA (zL (rR fL2 Z (oR Z (ZH (za Z ak Z) (congrArg (jV) bz.out)) (oM Z Z (zh ?_)))))))
 have q:=hJ bC
 obtain rfl:=q
 exact zL ⟨Z,_,Z,⟨ax,Z,a7,a8,a9,ap,ag⟩⟩
 intro aj bD
 refine cT Z aj (sR fL1 Z (oA Z Z (eN (zR (zq (zW ?_))))))
 have q:=wAY bD
 obtain ⟨bF,bE,bh⟩:=q
 have q:=wBY ai am (bv bF bh)
 obtain rfl:=q
 refine zW (zq (zW ?_))
 have hE:=hJ bE;first | subst r | cases hE
 exact ⟨Z,_,(ZL Z),ax,_,ag,Z,Z⟩
 rintro ⟨⟩ bV bJ ⟨bf,bj,bN,bO,bi,bQ,bs⟩ bw
 have bc:=wCm ai am bw
 try dsimp only at bc
 have bg:Hid (¬ ((↑(((↑p0.length:Int):Int) - 0).toNat:Int) < (↑p0.length:Int))):=zO (wAc)
 refine sR fL1 Z (oR Z (ze Z bj bi) (eN (zM (cF Z bg (Zb (zo (zo (ZV (zL (sR fL1 Z (oA Z Z (eN (zR ?_)))))))))))))
 have hE:=hJ bc;first | subst r | cases hE
 exact ⟨Z,_,(ZL Z),bf,_,bs,Z,Z⟩
 have bd:=hm;rw [if_neg c1] at bd;replace c1:=zO c1
 refine cT Z c1 (sR fL1 Z (oA Z Z (eN (zR (zW ?_)))))
 have hE:=hJ bd;first | subst r | cases hE
 exact ⟨Z,_,(ZL Z),U,_,hS,Z,Z⟩
theorem wDb  (w:World) (U:PHeap) (hS:St0 w U [])  {r:Bool} (hm:wBf =some r):Gv Try.prog 19 [] w (wBw w [] U (fun U_ L_ v=>v=.bool r/\L_=[])):=by
 unfold wBf at hm
 refine Gv.of Try.func19 Z Try.ntmps19 Try.results19 Z (sR fL1 Z (oA Z Z (eN (sR (.fx 0 (.fx 1 (.fx 2 (wFd gAe) .stop) .stop) .stop) Z (bnK hm fun x1 h2 sn=>zF 0 Z Z Z Z (zD Z Z Try.call52 zJ Z) hS (fun hs=>wBR w U hs h2) (.inr Z) ?_)))))
 rintro U4 L5 v6 W7 vZ rV ⟨du,gw,dv,gx,dw,gy,dx,gE,rfl,rfl⟩
 let B0:Res:=.row dx gE 39 4 (hD wAB x1.Readings)
 let B1:Res:=.row dw gy 43 3 (hD wAA x1.Clocks)
 let B2:Res:=.row dv gx 41 2 (hD wAC x1.Splits)
 let B3:Res:=.row du gw 3 1 (hD KL.encI x1.Starts)
 have o6:sW w U U4 [B3,B2,B1,B0] W7:=rV
 refine bnK sn fun uE lL sj=>zF 0 Z Z Z Z (zD Z Z Try.call16 (zB Z (zB Z zJ)) Z) o6 (fun hs=>wAu 0 2 W7 U4 hs lL) (.inr Z) ?_
 rintro jh uT wl bJ vB pF ⟨rfl,rfl⟩
 have pH:sW w U jh [B3,B2,B1,B0] bJ:=pF
 have q:=pH.freezeR (k:=0) (n:=x1.Starts.length) rfl (wAD (f:=KL.encI) (sz:=1) (fun _=>rfl) x1.Starts) (by decide)
 obtain ⟨jm,vD,tH,pL⟩:=q
 have pP:sW w U jm [B2,B1,B0] bJ:=pL
 have q:=pP.freezeR (k:=0) (n:=x1.Splits.length) rfl (wAD (f:=wAC) (sz:=2) (fun _=>rfl) x1.Splits) (by decide)
 obtain ⟨jt,uq,tM,pY⟩:=q
 have p4:sW w U jt [B1,B0] bJ:=pY
 have q:=p4.freezeR (k:=0) (n:=x1.Clocks.length) rfl (wAD (f:=wAA) (sz:=3) (fun _=>rfl) x1.Clocks) (by decide)
 obtain ⟨jw,iP,tR,qe⟩:=q
 have qh:sW w U jw [B0] bJ:=qe
 have q:=qh.freezeR (k:=0) (n:=x1.Readings.length) rfl (wAD (f:=wAB) (sz:=4) (fun _=>rfl) x1.Readings) (by decide)
 obtain ⟨fA,dk,tT,qp⟩:=q
 have qr:sW w U fA [] bJ:=qp
 have mr:=tH.le uq
 have ms:=mr.le iP
 have mx:=ms.le dk
 have my:=tM.le iP
 have mz:=my.le dk
 have mA:=tR.le dk
 have q:=bnd sj
 obtain ⟨⟨ci,dt⟩,mC,iE⟩:=q
 try dsimp only at iE
 refine zF 0 Z Z Z Z (zD Z Z yg (zB Z (zB Z zJ)) Z) qr (fun hs=>wBS x1 du gw dv gx dw gy dx gE uE bJ fA hs mx mz mA tT mC) (.inr Z) ?_
 rintro cZ u9 wy j4 vR qR ⟨rfl,rfl⟩
 have qW:sW w U cZ [] j4:=qR
 refine oM Z Z (oR Z (zT Z Z (v:=.agg #[jV ci.Lo,jV ci.Hi]) Z) (oR Z (zT Z Z (v:=jV dt) Z) ?_))
 let B4:List Value:=[jV 0,jV 0]
 refine zQ (cs:=B4) Z Z Z Z Z zi Z qW ?_
 intro vm ae q9
 let B5:List Value:=[jV ci.Lo,jV ci.Hi]
 refine zU (j:=0) (vs:=B5) Z Z Z Z q9 Z Z Z Z zZ (zA Z) Z Z Z ?_
 intro gg rh
 have ro:sW w U cZ [.blk ae 41 B5] gg:=rh
 refine oA Z Z (eN (sR (.fx 0 (.fx 1 (.fx 2 (wFd gAe) .stop) .stop) .stop) Z (bnK iE fun a8 m7 s7=>zF 0 Z Z Z Z (zD Z Z Try.call52 zJ Z) ro (fun hs=>wBR gg cZ hs m7) (.inr Z) ?_)))
 rintro fQ vg wE gi v3 rL ⟨eo,im,ep,io,er,ip,eu,iq,rfl,rfl⟩
 let B6:Res:=.row eu iq 39 4 (hD wAB a8.Readings)
 let B7:Res:=.row er ip 43 3 (hD wAA a8.Clocks)
 let B8:Res:=.row ep io 41 2 (hD wAC a8.Splits)
 let B9:Res:=.row eo im 3 1 (hD KL.encI a8.Starts)
 have sa:sW w U fQ [B9,B8,B7,B6,.blk ae 41 B5] gi:=rL
 refine bnK s7 fun uK lp sc=>zF 0 Z Z Z Z (zD Z Z Try.call16 (zB Z (zB Z zJ)) Z) sa (fun hs=>wAu 0 1 gi fQ hs lp) (.inr Z) ?_
 rintro i9 uL wb bH vo oe ⟨rfl,rfl⟩
 have og:sW w U i9 [B9,B8,B7,B6,.blk ae 41 B5] bH:=oe
 have q:=og.freezeR (k:=0) (n:=a8.Starts.length) rfl (wAD (f:=KL.encI) (sz:=1) (fun _=>rfl) a8.Starts) (by decide)
 obtain ⟨ja,vp,tt,oh⟩:=q
 have oi:sW w U ja [B8,B7,B6,.blk ae 41 B5] bH:=oh
 have q:=oi.freezeR (k:=0) (n:=a8.Splits.length) rfl (wAD (f:=wAC) (sz:=2) (fun _=>rfl) a8.Splits) (by decide)
 obtain ⟨jb,um,tu,oj⟩:=q
 have ol:sW w U jb [B7,B6,.blk ae 41 B5] bH:=oj
 have q:=ol.freezeR (k:=0) (n:=a8.Clocks.length) rfl (wAD (f:=wAA) (sz:=3) (fun _=>rfl) a8.Clocks) (by decide)
 obtain ⟨jc,iK,tv,om⟩:=q
 have oo:sW w U jc [B6,.blk ae 41 B5] bH:=om
 have q:=oo.freezeR (k:=0) (n:=a8.Readings.length) rfl (wAD (f:=wAB) (sz:=4) (fun _=>rfl) a8.Readings) (by decide)
 obtain ⟨fd,de,tw,oq⟩:=q
 have ot:sW w U fd [.blk ae 41 B5] bH:=oq
 have lq:=tt.le um
 have ls:=lq.le iK
 have lu:=ls.le de
 have lv:=tu.le iK
 have lw:=lv.le de
 have lx:=tv.le de
 have q:=bnd sc
 obtain ⟨⟨cc,iX⟩,ly,iw⟩:=q
 try dsimp only at iw
 refine zF 0 Z Z Z Z (zD Z Z yg (zB Z (zB Z zJ)) Z) ot (fun hs=>wBS a8 eo im ep io er ip eu iq uK bH fd hs lu lw lx tw ly) (.inr Z) ?_
 rintro cW uM wc jX vq ou ⟨rfl,rfl⟩
 have ov:sW w U cW [.blk ae 41 B5] jX:=ou
 refine oM Z Z (oR Z (zT Z Z (v:=.agg #[jV cc.Lo,jV cc.Hi]) Z) (oR Z (zT Z Z (v:=jV iX) Z) (zQ (cs:=B4) Z Z Z Z Z zi Z ov ?_)))
 intro vk ag ow
 let af:List Value:=[jV cc.Lo,jV cc.Hi]
 refine zU (j:=0) (vs:=af) Z Z Z Z ow Z Z Z Z zZ (zA Z) Z Z Z ?_
 intro fV ox
 have oy:sW w U cW [.blk ag 41 af,.blk ae 41 B5] fV:=ox
 refine oA Z Z (eN (sR (.fx 0 (.fx 1 (.fx 2 (.fx 3 (wMe (.fx 7 (.fx 8 (.fl 9 .nil) .stop) .stop)) .stop) .stop) .stop) .stop) Z (bnK iw fun au lz sd=>zF 0 Z Z Z Z (zD Z Z Try.call52 zJ Z) oy (fun hs=>wBR fV cW hs lz) (.inr Z) ?_)))
 rintro ff uN wd fY vr oB ⟨dy,gz,dz,gA,dA,gC,dB,gD,rfl,rfl⟩
 let bD:Res:=.row dB gD 39 4 (hD wAB au.Readings)
 let bW:Res:=.row dA gC 43 3 (hD wAA au.Clocks)
 let cp:Res:=.row dz gA 41 2 (hD wAC au.Splits)
 let cM:Res:=.row dy gz 3 1 (hD KL.encI au.Starts)
 have oG:sW w U ff [cM,cp,bW,bD,.blk ag 41 af,.blk ae 41 B5] fY:=oB
 refine bnK sd fun uC lA sf=>zF 0 Z Z Z Z (zD Z Z Try.call16 (zB Z (zB Z zJ)) Z) oG (fun hs=>wAu 0 2 fY ff hs lA) (.inr Z) ?_
 rintro fg uO we fZ vt oH ⟨rfl,rfl⟩
 have oI:sW w U fg [cM,cp,bW,bD,.blk ag 41 af,.blk ae 41 B5] fZ:=oH
 refine bnK sf fun uD lB sg=>zF 0 Z Z Z Z (zD Z Z Try.call16 (zB Z (zB Z zJ)) Z) oI (fun hs=>wAu 1 2 fZ fg hs lB) (.inr Z) ?_
 rintro jd uP wg bI vu oK ⟨rfl,rfl⟩
 have oO:sW w U jd [cM,cp,bW,bD,.blk ag 41 af,.blk ae 41 B5] bI:=oK
 have q:=oO.freezeR (k:=0) (n:=au.Starts.length) rfl (wAD (f:=KL.encI) (sz:=1) (fun _=>rfl) au.Starts) (by decide)
 obtain ⟨je,vv,tx,oP⟩:=q
 have oU:sW w U je [cp,bW,bD,.blk ag 41 af,.blk ae 41 B5] bI:=oP
 have q:=oU.freezeR (k:=0) (n:=au.Splits.length) rfl (wAD (f:=wAC) (sz:=2) (fun _=>rfl) au.Splits) (by decide)
 obtain ⟨jf,un,tz,oW⟩:=q
 have oX:sW w U jf [bW,bD,.blk ag 41 af,.blk ae 41 B5] bI:=oW
 have q:=oX.freezeR (k:=0) (n:=au.Clocks.length) rfl (wAD (f:=wAA) (sz:=3) (fun _=>rfl) au.Clocks) (by decide)
 obtain ⟨jg,iL,tA,oY⟩:=q
 have o0:sW w U jg [bD,.blk ag 41 af,.blk ae 41 B5] bI:=oY
 have q:=o0.freezeR (k:=0) (n:=au.Readings.length) rfl (wAD (f:=wAB) (sz:=4) (fun _=>rfl) au.Readings) (by decide)
 obtain ⟨fh,df,tB,o3⟩:=q
 have o5:sW w U fh [.blk ag 41 af,.blk ae 41 B5] bI:=o3
 have lE:=tx.le un
 have lF:=lE.le iL
 have lG:=lF.le df
 have lH:=tz.le iL
 have lI:=lH.le df
 have lJ:=tA.le df
 have q:=bnd sg
 obtain ⟨⟨cd,iY⟩,lK,iy⟩:=q
 try dsimp only at iy
 refine zF 0 Z Z Z Z (zD Z Z Try.call25 (zB Z (zB Z (zB Z zJ))) Z) o5 (fun hs=>wJB au dy gz dz gA dA gC dB gD uC uD bI fh hs lG lI lJ tB lK) (.inr Z) ?_
 rintro cX uQ wh jY vw o7 ⟨rfl,rfl⟩
 have o8:sW w U cX [.blk ag 41 af,.blk ae 41 B5] jY:=o7
 refine oM Z Z (oR Z (zT Z Z (v:=.agg #[jV cd.Lo,jV cd.Hi]) Z) (oR Z (zT Z Z (v:=jV iY) Z) (zQ (cs:=B4) Z Z Z Z Z zi Z o8 ?_)))
 intro vl ai o9
 let ah:List Value:=[jV cd.Lo,jV cd.Hi]
 refine zU (j:=0) (vs:=ah) Z Z Z Z o9 Z Z Z Z zZ (zA Z) Z Z Z ?_
 intro f4 pd
 have pe:sW w U cX [.blk ai 41 ah,.blk ag 41 af,.blk ae 41 B5] f4:=pd
 refine oA Z Z (eN (sR (.fx 0 (.fx 1 (.fx 2 (.fl 3 (.fl 4 (.fx 5 (.fx 6 (wLB (.nil)) .stop) .stop))) .stop) .stop) .stop) Z (bnK iy fun av lM sh=>zF 0 Z Z Z Z (zD Z Z Try.call52 zJ Z) pe (fun hs=>wBR f4 cX hs lM) (.inr Z) ?_)))
 rintro fj uR wi f5 vx pf ⟨dC,gF,dD,gG,dE,gH,dH,gI,rfl,rfl⟩
 let bn:Res:=.row dH gI 39 4 (hD wAB av.Readings)
 let bE:Res:=.row dE gH 43 3 (hD wAA av.Clocks)
 let bX:Res:=.row dD gG 41 2 (hD wAC av.Splits)
 let cr:Res:=.row dC gF 3 1 (hD KL.encI av.Starts)
 have pg:sW w U fj [cr,bX,bE,bn,.blk ai 41 ah,.blk ag 41 af,.blk ae 41 B5] f5:=pf
 refine bnK sh fun uF lN sk=>zF 0 Z Z Z Z (zD Z Z Try.call16 (zB Z (zB Z zJ)) Z) pg (fun hs=>wAu 0 2 f5 fj hs lN) (.inr Z) ?_
 rintro fk uS wj f7 vy ph ⟨rfl,rfl⟩
 have pj:sW w U fk [cr,bX,bE,bn,.blk ai 41 ah,.blk ag 41 af,.blk ae 41 B5] f7:=ph
 refine bnK sk fun uG lO sl=>zF 0 Z Z Z Z (zD Z Z Try.call16 (zB Z (zB Z zJ)) Z) pj (fun hs=>wAu 1 2 f7 fk hs lO) (.inr Z) ?_
 rintro fm uU wk jZ vz pk ⟨rfl,rfl⟩
 have pm:sW w U fm [cr,bX,bE,bn,.blk ai 41 ah,.blk ag 41 af,.blk ae 41 B5] jZ:=pk
 let bF:List Value:=[jV 0,jV 0,jV 0,.bool false]
 let ew:List Value:=[jV 3,jV 0,jV 0,.bool false]
 refine oR Z (zk (pv:=[(0,jV 3)]) (z:=bF) (cs:=ew) Z (wAH Z wAO) Zy wDS Z Z) ?_
 let ey:List Value:=[jV 3,jV 0,jV 2,.bool true]
 refine oR Z (zk (pv:=[(0,jV 3),(2,jV 2),(3,.bool true)]) (z:=bF) (cs:=ey) Z (wAH Z (wAH Z (wAH Z wAO))) Zy wDS Z Z) (zr (pv:=[(0,.agg ew.toArray),(1,.agg ey.toArray)]) (zs:=[jV 0,jV 0,jV 0,.bool false,jV 0,jV 0,jV 0,.bool false]) (cs:=[jV 3,jV 0,jV 0,.bool false,jV 3,jV 0,jV 2,.bool true]) Z Z Z Z Z (wAH Z (wAH Z wAO)) yQ Zh Zy Z Z Z Z Z pm ?_)
 intro bq gj pn
 let bY:Res:=.row (some ⟨gj,0,none⟩) 2 78 4 (hD wBX [(⟨3,0,0,false⟩:wAK),(⟨3,0,2,true⟩:wAK)])
 have po:sW w U fm [bY,cr,bX,bE,bn,.blk ai 41 ah,.blk ag 41 af,.blk ae 41 B5] bq:=pn
 have q:=po.freezeR (k:=1) (n:=av.Starts.length) rfl (wAD (f:=KL.encI) (sz:=1) (fun _=>rfl) av.Starts) (by decide)
 obtain ⟨ji,vA,tC,pp⟩:=q
 have pq:sW w U ji [bY,bX,bE,bn,.blk ai 41 ah,.blk ag 41 af,.blk ae 41 B5] bq:=pp
 have q:=pq.freezeR (k:=1) (n:=av.Splits.length) rfl (wAD (f:=wAC) (sz:=2) (fun _=>rfl) av.Splits) (by decide)
 obtain ⟨jj,uo,tD,pu⟩:=q
 have py:sW w U jj [bY,bE,bn,.blk ai 41 ah,.blk ag 41 af,.blk ae 41 B5] bq:=pu
 have q:=py.freezeR (k:=1) (n:=av.Clocks.length) rfl (wAD (f:=wAA) (sz:=3) (fun _=>rfl) av.Clocks) (by decide)
 obtain ⟨jk,iM,tE,pz⟩:=q
 have pB:sW w U jk [bY,bn,.blk ai 41 ah,.blk ag 41 af,.blk ae 41 B5] bq:=pz
 have q:=pB.freezeR (k:=1) (n:=av.Readings.length) rfl (wAD (f:=wAB) (sz:=4) (fun _=>rfl) av.Readings) (by decide)
 obtain ⟨jl,dg,tF,pC⟩:=q
 have pD:sW w U jl [bY,.blk ai 41 ah,.blk ag 41 af,.blk ae 41 B5] bq:=pC
 have q:=pD.freezeR (k:=0) (n:=[(⟨3,0,0,false⟩:wAK),(⟨3,0,2,true⟩:wAK)].length) rfl (wAD (f:=wBX) (sz:=4) (fun _=>rfl) [(⟨3,0,0,false⟩:wAK),(⟨3,0,2,true⟩:wAK)]) (by decide)
 obtain ⟨fq,cI,tG,pE⟩:=q
 have pG:sW w U fq [.blk ai 41 ah,.blk ag 41 af,.blk ae 41 B5] bq:=pE
 have lP:=tC.le uo
 have lQ:=lP.le iM
 have lR:=lQ.le dg
 have lS:=lR.le cI
 have lT:=tD.le iM
 have lU:=lT.le dg
 have lV:=lU.le cI
 have lW:=tE.le dg
 have lX:=lW.le cI
 have lY:=tF.le cI
 have q:=bnd sl
 obtain ⟨⟨iZ,i2⟩,lZ,iz⟩:=q
 try dsimp only at iz
 refine zF 0 Z Z Z Z (zD Z Z Try.call41 (zB Z (zB Z (zB Z (zB Z zJ)))) Z) pG (fun hs=>wGv av dC gF dD gG dE gH dH gI uF uG [(⟨3,0,0,false⟩:wAK),(⟨3,0,2,true⟩:wAK)] (some ⟨gj,0,none⟩) 2 bq fq hs lS lV lX lY tG lZ) (.inr Z) ?_
 rintro ft uV wm f8 vC pI ⟨rfl,rfl⟩
 have pJ:sW w U ft [.blk ai 41 ah,.blk ag 41 af,.blk ae 41 B5] f8:=pI
 refine oM Z Z (oR Z (zT Z Z (v:=jV iZ) Z) (oR Z (zT Z Z (v:=jV i2) Z) (oA Z Z (oA Z Z (eN (zM (yh fun bm bh=>?_)))))))
 have k5:bm 1=.pointer (some ⟨ae,0,none⟩):=(bh 1).trans rfl
 have k6:bm 2=jV dt:=(bh 2).trans rfl
 have k7:bm 3=.pointer (some ⟨ag,0,none⟩):=(bh 3).trans rfl
 have k8:bm 4=jV iX:=(bh 4).trans rfl
 have k9:bm 5=.pointer (some ⟨ai,0,none⟩):=(bh 5).trans rfl
 have lb:bm 6=jV iY:=(bh 6).trans rfl
 have lc:bm 7=jV iZ:=(bh 7).trans rfl
 have lf:bm 8=jV i2:=(bh 8).trans rfl
 clear bh
 refine rR (.fx 0 (.fx 1 (wHH (.nil)) .stop) .stop) Z (bnK iz fun aw l5 so=>zF 0 Z Z Z Z (zD Z Z Try.call52 zJ Z) pJ (fun hs=>wBR f8 ft hs l5) (.inr Z) ?_)
 rintro jo uW wn bL vE pK ⟨dI,gJ,dJ,gK,dK,gM,dL,gN,rfl,rfl⟩
 let ct:Res:=.row dL gN 39 4 (hD wAB aw.Readings)
 let cO:Res:=.row dK gM 43 3 (hD wAA aw.Clocks)
 let eA:Res:=.row dJ gK 41 2 (hD wAC aw.Splits)
 have pM:sW w U jo [.row dI gJ 3 1 (hD KL.encI aw.Starts),eA,cO,ct,.blk ai 41 ah,.blk ag 41 af,.blk ae 41 B5] bL:=pK
 have q:=pM.freezeR (k:=0) (n:=aw.Starts.length) rfl (wAD (f:=KL.encI) (sz:=1) (fun _=>rfl) aw.Starts) (by decide)
 obtain ⟨jp,vG,tI,pN⟩:=q
 have pO:sW w U jp [eA,cO,ct,.blk ai 41 ah,.blk ag 41 af,.blk ae 41 B5] bL:=pN
 have q:=pO.freezeR (k:=0) (n:=aw.Splits.length) rfl (wAD (f:=wAC) (sz:=2) (fun _=>rfl) aw.Splits) (by decide)
 obtain ⟨jq,up,tJ,pQ⟩:=q
 have pR:sW w U jq [cO,ct,.blk ai 41 ah,.blk ag 41 af,.blk ae 41 B5] bL:=pQ
 have q:=pR.freezeR (k:=0) (n:=aw.Clocks.length) rfl (wAD (f:=wAA) (sz:=3) (fun _=>rfl) aw.Clocks) (by decide)
 obtain ⟨jr,iN,tK,pS⟩:=q
 have pT:sW w U jr [ct,.blk ai 41 ah,.blk ag 41 af,.blk ae 41 B5] bL:=pS
 have q:=pT.freezeR (k:=0) (n:=aw.Readings.length) rfl (wAD (f:=wAB) (sz:=4) (fun _=>rfl) aw.Readings) (by decide)
 obtain ⟨fu,dh,tL,pU⟩:=q
 have pV:sW w U fu [.blk ai 41 ah,.blk ag 41 af,.blk ae 41 B5] bL:=pU
 have l6:=tI.le up
 have l7:=l6.le iN
 have l8:=l7.le dh
 have ma:=tJ.le iN
 have mb:=ma.le dh
 have mc:=tK.le dh
 have q:=bnd so
 obtain ⟨⟨cf,uH⟩,md,iA⟩:=q
 try dsimp only at iA
 refine zF 0 Z Z Z Z (zD Z Z Try.call17 (zB Z (zB Z zJ)) Z) pV (fun hs=>wGx aw dI gJ dJ gK dK gM dL gN 2 bL fu hs l8 mb mc tL md) (.inr Z) ?_
 rintro fw uX wo f9 vH pW ⟨cK,da,rfl,rfl⟩
 let bi:Res:=.row cK da 41 2 (hD wAC cf)
 have pX:sW w U fw [bi,.blk ai 41 ah,.blk ag 41 af,.blk ae 41 B5] f9:=pW
 refine oM Z Z (oR Z (zT Z Z (v:=.slice cK cf.length da) Z) (oR Z (zT Z Z (v:=jV uH) Z) (oA Z Z (oA Z Z (eN (sR (.fx 0 (.fx 1 (wHH (.nil)) .stop) .stop) Z (bnK iA fun ax me sq=>zF 0 Z Z Z Z (zD Z Z Try.call52 zJ Z) pX (fun hs=>wBR f9 fw hs me) (.inr Z) ?_)))))))
 rintro ju uY wp bM vJ pZ ⟨dM,gO,dN,gP,dO,gQ,dP,gR,rfl,rfl⟩
 let cu:Res:=.row dP gR 39 4 (hD wAB ax.Readings)
 let cP:Res:=.row dO gQ 43 3 (hD wAA ax.Clocks)
 let eE:Res:=.row dN gP 41 2 (hD wAC ax.Splits)
 have p5:sW w U ju [.row dM gO 3 1 (hD KL.encI ax.Starts),eE,cP,cu,bi,.blk ai 41 ah,.blk ag 41 af,.blk ae 41 B5] bM:=pZ
 have q:=p5.freezeR (k:=0) (n:=ax.Starts.length) rfl (wAD (f:=KL.encI) (sz:=1) (fun _=>rfl) ax.Starts) (by decide)
 obtain ⟨jv,vK,tN,p6⟩:=q
 have p7:sW w U jv [eE,cP,cu,bi,.blk ai 41 ah,.blk ag 41 af,.blk ae 41 B5] bM:=p6
 have q:=p7.freezeR (k:=0) (n:=ax.Splits.length) rfl (wAD (f:=wAC) (sz:=2) (fun _=>rfl) ax.Splits) (by decide)
 obtain ⟨jx,ur,tO,p8⟩:=q
 have p9:sW w U jx [cP,cu,bi,.blk ai 41 ah,.blk ag 41 af,.blk ae 41 B5] bM:=p8
 have q:=p9.freezeR (k:=0) (n:=ax.Clocks.length) rfl (wAD (f:=wAA) (sz:=3) (fun _=>rfl) ax.Clocks) (by decide)
 obtain ⟨jy,iO,tP,qa⟩:=q
 have qb:sW w U jy [cu,bi,.blk ai 41 ah,.blk ag 41 af,.blk ae 41 B5] bM:=qa
 have q:=qb.freezeR (k:=0) (n:=ax.Readings.length) rfl (wAD (f:=wAB) (sz:=4) (fun _=>rfl) ax.Readings) (by decide)
 obtain ⟨fz,di,tQ,qc⟩:=q
 have qd:sW w U fz [bi,.blk ai 41 ah,.blk ag 41 af,.blk ae 41 B5] bM:=qc
 have mf:=tN.le ur
 have mg:=mf.le iO
 have mh:=mg.le di
 have mi:=tO.le iO
 have mj:=mi.le di
 have mm:=tP.le di
 have q:=bnd sq
 obtain ⟨⟨cg,uI⟩,mn,iB⟩:=q
 try dsimp only at iB
 refine zF 0 Z Z Z Z (zD Z Z Try.call53 (zB Z zJ) Z) qd (fun hs=>wGX ax dM gO dN gP dO gQ dP gR bM fz hs mh mj mm tQ mn) (.inr Z) ?_
 rintro ao uZ wq j0 vL qf ⟨cL,db,rfl,rfl⟩
 let bo:Res:=.row cL db 45 2 (hD wAT cg)
 have an:sW w U ao [bo,bi,.blk ai 41 ah,.blk ag 41 af,.blk ae 41 B5] j0:=qf
 refine oM Z Z (oR Z (zT Z Z (v:=.slice cL cg.length db) Z) (oR Z (zT Z Z (v:=jV uI) Z) (oA Z Z (oA Z Z (eN (zM (bnK iB fun j9 iJ sr=>yS (fun σ_ w_=>∃ (U_:PHeap),σ_ 110=.bool j9/\PHeap.Le ao U_/\sW w U U_ [.blk ai 41 ah,.blk ag 41 af,.blk ae 41 B5] w_) ?_ ?_)))))))
 refine rR (wMc (.fx 45 (.fx 46 (wLl (.fx 51 (.fx 52 (.fx 53 (.fl 54 (.fl 55 .nil)) .stop) .stop) .stop)) .stop) .stop)) Z (oM Z k6 (oR Z (Ze Z Z Z) (oM Z Z ?_)))
 by_cases ba:dt=0
 have iC:=iJ;rw [if_pos ba] at iC;replace ba:=zO ba
 refine zw Z Z Z (zS Z Z (ZD (fun h=>h ba.out))) Z k8 (zc Z Z Z (zS Z Z (ZD (fun h=>h ba.out))) (fun _=>Ze Z Z Z) (oR Z (zg Z (ZD (fun h=>h ba.out)) Z) (oM Z Z (ifc iC ?_ ?_))))
 intro bs ss
 refine zw Z Z Z (zS Z Z (ZD (fun h=>h bs.out))) Z lb (zc Z Z Z (zS Z Z (ZD (fun h=>h bs.out))) (fun _=>Ze Z Z Z) (oR Z (zg Z (ZD (fun h=>h bs.out)) Z) (oM Z Z (ifc ss ?_ ?_))))
 intro bt su
 refine zw Z Z Z (zS Z Z (ZD (fun h=>h bt.out))) Z lf (zc Z Z Z (zS Z Z (ZD (fun h=>h bt.out))) (fun _=>Ze Z Z Z) (oR Z (zg Z (ZD (fun h=>h bt.out)) Z) (oM Z Z (ifc su ?_ ?_))))
 intro bu sv
 refine zw Z Z Z (zS Z Z (ZD (fun h=>h bu.out))) Z Z (zc Z Z Z (zS Z Z (ZD (fun h=>h bu.out))) (fun _=>Ze Z Z Z) (oR Z (zg Z (ZD (fun h=>h bu.out)) Z) (oM Z Z (ifc sv ?_ ?_))))
 intro bv sw
 refine zw Z Z Z (zS Z Z (ZD (fun h=>h bv.out))) Z Z (zc Z Z Z (zS Z Z (ZD (fun h=>h bv.out))) (fun _=>Ze Z Z Z) (oR Z (zg Z (ZD (fun h=>h bv.out)) Z) (oM Z Z (ifc sw ?_ ?_))))
 intro bc sA
 refine ZF Z Z Z (zS Z Z (ZD (fun h=>h bc.out))) (an.ldBA (j:=4) Z Z k5 Zn zZ (vs:=B5) Z Z) Z (zc Z Z Z (zS Z Z (ZD (fun h=>h bc.out))) (fun _=>zk (pv:=[(0,jV 2244),(1,jV 2256)]) (z:=B4) (cs:=[jV 2244,jV 2256]) Z (wAH Z (wAH Z wAO)) zi wBd Z Z) (zc Z Z Z (zS Z Z (ZD (fun h=>h bc.out))) (fun _=>ZH (yn (enc:=wAC) (a:=ci) (b:=(⟨2244,2256⟩:wAF)) Z Z Z wHZ wHY) (congrArg nI (decide_not).symm)) (oR Z (zg Z (ZD (fun h=>h bc.out)) Z) (oM Z Z (ifc sA ?_ ?_)))))
 intro bd sB
 refine ZF Z Z Z (zS Z Z (ZD (fun h=>h bd.out))) (an.ldBA (j:=3) Z Z k7 Zn zZ (vs:=af) Z Z) Z (zc Z Z Z (zS Z Z (ZD (fun h=>h bd.out))) (fun _=>zk (pv:=[(0,jV 1000),(1,jV 1200)]) (z:=B4) (cs:=[jV 1000,jV 1200]) Z (wAH Z (wAH Z wAO)) zi wBd Z Z) (zc Z Z Z (zS Z Z (ZD (fun h=>h bd.out))) (fun _=>ZH (yn (enc:=wAC) (a:=cc) (b:=(⟨1000,1200⟩:wAF)) Z Z Z wHZ wHY) (congrArg nI (decide_not).symm)) (oR Z (zg Z (ZD (fun h=>h bd.out)) Z) (oM Z Z (ifc sB ?_ ?_)))))
 intro be sC
 refine ZF Z Z Z (zS Z Z (ZD (fun h=>h be.out))) (an.ldBA (j:=2) Z Z k9 Zn zZ (vs:=ah) Z Z) Z (zc Z Z Z (zS Z Z (ZD (fun h=>h be.out))) (fun _=>zk (pv:=[(0,jV 247),(1,jV 251)]) (z:=B4) (cs:=[jV 247,jV 251]) Z (wAH Z (wAH Z wAO)) zi wBd Z Z) (zc Z Z Z (zS Z Z (ZD (fun h=>h be.out))) (fun _=>ZH (yn (enc:=wAC) (a:=cd) (b:=(⟨247,251⟩:wAF)) Z Z Z wHZ wHY) (congrArg nI (decide_not).symm)) (oR Z (zg Z (ZD (fun h=>h be.out)) Z) (oM Z Z (ifc sC ?_ ?_)))))
 intro bw sD
 refine zw Z Z Z (zS Z Z (ZD (fun h=>h bw.out))) Z lc (zc Z Z Z (zS Z Z (ZD (fun h=>h bw.out))) (fun _=>Ze Z Z Z) (oR Z (zg Z (ZD (fun h=>h bw.out)) Z) (oM Z Z (ifc sD ?_ ?_))))
 intro am sE
 refine zw Z Z Z (zS Z Z (ZD (fun h=>h am.out))) Z Z (zc Z Z Z (zS Z Z (ZD (fun h=>h am.out))) (fun _=>zk (pv:=[(0,jV 1),(1,jV 1)]) (z:=B4) (cs:=[jV 1,jV 1]) Z (wAH Z (wAH Z wAO)) zi wBd Z Z) (zc Z Z Z (zS Z Z (ZD (fun h=>h am.out))) (fun _=>zk (pv:=[(0,jV 2),(1,jV 2)]) (z:=B4) (cs:=[jV 2,jV 2]) Z (wAH Z (wAH Z wAO)) zi wBd Z Z) (zr (pv:=[(0,.agg #[jV 1,jV 1]),(1,.agg #[jV 2,jV 2])]) (zs:=[jV 0,jV 0,jV 0,jV 0]) (cs:=[jV 1,jV 1,jV 2,jV 2]) Z Z Z (zS Z Z (ZD (fun h=>h am.out))) Z (wAH Z (wAH Z wAO)) zn zZ zi Z Z Z Z Z an ?_)))
 intro cB gm qi
 let eF:Res:=.row (some ⟨gm,0,none⟩) 2 41 2 (hD wAC [(⟨1,1⟩:wAF),(⟨2,2⟩:wAF)])
 have qj:sW w U ao [eF,bo,bi,.blk ai 41 ah,.blk ag 41 af,.blk ae 41 B5] cB:=qi
 have q:=qj.freezeR (k:=2) (n:=cf.length) rfl (wAD (f:=wAC) (sz:=2) (fun _=>rfl) cf) (by decide)
 obtain ⟨jz,iQ,tS,qk⟩:=q
 have qm:sW w U jz [eF,bo,.blk ai 41 ah,.blk ag 41 af,.blk ae 41 B5] cB:=qk
 have q:=qm.freezeR (k:=0) (n:=[(⟨1,1⟩:wAF),(⟨2,2⟩:wAF)].length) rfl (wAD (f:=wAC) (sz:=2) (fun _=>rfl) [(⟨1,1⟩:wAF),(⟨2,2⟩:wAF)]) (by decide)
 obtain ⟨fC,dl,tU,qn⟩:=q
 have qo:sW w U fC [bo,.blk ai 41 ah,.blk ag 41 af,.blk ae 41 B5] cB:=qn
 have mo:=tS.le dl
 refine bnK sE fun wJ mp sF=>zF 0 Z Z Z (zS Z Z (ZD (fun h=>h am.out))) (zD Z Z Try.call18 (zB Z (zB Z zJ)) Z) qo (fun hs=>wDl cf cK da [(⟨1,1⟩:wAF),(⟨2,2⟩:wAF)] (some ⟨gm,0,none⟩) 2 cB fC hs mo tU mp) (.inr Z) ?_
 rintro cY u4 ws ga iR qq ⟨rfl,rfl⟩
 have it:sW w U cY [bo,.blk ai 41 ah,.blk ag 41 af,.blk ae 41 B5] ga:=qq
 refine zc Z Z Z (zS Z Z (ZD (fun h=>h am.out))) (fun _=>Zg Z Z) (oR Z (zg Z (ZD (fun h=>h am.out)) Z) (oM Z Z (ifc sF ?_ ?_)))
 intro ap sG
 refine zw Z Z Z (zS Z Z (nC ap.out)) Z Z (bnK sG fun bS mq sI=>zF 0 Z Z Z (zS Z Z (nC ap.out)) (zD Z Z Try.call16 (zB Z (zB Z zJ)) Z) it (fun hs=>wAu 0 1 ga cY hs mq) (.inr Z) ?_)
 rintro fD u5 wt j1 ut qs ⟨rfl,rfl⟩
 have qt:sW w U fD [bo,.blk ai 41 ah,.blk ag 41 af,.blk ae 41 B5] j1:=qs
 let eG:List Value:=[jV bS.Skier,jV bS.Mat]
 refine zr (pv:=[(0,.agg eG.toArray)]) (zs:=B4) (cs:=eG) Z Z Z (zS Z Z (nC ap.out)) Z (wAH Z wAO) Zq ZG Zu Z Z Z Z Z qt ?_
 intro cC gp qu
 let eH:Res:=.row (some ⟨gp,0,none⟩) 1 45 2 (hD wAT [bS])
 have qv:sW w U fD [eH,bo,.blk ai 41 ah,.blk ag 41 af,.blk ae 41 B5] cC:=qu
 have q:=qv.freezeR (k:=1) (n:=cg.length) rfl (wAD (f:=wAT) (sz:=2) (fun _=>rfl) cg) (by decide)
 obtain ⟨jA,uu,tV,qw⟩:=q
 have qx:sW w U jA [eH,.blk ai 41 ah,.blk ag 41 af,.blk ae 41 B5] cC:=qw
 have q:=qx.freezeR (k:=0) (n:=[bS].length) rfl (wAD (f:=wAT) (sz:=2) (fun _=>rfl) [bS]) (by decide)
 obtain ⟨fE,iS,tW,qy⟩:=q
 have qz:sW w U fE [.blk ai 41 ah,.blk ag 41 af,.blk ae 41 B5] cC:=qy
 have mu:=tV.le iS
 refine bnK sI fun wL mw sJ=>zF 0 Z Z Z (zS Z Z (nC ap.out)) (zD Z Z Try.call54 (zB Z (zB Z zJ)) Z) qz (fun hs=>wDd cg cL db [bS] (some ⟨gp,0,none⟩) 1 cC fE hs mu tW mw) (.inr Z) ?_
 rintro fG u6 wu j2 uv qA ⟨rfl,rfl⟩
 have qB:sW w U fG [.blk ai 41 ah,.blk ag 41 af,.blk ae 41 B5] j2:=qA
 refine zc Z Z Z (zS Z Z (nC ap.out)) (fun _=>Zg Z Z) (oR Z (zg Z (nC ap.out) Z) (zh ?_))
 cases sJ
 exact zL ⟨Z,⟨fG,Z,((((((iQ.trans dl).trans iR).trans ut).trans uu).trans iS).trans uv),qB⟩⟩
 intro ap sK
 refine Zf Z Z Z (zV Z Z (nF (ap.out)) Z) (ZC Z Z Z (zV Z Z (nF (ap.out)) Z) (ZC Z Z Z (zV Z Z (nF (ap.out)) Z) (ZC Z Z Z (zV Z Z (nF (ap.out)) Z) (Zf Z Z Z (zV Z Z (nF (ap.out)) Z) (oR Z (zN Z (nF (ap.out)) Z) (zh ?_))))))
 cases sK
 exact zL ⟨rfl,⟨cY,rfl,((iQ.trans dl).trans iR),(it.pick [1,2,3] _ (by decide) rfl)⟩⟩
 intro am sM
 refine oT Z am (oT Z am (oT Z am (ZC Z Z Z (zV Z Z (Zi am.out) Z) (ZC Z Z Z (zV Z Z (Zi am.out) Z) (oT Z am (oR Z (zN Z (Zi am.out) Z) (oM Z Z (oN Z (ZC Z Z Z (zV Z Z Z Z) (ZC Z Z Z (zV Z Z Z Z) (ZC Z Z Z (zV Z Z Z Z) (oN Z (oR Z (zN Z Z Z) (zh ?_))))))))))))))
 cases sM
 exact zL ⟨rfl,⟨ao,rfl,(zP _),(an.pick [2,3,4] _ (by decide) rfl)⟩⟩
 intro bw sN
 refine oT Z bw (oT Z bw (oR Z (zN Z (Zi bw.out) Z) (oM Z Z (oN Z (oN Z (oN Z (ZC Z Z Z (zV Z Z Z Z) (ZC Z Z Z (zV Z Z Z Z) (oN Z (oR Z (zN Z Z Z) (oM Z Z (oN Z (ZC Z Z Z (zV Z Z Z Z) (ZC Z Z Z (zV Z Z Z Z) (ZC Z Z Z (zV Z Z Z Z) (oN Z (oR Z (zN Z Z Z) (zh ?_))))))))))))))))))
 cases sN
 exact zL ⟨rfl,⟨ao,rfl,(zP _),(an.pick [2,3,4] _ (by decide) rfl)⟩⟩
 intro be sO
 refine oT Z be (oT Z be (oT Z be (oR Z (zN Z (Zi be.out) Z) (oM Z Z (oN Z (oN Z (oR Z (zN Z Z Z) (oM Z Z (oN Z (oN Z (oN Z (ZC Z Z Z (zV Z Z Z Z) (ZC Z Z Z (zV Z Z Z Z) (oN Z (oR Z (zN Z Z Z) (oM Z Z (oN Z (ZC Z Z Z (zV Z Z Z Z) (ZC Z Z Z (zV Z Z Z Z) (ZC Z Z Z (zV Z Z Z Z) (oN Z (oR Z (zN Z Z Z) (zh ?_)))))))))))))))))))))))
 cases sO
 exact zL ⟨rfl,⟨ao,rfl,(zP _),(an.pick [2,3,4] _ (by decide) rfl)⟩⟩
 intro bd sP
 refine oT Z bd (oT Z bd (oT Z bd (oR Z (zN Z (Zi bd.out) Z) (oM Z Z (oN Z (oN Z (oN Z (oR Z (zN Z Z Z) (oM Z Z (oN Z (oN Z (oR Z (zN Z Z Z) (oM Z Z (oN Z (oN Z (oN Z (ZC Z Z Z (zV Z Z Z Z) (ZC Z Z Z (zV Z Z Z Z) (oN Z (oR Z (zN Z Z Z) (oM Z Z (oN Z (ZC Z Z Z (zV Z Z Z Z) (ZC Z Z Z (zV Z Z Z Z) (ZC Z Z Z (zV Z Z Z Z) (oN Z (oR Z (zN Z Z Z) (zh ?_))))))))))))))))))))))))))))
 cases sP
 exact zL ⟨rfl,⟨ao,rfl,(zP _),(an.pick [2,3,4] _ (by decide) rfl)⟩⟩
 intro bc sQ
 refine oT Z bc (oT Z bc (oT Z bc (oR Z (zN Z (Zi bc.out) Z) (oM Z Z (oN Z (oN Z (oN Z (oR Z (zN Z Z Z) (oM Z Z (oN Z (oN Z (oN Z (oR Z (zN Z Z Z) (oM Z Z (oN Z (oN Z (oR Z (zN Z Z Z) (oM Z Z (oN Z (oN Z (oN Z (ZC Z Z Z (zV Z Z Z Z) (ZC Z Z Z (zV Z Z Z Z) (oN Z (oR Z (zN Z Z Z) (oM Z Z (oN Z (ZC Z Z Z (zV Z Z Z Z) (ZC Z Z Z (zV Z Z Z Z) (ZC Z Z Z (zV Z Z Z Z) (oN Z (oR Z (zN Z Z Z) (zh ?_)))))))))))))))))))))))))))))))))
 cases sQ
 exact zL ⟨rfl,⟨ao,rfl,(zP _),(an.pick [2,3,4] _ (by decide) rfl)⟩⟩
 intro bv sS
 refine oT Z bv (oT Z bv (oR Z (zN Z (Zi bv.out) Z) (oM Z Z (oN Z (oN Z (oN Z (oR Z (zN Z Z Z) (oM Z Z (oN Z (oN Z (oN Z (oR Z (zN Z Z Z) (oM Z Z (oN Z (oN Z (oN Z (oR Z (zN Z Z Z) (oM Z Z (oN Z (oN Z (oR Z (zN Z Z Z) (oM Z Z (oN Z (oN Z (oN Z (ZC Z Z Z (zV Z Z Z Z) (ZC Z Z Z (zV Z Z Z Z) (oN Z (oR Z (zN Z Z Z) (oM Z Z (oN Z (ZC Z Z Z (zV Z Z Z Z) (ZC Z Z Z (zV Z Z Z Z) (ZC Z Z Z (zV Z Z Z Z) (oN Z (oR Z (zN Z Z Z) (zh ?_)))))))))))))))))))))))))))))))))))))
 cases sS
 exact zL ⟨rfl,⟨ao,rfl,(zP _),(an.pick [2,3,4] _ (by decide) rfl)⟩⟩
 intro bu sT
 refine oT Z bu (oT Z bu (oR Z (zN Z (Zi bu.out) Z) (oM Z Z (oN Z (oN Z (oR Z (zN Z Z Z) (oM Z Z (oN Z (oN Z (oN Z (oR Z (zN Z Z Z) (oM Z Z (oN Z (oN Z (oN Z (oR Z (zN Z Z Z) (oM Z Z (oN Z (oN Z (oN Z (oR Z (zN Z Z Z) (oM Z Z (oN Z (oN Z (oR Z (zN Z Z Z) (oM Z Z (oN Z (oN Z (oN Z (ZC Z Z Z (zV Z Z Z Z) (ZC Z Z Z (zV Z Z Z Z) (oN Z (oR Z (zN Z Z Z) (oM Z Z (oN Z (ZC Z Z Z (zV Z Z Z Z) (ZC Z Z Z (zV Z Z Z Z) (ZC Z Z Z (zV Z Z Z Z) (oN Z (oR Z (zN Z Z Z) (zh ?_)))))))))))))))))))))))))))))))))))))))))
 cases sT
 exact zL ⟨rfl,⟨ao,rfl,(zP _),(an.pick [2,3,4] _ (by decide) rfl)⟩⟩
 intro bt sU
 refine oT Z bt (oT Z bt (oR Z (zN Z (Zi bt.out) Z) (oM Z Z (oN Z (oN Z (oR Z (zN Z Z Z) (oM Z Z (oN Z (oN Z (oR Z (zN Z Z Z) (oM Z Z (oN Z (oN Z (oN Z (oR Z (zN Z Z Z) (oM Z Z (oN Z (oN Z (oN Z (oR Z (zN Z Z Z) (oM Z Z (oN Z (oN Z (oN Z (oR Z (zN Z Z Z) (oM Z Z (oN Z (oN Z (oR Z (zN Z Z Z) (oM Z Z (oN Z (oN Z (oN Z (ZC Z Z Z (zV Z Z Z Z) (ZC Z Z Z (zV Z Z Z Z) (oN Z (oR Z (zN Z Z Z) (oM Z Z (oN Z (ZC Z Z Z (zV Z Z Z Z) (ZC Z Z Z (zV Z Z Z Z) (ZC Z Z Z (zV Z Z Z Z) (oN Z (oR Z (zN Z Z Z) (zh ?_)))))))))))))))))))))))))))))))))))))))))))))
 cases sU
 exact zL ⟨rfl,⟨ao,rfl,(zP _),(an.pick [2,3,4] _ (by decide) rfl)⟩⟩
 intro bs sV
 refine oT Z bs (oT Z bs (oR Z (zN Z (Zi bs.out) Z) (oM Z Z (oN Z (oN Z (oR Z (zN Z Z Z) (oM Z Z (oN Z (oN Z (oR Z (zN Z Z Z) (oM Z Z (oN Z (oN Z (oR Z (zN Z Z Z) (oM Z Z (oN Z (oN Z (oN Z (oR Z (zN Z Z Z) (oM Z Z (oN Z (oN Z (oN Z (oR Z (zN Z Z Z) (oM Z Z (oN Z (oN Z (oN Z (oR Z (zN Z Z Z) (oM Z Z (oN Z (oN Z (oR Z (zN Z Z Z) (oM Z Z (oN Z (oN Z (oN Z (ZC Z Z Z (zV Z Z Z Z) (ZC Z Z Z (zV Z Z Z Z) (oN Z (oR Z (zN Z Z Z) (oM Z Z (oN Z (ZC Z Z Z (zV Z Z Z Z) (ZC Z Z Z (zV Z Z Z Z) (ZC Z Z Z (zV Z Z Z Z) (oN Z (oR Z (zN Z Z Z) (zh ?_)))))))))))))))))))))))))))))))))))))))))))))))))
 cases sV
 exact zL ⟨rfl,⟨ao,rfl,(zP _),(an.pick [2,3,4] _ (by decide) rfl)⟩⟩
 have iD:=iJ;rw [if_neg ba] at iD;replace ba:=zO ba
 refine oT Z ba (oT Z ba (oR Z (zN Z (Zi ba.out) Z) (oM Z Z (oN Z (oN Z (oR Z (zN Z Z Z) (oM Z Z (oN Z (oN Z (oR Z (zN Z Z Z) (oM Z Z (oN Z (oN Z (oR Z (zN Z Z Z) (oM Z Z (oN Z (oN Z (oR Z (zN Z Z Z) (oM Z Z (oN Z (oN Z (oN Z (oR Z (zN Z Z Z) (oM Z Z (oN Z (oN Z (oN Z (oR Z (zN Z Z Z) (oM Z Z (oN Z (oN Z (oN Z (oR Z (zN Z Z Z) (oM Z Z (oN Z (oN Z (oR Z (zN Z Z Z) (oM Z Z (oN Z (oN Z (oN Z (ZC Z Z Z (zV Z Z Z Z) (ZC Z Z Z (zV Z Z Z Z) (oN Z (oR Z (zN Z Z Z) (oM Z Z (oN Z (ZC Z Z Z (zV Z Z Z Z) (ZC Z Z Z (zV Z Z Z Z) (ZC Z Z Z (zV Z Z Z Z) (oN Z (oR Z (zN Z Z Z) (zh ?_)))))))))))))))))))))))))))))))))))))))))))))))))))))
 cases iD
 exact zL ⟨rfl,⟨ao,rfl,(zP _),(an.pick [2,3,4] _ (by decide) rfl)⟩⟩
 rintro wO j3 ⟨fH,ir,vM,iu⟩
 refine ifc sr ?_ ?_
 intro dd sX
 refine ZI (ir.trans (congrArg nI dd.out)) (sR fL1 Z (oA Z Z (eN (zR (zW ?_)))))
 have hE:=hJ sX;first | subst r | cases hE
 exact ⟨rfl,_,(ZL rfl),fH,_,(iu.pick [] _ (by decide) rfl),rfl,rfl⟩
 intro dd sY
 refine ZE (ir.trans (congrArg nI (nL.2 dd.out))) (kN (sR (.fx 0 (.fx 1 (wHH (.nil)) .stop) .stop) Z (bnK sY fun ay mB sZ=>zF 0 Z Z Z Z (zD Z Z Try.call55 zJ Z) iu (fun hs=>wCC j3 fH hs mB) (.inr Z) ?_)))
 rintro jB u7 wv bN vN qC ⟨dQ,gS,dR,gT,dS,gU,dT,gX,rfl,rfl⟩
 let cw:Res:=.row dT gX 39 4 (hD wAB ay.Readings)
 let cQ:Res:=.row dS gU 43 3 (hD wAA ay.Clocks)
 let eI:Res:=.row dR gT 41 2 (hD wAC ay.Splits)
 have qD:sW w U jB [.row dQ gS 3 1 (hD KL.encI ay.Starts),eI,cQ,cw,.blk ai 41 ah,.blk ag 41 af,.blk ae 41 B5] bN:=qC
 have q:=qD.freezeR (k:=0) (n:=ay.Starts.length) rfl (wAD (f:=KL.encI) (sz:=1) (fun _=>rfl) ay.Starts) (by decide)
 obtain ⟨jC,vO,tX,qE⟩:=q
 have qF:sW w U jC [eI,cQ,cw,.blk ai 41 ah,.blk ag 41 af,.blk ae 41 B5] bN:=qE
 have q:=qF.freezeR (k:=0) (n:=ay.Splits.length) rfl (wAD (f:=wAC) (sz:=2) (fun _=>rfl) ay.Splits) (by decide)
 obtain ⟨jD,uw,tY,qG⟩:=q
 have qH:sW w U jD [cQ,cw,.blk ai 41 ah,.blk ag 41 af,.blk ae 41 B5] bN:=qG
 have q:=qH.freezeR (k:=0) (n:=ay.Clocks.length) rfl (wAD (f:=wAA) (sz:=3) (fun _=>rfl) ay.Clocks) (by decide)
 obtain ⟨jE,iT,tZ,qI⟩:=q
 have qJ:sW w U jE [cw,.blk ai 41 ah,.blk ag 41 af,.blk ae 41 B5] bN:=qI
 have q:=qJ.freezeR (k:=0) (n:=ay.Readings.length) rfl (wAD (f:=wAB) (sz:=4) (fun _=>rfl) ay.Readings) (by decide)
 obtain ⟨fI,dm,t4,qK⟩:=q
 have qL:sW w U fI [.blk ai 41 ah,.blk ag 41 af,.blk ae 41 B5] bN:=qK
 have mD:=tX.le uw
 have mE:=mD.le iT
 have mF:=mE.le dm
 have mG:=tY.le iT
 have mH:=mG.le dm
 have mI:=tZ.le dm
 have q:=bnd sZ
 obtain ⟨⟨uJ,i3,i4⟩,mJ,iF⟩:=q
 try dsimp only at iF
 refine zF 0 Z Z Z Z (zD Z Z Try.call27 (zB Z zJ) Z) qL (fun hs=>wHa ay dQ gS dR gT dS gU dT gX bN fI hs mF mH mI t4 mJ) (.inr Z) ?_
 rintro fJ va wx gb vP qM ⟨dU,gY,k3,dV,gZ,rfl,rfl,vn⟩
 let aj:Res:=.row dV gZ 3 1 (hD KL.encI i3)
 let ak:Res:=.row dU gY 23 1 k3
 have qN:sW w U fJ [ak,aj,.blk ai 41 ah,.blk ag 41 af,.blk ae 41 B5] gb:=qM
 refine oM Z Z (oR Z (zT Z Z (v:=.slice dU uJ.length gY) Z) (oR Z (zT Z Z (v:=.slice dV i3.length gZ) Z) (oR Z (zT Z Z (v:=jV i4) Z) (oA Z Z (eN (sR (.fx 0 (fC1_4 (.fx 5 (.fx 6 (wLB (.nil)) .stop) .stop)) .stop) Z (bnK iF fun az mK s5=>zF 0 Z Z Z Z (zD Z Z Try.call55 zJ Z) qN (fun hs=>wCC gb fJ hs mK) (.inr Z) ?_)))))))
 rintro fK vb wz j5 vQ qO ⟨dW,g6,dX,g7,dY,g8,dZ,g9,rfl,rfl⟩
 let bZ:Res:=.row dZ g9 39 4 (hD wAB az.Readings)
 let cx:Res:=.row dY g8 43 3 (hD wAA az.Clocks)
 let cR:Res:=.row dX g7 41 2 (hD wAC az.Splits)
 let eJ:Res:=.row dW g6 3 1 (hD KL.encI az.Starts)
 have qP:sW w U fK [eJ,cR,cx,bZ,ak,aj,.blk ai 41 ah,.blk ag 41 af,.blk ae 41 B5] j5:=qO
 let eO:List Value:=[jV 0,jV 1,jV 0,.bool true]
 refine oR Z (zk (pv:=[(0,jV 0),(1,jV 1),(3,.bool true)]) (z:=bF) (cs:=eO) Z (wAH Z (wAH Z (wAH Z wAO))) Zy wDS Z Z) ?_
 let eU:List Value:=[jV 1,jV 1,jV 0,.bool true]
 refine oR Z (zk (pv:=[(0,jV 1),(1,jV 1),(3,.bool true)]) (z:=bF) (cs:=eU) Z (wAH Z (wAH Z (wAH Z wAO))) Zy wDS Z Z) ?_
 let eV:List Value:=[jV 3,jV 0,jV 1,.bool false]
 refine oR Z (zk (pv:=[(0,jV 3),(2,jV 1)]) (z:=bF) (cs:=eV) Z (wAH Z (wAH Z wAO)) Zy wDS Z Z) ?_
 let eX:List Value:=[jV 2,jV 0,jV 0,.bool false]
 refine oR Z (zk (pv:=[(0,jV 2)]) (z:=bF) (cs:=eX) Z (wAH Z wAO) Zy wDS Z Z) (zr (pv:=[(0,.agg eO.toArray),(1,.agg eU.toArray),(2,.agg eV.toArray),(3,.agg eX.toArray)]) (zs:=[jV 0,jV 0,jV 0,.bool false,jV 0,jV 0,jV 0,.bool false,jV 0,jV 0,jV 0,.bool false,jV 0,jV 0,jV 0,.bool false]) (cs:=[jV 0,jV 1,jV 0,.bool true,jV 1,jV 1,jV 0,.bool true,jV 3,jV 0,jV 1,.bool false,jV 2,jV 0,jV 0,.bool false]) Z Z Z Z Z (wAH Z (wAH Z (wAH Z (wAH Z wAO)))) yQ Zh Zy Z Z Z Z Z qP ?_)
 intro br gq qQ
 let ca:Res:=.row (some ⟨gq,0,none⟩) 4 78 4 (hD wBX [(⟨0,1,0,true⟩:wAK),(⟨1,1,0,true⟩:wAK),(⟨3,0,1,false⟩:wAK),(⟨2,0,0,false⟩:wAK)])
 have qS:sW w U fK [ca,eJ,cR,cx,bZ,ak,aj,.blk ai 41 ah,.blk ag 41 af,.blk ae 41 B5] br:=qQ
 have q:=qS.freezeR (k:=1) (n:=az.Starts.length) rfl (wAD (f:=KL.encI) (sz:=1) (fun _=>rfl) az.Starts) (by decide)
 obtain ⟨jG,vS,t5,qT⟩:=q
 have qU:sW w U jG [ca,cR,cx,bZ,ak,aj,.blk ai 41 ah,.blk ag 41 af,.blk ae 41 B5] br:=qT
 have q:=qU.freezeR (k:=1) (n:=az.Splits.length) rfl (wAD (f:=wAC) (sz:=2) (fun _=>rfl) az.Splits) (by decide)
 obtain ⟨jH,ux,t6,qV⟩:=q
 have qX:sW w U jH [ca,cx,bZ,ak,aj,.blk ai 41 ah,.blk ag 41 af,.blk ae 41 B5] br:=qV
 have q:=qX.freezeR (k:=1) (n:=az.Clocks.length) rfl (wAD (f:=wAA) (sz:=3) (fun _=>rfl) az.Clocks) (by decide)
 obtain ⟨jJ,iU,t7,qY⟩:=q
 have qZ:sW w U jJ [ca,bZ,ak,aj,.blk ai 41 ah,.blk ag 41 af,.blk ae 41 B5] br:=qY
 have q:=qZ.freezeR (k:=1) (n:=az.Readings.length) rfl (wAD (f:=wAB) (sz:=4) (fun _=>rfl) az.Readings) (by decide)
 obtain ⟨jK,dp,t8,q5⟩:=q
 have q6:sW w U jK [ca,ak,aj,.blk ai 41 ah,.blk ag 41 af,.blk ae 41 B5] br:=q5
 have q:=q6.freezeR (k:=0) (n:=[(⟨0,1,0,true⟩:wAK),(⟨1,1,0,true⟩:wAK),(⟨3,0,1,false⟩:wAK),(⟨2,0,0,false⟩:wAK)].length) rfl (wAD (f:=wBX) (sz:=4) (fun _=>rfl) [(⟨0,1,0,true⟩:wAK),(⟨1,1,0,true⟩:wAK),(⟨3,0,1,false⟩:wAK),(⟨2,0,0,false⟩:wAK)]) (by decide)
 obtain ⟨fM,cJ,t9,q7⟩:=q
 have q8:sW w U fM [ak,aj,.blk ai 41 ah,.blk ag 41 af,.blk ae 41 B5] br:=q7
 have mL:=t5.le ux
 have mM:=mL.le iU
 have mN:=mM.le dp
 have mO:=mN.le cJ
 have mP:=t6.le iU
 have mQ:=mP.le dp
 have mR:=mQ.le cJ
 have mS:=t7.le dp
 have mT:=mS.le cJ
 have mU:=t8.le cJ
 have q:=bnd s5
 obtain ⟨⟨i5,i6⟩,mV,iG⟩:=q
 try dsimp only at iG
 refine zF 0 Z Z Z Z (zD Z Z Try.call34 (zB Z (zB Z zJ)) Z) q8 (fun hs=>wGY az dW g6 dX g7 dY g8 dZ g9 [(⟨0,1,0,true⟩:wAK),(⟨1,1,0,true⟩:wAK),(⟨3,0,1,false⟩:wAK),(⟨2,0,0,false⟩:wAK)] (some ⟨gq,0,none⟩) 4 br fM hs mO mR mT mU t9 mV) (.inr Z) ?_
 rintro fN vc wA gf vU rc ⟨rfl,rfl⟩
 have rd:sW w U fN [ak,aj,.blk ai 41 ah,.blk ag 41 af,.blk ae 41 B5] gf:=rc
 refine oM Z Z (oR Z (zT Z Z (v:=jV i5) Z) (oR Z (zT Z Z (v:=jV i6) Z) (oA Z Z (oA Z Z (eN (sR (.fx 0 (.fx 1 (wHH (.nil)) .stop) .stop) Z (bnK iG fun a7 mW s6=>zF 0 Z Z Z Z (zD Z Z Try.call55 zJ Z) rd (fun hs=>wCC gf fN hs mW) (.inr Z) ?_)))))))
 rintro jL vd wB bO vV re ⟨d7,ib,d9,ic,ef,ie,eg,ig,rfl,rfl⟩
 let cy:Res:=.row eg ig 39 4 (hD wAB a7.Readings)
 let cS:Res:=.row ef ie 43 3 (hD wAA a7.Clocks)
 let eY:Res:=.row d9 ic 41 2 (hD wAC a7.Splits)
 have rf:sW w U jL [.row d7 ib 3 1 (hD KL.encI a7.Starts),eY,cS,cy,ak,aj,.blk ai 41 ah,.blk ag 41 af,.blk ae 41 B5] bO:=re
 have q:=rf.freezeR (k:=0) (n:=a7.Starts.length) rfl (wAD (f:=KL.encI) (sz:=1) (fun _=>rfl) a7.Starts) (by decide)
 obtain ⟨jM,vW,ua,ri⟩:=q
 have rj:sW w U jM [eY,cS,cy,ak,aj,.blk ai 41 ah,.blk ag 41 af,.blk ae 41 B5] bO:=ri
 have q:=rj.freezeR (k:=0) (n:=a7.Splits.length) rfl (wAD (f:=wAC) (sz:=2) (fun _=>rfl) a7.Splits) (by decide)
 obtain ⟨jN,uy,ub,rk⟩:=q
 have rn:sW w U jN [cS,cy,ak,aj,.blk ai 41 ah,.blk ag 41 af,.blk ae 41 B5] bO:=rk
 have q:=rn.freezeR (k:=0) (n:=a7.Clocks.length) rfl (wAD (f:=wAA) (sz:=3) (fun _=>rfl) a7.Clocks) (by decide)
 obtain ⟨jO,iV,uc,rp⟩:=q
 have rq:sW w U jO [cy,ak,aj,.blk ai 41 ah,.blk ag 41 af,.blk ae 41 B5] bO:=rp
 have q:=rq.freezeR (k:=0) (n:=a7.Readings.length) rfl (wAD (f:=wAB) (sz:=4) (fun _=>rfl) a7.Readings) (by decide)
 obtain ⟨fO,dq,ud,rv⟩:=q
 have rx:sW w U fO [ak,aj,.blk ai 41 ah,.blk ag 41 af,.blk ae 41 B5] bO:=rv
 have mX:=ua.le uy
 have mY:=mX.le iV
 have mZ:=mY.le dq
 have m3:=ub.le iV
 have m4:=m3.le dq
 have m5:=uc.le dq
 have q:=bnd s6
 obtain ⟨⟨bT,i7⟩,m6,iH⟩:=q
 try dsimp only at iH
 refine zF 0 Z Z Z Z (zD Z Z Try.call29 (zB Z zJ) Z) rx (fun hs=>wHb a7 d7 ib d9 ic ef ie eg ig bO fO hs mZ m4 m5 ud m6) (.inr Z) ?_
 rintro fP ve wC gh vX ry ⟨cm,cG,rfl,rfl⟩
 let bj:Res:=.row cm cG 3 1 (hD KL.encI bT)
 have rz:sW w U fP [bj,ak,aj,.blk ai 41 ah,.blk ag 41 af,.blk ae 41 B5] gh:=ry
 refine oM Z Z (oR Z (zT Z Z (v:=.slice cm bT.length cG) Z) (oR Z (zT Z Z (v:=jV i7) Z) (oA Z Z (oA Z Z (eN (sR (.fx 0 (.fx 1 (wHH (.nil)) .stop) .stop) Z (bnK iH fun a9 m8 s8=>zF 0 Z Z Z Z (zD Z Z Try.call55 zJ Z) rz (fun hs=>wCC gh fP hs m8) (.inr Z) ?_)))))))
 rintro jP vf wD bQ vY rA ⟨eh,ii,ej,ij,ek,ik,en,il,rfl,rfl⟩
 let cz:Res:=.row en il 39 4 (hD wAB a9.Readings)
 let cU:Res:=.row ek ik 43 3 (hD wAA a9.Clocks)
 let eZ:Res:=.row ej ij 41 2 (hD wAC a9.Splits)
 have rB:sW w U jP [.row eh ii 3 1 (hD KL.encI a9.Starts),eZ,cU,cz,bj,ak,aj,.blk ai 41 ah,.blk ag 41 af,.blk ae 41 B5] bQ:=rA
 have q:=rB.freezeR (k:=0) (n:=a9.Starts.length) rfl (wAD (f:=KL.encI) (sz:=1) (fun _=>rfl) a9.Starts) (by decide)
 obtain ⟨jQ,v2,ue,rC⟩:=q
 have rD:sW w U jQ [eZ,cU,cz,bj,ak,aj,.blk ai 41 ah,.blk ag 41 af,.blk ae 41 B5] bQ:=rC
 have q:=rD.freezeR (k:=0) (n:=a9.Splits.length) rfl (wAD (f:=wAC) (sz:=2) (fun _=>rfl) a9.Splits) (by decide)
 obtain ⟨jR,uz,uf,rE⟩:=q
 have rF:sW w U jR [cU,cz,bj,ak,aj,.blk ai 41 ah,.blk ag 41 af,.blk ae 41 B5] bQ:=rE
 have q:=rF.freezeR (k:=0) (n:=a9.Clocks.length) rfl (wAD (f:=wAA) (sz:=3) (fun _=>rfl) a9.Clocks) (by decide)
 obtain ⟨jS,iW,ug,rG⟩:=q
 have rH:sW w U jS [cz,bj,ak,aj,.blk ai 41 ah,.blk ag 41 af,.blk ae 41 B5] bQ:=rG
 have q:=rH.freezeR (k:=0) (n:=a9.Readings.length) rfl (wAD (f:=wAB) (sz:=4) (fun _=>rfl) a9.Readings) (by decide)
 obtain ⟨fR,dr,uh,rI⟩:=q
 have rJ:sW w U fR [bj,ak,aj,.blk ai 41 ah,.blk ag 41 af,.blk ae 41 B5] bQ:=rI
 have m9:=ue.le uz
 have n3:=m9.le iW
 have n4:=n3.le dr
 have n5:=uf.le iW
 have n6:=n5.le dr
 have n7:=ug.le dr
 have q:=bnd s8
 obtain ⟨⟨bU,i8⟩,n8,iI⟩:=q
 try dsimp only at iI
 refine zF 0 Z Z Z Z (zD Z Z Try.call30 (zB Z zJ) Z) rJ (fun hs=>wHc a9 eh ii ej ij ek ik en il bQ fR hs n4 n6 n7 uh n8) (.inr Z) ?_
 rintro bp vh wG j6 v4 rK ⟨cn,cH,rfl,rfl⟩
 let bG:Res:=.row cn cH 3 1 (hD KL.encI bU)
 have bR:sW w U bp [bG,bj,ak,aj,.blk ai 41 ah,.blk ag 41 af,.blk ae 41 B5] j6:=rK
 refine oM Z Z (oR Z (zT Z Z (v:=.slice cn bU.length cH) Z) (oR Z (zT Z Z (v:=jV i8) Z) (oA Z Z (oA Z Z (eN (zM (yh fun bC bk=>?_)))))))
 have lg:bC 2=jV i4:=(bk 2).trans rfl
 have lh:bC 4=jV i6:=(bk 4).trans rfl
 have lj:bC 6=jV i7:=(bk 6).trans rfl
 have lk:bC 8=jV i8:=(bk 8).trans rfl
 have ll:bC 13=jV i5:=(bk 13).trans rfl
 have lm:bC 14=.slice cm bT.length cG:=(bk 14).trans rfl
 have ln:bC 15=.slice cn bU.length cH:=(bk 15).trans rfl
 clear bk
 refine rR (wMa (.fx 20 (.fx 21 (wLk (.fx 25 (.fx 26 (.fl 27 (.fl 28 .nil)) .stop) .stop)) .stop) .stop)) Z (oM Z lg (oR Z (yO Z Z Z) (oM Z Z (ifc iI ?_ ?_))))
 intro bx s9
 refine zw Z Z Z (wT Z bx) Z lh (rU Z (wT Z bx) (yO Z Z Z) (oR Z (zN Z (Zi bx.out) Z) (oM Z Z (ifc s9 ?_ ?_))))
 intro bz ta
 refine zw Z Z Z (wT Z bz) Z lj (rU Z (wT Z bz) (yO Z Z Z) (oR Z (zN Z (Zi bz.out) Z) (oM Z Z (ifc ta ?_ ?_))))
 intro bA tc
 refine zw Z Z Z (wT Z bA) Z lk (rU Z (wT Z bA) (yO Z Z Z) (oR Z (zN Z (Zi bA.out) Z) (oM Z Z (ifc tc ?_ ?_))))
 intro bB te
 refine zw Z Z Z (wT Z bB) Z ll (rU Z (wT Z bB) (yO Z Z Z) (oR Z (zN Z (Zi bB.out) Z) (oM Z Z (ifc te ?_ ?_))))
 intro bf tf
 refine zw Z Z Z (wT Z bf) Z lm (zr (pv:=[(0,jV 1)]) (zs:=[jV 0]) (cs:=[jV 1]) Z Z Z (wT Z bf) Z (wAH Z wAO) zK zC zz Z Z Z Z Z bR ?_)
 intro cD gu rM
 let e0:Res:=.row (some ⟨gu,0,none⟩) 1 3 1 (hD KL.encI [1])
 have rN:sW w U bp [e0,bG,bj,ak,aj,.blk ai 41 ah,.blk ag 41 af,.blk ae 41 B5] cD:=rM
 have q:=rN.freezeR (k:=2) (n:=bT.length) rfl (wAD (f:=KL.encI) (sz:=1) (fun _=>rfl) bT) (by decide)
 obtain ⟨jU,v5,ui,rO⟩:=q
 have rP:sW w U jU [e0,bG,ak,aj,.blk ai 41 ah,.blk ag 41 af,.blk ae 41 B5] cD:=rO
 have q:=rP.freezeR (k:=0) (n:=[1].length) rfl (wAD (f:=KL.encI) (sz:=1) (fun _=>rfl) [1]) (by decide)
 obtain ⟨fS,uA,uj,rQ⟩:=q
 have rS:sW w U fS [bG,ak,aj,.blk ai 41 ah,.blk ag 41 af,.blk ae 41 B5] cD:=rQ
 have n9:=ui.le uA
 refine bnK tf fun wM oa tg=>zF 0 Z Z Z (wT Z bf) (zD Z Z Try.call56 (zB Z (zB Z zJ)) Z) rS (fun hs=>wDH bT cm cG [1] (some ⟨gu,0,none⟩) 1 cD fS hs n9 uj oa) (.inr Z) ?_
 rintro c6 vi wH j7 v7 rT ⟨rfl,rfl⟩
 have iv:sW w U c6 [bG,ak,aj,.blk ai 41 ah,.blk ag 41 af,.blk ae 41 B5] j7:=rT
 refine oR Z (zN Z (Zi bf.out) Z) (oM Z Z (ifc tg ?_ ?_))
 intro bg th
 refine zw Z Z Z (zS Z Z (congrArg nI bg.out)) Z ln (zr (pv:=[(0,jV 1)]) (zs:=[jV 0]) (cs:=[jV 1]) Z Z Z (zS Z Z (congrArg nI bg.out)) Z (wAH Z wAO) zK zC zz Z Z Z Z Z iv ?_)
 intro cE gv rW
 let fb:Res:=.row (some ⟨gv,0,none⟩) 1 3 1 (hD KL.encI [1])
 have rX:sW w U c6 [fb,bG,ak,aj,.blk ai 41 ah,.blk ag 41 af,.blk ae 41 B5] cE:=rW
 have q:=rX.freezeR (k:=1) (n:=bU.length) rfl (wAD (f:=KL.encI) (sz:=1) (fun _=>rfl) bU) (by decide)
 obtain ⟨jW,v9,uk,rY⟩:=q
 have rZ:sW w U jW [fb,ak,aj,.blk ai 41 ah,.blk ag 41 af,.blk ae 41 B5] cE:=rY
 have q:=rZ.freezeR (k:=0) (n:=[1].length) rfl (wAD (f:=KL.encI) (sz:=1) (fun _=>rfl) [1]) (by decide)
 obtain ⟨fT,uB,ul,r6⟩:=q
 have r7:sW w U fT [ak,aj,.blk ai 41 ah,.blk ag 41 af,.blk ae 41 B5] cE:=r6
 have oc:=uk.le uB
 refine bnK th fun wN od tj=>zF 0 Z Z Z (zS Z Z (congrArg nI bg.out)) (zD Z Z Try.call56 (zB Z (zB Z zJ)) Z) r7 (fun hs=>wDH bU cn cH [1] (some ⟨gv,0,none⟩) 1 cE fT hs oc ul od) (.inr Z) ?_
 rintro fU vj wI j8 wa r8 ⟨rfl,rfl⟩
 have r9:sW w U fU [ak,aj,.blk ai 41 ah,.blk ag 41 af,.blk ae 41 B5] j8:=r8
 refine oR Z (zN Z (congrArg nI bg.out) Z) (oA Z Z (eN (zR ?_)))
 have hE:=hJ tj;first | subst r | cases hE
 exact ⟨rfl,_,(ZL rfl),fU,_,(r9.pick [] _ (by decide) rfl),rfl,rfl⟩
 intro bg tk
 refine Zf Z Z Z (zV Z Z (congrArg nI (nL.2 bg.out)) Z) (ZC Z Z Z (zV Z Z (congrArg nI (nL.2 bg.out)) Z) (ZC Z Z Z (zV Z Z (congrArg nI (nL.2 bg.out)) Z) (oR Z (zg Z (congrArg nI (nL.2 bg.out)) Z) (oA Z Z (eN (zR ?_))))))
 have hE:=hJ tk;first | subst r | cases hE
 exact ⟨rfl,_,(ZL rfl),c6,_,(iv.pick [] _ (by decide) rfl),rfl,rfl⟩
 intro bf tm
 refine oF Z bf (ZC Z Z Z (zV Z Z (ZD bf.out) Z) (ZC Z Z Z (zV Z Z (ZD bf.out) Z) (oR Z (zg Z (ZD bf.out) Z) (oM Z Z (oN Z (ZC Z Z Z (zV Z Z Z Z) (ZC Z Z Z (zV Z Z Z Z) (oR Z (zg Z Z Z) (oA Z Z (eN (zR ?_)))))))))))
 have hE:=hJ tm;first | subst r | cases hE
 exact ⟨rfl,_,(ZL rfl),bp,_,(bR.pick [] _ (by decide) rfl),rfl,rfl⟩
 intro bB tn
 refine oF Z bB (oF Z bB (oR Z (zg Z (ZD bB.out) Z) (oM Z Z (oN Z (ZC Z Z Z (zV Z Z Z Z) (ZC Z Z Z (zV Z Z Z Z) (oR Z (zg Z Z Z) (oM Z Z (oN Z (ZC Z Z Z (zV Z Z Z Z) (ZC Z Z Z (zV Z Z Z Z) (oR Z (zg Z Z Z) (oA Z Z (eN (zR ?_)))))))))))))))
 have hE:=hJ tn;first | subst r | cases hE
 exact ⟨rfl,_,(ZL rfl),bp,_,(bR.pick [] _ (by decide) rfl),rfl,rfl⟩
 intro bA tp
 refine oF Z bA (oF Z bA (oR Z (zg Z (ZD bA.out) Z) (oM Z Z (oN Z (oN Z (oR Z (zg Z Z Z) (oM Z Z (oN Z (ZC Z Z Z (zV Z Z Z Z) (ZC Z Z Z (zV Z Z Z Z) (oR Z (zg Z Z Z) (oM Z Z (oN Z (ZC Z Z Z (zV Z Z Z Z) (ZC Z Z Z (zV Z Z Z Z) (oR Z (zg Z Z Z) (oA Z Z (eN (zR ?_)))))))))))))))))))
 have hE:=hJ tp;first | subst r | cases hE
 exact ⟨rfl,_,(ZL rfl),bp,_,(bR.pick [] _ (by decide) rfl),rfl,rfl⟩
 intro bz tq
 refine oF Z bz (oF Z bz (oR Z (zg Z (ZD bz.out) Z) (oM Z Z (oN Z (oN Z (oR Z (zg Z Z Z) (oM Z Z (oN Z (oN Z (oR Z (zg Z Z Z) (oM Z Z (oN Z (ZC Z Z Z (zV Z Z Z Z) (ZC Z Z Z (zV Z Z Z Z) (oR Z (zg Z Z Z) (oM Z Z (oN Z (ZC Z Z Z (zV Z Z Z Z) (ZC Z Z Z (zV Z Z Z Z) (oR Z (zg Z Z Z) (oA Z Z (eN (zR ?_)))))))))))))))))))))))
 have hE:=hJ tq;first | subst r | cases hE
 exact ⟨rfl,_,(ZL rfl),bp,_,(bR.pick [] _ (by decide) rfl),rfl,rfl⟩
 intro bx tr
 refine oF Z bx (oF Z bx (oR Z (zg Z (ZD bx.out) Z) (oM Z Z (oN Z (oN Z (oR Z (zg Z Z Z) (oM Z Z (oN Z (oN Z (oR Z (zg Z Z Z) (oM Z Z (oN Z (oN Z (oR Z (zg Z Z Z) (oM Z Z (oN Z (ZC Z Z Z (zV Z Z Z Z) (ZC Z Z Z (zV Z Z Z Z) (oR Z (zg Z Z Z) (oM Z Z (oN Z (ZC Z Z Z (zV Z Z Z Z) (ZC Z Z Z (zV Z Z Z Z) (oR Z (zg Z Z Z) (oA Z Z (eN (zR ?_)))))))))))))))))))))))))))
 have hE:=hJ tr;first | subst r | cases hE
 exact ⟨rfl,_,(ZL rfl),bp,_,(bR.pick [] _ (by decide) rfl),rfl,rfl⟩
end Go.Proofs.Ytlnfbjphfoipaaa
namespace Go.Proofs.Ytlnfbjphfoipaaa
open Go.KL
set_option maxHeartbeats 4000000
theorem wEM (p0:List Int) (qG:Option Addr) (qI:Nat) (p1:List Int) (qH:Option Addr) (qJ:Nat) (w:World) (U:PHeap) (hS:St0 w U []) (Pw:Sl U 1 qG qI p0.length (hD KL.encB8 p0)) (Px:Sl U 1 qH qJ p1.length (hD KL.encB8 p1)) {r:Bool} (hm:wBi p0 p1=some r):Gv Try.prog 6 [.slice qG p0.length qI,.slice qH p1.length qJ] w (wBw w [] U (fun U_ L_ v=>v=.bool r/\L_=[])):=by
 unfold wBi at hm
 refine Gv.of Try.func6 Z Try.ntmps6 Try.results6 Z (sR fL1 Z (oA Z Z (eN (sR (.fl 0 (.fx 1 (.fx 2 (wJy (.fx 7 (.fx 8 (.fl 9 (.fl 10 .nil)) .stop) .stop)) .stop) .stop)) Z (oM Z Z (bnK hm fun x1 h2 RF=>zF 0 Z Z Z Z (zD Z Z Try.call9 (zB Z zJ) Z) hS (fun hs=>wEa p0 qG qI w U hs Pw h2) (.inr Z) ?_))))))
 rintro U4 L5 v6 W7 Te OR ⟨oP,q8,tT,rfl,rfl,EA⟩
 have KT:sW w U U4 [.blk oP 94 [.slice q8 x1.bytes.length tT,jV x1.next,.int .u32 x1.state]] W7:=OR
 have q:=bnd RF
 obtain ⟨⟨bd,mH,cK,qS⟩,GE,ww⟩:=q
 try dsimp only at ww
 refine zF 1 Z Z Z Z (zD Z Z Try.call8 (zB Z (zB Z (zB Z (zB Z zJ)))) Z) KT (fun hs=>wEs x1 oP q8 tT 5 5 8 W7 U4 hs EA GE) (.inl Z) ?_
 rintro ol T9 Xx AW S7 Nt ⟨co,cp,bS,bX,cE,cG,cB,cD,jl,lu,gT,it,xL,BR,rfl,rfl,Jy,WO⟩
 let B0:Res:=.blk oP 94 [.slice xL qS.bytes.length BR,jV qS.next,.int .u32 qS.state]
 let B1:Res:=.row gT it 3 1 (hD KL.encI cK)
 let B2:Res:=.row cB cD 39 4 (hD wAB bd.Readings)
 let B3:Res:=.row cE cG 43 3 (hD wAA bd.Clocks)
 let B4:Res:=.row bS bX 41 2 (hD wAC bd.Splits)
 let B5:Res:=.row co cp 3 1 (hD KL.encI bd.Starts)
 have N8:sW w U ol [B5,B4,B3,B2,B1,B0] AW:=Nt
 refine oM Z Z (oR Z (zT Z Z (v:=.agg #[.slice co bd.Starts.length cp,.slice bS bd.Splits.length bX,.slice cE bd.Clocks.length cG,.slice cB bd.Readings.length cD]) Z) (oR Z (zT Z Z (v:=.slice jl mH.length lu) Z) (oR Z (zT Z Z (v:=.slice gT cK.length it) Z) ?_)))
 let B6:List Value:=[.slice none 0 0,.slice none 0 0,.slice none 0 0,.slice none 0 0]
 refine zQ (cs:=B6) Z Z Z Z Z yC Z N8 ?_
 intro Vn ae Oc
 let B7:List Value:=[.slice co bd.Starts.length cp,.slice bS bd.Splits.length bX,.slice cE bd.Clocks.length cG,.slice cB bd.Readings.length cD]
 refine zU (j:=0) (vs:=B7) Z Z Z Z Oc Z Z Z Z zY (zA Z) Z Z Z ?_
 intro tA Og
 have Oi:sW w U ol [.blk ae 28 B7,B5,B4,B3,B2,B1,B0] tA:=Og
 refine oA Z Z (oA Z Z (eN (sR gAd Z (oM Z Z ?_))))
 have JG:=Px.le Te
 have JJ:=JG.le S7
 refine bnK ww fun mM JK R1=>zF 0 Z Z Z Z (zD Z Z Try.call9 (zB Z zJ) Z) Oi (fun hs=>wEa p1 qH qJ tA ol hs JJ JK) (.inr Z) ?_
 rintro Ab Uu XT fT Td Ou ⟨ap,rS,uD,rfl,rfl,JL⟩
 let B8:Res:=.blk ap 94 [.slice rS mM.bytes.length uD,jV mM.next,.int .u32 mM.state]
 have v7:sW w U Ab [B8,.blk ae 28 B7,B5,B4,B3,B2,B1,B0] fT:=Ou
 refine oA Z Z (eN (sR (.fl 0 (.fl 1 (.fx 2 (.fx 3 (.fx 4 .nil .stop) .stop) .stop))) Z (oM Z Z (oL Z (v7.ldBA (j:=1) Z Z Z zf zY (vs:=B7) Z Z) ?_))))
 have q:=v7.freezeR (k:=2) (n:=bd.Starts.length) rfl (wAD (f:=KL.encI) (sz:=1) (fun _=>rfl) bd.Starts) (by decide)
 obtain ⟨Ac,xg,SE,Ow⟩:=q
 have Ox:sW w U Ac [B8,.blk ae 28 B7,B4,B3,B2,B1,B0] fT:=Ow
 have q:=Ox.freezeR (k:=2) (n:=bd.Splits.length) rfl (wAD (f:=wAC) (sz:=2) (fun _=>rfl) bd.Splits) (by decide)
 obtain ⟨Ae,qE,SF,Oz⟩:=q
 have OB:sW w U Ae [B8,.blk ae 28 B7,B3,B2,B1,B0] fT:=Oz
 have q:=OB.freezeR (k:=2) (n:=bd.Clocks.length) rfl (wAD (f:=wAA) (sz:=3) (fun _=>rfl) bd.Clocks) (by decide)
 obtain ⟨Af,mB,SG,OI⟩:=q
 have OM:sW w U Af [B8,.blk ae 28 B7,B2,B1,B0] fT:=OI
 have q:=OM.freezeR (k:=2) (n:=bd.Readings.length) rfl (wAD (f:=wAB) (sz:=4) (fun _=>rfl) bd.Readings) (by decide)
 obtain ⟨s8,iV,gp,OW⟩:=q
 have O1:sW w U s8 [B8,.blk ae 28 B7,B1,B0] fT:=OW
 have JR:=JL.le xg
 have JT:=JR.le qE
 have JV:=JT.le mB
 have JX:=JV.le iV
 have JY:=SE.le qE
 have J2:=JY.le mB
 have fZ:=J2.le iV
 have D8:=SF.le mB
 have f4:=D8.le iV
 have f5:=SG.le iV
 have q:=bnd R1
 obtain ⟨⟨cd,iY⟩,Ek,wd⟩:=q
 try dsimp only at wd
 refine zF 1 Z Z Z Z (zD Z Z Try.call14 (zB Z (zB Z zJ)) Z) O1 (fun hs=>wEP mM ap rS uD bd co cp bS bX cE cG cB cD fT s8 hs JX fZ f4 f5 gp Ek) (.inl Z) ?_
 rintro jW TQ Xd Ak cn Ko ⟨mP,oY,rfl,rfl,vr⟩
 let B9:Res:=.blk ap 94 [.slice mP iY.bytes.length oY,jV iY.next,.int .u32 iY.state]
 have Ku:sW w U jW [B9,.blk ae 28 B7,B1,B0] Ak:=Ko
 let cr:List Value:=[jV 0,jV 0]
 refine zQ (cs:=cr) Z Z Z Z Z Zu Z Ku ?_
 intro UO ag Kv
 let af:List Value:=[jV cd.Skier,jV cd.Mat]
 refine zU (j:=0) (vs:=af) Z Z Z Z Kv Z Z Z Z ZG (zA Z) Z Z Z ?_
 intro ow Ky
 have KA:sW w U jW [.blk ag 45 af,B9,.blk ae 28 B7,B1,B0] ow:=Ky
 refine eN ?_
 have q:=bnd wd
 obtain ⟨⟨c6,da,db,dU,bF,bY,cA,bG,cH,cI,cJ,lW⟩,SI,wq⟩:=q
 try dsimp only at wq
 refine yS (fun σ_ w_=>∃ (U_:PHeap) (dK:Nat) (dD:Option Addr) (dL:Nat) (dE:Option Addr) (dM:Nat) (dH:Option Addr) (dN:Nat) (eo:Option Addr) (eu:Nat) (bJ:Nat) (bH:Option Addr) (bL:Nat) (bj:Option Addr) (bk:Nat) (bn:Option Addr) (bq:Nat) (bI:Option Addr) (bM:Nat) (dp:Nat) (dk:Option Addr) (dt:Nat) (dl:Option Addr) (du:Nat) (dm:Option Addr) (dv:Nat) (gQ:Option Addr) (ip:Nat),σ_ 5=.pointer (some ⟨ae,0,none⟩)/\σ_ 6=.slice jl mH.length lu/\σ_ 7=.slice gT cK.length it/\σ_ 8=.pointer (some ⟨ap,0,none⟩)/\σ_ 9=.pointer (some ⟨ag,0,none⟩)/\σ_ 10=.pointer (some ⟨dK,0,none⟩)/\σ_ 11=.pointer (some ⟨bJ,0,none⟩)/\σ_ 12=.pointer (some ⟨dp,0,none⟩)/\PHeap.Le jW U_/\sW w U U_ [.blk ag 45 af,B9,.blk ae 28 B7,B0,B1,.blk dK 28 [.slice dD c6.length dL,.slice dE da.length dM,.slice dH db.length dN,.slice eo dU.length eu],.row dD dL 3 1 (hD KL.encI c6),.row dE dM 41 2 (hD wAC da),.row dH dN 43 3 (hD wAA db),.row eo eu 39 4 (hD wAB dU),.blk bJ 28 [.slice bH bF.length bL,.slice bj bY.length bk,.slice bn cA.length bq,.slice bI bG.length bM],.row bH bL 3 1 (hD KL.encI bF),.row bj bk 41 2 (hD wAC bY),.row bn bq 43 3 (hD wAA cA),.row bI bM 39 4 (hD wAB bG),.blk dp 28 [.slice dk cH.length dt,.slice dl cI.length du,.slice dm cJ.length dv,.slice gQ lW.length ip],.row dk dt 3 1 (hD KL.encI cH),.row dl du 41 2 (hD wAC cI),.row dm dv 43 3 (hD wAA cJ),.row gQ ip 39 4 (hD wAB lW)] w_) ?_ ?_
 refine bnK SI fun X4 WJ Rw=>bnK Rw fun X5 WK Rx=>bnK Rx fun be pV Ry=>zt zu [1,2,1,2,1,2,2,2,2,0,0,0] (.fl 0 (.fl 2 (.fl 4 (adT [(1,[0]),(3,[1,2]),(5,[3,4]),(6,[]),(7,[]),(8,[])] (.fx 9 (.fx 10 (.fx 11 .nil .stop) .stop) .stop) 7 [1,3,5,6,7,8] [0,2,4])))) (by kernel_rfl) ?_
 have iC:=KA.drew
 generalize hw_W273:({ ow with drawn:=ow.drawn + 1 }:World)=Vh at iC ⊢
 refine ZF rfl rfl rfl rfl (iC.ldBA (j:=2) rfl rfl rfl zf zY (vs:=B7) rfl rfl) rfl (ZF rfl rfl rfl rfl (iC.ldBA (j:=2) rfl rfl rfl zf zY (vs:=B7) rfl rfl) rfl (ZF rfl rfl rfl rfl (iC.ldBA (j:=2) rfl rfl rfl zf zY (vs:=B7) rfl rfl) rfl (OKS.adders (U0:=jW) (L0:=[.blk ag 45 af,B9,.blk ae 28 B7,B1,B0]) [(1,[0]),(3,[1,2]),(5,[3,4]),(6,[]),(7,[]),(8,[])] [⟨1,47,fun v R=>∃ (ro:Option Addr) (ud:Nat) (rp:Option Addr) (ue:Nat) (rq:Option Addr) (ug:Nat) (rv:Option Addr) (uh:Nat),v=.agg #[.slice ro be.Starts.length ud,.slice rp be.Splits.length ue,.slice rq be.Clocks.length ug,.slice rv be.Readings.length uh]/\R=[.row ro ud 3 1 (hD KL.encI be.Starts),.row rp ue 41 2 (hD wAC be.Splits),.row rq ug 43 3 (hD wAA be.Clocks),.row rv uh 39 4 (hD wAB be.Readings)]⟩,⟨3,49,fun v R=>∃ (rx:Option Addr) (ui:Nat) (ry:Option Addr) (uj:Nat) (rz:Option Addr) (uk:Nat) (rA:Option Addr) (ul:Nat),v=.agg #[.slice rx be.Starts.length ui,.slice ry be.Splits.length uj,.slice rz be.Clocks.length uk,.slice rA be.Readings.length ul]/\R=[.row rx ui 3 1 (hD KL.encI be.Starts),.row ry uj 41 2 (hD wAC be.Splits),.row rz uk 43 3 (hD wAA be.Clocks),.row rA ul 39 4 (hD wAB be.Readings)]⟩,⟨5,51,fun v R=>∃ (rB:Option Addr) (um:Nat) (rC:Option Addr) (un:Nat) (rD:Option Addr) (uo:Nat) (rE:Option Addr) (up:Nat),v=.agg #[.slice rB be.Starts.length um,.slice rC be.Splits.length un,.slice rD be.Clocks.length uo,.slice rE be.Readings.length up]/\R=[.row rB um 3 1 (hD KL.encI be.Starts),.row rC un 41 2 (hD wAC be.Splits),.row rD uo 43 3 (hD wAA be.Clocks),.row rE up 39 4 (hD wAB be.Readings)]⟩,⟨6,10,fun v R=>∃ (tN:Nat),v=.pointer (some ⟨tN,0,none⟩)/\R=[.blk tN 28 B6]⟩,⟨7,11,fun v R=>∃ (tO:Nat),v=.pointer (some ⟨tO,0,none⟩)/\R=[.blk tO 28 B6]⟩,⟨8,12,fun v R=>∃ (tP:Nat),v=.pointer (some ⟨tP,0,none⟩)/\R=[.blk tP 28 B6]⟩] [(5,.pointer (some ⟨ae,0,none⟩)),(6,.slice jl mH.length lu),(7,.slice gT cK.length it),(8,.pointer (some ⟨ap,0,none⟩)),(9,.pointer (some ⟨ag,0,none⟩)),(46,.agg B7.toArray),(48,.agg B7.toArray),(50,.agg B7.toArray)] [0,2,4] (by rfl) (nJ.2 ⟨?_,nJ.2 ⟨?_,nJ.2 ⟨?_,nJ.2 ⟨?_,nJ.2 ⟨?_,nJ.2 ⟨?_,fun _ h=>nomatch h⟩⟩⟩⟩⟩⟩) ?_ ⟨rfl,rfl,rfl,rfl,rfl,rfl,rfl,rfl,trivial⟩ iC)))
 intro Tn TK tw z5 xM Qn my N0 SK
 obtain ⟨VQ,VR,VS,VT,VU,DM,VV,VW,_⟩:=Qn
 show OKS _ _ _ _ _ _ (.fx 1 Tn .stop) TK tw
 have Jd:=fZ.le cn
 have Je:=Jd.le my
 have Jf:=f4.le cn
 have Jg:=Jf.le my
 have Jh:=f5.le cn
 have Ji:=Jh.le my
 have Jj:=gp.le cn
 have Jk:=Jj.le my
 refine zF 0 Z Z Z Z (zD Z Z Try.call13 (zB DM zJ) Z) N0 (fun hs=>wBg bd co cp bS bX cE cG cB cD tw z5 hs Je Jg Ji Jk pV) (.inr Z) ?_
 rintro z6 Um XJ Be S9 N1 ⟨rF,uq,rG,ur,rH,ut,rI,uu,rfl,rfl⟩
 have N2:sW w U z6 (.row rF uq 3 1 (hD KL.encI be.Starts) :: .row rG ur 41 2 (hD wAC be.Splits) :: .row rH ut 43 3 (hD wAA be.Clocks) :: .row rI uu 39 4 (hD wAB be.Readings) :: (xM ++ [.blk ag 45 af,B9,.blk ae 28 B7,B1,B0])) Be:=N1
 exact SK _ _ _ _ S9 N2 ⟨rF,uq,rG,ur,rH,ut,rI,uu,Z,Z⟩
 intro To TL tx z7 xN Qo mz N3 SL
 obtain ⟨VX,VY,VZ,V1,V2,V3,DN,V4,_⟩:=Qo
 show OKS _ _ _ _ _ _ (.fx 3 To .stop) TL tx
 have Jl:=fZ.le cn
 have Jm:=Jl.le mz
 have Jn:=f4.le cn
 have Jo:=Jn.le mz
 have Jp:=f5.le cn
 have Jq:=Jp.le mz
 have Jr:=gp.le cn
 have Js:=Jr.le mz
 refine zF 0 Z Z Z Z (zD Z Z Try.call13 (zB DN zJ) Z) N3 (fun hs=>wBg bd co cp bS bX cE cG cB cD tx z7 hs Jm Jo Jq Js pV) (.inr Z) ?_
 rintro z8 Un XK Bf Ta N4 ⟨rJ,uv,rK,uw,rL,ux,rM,uy,rfl,rfl⟩
 have N5:sW w U z8 (.row rJ uv 3 1 (hD KL.encI be.Starts) :: .row rK uw 41 2 (hD wAC be.Splits) :: .row rL ux 43 3 (hD wAA be.Clocks) :: .row rM uy 39 4 (hD wAB be.Readings) :: (xN ++ [.blk ag 45 af,B9,.blk ae 28 B7,B1,B0])) Bf:=N4
 exact SL _ _ _ _ Ta N5 ⟨rJ,uv,rK,uw,rL,ux,rM,uy,Z,Z⟩
 intro Tp TM tz z9 xO Qp mA N6 SM
 obtain ⟨V5,V6,V7,V8,V9,Wa,Wb,DO,_⟩:=Qp
 show OKS _ _ _ _ _ _ (.fx 5 Tp .stop) TM tz
 have Jt:=fZ.le cn
 have Ju:=Jt.le mA
 have Jv:=f4.le cn
 have Jw:=Jv.le mA
 have Jx:=f5.le cn
 have Jz:=Jx.le mA
 have JA:=gp.le cn
 have JB:=JA.le mA
 refine zF 0 Z Z Z Z (zD Z Z Try.call13 (zB DO zJ) Z) N6 (fun hs=>wBg bd co cp bS bX cE cG cB cD tz z9 hs Ju Jw Jz JB pV) (.inr Z) ?_
 rintro Aa Uo XL Bg Tb N7 ⟨rN,uz,rO,uA,rP,uB,rQ,uC,rfl,rfl⟩
 have N9:sW w U Aa (.row rN uz 3 1 (hD KL.encI be.Starts) :: .row rO uA 41 2 (hD wAC be.Splits) :: .row rP uB 43 3 (hD wAA be.Clocks) :: .row rQ uC 39 4 (hD wAB be.Readings) :: (xO ++ [.blk ag 45 af,B9,.blk ae 28 B7,B1,B0])) Bg:=N7
 exact SM _ _ _ _ Tb N9 ⟨rN,uz,rO,uA,rP,uB,rQ,uC,Z,Z⟩
 intro Tq TN Bh UK Uq Qq WT Oa SN
 obtain ⟨Wd,We,Wf,Wg,Wh,Wi,Wj,Wk,_⟩:=Qq
 show OKS _ _ _ _ _ _ (.fx 6 Tq .stop) TN Bh
 refine zQ (cs:=B6) Z Z Z Z Z yC Z Oa ?_
 intro Vo BA Ob
 exact SN _ _ _ _ (zP _) Ob ⟨BA,Z,Z⟩
 intro Ts TO Bi UL Us Qr WU Od SO
 obtain ⟨Wl,Wm,Wn,Wo,Wp,Wq,Wr,Wt,_⟩:=Qr
 show OKS _ _ _ _ _ _ (.fx 7 Ts .stop) TO Bi
 refine zQ (cs:=B6) Z Z Z Z Z yC Z Od ?_
 intro Vp BB Oe
 exact SO _ _ _ _ (zP _) Oe ⟨BB,Z,Z⟩
 intro Tt TP Bj UM Ut Qs WV Of SP
 obtain ⟨Wu,Wv,Ww,Wx,Wy,Wz,WA,WB,_⟩:=Qs
 show OKS _ _ _ _ _ _ (.fx 8 Tt .stop) TP Bj
 refine zQ (cs:=B6) Z Z Z Z Z yC Z Of ?_
 intro Vq BC Oh
 exact SP _ _ _ _ (zP _) Oh ⟨BC,Z,Z⟩
 refine fun XM UE JC XN UF JD XO UG JE XP UH JF XQ UI JH XR UJ JI=>?_
 obtain ⟨mQ,pe,mR,pf,mS,pg,mT,ph,rfl,rfl⟩:=JC
 obtain ⟨mU,pj,mV,pk,mW,pm,mX,pn,rfl,rfl⟩:=JD
 obtain ⟨mY,po,mZ,pp,m3,pq,m4,pu,rfl,rfl⟩:=JE
 obtain ⟨ij,rfl,rfl⟩:=JF
 obtain ⟨ik,rfl,rfl⟩:=JH
 obtain ⟨il,rfl,rfl⟩:=JI
 intro YF Bk ic Qt SH Tc Oj
 obtain ⟨DP,DQ,DR,DS,DT,WC,WD,WE,_⟩:=Qt
 obtain ⟨DU,DV,DW,vn,vo,vp,_⟩:=SH
 let jq:Res:=.row mT ph 39 4 (hD wAB be.Readings)
 let ju:Res:=.row mX pn 39 4 (hD wAB be.Readings)
 let jv:Res:=.row m4 pu 39 4 (hD wAB be.Readings)
 let jw:Res:=.row mS pg 43 3 (hD wAA be.Clocks)
 let jx:Res:=.row mW pm 43 3 (hD wAA be.Clocks)
 let jy:Res:=.row m3 pq 43 3 (hD wAA be.Clocks)
 let jz:Res:=.row mR pf 41 2 (hD wAC be.Splits)
 let jA:Res:=.row mV pk 41 2 (hD wAC be.Splits)
 let jB:Res:=.row mZ pp 41 2 (hD wAC be.Splits)
 let jC:Res:=.row mQ pe 3 1 (hD KL.encI be.Starts)
 let jD:Res:=.row mU pj 3 1 (hD KL.encI be.Starts)
 let jE:Res:=.row mY po 3 1 (hD KL.encI be.Starts)
 have Ok:sW w U ic [jC,jz,jw,jq,jD,jA,jx,ju,jE,jB,jy,jv,.blk ij 28 B6,.blk ik 28 B6,.blk il 28 B6,.blk ag 45 af,B9,.blk ae 28 B7,B1,B0] Bk:=Oj
 let jG:List Value:=[.slice mQ be.Starts.length pe,.slice mR be.Splits.length pf,.slice mS be.Clocks.length pg,.slice mT be.Readings.length ph]
 refine zU (j:=12) (vs:=jG) Z Z Z Z Ok Z vn DU Z zY (zA Z) Z Z Z ?_
 intro Bl Ol
 have Om:sW w U ic [jC,jz,jw,jq,jD,jA,jx,ju,jE,jB,jy,jv,.blk ij 28 jG,.blk ik 28 B6,.blk il 28 B6,.blk ag 45 af,B9,.blk ae 28 B7,B1,B0] Bl:=Ol
 let n4:List Value:=[.slice mU be.Starts.length pj,.slice mV be.Splits.length pk,.slice mW be.Clocks.length pm,.slice mX be.Readings.length pn]
 refine zU (j:=13) (vs:=n4) Z Z Z Z Om Z vo DV Z zY (zA Z) Z Z Z ?_
 intro Bm On
 have Oo:sW w U ic [jC,jz,jw,jq,jD,jA,jx,ju,jE,jB,jy,jv,.blk ij 28 jG,.blk ik 28 n4,.blk il 28 B6,.blk ag 45 af,B9,.blk ae 28 B7,B1,B0] Bm:=On
 let r9:List Value:=[.slice mY be.Starts.length po,.slice mZ be.Splits.length pp,.slice m3 be.Clocks.length pq,.slice m4 be.Readings.length pu]
 refine zU (j:=14) (vs:=r9) Z Z Z Z Oo Z vp DW Z zY (zA Z) Z Z Z ?_
 intro Bn Oq
 have Ot:sW w U ic [jC,jz,jw,jq,jD,jA,jx,ju,jE,jB,jy,jv,.blk ij 28 jG,.blk ik 28 n4,.blk il 28 r9,.blk ag 45 af,B9,.blk ae 28 B7,B1,B0] Bn:=Oq
 refine zh ?_
 cases Ry
 exact zL ⟨rfl,⟨ic,ij,mQ,pe,mR,pf,mS,pg,mT,ph,ik,mU,pj,mV,pk,mW,pm,mX,pn,il,mY,po,mZ,pp,m3,pq,m4,pu,DP,DQ,DR,DS,DT,vn,vo,vp,Tc,(Ot.pick [15,16,17,19,18,12,0,1,2,3,13,4,5,6,7,14,8,9,10,11] _ (by decide) rfl)⟩⟩
 rintro YG tB ⟨ie,dK,dD,dL,dE,dM,dH,dN,eo,eu,bJ,bH,bL,bj,bk,bn,bq,bI,bM,dp,dk,dt,dl,du,dm,dv,gQ,ip,ff,lG,lH,fg,lI,lJ,lK,lL,dA,Ov⟩
 have q:=bnd wq
 obtain ⟨⟨lX,xD,xE,eE,fA,cL⟩,SJ,wO⟩:=q
 try dsimp only at wO
 let aw:Res:=.blk dK 28 [.slice dD c6.length dL,.slice dE da.length dM,.slice dH db.length dN,.slice eo dU.length eu]
 let a9:Res:=.blk dp 28 [.slice dk cH.length dt,.slice dl cI.length du,.slice dm cJ.length dv,.slice gQ lW.length ip]
 let aj:Res:=.row gQ ip 39 4 (hD wAB lW)
 let ak:Res:=.row dm dv 43 3 (hD wAA cJ)
 let am:Res:=.row dl du 41 2 (hD wAC cI)
 let ao:Res:=.row bI bM 39 4 (hD wAB bG)
 let an:Res:=.row dk dt 3 1 (hD KL.encI cH)
 let ax:Res:=.row dH dN 43 3 (hD wAA db)
 let ay:Res:=.row dE dM 41 2 (hD wAC da)
 let aq:Res:=.row bH bL 3 1 (hD KL.encI bF)
 let az:Res:=.row dD dL 3 1 (hD KL.encI c6)
 let bU:Res:=.blk bJ 28 [.slice bH bF.length bL,.slice bj bY.length bk,.slice bn cA.length bq,.slice bI bG.length bM]
 let bh:Res:=.row eo eu 39 4 (hD wAB dU)
 let bi:Res:=.row bj bk 41 2 (hD wAC bY)
 let bV:Res:=.row bn bq 43 3 (hD wAA cA)
 refine yS (fun σ_ w_=>∃ (U_:PHeap) (fC:Option Addr) (fV:Nat) (k7:Nat),σ_ 5=.pointer (some ⟨ae,0,none⟩)/\σ_ 6=.slice jl mH.length lu/\σ_ 7=.slice gT cK.length it/\σ_ 8=.pointer (some ⟨ap,0,none⟩)/\σ_ 9=.pointer (some ⟨ag,0,none⟩)/\σ_ 10=.pointer (some ⟨dK,0,none⟩)/\σ_ 11=.pointer (some ⟨bJ,0,none⟩)/\σ_ 12=.pointer (some ⟨dp,0,none⟩)/\σ_ 13=.pointer (some ⟨k7,0,none⟩)/\PHeap.Le ie U_/\sW w U U_ [.blk ap 94 [.slice fC lX.length fV,jV xD,.int .u32 xE],.blk ag 45 af,.blk ae 28 B7,B0,az,ay,ax,bh,aw,aq,bi,bV,ao,bU,an,am,ak,aj,a9,B1,.blk k7 39 [jV eE,jV fA,jV cL,jV 0]] w_/\Sl U_ 1 fC fV lX.length (hD KL.encB8 lX)) ?_ ?_
 have q:=bnd SJ
 obtain ⟨⟨eF,ej⟩,vN,wQ⟩:=q
 try dsimp only at wQ
 have q:=bnd wQ
 obtain ⟨⟨eG,dd⟩,pY,wR⟩:=q
 try dsimp only at wR
 have q:=bnd wR
 obtain ⟨⟨eH,di⟩,lN,iE⟩:=q
 try dsimp only at iE
 refine zt zu [3,3,1,3,1005,3,3,1004,3,3,1005,3,3,1004,3,0,3,2,0,ap] (wDo (wHq (wJz (.fx 4 (.fx 10 (.fx 15 (.fl 16 (.fx 17 (.fx 18 .nil .stop) .stop)) (.fx 17 gAf .stop)) (.fx 17 gAi .stop)) (.fx 17 (.fx 4 gAi .stop) .stop))))) (by kernel_rfl) ?_
 have gg:=Ov.drew
 generalize hw_W810:({ tB with drawn:=tB.drawn + 1 }:World)=tD at gg ⊢
 refine zw rfl rfl rfl rfl rfl fg (zc rfl rfl rfl rfl (fun _=>zE rfl ff zI rfl ZB) (ZF rfl rfl rfl rfl (gg.ldB (j:=2) rfl rfl rfl ZK (v:=.slice co bd.Starts.length cp) rfl) rfl (zc rfl rfl rfl rfl (fun _=>zx rfl rfl zK) (zw rfl rfl rfl rfl rfl fg (zc rfl rfl rfl rfl (fun _=>zE rfl ff zI rfl Zj) (yW (T:=[ap]) [1] [0,2,3,4,5,6,7,8,9,10,11,12,13,14,15,16,17,18,19] [.blk ag 45 af,.blk ae 28 B7,B0,B1,aw,az,ay,ax,bh,bU,aq,bi,bV,ao,a9,an,am,ak,aj] rfl rfl rfl rfl gg rfl ⟨⟨1,by decide,_,rfl,rfl⟩,trivial⟩ (by decide) rfl (by decide) (fun _ Pu=>(Pu.ldB (j:=1) rfl rfl rfl Zr (v:=.slice bS bd.Splits.length bX) rfl)) rfl (zc rfl rfl rfl rfl (fun _=>zx rfl rfl zn) (zc rfl rfl rfl rfl (fun _=>za rfl rfl rfl) (zw rfl rfl rfl rfl rfl fg (zc rfl rfl rfl rfl (fun _=>zE rfl ff zI rfl Zl) (yW (T:=[ap]) [1] [0,2,3,4,5,6,7,8,9,10,11,12,13,14,15,16,17,18,19] [.blk ag 45 af,.blk ae 28 B7,B0,B1,aw,az,ay,ax,bh,bU,aq,bi,bV,ao,a9,an,am,ak,aj] rfl rfl rfl rfl gg rfl ⟨⟨1,by decide,_,rfl,rfl⟩,trivial⟩ (by decide) rfl (by decide) (fun _ Pv=>(Pv.ldB (j:=1) rfl rfl rfl yD (v:=.slice cE bd.Clocks.length cG) rfl)) rfl (zc rfl rfl rfl rfl (fun _=>zx rfl rfl ZS) (zm ?_ ?_)))))))))))))
 have JM:=vr.le dA
 have Oy:sW w U ie [B9,.blk ag 45 af,.blk ae 28 B7,B0,B1,aw,az,ay,ax,bh,bU,aq,bi,bV,ao,a9,an,am,ak,aj] tD:=gg.pick [1,0,2,3,4,5,6,7,8,9,10,11,12,13,14,15,16,17,18,19] _ (by decide) rfl
 refine Zt 1 rfl rfl rfl rfl (zD rfl rfl ZZ (zB rfl (zB rfl zJ)) rfl) Oy (fun hs=>wAN iY ap mP oY (↑bd.Starts.length:Int) tD ie hs JM vN) rfl (T:=[ap]) rfl ⟨fun b h=>(by cases h;exact .head _),trivial⟩ ?_
 rintro j7 Uv XU tE qF OA ⟨m5,py,rfl,rfl,vO⟩
 let sa:Res:=.blk ap 94 [.slice m5 ej.bytes.length py,jV ej.next,.int .u32 ej.state]
 have v9:sW w U j7 [sa,.blk ag 45 af,.blk ae 28 B7,B0,B1,aw,az,ay,ax,bh,bU,aq,bi,bV,ao,a9,an,am,ak,aj] tE:=OA
 refine zm ?_ ?_
 refine Zt 1 rfl rfl rfl rfl (zD rfl rfl ZZ (zB rfl (zB rfl zJ)) rfl) v9 (fun hs=>wAN ej ap m5 py (w64 ((↑bd.Splits.length:Int) + 1)) tE j7 hs vO pY) rfl (T:=[ap]) rfl ⟨fun b h=>(by cases h;exact .head _),trivial⟩ ?_
 rintro j8 Uw XV tF xh OC ⟨m6,pz,rfl,rfl,vP⟩
 let sc:Res:=.blk ap 94 [.slice m6 dd.bytes.length pz,jV dd.next,.int .u32 dd.state]
 have wa:sW w U j8 [sc,.blk ag 45 af,.blk ae 28 B7,B0,B1,aw,az,ay,ax,bh,bU,aq,bi,bV,ao,a9,an,am,ak,aj] tF:=OC
 refine zm ?_ ?_
 refine zF 1 Z Z Z Z (zD Z Z ZZ (zB Z (zB Z zJ)) Z) wa (fun hs=>wAN dd ap m6 pz (↑bd.Clocks.length:Int) tF j8 hs vP lN) (.inl Z) ?_
 rintro oq Ux XW Bo Tf OD ⟨rT,uE,rfl,rfl,JN⟩
 let sd:Res:=.blk ap 94 [.slice rT di.bytes.length uE,jV di.next,.int .u32 di.state]
 have OE:sW w U oq [sd,.blk ag 45 af,.blk ae 28 B7,B0,B1,aw,az,ay,ax,bh,bU,aq,bi,bV,ao,a9,an,am,ak,aj] Bo:=OD
 let n5:List Value:=[jV eF,jV eG,jV eH,jV 0]
 let sf:List Value:=[jV 0,jV 0,jV 0,jV 0]
 refine oR Z (zk (pv:=[(0,jV eF),(1,jV eG),(2,jV eH)]) (z:=sf) (cs:=n5) Z (wAH Z (wAH Z (wAH Z wAO))) ZX wDD Z Z) (zQ (cs:=sf) Z Z Z Z Z ZX Z OE ?_)
 intro Vr tQ OF
 refine zU (j:=0) (vs:=n5) Z Z Z Z OF Z Z Z Z ZW (zA Z) Z Z Z ?_
 intro Bp OG
 have OH:sW w U oq [.blk tQ 39 n5,sd,.blk ag 45 af,.blk ae 28 B7,B0,B1,aw,az,ay,ax,bh,bU,aq,bi,bV,ao,a9,an,am,ak,aj] Bp:=OG
 refine zh ?_
 cases iE
 exact zL ⟨rfl,⟨oq,rT,uE,tQ,ff,lG,lH,fg,lI,lJ,lK,lL,rfl,((qF.trans xh).trans Tf),(OH.pick [1,2,3,4,7,8,9,10,6,12,13,14,15,11,17,18,19,20,16,5,0] _ (by decide) rfl),JN⟩⟩
 let jJ:List Value:=[jV 0,jV 0,jV 0,jV 0]
 refine zQ (cs:=jJ) Z Z Z Z Z ZX Z wa ?_
 intro tG k8 OJ
 have OL:sW w U j8 [sc,.blk k8 39 jJ,.blk ag 45 af,.blk ae 28 B7,B0,B1,aw,az,ay,ax,bh,bU,aq,bi,bV,ao,a9,an,am,ak,aj] tG:=OJ.pick [1,0,2,3,4,5,6,7,8,9,10,11,12,13,14,15,16,17,18,19,20] _ (by decide) rfl
 refine zF 1 Z Z Z Z (zD Z Z ZZ (zB Z (zB Z zJ)) Z) OL (fun hs=>wAN dd ap m6 pz (↑bd.Clocks.length:Int) tG j8 hs vP lN) (.inl Z) ?_
 rintro ot Uy XX Bq Tg ON ⟨rV,uF,rfl,rfl,JO⟩
 let sg:Res:=.blk ap 94 [.slice rV di.bytes.length uF,jV di.next,.int .u32 di.state]
 have OO:sW w U ot [sg,.blk k8 39 jJ,.blk ag 45 af,.blk ae 28 B7,B0,B1,aw,az,ay,ax,bh,bU,aq,bi,bV,ao,a9,an,am,ak,aj] Bq:=ON
 let n6:List Value:=[jV eF,jV eG,jV eH,jV 0]
 refine oR Z (zk (pv:=[(0,jV eF),(1,jV eG),(2,jV eH)]) (z:=jJ) (cs:=n6) Z (wAH Z (wAH Z (wAH Z wAO))) ZX wDD Z Z) (zU (j:=1) (vs:=n6) Z Z Z Z OO Z Z Z Z ZW (zA Z) Z Z Z ?_)
 intro Br OP
 have OQ:sW w U ot [sg,.blk k8 39 n6,.blk ag 45 af,.blk ae 28 B7,B0,B1,aw,az,ay,ax,bh,bU,aq,bi,bV,ao,a9,an,am,ak,aj] Br:=OP
 refine zh ?_
 cases iE
 exact zL ⟨rfl,⟨ot,rV,uF,k8,ff,lG,lH,fg,lI,lJ,lK,lL,rfl,((qF.trans xh).trans Tg),(OQ.pick [0,2,3,4,7,8,9,10,6,12,13,14,15,11,17,18,19,20,16,5,1] _ (by decide) rfl),JO⟩⟩
 let g6:List Value:=[jV 0,jV 0,jV 0,jV 0]
 refine zQ (cs:=g6) Z Z Z Z Z ZX Z v9 ?_
 intro tH im OS
 have OT:sW w U j7 [sa,.blk im 39 g6,.blk ag 45 af,.blk ae 28 B7,B0,B1,aw,az,ay,ax,bh,bU,aq,bi,bV,ao,a9,an,am,ak,aj] tH:=OS.pick [1,0,2,3,4,5,6,7,8,9,10,11,12,13,14,15,16,17,18,19,20] _ (by decide) rfl
 refine Zt 1 rfl rfl rfl rfl (zD rfl rfl ZZ (zB rfl (zB rfl zJ)) rfl) OT (fun hs=>wAN ej ap m5 py (w64 ((↑bd.Splits.length:Int) + 1)) tH j7 hs vO pY) rfl (T:=[ap]) rfl ⟨fun b h=>(by cases h;exact .head _),trivial⟩ ?_
 rintro s9 Uz XY tI Th OU ⟨rW,uG,rfl,rfl,JP⟩
 have OV:sW w U s9 [.blk ap 94 [.slice rW dd.bytes.length uG,jV dd.next,.int .u32 dd.state],.blk im 39 g6,.blk ag 45 af,.blk ae 28 B7,B0,B1,aw,az,ay,ax,bh,bU,aq,bi,bV,ao,a9,an,am,ak,aj] tI:=OU
 refine zF 1 Z Z Z Z (zD Z Z ZZ (zB Z (zB Z zJ)) Z) OV (fun hs=>wAN dd ap rW uG (↑bd.Clocks.length:Int) tI s9 hs JP lN) (.inl Z) ?_
 rintro ou UA XZ Bs Ti OX ⟨rX,uH,rfl,rfl,JQ⟩
 let sh:Res:=.blk ap 94 [.slice rX di.bytes.length uH,jV di.next,.int .u32 di.state]
 have OY:sW w U ou [sh,.blk im 39 g6,.blk ag 45 af,.blk ae 28 B7,B0,B1,aw,az,ay,ax,bh,bU,aq,bi,bV,ao,a9,an,am,ak,aj] Bs:=OX
 let n8:List Value:=[jV eF,jV eG,jV eH,jV 0]
 refine oR Z (zk (pv:=[(0,jV eF),(1,jV eG),(2,jV eH)]) (z:=g6) (cs:=n8) Z (wAH Z (wAH Z (wAH Z wAO))) ZX wDD Z Z) (zU (j:=1) (vs:=n8) Z Z Z Z OY Z Z Z Z ZW (zA Z) Z Z Z ?_)
 intro Bt OZ
 have O0:sW w U ou [sh,.blk im 39 n8,.blk ag 45 af,.blk ae 28 B7,B0,B1,aw,az,ay,ax,bh,bU,aq,bi,bV,ao,a9,an,am,ak,aj] Bt:=OZ
 refine zh ?_
 cases iE
 exact zL ⟨rfl,⟨ou,rX,uH,im,ff,lG,lH,fg,lI,lJ,lK,lL,rfl,((qF.trans Th).trans Ti),(O0.pick [0,2,3,4,7,8,9,10,6,12,13,14,15,11,17,18,19,20,16,5,1] _ (by decide) rfl),JQ⟩⟩
 let fH:List Value:=[jV 0,jV 0,jV 0,jV 0]
 refine zQ (cs:=fH) Z Z Z Z Z ZX Z gg ?_
 intro tJ fU O2
 have JS:=vr.le dA
 have O3:sW w U ie [B9,.blk fU 39 fH,.blk ag 45 af,.blk ae 28 B7,B0,B1,aw,az,ay,ax,bh,bU,aq,bi,bV,ao,a9,an,am,ak,aj] tJ:=O2.pick [2,0,1,3,4,5,6,7,8,9,10,11,12,13,14,15,16,17,18,19,20] _ (by decide) rfl
 refine Zt 1 rfl rfl rfl rfl (zD rfl rfl ZZ (zB rfl (zB rfl zJ)) rfl) O3 (fun hs=>wAN iY ap mP oY (↑bd.Starts.length:Int) tJ ie hs JS vN) rfl (T:=[ap]) rfl ⟨fun b h=>(by cases h;exact .head _),trivial⟩ ?_
 rintro ta UB X0 tK Tj O4 ⟨rY,uI,rfl,rfl,JU⟩
 have O5:sW w U ta [.blk ap 94 [.slice rY ej.bytes.length uI,jV ej.next,.int .u32 ej.state],.blk fU 39 fH,.blk ag 45 af,.blk ae 28 B7,B0,B1,aw,az,ay,ax,bh,bU,aq,bi,bV,ao,a9,an,am,ak,aj] tK:=O4
 refine Zt 1 rfl rfl rfl rfl (zD rfl rfl ZZ (zB rfl (zB rfl zJ)) rfl) O5 (fun hs=>wAN ej ap rY uI (w64 ((↑bd.Splits.length:Int) + 1)) tK ta hs JU pY) rfl (T:=[ap]) rfl ⟨fun b h=>(by cases h;exact .head _),trivial⟩ ?_
 rintro tc UC X1 tL Tk O6 ⟨rZ,uJ,rfl,rfl,JW⟩
 have O7:sW w U tc [.blk ap 94 [.slice rZ dd.bytes.length uJ,jV dd.next,.int .u32 dd.state],.blk fU 39 fH,.blk ag 45 af,.blk ae 28 B7,B0,B1,aw,az,ay,ax,bh,bU,aq,bi,bV,ao,a9,an,am,ak,aj] tL:=O6
 refine zF 1 Z Z Z Z (zD Z Z ZZ (zB Z (zB Z zJ)) Z) O7 (fun hs=>wAN dd ap rZ uJ (↑bd.Clocks.length:Int) tL tc hs JW lN) (.inl Z) ?_
 rintro ov UD X2 Bu Tl O8 ⟨r6,uK,rfl,rfl,JZ⟩
 let sj:Res:=.blk ap 94 [.slice r6 di.bytes.length uK,jV di.next,.int .u32 di.state]
 have O9:sW w U ov [sj,.blk fU 39 fH,.blk ag 45 af,.blk ae 28 B7,B0,B1,aw,az,ay,ax,bh,bU,aq,bi,bV,ao,a9,an,am,ak,aj] Bu:=O8
 let n9:List Value:=[jV eF,jV eG,jV eH,jV 0]
 refine oR Z (zk (pv:=[(0,jV eF),(1,jV eG),(2,jV eH)]) (z:=fH) (cs:=n9) Z (wAH Z (wAH Z (wAH Z wAO))) ZX wDD Z Z) (zU (j:=1) (vs:=n9) Z Z Z Z O9 Z Z Z Z ZW (zA Z) Z Z Z ?_)
 intro Bv Pa
 have Pb:sW w U ov [sj,.blk fU 39 n9,.blk ag 45 af,.blk ae 28 B7,B0,B1,aw,az,ay,ax,bh,bU,aq,bi,bV,ao,a9,an,am,ak,aj] Bv:=Pa
 refine zh ?_
 cases iE
 exact zL ⟨rfl,⟨ov,r6,uK,fU,ff,lG,lH,fg,lI,lJ,lK,lL,rfl,((Tj.trans Tk).trans Tl),(Pb.pick [0,2,3,4,7,8,9,10,6,12,13,14,15,11,17,18,19,20,16,5,1] _ (by decide) rfl),JZ⟩⟩
 rintro YH tM ⟨d9,fC,fV,k7,uL,Ca,Cb,uM,uN,lv,lw,uO,fY,eh,Pc,vq⟩
 refine zM (zM (zt zu [3,3,1,3,1,3,1,3,1,3,3,1,3,1,3,3,0] (wKy (.fx 16 .nil .stop)) (by kernel_rfl) ?_))
 have eg:=Pc.drew
 generalize hw_W1011:({ tM with drawn:=tM.drawn + 1 }:World)=UN at eg ⊢
 refine oM Z Ca (oR Z (zE Z fY ZJ Z zC) (oL Z (eg.ldB (j:=20) Z Z Z zG (v:=jV eE) Z) (bnK wO fun xk pR Qu=>?_)))
 have D9:=Jy.le Td
 have Ea:=D9.le xg
 have Eb:=Ea.le qE
 have Ec:=Eb.le mB
 have Ee:=Ec.le iV
 have Ef:=Ee.le cn
 have Eg:=Ef.le dA
 have Eh:=Eg.le eh
 have q:=Eh.el (wAb pR)
 obtain ⟨Bw,Tm,X3,J3,pZ,R4⟩:=q
 obtain ⟨xi,xj,rfl,Ei⟩:=R4
 replace pZ:Cl d9 Bw (Tm + eE.toNat * 1) [.slice xi xk.length xj]:=pZ
 refine oR Z (Zd Z Z J3 Z Try.runUnderlying29 ZB (wCG pR) (wCM pR)) (oL Z (eg.ldC (f:=0) pZ (v:=.slice xi xk.length xj) Z Z ZK Z) (oR Z (zE Z fY ZJ Z zC) (oL Z (eg.ldB (j:=20) Z Z Z zG (v:=jV fA) Z) (bnK Qu fun eA pS Qv=>?_))))
 have q:=Ei.el (fun _=>rfl) (wAb pS)
 obtain ⟨Vs,WW,J4,Kb⟩:=q
 refine oR Z (Zd Z Z J4 Z zK zC (wCG pS) (wCM pS)) (oL Z (eg.ldC (f:=0) Kb (v:=jV eA) Z Z zG Z) (oM Z Cb (oR Z (zE Z fY ZJ Z zC) (oL Z (eg.ldB (j:=20) Z Z Z zG (v:=jV cL) Z) (bnK Qv fun _ lM Qw=>?_)))))
 obtain ⟨Vt,vQ⟩:=eg.rowSome (j:=19) rfl (by rw [wAD (f:=KL.encI) (sz:=1) (fun _=>rfl) cK];have hz:=wAS lM;omega)
 refine oR Z (Zd Z Z vQ Z zK zC (wBu lM) (wBv lM)) ?_
 have PV:=wBL (xs:=cK) (wAS lM)
 refine ZF rfl rfl rfl rfl (eg.ldR (j:=19) rfl vQ rfl rfl zG (wAV (sz:=1) (fun _=>rfl) _ _ 0 _ PV (by first | omega | rfl | simp) rfl)) rfl (zc rfl rfl rfl rfl (fun _=>za rfl rfl rfl) (zc rfl rfl rfl rfl (fun _=>zE rfl fY ZJ rfl zC) (zU (j:=20) (vs:=[jV (w64 (eA + (gd cK cL.toNat)))]) rfl rfl rfl rfl eg rfl rfl rfl rfl zC (zA rfl) rfl rfl rfl ?_)))
 intro Ag Ki
 let ai:Res:=.blk k7 39 [jV eE,jV fA,jV cL,jV (w64 (eA + (gd cK cL.toNat)))]
 let jK:Res:=.blk ap 94 [.slice fC lX.length fV,jV xD,.int .u32 xE]
 have gf:sW w U d9 [jK,.blk ag 45 af,.blk ae 28 B7,B0,az,ay,ax,bh,aw,aq,bi,bV,ao,bU,an,am,ak,aj,a9,B1,ai] Ag:=Ki
 refine eN (sR fL3 Z (oR Z (zE Z fY ZJ Z zC) (oL Z (gf.ldB (j:=20) Z Z Z zG (v:=jV (w64 (eA + (gd cK cL.toNat)))) Z) (oR Z (Runs.geq Z Z Z) (eN (ifc Qw ?_ ?_))))))
 intro oX Qx
 refine cT Z oX (rR (wDF (.fx 3 (.fx 4 (.fl 5 (.fx 6 .nil .stop)) .stop) .stop)) Z (oR Z (zE Z lv zI Z ZO) (oL Z (gf.ldB (j:=8) Z Z Z Zs (v:=.slice eo dU.length eu) Z) ?_)))
 let oa:List Value:=[jV eE,jV fA,jV cL,jV (w64 (eA + (gd cK cL.toNat)))]
 refine oL Z (gf.ldBA (j:=20) Z Z fY yj ZW (vs:=oa) Z Z) (zr (pv:=[(0,.agg oa.toArray)]) (zs:=[jV 0,jV 0,jV 0,jV 0]) (cs:=oa) Z Z Z Z Z (wAH Z wAO) ZN ZW ZX Z Z Z Z Z gf ?_)
 intro Ah Bx Kj
 let oc:Res:=.row (some ⟨Bx,0,none⟩) 1 39 4 (hD wAB [(⟨eE,fA,cL,w64 (eA + (gd cK cL.toNat))⟩:wAJ)])
 have vR:sW w U d9 [oc,jK,.blk ag 45 af,.blk ae 28 B7,B0,az,ay,ax,bh,aw,aq,bi,bV,ao,bU,an,am,ak,aj,a9,B1,ai] Ah:=Kj
 refine bnK Qx fun eD Ej Qy=>Zw (j:=8) (enc:=wAB) (xs:=dU) (ys:=[(⟨eE,fA,cL,w64 (eA + (gd cK cL.toNat))⟩:wAJ)]) (zs:=eD) rfl rfl rfl rfl rfl Try.underlying26 wHW rfl rfl rfl rfl rfl rfl vR rfl rfl rfl (vR.srcR (j:=0) rfl (by decide) (wAD (f:=wAB) (sz:=4) (fun _=>rfl) [(⟨eE,fA,cL,w64 (eA + (gd cK cL.toNat))⟩:wAJ)])) (fun _=>rfl) (fun _=>rfl) Ej rfl ?_
 intro gP io Ai Kk
 let bA:Res:=.row gP io 39 4 (hD wAB eD)
 have Kl:sW w U d9 [oc,jK,.blk ag 45 af,.blk ae 28 B7,B0,az,ay,ax,bA,aw,aq,bi,bV,ao,bU,an,am,ak,aj,a9,B1,ai] Ai:=Kk
 refine oR Z (zE Z lv zI Z ZO) (zU (j:=9) (vs:=[.slice gP eD.length io]) Z Z Z Z Kl Z Z Z Z ZO (zA Z) Z Z Z ?_)
 intro Aj Km
 let ba:Res:=.blk dK 28 [.slice dD c6.length dL,.slice dE da.length dM,.slice dH db.length dN,.slice gP eD.length io]
 have vS:sW w U d9 [oc,jK,.blk ag 45 af,.blk ae 28 B7,B0,az,ay,ax,bA,ba,aq,bi,bV,ao,bU,an,am,ak,aj,a9,B1,ai] Aj:=Km
 refine eN (zM (sR fL4 Z (oR Z (zE Z lw zI Z Zl) (oL Z (vS.ldB (j:=14) Z Z Z yD (v:=.slice bn cA.length bq) Z) (oR Z (zx Z Z ZS) (oM Z Z (eN (zd ?_))))))))
 have q:=bnd Qy
 obtain ⟨⟨Yj,Yk,Yl,dV⟩,PH,we⟩:=q
 try dsimp only at we
 have q:=wAx PH
 obtain ⟨qu,PI⟩:=q
 replace qu:=zO qu
 refine CK.forN' (fun au (iJ,qM,qN,a7) σ_ w_=>∃ (U_:PHeap) (i7:Option Addr) (k9:Nat),σ_ 97=jV (↑au:Int)/\σ_ 5=.pointer (some ⟨ae,0,none⟩)/\σ_ 8=.pointer (some ⟨ap,0,none⟩)/\σ_ 9=.pointer (some ⟨ag,0,none⟩)/\σ_ 10=.pointer (some ⟨dK,0,none⟩)/\σ_ 11=.pointer (some ⟨bJ,0,none⟩)/\σ_ 12=.pointer (some ⟨dp,0,none⟩)/\σ_ 96=jV (↑cA.length:Int)/\PHeap.Le d9 U_/\sW w U U_ [.blk ap 94 [.slice i7 iJ.length k9,jV qM,.int .u32 qN],.blk ag 45 af,.blk ae 28 B7,B0,az,ay,ax,bA,ba,aq,bi,.row bn bq 43 3 (hD wAA a7),ao,.blk bJ 28 [.slice bH bF.length bL,.slice bj bY.length bk,.slice bn a7.length bq,.slice bI bG.length bM],an,am,ak,aj,a9,ai] w_/\Sl U_ 1 i7 k9 iJ.length (hD KL.encB8 iJ)/\a7.length=cA.length) PI ?_ ?_ ?_
 exact ⟨d9,fC,fV,rfl,uL,uM,uN,lv,lw,uO,rfl,(zP _),(vS.pick [1,2,3,4,5,6,7,8,9,10,11,12,13,14,15,16,17,18,19,21] _ (by decide) rfl),vq,rfl⟩
 rintro au ⟨iJ,qM,qN,a7⟩ Ya Yp te qm ⟨xP,i7,k9,pJ,Cc,lx,Cd,Ce,uP,Cf,uQ,SQ,p4,El,Em⟩ wS
 try dsimp only at wS
 have tR:Hid ((↑au:Int) < (↑cA.length:Int)):=zO (wAs qm)
 replace qm:=zO qm
 have Qh:Hid (w64 ((↑au:Int) + 1)=(↑(au + 1):Int)):=zO (by have h1:=qu.out;have h2:=tR.out;rw [wAU] <;> omega)
 refine sR fL1 Z (oR Z (ze Z pJ uQ) (eN (zM (cT Z tR (kN (zM (zd (sR fL2 Z (oM Z pJ (oA Z Z (eN (sR fL5 Z (oR Z (zE Z uP zI Z Zl) (oL Z (p4.ldB (j:=13) Z Z Z yD (v:=.slice bn a7.length bq) Z) (oM Z Z (bnK wS fun _ dg Qz=>?_))))))))))))))))
 obtain ⟨Vu,gb⟩:=p4.rowSome (j:=11) rfl (by rw [wAD (f:=wAA) (sz:=3) (fun _=>rfl) a7];have hz:=wAS dg;omega)
 refine zc rfl rfl rfl rfl (fun _=>Zk rfl rfl gb rfl ZS yA (wAS dg)) (yI rfl rfl rfl rfl rfl rfl (eN (zM (zt zu [3,3,3,1004,3,1005,3,3,3,0,ap] (wFk (.fx 5 (wLi (.fx 9 .nil .stop)) .stop)) (by kernel_rfl) ?_))))
 have p5:=p4.drew
 generalize hw_W1148:({ te with drawn:=te.drawn + 1 }:World)=Al at p5 ⊢
 refine oM Z Z (oR Z (ZT Z Z) (oR Z (zE Z Z Zc Z zC) ?_))
 have PW:=wBL (xs:=a7) (wAS dg)
 let jL:Res:=.blk bJ 28 [.slice bH bF.length bL,.slice bj bY.length bk,.slice bn a7.length bq,.slice bI bG.length bM]
 let sk:Res:=.row bn bq 43 3 (hD wAA a7)
 refine yW (T:=[ap]) [0] [1,2,3,4,5,6,7,8,9,10,11,12,13,14,15,16,17,18,19] [.blk ag 45 af,.blk ae 28 B7,B0,az,ay,ax,bA,ba,aq,bi,sk,ao,jL,an,am,ak,aj,a9,ai] rfl rfl rfl rfl p5 rfl ⟨⟨0,by decide,_,rfl,rfl⟩,trivial⟩ (by decide) rfl (by decide) (fun _ Pd=>(Pd.ldR (j:=10) rfl gb rfl rfl zG (wAV (sz:=3) (fun _=>rfl) _ _ 2 _ PW (by first | omega | rfl | simp) rfl))) rfl (zw rfl rfl rfl rfl rfl lx ?_)
 have q:=bnd Qz
 obtain ⟨⟨bZ,mD⟩,En,wg⟩:=q
 try dsimp only at wg
 refine Zt 1 rfl rfl rfl rfl (zD rfl rfl ZZ (zB rfl (zB rfl zJ)) rfl) p5 (fun hs=>wAN (⟨iJ,qM,qN⟩:wAI) ap i7 k9 9 Al xP hs El En) rfl (T:=[ap]) rfl ⟨fun b h=>(by cases h;exact .head _),trivial⟩ ?_
 rintro jX TR Xe Am SR Kp ⟨q9,tS,rfl,rfl,Eo⟩
 let jM:Res:=.blk ap 94 [.slice q9 mD.bytes.length tS,jV mD.next,.int .u32 mD.state]
 have Kq:sW w U jX [jM,.blk ag 45 af,.blk ae 28 B7,B0,az,ay,ax,bA,ba,aq,bi,sk,ao,jL,an,am,ak,aj,a9,ai] Am:=Kp
 refine oR Z (za Z Z Z) (oR Z (ZT Z Z) (oR Z (zE Z Z Zc Z zC) ?_))
 have PX:=wBL (xs:=a7) (wAS dg)
 refine ya (j:=11) (vs:=[jV (w64 (((gd a7 au).Error) + bZ))]) (cs':=hD wAA (hH a7 au (⟨((gd a7 au).Offset),w64 (((gd a7 au).Error) + bZ)⟩:wAG))) rfl rfl rfl rfl Kq rfl gb rfl rfl rfl zC (by rw [wAD (f:=wAA) (sz:=3) (fun _=>rfl)];have hz:=wAS dg;show _ + 1 <= _;first | omega | (simp only [nH];omega) | (simp only [nE,nB,nD];omega)) rfl (wCH (sz:=3) (fo:=2) (fun _=>rfl) _ _ _ _ PX (by first | omega | (simp only [nH];omega) | (simp only [nE,nB,nD];omega)) (zA rfl) rfl) rfl ?_
 intro j9 Kr
 let eO:Res:=.row bn bq 43 3 (hD wAA (hH a7 au (⟨((gd a7 au).Offset),w64 (((gd a7 au).Error) + bZ)⟩:wAG)))
 have Ks:sW w U jX [jM,.blk ag 45 af,.blk ae 28 B7,B0,az,ay,ax,bA,ba,aq,bi,eO,ao,jL,an,am,ak,aj,a9,ai] j9:=Kr
 let ep:Res:=.blk bJ 28 [.slice bH bF.length bL,.slice bj bY.length bk,.slice bn ((hH a7 au (⟨((gd a7 au).Offset),w64 (((gd a7 au).Error) + bZ)⟩:wAG)).length) bq,.slice bI bG.length bM]
 have Kt:sW w U jX [jM,.blk ag 45 af,.blk ae 28 B7,B0,az,ay,ax,bA,ba,aq,bi,eO,ao,ep,an,am,ak,aj,a9,ai] j9:=by simpa only [B0,af,a9,aj,ak,am,ao,an,ax,ay,aq,az,bi,ai,bA,ba,jL,jM,eO,ep,B7,nA] using Ks
 refine eN (zt zu [3,3,3,3,3,1004,3,1005,3,3,3,3,3,1004,3,1005,3,3,3,3,0,ap] (wGc (wLE (.fx 7 (.fl 8 (.fx 15 (wKA (.fx 20 .nil .stop)) .stop)) .stop))) (by kernel_rfl) ?_)
 have lO:=Kt.drew
 generalize hw_W1210:({ j9 with drawn:=j9.drawn + 1 }:World)=An at lO ⊢
 refine oM Z Z (oM Z Z (oR Z (ZT Z Z) (oR Z (zE Z Z Zc Z zZ) (oR Z (zE Z Z zX Z zC) ?_))))
 have PZ:=wBL (xs:=(hH a7 au (⟨((gd a7 au).Offset),w64 (((gd a7 au).Error) + bZ)⟩:wAG))) (by first | exact wAS dg | (have hz:=wAS dg;simpa only [nA] using hz))
 refine yW (T:=[ap]) [0] [1,2,3,4,5,6,7,8,9,10,11,12,13,14,15,16,17,18,19] [.blk ag 45 af,.blk ae 28 B7,B0,az,ay,ax,bA,ba,aq,bi,eO,ao,ep,an,am,ak,aj,a9,ai] rfl rfl rfl rfl lO rfl ⟨⟨0,by decide,_,rfl,rfl⟩,trivial⟩ (by decide) rfl (by decide) (fun _ Pe=>(Pe.ldR (j:=10) rfl gb rfl rfl zG (wAV (sz:=3) (fun _=>rfl) _ _ 0 _ PZ (by first | omega | rfl | simp) rfl))) rfl (zw rfl rfl rfl rfl rfl lx (zw rfl rfl rfl rfl rfl rfl (zc rfl rfl rfl rfl (fun _=>ZT rfl rfl) (zc rfl rfl rfl rfl (fun _=>zE rfl rfl Zc rfl zZ) (zc rfl rfl rfl rfl (fun _=>zE rfl rfl zX rfl zC) ?_)))))
 have P0:=wBL (xs:=(hH a7 au (⟨((gd a7 au).Offset),w64 (((gd a7 au).Error) + bZ)⟩:wAG))) (by first | exact wAS dg | (have hz:=wAS dg;simpa only [nA] using hz))
 refine yW (T:=[ap]) [0] [1,2,3,4,5,6,7,8,9,10,11,12,13,14,15,16,17,18,19] [.blk ag 45 af,.blk ae 28 B7,B0,az,ay,ax,bA,ba,aq,bi,eO,ao,ep,an,am,ak,aj,a9,ai] rfl rfl rfl rfl lO rfl ⟨⟨0,by decide,_,rfl,rfl⟩,trivial⟩ (by decide) rfl (by decide) (fun _ Pf=>(Pf.ldR (j:=10) rfl gb rfl rfl zG (wAV (sz:=3) (fun _=>rfl) _ _ 1 _ P0 (by first | omega | rfl | simp) rfl))) rfl (zw rfl rfl rfl rfl rfl lx ?_)
 have q:=bnd wg
 obtain ⟨⟨iZ,mE⟩,Ep,wh⟩:=q
 try dsimp only at wh
 refine Zt 1 rfl rfl rfl rfl (zD rfl rfl ZZ (zB rfl (zB rfl zJ)) rfl) lO (fun hs=>wAN mD ap q9 tS 9 An jX hs Eo Ep) rfl (T:=[ap]) rfl ⟨fun b h=>(by cases h;exact .head _),trivial⟩ ?_
 rintro sq TS Xf tf ST Kw ⟨rc,tU,rfl,rfl,Er⟩
 have Kx:sW w U sq [.blk ap 94 [.slice rc mE.bytes.length tU,jV mE.next,.int .u32 mE.state],.blk ag 45 af,.blk ae 28 B7,B0,az,ay,ax,bA,ba,aq,bi,eO,ao,ep,an,am,ak,aj,a9,ai] tf:=Kw
 refine oR Z (yP Z Z Z) ?_
 have q:=bnd wh
 obtain ⟨⟨i2,qO⟩,Es,wi⟩:=q
 try dsimp only at wi
 refine Zt 1 rfl rfl rfl rfl (zD rfl rfl ZZ (zB rfl (zB rfl zJ)) rfl) Kx (fun hs=>wAN mE ap rc tU 9 tf sq hs Er Es) rfl (T:=[ap]) rfl ⟨fun b h=>(by cases h;exact .head _),trivial⟩ ?_
 rintro jY TT Xg Ao SU Kz ⟨rd,tV,rfl,rfl,Et⟩
 let jN:Res:=.blk ap 94 [.slice rd qO.bytes.length tV,jV qO.next,.int .u32 qO.state]
 have KB:sW w U jY [jN,.blk ag 45 af,.blk ae 28 B7,B0,az,ay,ax,bA,ba,aq,bi,eO,ao,ep,an,am,ak,aj,a9,ai] Ao:=Kz
 refine oR Z (za Z Z Z) ?_
 let sl:List Value:=[jV (w64 ((((gd (hH a7 au (⟨((gd a7 au).Offset),w64 (((gd a7 au).Error) + bZ)⟩:wAG)) au).Offset).Lo) - iZ)),jV (w64 ((((gd (hH a7 au (⟨((gd a7 au).Offset),w64 (((gd a7 au).Error) + bZ)⟩:wAG)) au).Offset).Hi) + i2))]
 refine oR Z (zk (pv:=[(0,jV (w64 ((((gd (hH a7 au (⟨((gd a7 au).Offset),w64 (((gd a7 au).Error) + bZ)⟩:wAG)) au).Offset).Lo) - iZ))),(1,jV (w64 ((((gd (hH a7 au (⟨((gd a7 au).Offset),w64 (((gd a7 au).Error) + bZ)⟩:wAG)) au).Offset).Hi) + i2)))]) (z:=cr) (cs:=sl) Z (wAH Z (wAH Z wAO)) zi wBd Z Z) (oR Z (ZT Z Z) (oR Z (zE Z Z Zc Z zZ) ?_))
 have P3:=wBL (xs:=(hH a7 au (⟨((gd a7 au).Offset),w64 (((gd a7 au).Error) + bZ)⟩:wAG))) (by first | exact wAS dg | (have hz:=wAS dg;simpa only [nA] using hz))
 refine ya (j:=11) (vs:=sl) (cs':=hD wAA (hH (hH a7 au (⟨((gd a7 au).Offset),w64 (((gd a7 au).Error) + bZ)⟩:wAG)) au (⟨(⟨w64 ((((gd (hH a7 au (⟨((gd a7 au).Offset),w64 (((gd a7 au).Error) + bZ)⟩:wAG)) au).Offset).Lo) - iZ),w64 ((((gd (hH a7 au (⟨((gd a7 au).Offset),w64 (((gd a7 au).Error) + bZ)⟩:wAG)) au).Offset).Hi) + i2)⟩:wAF),(gd (hH a7 au (⟨((gd a7 au).Offset),w64 (((gd a7 au).Error) + bZ)⟩:wAG)) au).Error⟩:wAG))) rfl rfl rfl rfl KB rfl gb rfl rfl rfl zZ (by rw [wAD (f:=wAA) (sz:=3) (fun _=>rfl)];have hz:=wAS dg;show _ + 2 <= _;first | omega | (simp only [nA];omega) | (simp only [nE,nB,nD,nA];omega) | (simp only [nH];omega) | (simp only [nE,nB,nD];omega)) rfl (wCH (sz:=3) (fo:=0) (fun _=>rfl) _ _ _ _ P3 (by first | omega | (simp only [nH];omega) | (simp only [nE,nB,nD];omega)) (zA rfl) rfl) rfl ?_
 intro tg KC
 let od:Res:=.row bn bq 43 3 (hD wAA (hH (hH a7 au (⟨((gd a7 au).Offset),w64 (((gd a7 au).Error) + bZ)⟩:wAG)) au (⟨(⟨w64 ((((gd (hH a7 au (⟨((gd a7 au).Offset),w64 (((gd a7 au).Error) + bZ)⟩:wAG)) au).Offset).Lo) - iZ),w64 ((((gd (hH a7 au (⟨((gd a7 au).Offset),w64 (((gd a7 au).Error) + bZ)⟩:wAG)) au).Offset).Hi) + i2)⟩:wAF),(gd (hH a7 au (⟨((gd a7 au).Offset),w64 (((gd a7 au).Error) + bZ)⟩:wAG)) au).Error⟩:wAG)))
 have KD:sW w U jY [jN,.blk ag 45 af,.blk ae 28 B7,B0,az,ay,ax,bA,ba,aq,bi,od,ao,ep,an,am,ak,aj,a9,ai] tg:=KC
 have KE:sW w U jY [jN,.blk ag 45 af,.blk ae 28 B7,B0,az,ay,ax,bA,ba,aq,bi,od,ao,.blk bJ 28 [.slice bH bF.length bL,.slice bj bY.length bk,.slice bn ((hH (hH a7 au (⟨((gd a7 au).Offset),w64 (((gd a7 au).Error) + bZ)⟩:wAG)) au (⟨(⟨w64 ((((gd (hH a7 au (⟨((gd a7 au).Offset),w64 (((gd a7 au).Error) + bZ)⟩:wAG)) au).Offset).Lo) - iZ),w64 ((((gd (hH a7 au (⟨((gd a7 au).Offset),w64 (((gd a7 au).Error) + bZ)⟩:wAG)) au).Offset).Hi) + i2)⟩:wAF),(gd (hH a7 au (⟨((gd a7 au).Offset),w64 (((gd a7 au).Error) + bZ)⟩:wAG)) au).Error⟩:wAG)).length) bq,.slice bI bG.length bM],an,am,ak,aj,a9,ai] tg:=by simpa only [B0,af,a9,aj,ak,am,ao,an,ax,ay,aq,az,bi,ai,bA,ba,ep,jN,od,B7,nA] using KD
 refine zh (ZA (zL (rR fL2 Z (oR Z (ZH (za Z pJ Z) (congrArg (jV) Qh.out)) (oM Z Z (zh ?_))))))
 cases wi
 exact zL ⟨Z,⟨jY,rd,tV,Z,Cc,lx,Cd,Ce,uP,Cf,uQ,(((SQ.trans SR).trans ST).trans SU),KE,Et,((nA.trans nA).trans Em)⟩⟩
 rintro Yq UP ⟨sr,xF,BD,DX,Cg,Ch,Ci,Cj,uR,Cm,Cn,lY,vU,Eu,WG⟩
 have BE:Hid (¬ ((↑(((↑cA.length:Int):Int) - 0).toNat:Int) < (↑cA.length:Int))):=zO (wAc)
 refine sR fL1 Z (oR Z (ze Z DX Cn) (eN (zM (cF Z BE (Zb (zo (zo (ZV (zL (zM (sR fL4 Z (oR Z (zE Z uR zI Z Zj) (oL Z (vU.ldB (j:=13) Z Z Z Zr (v:=.slice bj bY.length bk) Z) (oR Z (zx Z Z zn) (oM Z Z (eN (zd ?_)))))))))))))))))
 have q:=bnd we
 obtain ⟨⟨TE,TF,TG,gN⟩,PJ,wj⟩:=q
 try dsimp only at wj
 have q:=wAx PJ
 obtain ⟨qv,PK⟩:=q
 replace qv:=zO qv
 let bW:Res:=.row bn bq 43 3 (hD wAA dV)
 refine CK.forN' (fun bb (iK,qP,qQ,bf) σ_ w_=>∃ (U_:PHeap) (i8:Option Addr) (lb:Nat),σ_ 137=jV (↑bb:Int)/\σ_ 5=.pointer (some ⟨ae,0,none⟩)/\σ_ 8=.pointer (some ⟨ap,0,none⟩)/\σ_ 9=.pointer (some ⟨ag,0,none⟩)/\σ_ 10=.pointer (some ⟨dK,0,none⟩)/\σ_ 11=.pointer (some ⟨bJ,0,none⟩)/\σ_ 12=.pointer (some ⟨dp,0,none⟩)/\σ_ 136=jV (↑bY.length:Int)/\PHeap.Le sr U_/\sW w U U_ [.blk ap 94 [.slice i8 iK.length lb,jV qP,.int .u32 qQ],.blk ag 45 af,.blk ae 28 B7,B0,az,ay,ax,bA,ba,aq,.row bj bk 41 2 (hD wAC bf),bW,ao,.blk bJ 28 [.slice bH bF.length bL,.slice bj bf.length bk,.slice bn dV.length bq,.slice bI bG.length bM],an,am,ak,aj,a9,ai] w_/\Sl U_ 1 i8 lb iK.length (hD KL.encB8 iK)/\bf.length=bY.length) PK ?_ ?_ ?_
 exact ⟨sr,xF,BD,Z,Cg,Ch,Ci,Cj,uR,Cm,Z,(zP _),vU,Eu,Z⟩
 rintro bb ⟨iK,qP,qQ,bf⟩ Yb Yr th qn ⟨xR,i8,lb,pK,Co,pB,Cp,Cr,pC,Cs,uS,SV,KF,Ev,Ew⟩ wU
 try dsimp only at wU
 have tW:Hid ((↑bb:Int) < (↑bY.length:Int)):=zO (wAs qn)
 replace qn:=zO qn
 have Qi:Hid (w64 ((↑bb:Int) + 1)=(↑(bb + 1):Int)):=zO (by have h1:=qv.out;have h2:=tW.out;rw [wAU] <;> omega)
 refine sR fL1 rfl (zc rfl rfl rfl rfl (fun _=>ze rfl pK uS) (eN (zM (cT Z tW (kN (zM (zd (sR fL2 rfl (zw rfl rfl rfl rfl rfl pK (yI rfl rfl rfl rfl rfl rfl (eN (zM (zt zu [3,1004,3,3,3,1004,3,1005,3,3,3,0,ap] (wGc (.fx 7 (wGm (.fx 11 .nil .stop)) .stop)) (by kernel_rfl) ?_)))))))))))))
 have iz:=KF.drew
 generalize hw_W1363:({ th with drawn:=th.drawn + 1 }:World)=Ap at iz ⊢
 refine oR Z (zE Z pC zI Z Zj) ?_
 let g7:Res:=.blk bJ 28 [.slice bH bF.length bL,.slice bj bf.length bk,.slice bn dV.length bq,.slice bI bG.length bM]
 let oe:Res:=.row bj bk 41 2 (hD wAC bf)
 refine yW (T:=[ap]) [0] [1,2,3,4,5,6,7,8,9,10,11,12,13,14,15,16,17,18,19] [.blk ag 45 af,.blk ae 28 B7,B0,az,ay,ax,bA,ba,aq,oe,bW,ao,g7,an,am,ak,aj,a9,ai] rfl rfl rfl rfl iz rfl ⟨⟨0,by decide,_,rfl,rfl⟩,trivial⟩ (by decide) rfl (by decide) (fun _ Pg=>(Pg.ldB (j:=12) rfl rfl rfl Zr (v:=.slice bj bf.length bk) rfl)) rfl (zw rfl rfl rfl rfl rfl rfl (bnK wU fun _ f7 QA=>?_))
 obtain ⟨Vv,ew⟩:=iz.rowSome (j:=10) rfl (by rw [wAD (f:=wAC) (sz:=2) (fun _=>rfl) bf];have hz:=wAS f7;omega)
 refine oR Z (Zk Z Z ew Z zn zZ (wAS f7)) (oR Z (zE Z Z zX Z zC) ?_)
 have P4:=wBL (xs:=bf) (wAS f7)
 refine yW (T:=[ap]) [0] [1,2,3,4,5,6,7,8,9,10,11,12,13,14,15,16,17,18,19] [.blk ag 45 af,.blk ae 28 B7,B0,az,ay,ax,bA,ba,aq,oe,bW,ao,g7,an,am,ak,aj,a9,ai] rfl rfl rfl rfl iz rfl ⟨⟨0,by decide,_,rfl,rfl⟩,trivial⟩ (by decide) rfl (by decide) (fun _ Ph=>(Ph.ldR (j:=9) rfl ew rfl rfl zG (wAV (sz:=2) (fun _=>rfl) _ _ 0 _ P4 (by first | omega | rfl | simp) rfl))) rfl (zw rfl rfl rfl rfl rfl pB ?_)
 have q:=bnd QA
 obtain ⟨⟨cy,mF⟩,Ey,wk⟩:=q
 try dsimp only at wk
 refine Zt 1 rfl rfl rfl rfl (zD rfl rfl ZZ (zB rfl (zB rfl zJ)) rfl) iz (fun hs=>wAN (⟨iK,qP,qQ⟩:wAI) ap i8 lb 9 Ap xR hs Ev Ey) rfl (T:=[ap]) rfl ⟨fun b h=>(by cases h;exact .head _),trivial⟩ ?_
 rintro jZ TU Xh Aq SX KG ⟨re,tX,rfl,rfl,Ez⟩
 let jO:Res:=.blk ap 94 [.slice re mF.bytes.length tX,jV mF.next,.int .u32 mF.state]
 have KH:sW w U jZ [jO,.blk ag 45 af,.blk ae 28 B7,B0,az,ay,ax,bA,ba,aq,oe,bW,ao,g7,an,am,ak,aj,a9,ai] Aq:=KG
 refine oR Z (yP Z Z Z) (oR Z (Zk Z Z ew Z zn zZ (wAS f7)) (oR Z (zE Z Z zX Z zC) ?_))
 have P5:=wBL (xs:=bf) (wAS f7)
 refine ya (j:=10) (vs:=[jV (w64 (((gd bf bb).Lo) - cy))]) (cs':=hD wAC (hH bf bb (⟨w64 (((gd bf bb).Lo) - cy),(gd bf bb).Hi⟩:wAF))) rfl rfl rfl rfl KH rfl ew rfl rfl rfl zC (by rw [wAD (f:=wAC) (sz:=2) (fun _=>rfl)];have hz:=wAS f7;show _ + 1 <= _;first | omega | (simp only [nH];omega) | (simp only [nE,nB,nD];omega)) rfl (wCH (sz:=2) (fo:=0) (fun _=>rfl) _ _ _ _ P5 (by first | omega | (simp only [nH];omega) | (simp only [nE,nB,nD];omega)) (zA rfl) rfl) rfl ?_
 intro k3 KI
 let fI:Res:=.row bj bk 41 2 (hD wAC (hH bf bb (⟨w64 (((gd bf bb).Lo) - cy),(gd bf bb).Hi⟩:wAF)))
 have KJ:sW w U jZ [jO,.blk ag 45 af,.blk ae 28 B7,B0,az,ay,ax,bA,ba,aq,fI,bW,ao,g7,an,am,ak,aj,a9,ai] k3:=KI
 let eU:Res:=.blk bJ 28 [.slice bH bF.length bL,.slice bj ((hH bf bb (⟨w64 (((gd bf bb).Lo) - cy),(gd bf bb).Hi⟩:wAF)).length) bk,.slice bn dV.length bq,.slice bI bG.length bM]
 have KK:sW w U jZ [jO,.blk ag 45 af,.blk ae 28 B7,B0,az,ay,ax,bA,ba,aq,fI,bW,ao,eU,an,am,ak,aj,a9,ai] k3:=by simpa only [B0,af,a9,aj,ak,am,ao,an,ax,ay,aq,az,ai,bA,ba,B7,bW,g7,jO,fI,eU,nA] using KJ
 refine eN (zt zu [3,1004,3,3,3,1004,3,1005,3,3,3,0,ap] (wGc (.fx 7 (wGm (.fx 11 .nil .stop)) .stop)) (by kernel_rfl) ?_)
 have lP:=KK.drew
 generalize hw_W1416:({ k3 with drawn:=k3.drawn + 1 }:World)=Ar at lP ⊢
 refine zc rfl rfl rfl rfl (fun _=>zE rfl pC zI rfl Zj) (yW (T:=[ap]) [0] [1,2,3,4,5,6,7,8,9,10,11,12,13,14,15,16,17,18,19] [.blk ag 45 af,.blk ae 28 B7,B0,az,ay,ax,bA,ba,aq,fI,bW,ao,eU,an,am,ak,aj,a9,ai] rfl rfl rfl rfl lP rfl ⟨⟨0,by decide,_,rfl,rfl⟩,trivial⟩ (by decide) rfl (by decide) (fun _ Pi=>(Pi.ldB (j:=12) rfl rfl rfl Zr (v:=.slice bj ((hH bf bb (⟨w64 (((gd bf bb).Lo) - cy),(gd bf bb).Hi⟩:wAF)).length) bk) rfl)) rfl (zw rfl rfl rfl rfl rfl rfl (bnK wk fun _ fh QB=>zc rfl rfl rfl rfl (fun _=>Zk rfl rfl ew rfl zn zZ (wAS fh)) (zc rfl rfl rfl rfl (fun _=>zE rfl rfl zX rfl zC) ?_))))
 have P6:=wBL (xs:=(hH bf bb (⟨w64 (((gd bf bb).Lo) - cy),(gd bf bb).Hi⟩:wAF))) (by first | exact wAS fh | (have hz:=wAS fh;simpa only [nA] using hz))
 refine yW (T:=[ap]) [0] [1,2,3,4,5,6,7,8,9,10,11,12,13,14,15,16,17,18,19] [.blk ag 45 af,.blk ae 28 B7,B0,az,ay,ax,bA,ba,aq,fI,bW,ao,eU,an,am,ak,aj,a9,ai] rfl rfl rfl rfl lP rfl ⟨⟨0,by decide,_,rfl,rfl⟩,trivial⟩ (by decide) rfl (by decide) (fun _ Pj=>(Pj.ldR (j:=9) rfl ew rfl rfl zG (wAV (sz:=2) (fun _=>rfl) _ _ 1 _ P6 (by first | omega | rfl | simp) rfl))) rfl (zw rfl rfl rfl rfl rfl pB ?_)
 have q:=bnd QB
 obtain ⟨⟨mG,qR⟩,EB,wl⟩:=q
 try dsimp only at wl
 refine Zt 1 rfl rfl rfl rfl (zD rfl rfl ZZ (zB rfl (zB rfl zJ)) rfl) lP (fun hs=>wAN mF ap re tX 9 Ar jZ hs Ez EB) rfl (T:=[ap]) rfl ⟨fun b h=>(by cases h;exact .head _),trivial⟩ ?_
 rintro j0 TV Xi As SY KM ⟨rf,tY,rfl,rfl,EC⟩
 let jP:Res:=.blk ap 94 [.slice rf qR.bytes.length tY,jV qR.next,.int .u32 qR.state]
 have KN:sW w U j0 [jP,.blk ag 45 af,.blk ae 28 B7,B0,az,ay,ax,bA,ba,aq,fI,bW,ao,eU,an,am,ak,aj,a9,ai] As:=KM
 refine oR Z (za Z Z Z) (oR Z (Zk Z Z ew Z zn zZ (wAS fh)) (oR Z (zE Z Z zX Z zC) ?_))
 have P7:=wBL (xs:=(hH bf bb (⟨w64 (((gd bf bb).Lo) - cy),(gd bf bb).Hi⟩:wAF))) (by first | exact wAS fh | (have hz:=wAS fh;simpa only [nA] using hz))
 refine ya (j:=10) (vs:=[jV (w64 (((gd (hH bf bb (⟨w64 (((gd bf bb).Lo) - cy),(gd bf bb).Hi⟩:wAF)) bb).Hi) + mG))]) (cs':=hD wAC (hH (hH bf bb (⟨w64 (((gd bf bb).Lo) - cy),(gd bf bb).Hi⟩:wAF)) bb (⟨(gd (hH bf bb (⟨w64 (((gd bf bb).Lo) - cy),(gd bf bb).Hi⟩:wAF)) bb).Lo,w64 (((gd (hH bf bb (⟨w64 (((gd bf bb).Lo) - cy),(gd bf bb).Hi⟩:wAF)) bb).Hi) + mG)⟩:wAF))) rfl rfl rfl rfl KN rfl ew rfl rfl rfl zC (by rw [wAD (f:=wAC) (sz:=2) (fun _=>rfl)];have hz:=wAS fh;show _ + 1 <= _;first | omega | (simp only [nA];omega) | (simp only [nE,nB,nD,nA];omega) | (simp only [nH];omega) | (simp only [nE,nB,nD];omega)) rfl (wCH (sz:=2) (fo:=1) (fun _=>rfl) _ _ _ _ P7 (by first | omega | (simp only [nH];omega) | (simp only [nE,nB,nD];omega)) (zA rfl) rfl) rfl ?_
 intro tj KO
 let og:Res:=.row bj bk 41 2 (hD wAC (hH (hH bf bb (⟨w64 (((gd bf bb).Lo) - cy),(gd bf bb).Hi⟩:wAF)) bb (⟨(gd (hH bf bb (⟨w64 (((gd bf bb).Lo) - cy),(gd bf bb).Hi⟩:wAF)) bb).Lo,w64 (((gd (hH bf bb (⟨w64 (((gd bf bb).Lo) - cy),(gd bf bb).Hi⟩:wAF)) bb).Hi) + mG)⟩:wAF)))
 have KP:sW w U j0 [jP,.blk ag 45 af,.blk ae 28 B7,B0,az,ay,ax,bA,ba,aq,og,bW,ao,eU,an,am,ak,aj,a9,ai] tj:=KO
 have KQ:sW w U j0 [jP,.blk ag 45 af,.blk ae 28 B7,B0,az,ay,ax,bA,ba,aq,og,bW,ao,.blk bJ 28 [.slice bH bF.length bL,.slice bj ((hH (hH bf bb (⟨w64 (((gd bf bb).Lo) - cy),(gd bf bb).Hi⟩:wAF)) bb (⟨(gd (hH bf bb (⟨w64 (((gd bf bb).Lo) - cy),(gd bf bb).Hi⟩:wAF)) bb).Lo,w64 (((gd (hH bf bb (⟨w64 (((gd bf bb).Lo) - cy),(gd bf bb).Hi⟩:wAF)) bb).Hi) + mG)⟩:wAF)).length) bk,.slice bn dV.length bq,.slice bI bG.length bM],an,am,ak,aj,a9,ai] tj:=by simpa only [B0,af,a9,aj,ak,am,ao,an,ax,ay,aq,az,ai,bA,ba,B7,bW,eU,jP,og,nA] using KP
 refine zh (ZA (zL (rR fL2 Z (oR Z (ZH (za Z pK Z) (congrArg (jV) Qi.out)) (oM Z Z (zh ?_))))))
 cases wl
 exact zL ⟨Z,⟨j0,rf,tY,Z,Co,pB,Cp,Cr,pC,Cs,uS,((SV.trans SX).trans SY),KQ,EC,((nA.trans nA).trans Ew)⟩⟩
 rintro Ys UQ ⟨ss,xG,BF,DY,uT,VE,iu,Ct,Cu,uU,Cv,lZ,KR,WH,WI⟩
 have BG:Hid (¬ ((↑(((↑bY.length:Int):Int) - 0).toNat:Int) < (↑bY.length:Int))):=zO (wAc)
 refine sR fL1 Z (oR Z (ze Z DY Cv) (eN (zM (cF Z BG (Zb (zo (zo (ZV (zL (sR gAb Z (oR Z (zE Z uU zI Z ZO) (zU (j:=18) (vs:=[.slice none 0 0]) Z Z Z Z KR Z Z Z Z ZO (zA Z) Z Z Z ?_))))))))))))
 intro tk KS
 let bv:Res:=.blk bJ 28 [.slice bH bF.length bL,.slice bj gN.length bk,.slice bn dV.length bq,.slice bI bG.length bM]
 let bw:Res:=.blk dp 28 [.slice dk cH.length dt,.slice dl cI.length du,.slice dm cJ.length dv,.slice none 0 0]
 let bx:Res:=.blk ap 94 [.slice xG TE.length BF,jV TF,.int .u32 TG]
 let dJ:Res:=.row bj bk 41 2 (hD wAC gN)
 have p6:sW w U ss [bx,.blk ag 45 af,.blk ae 28 B7,B0,az,ay,ax,bA,ba,aq,dJ,bW,ao,bv,an,am,ak,aj,bw,ai] tk:=KS
 refine eN (sR (.fl 0 (.fl 1 (.fx 2 (wFd gAe) .stop))) Z (oL Z (p6.ldBA (j:=2) Z Z uT zf zY (vs:=B7) Z Z) (oL Z (p6.ldBA (j:=1) Z Z iu ZY ZG (vs:=af) Z Z) ?_)))
 have ED:=fZ.le cn
 have EE:=ED.le dA
 have EF:=EE.le eh
 have EG:=EF.le lY
 have vt:=EG.le lZ
 have EH:=f4.le cn
 have EI:=EH.le dA
 have EJ:=EI.le eh
 have EK:=EJ.le lY
 have vu:=EK.le lZ
 have EL:=f5.le cn
 have EM:=EL.le dA
 have EN:=EM.le eh
 have EO:=EN.le lY
 have vv:=EO.le lZ
 have EP:=gp.le cn
 have EQ:=EP.le dA
 have ER:=EQ.le eh
 have ES:=ER.le lY
 have vw:=ES.le lZ
 have q:=bnd wj
 obtain ⟨⟨dB,xl⟩,ET,wm⟩:=q
 try dsimp only at wm
 refine zF 0 Z Z Z Z (zD Z Z yg (zB Z (zB Z zJ)) Z) p6 (fun hs=>wBS bd co cp bS bX cE cG cB cD cd tk ss hs vt vu vv vw ET) (.inr Z) ?_
 rintro su TW Xj Au l5 KU ⟨rfl,rfl⟩
 have KV:sW w U su [bx,.blk ag 45 af,.blk ae 28 B7,B0,az,ay,ax,bA,ba,aq,dJ,bW,ao,bv,an,am,ak,aj,bw,ai] Au:=KU
 refine oM Z Z (oR Z (zT Z Z (v:=.agg #[jV dB.Lo,jV dB.Hi]) Z) (oR Z (zT Z Z (v:=jV xl) Z) (zQ (cs:=cr) Z Z Z Z Z zi Z KV ?_)))
 intro UR bo KW
 let bz:List Value:=[jV dB.Lo,jV dB.Hi]
 refine zU (j:=0) (vs:=bz) Z Z Z Z KW Z Z Z Z zZ (zA Z) Z Z Z ?_
 intro fN KY
 have p7:sW w U su [.blk bo 41 bz,bx,.blk ag 45 af,.blk ae 28 B7,B0,az,ay,ax,bA,ba,aq,dJ,bW,ao,bv,an,am,ak,aj,bw,ai] fN:=KY
 refine oA Z Z (eN (sR (.fl 0 (.fl 1 (.fx 2 (wFd gAe) .stop))) Z (oL Z (p7.ldBA (j:=9) Z Z Ct zf zY (vs:=[.slice dD c6.length dL,.slice dE da.length dM,.slice dH db.length dN,.slice gP eD.length io]) Z Z) (oL Z (p7.ldBA (j:=2) Z Z iu ZY ZG (vs:=af) Z Z) ?_))))
 have q:=p7.freezeR (k:=5) (n:=c6.length) rfl (wAD (f:=KL.encI) (sz:=1) (fun _=>rfl) c6) (by decide)
 obtain ⟨xS,l6,R5,KZ⟩:=q
 have K8:sW w U xS [.blk bo 41 bz,bx,.blk ag 45 af,.blk ae 28 B7,B0,ay,ax,bA,ba,aq,dJ,bW,ao,bv,an,am,ak,aj,bw,ai] fN:=KZ
 have q:=K8.freezeR (k:=5) (n:=da.length) rfl (wAD (f:=wAC) (sz:=2) (fun _=>rfl) da) (by decide)
 obtain ⟨xT,iN,R6,K9⟩:=q
 have La:sW w U xT [.blk bo 41 bz,bx,.blk ag 45 af,.blk ae 28 B7,B0,ax,bA,ba,aq,dJ,bW,ao,bv,an,am,ak,aj,bw,ai] fN:=K9
 have q:=La.freezeR (k:=5) (n:=db.length) rfl (wAD (f:=wAA) (sz:=3) (fun _=>rfl) db) (by decide)
 obtain ⟨xU,gq,R7,Lb⟩:=q
 have Lc:sW w U xU [.blk bo 41 bz,bx,.blk ag 45 af,.blk ae 28 B7,B0,bA,ba,aq,dJ,bW,ao,bv,an,am,ak,aj,bw,ai] fN:=Lb
 have q:=Lc.freezeR (k:=5) (n:=eD.length) rfl (wAD (f:=wAB) (sz:=4) (fun _=>rfl) eD) (by decide)
 obtain ⟨sv,fk,R8,Ld⟩:=q
 have Lf:sW w U sv [.blk bo 41 bz,bx,.blk ag 45 af,.blk ae 28 B7,B0,ba,aq,dJ,bW,ao,bv,an,am,ak,aj,bw,ai] fN:=Ld
 have EU:=R5.le iN
 have EV:=EU.le gq
 have EW:=EV.le fk
 have EX:=R6.le gq
 have EY:=EX.le fk
 have EZ:=R7.le fk
 have q:=bnd wm
 obtain ⟨⟨gC,xm⟩,E0,wn⟩:=q
 try dsimp only at wn
 refine zF 0 Z Z Z Z (zD Z Z yg (zB Z (zB Z zJ)) Z) Lf (fun hs=>wBS (⟨c6,da,db,eD⟩:wAE) dD dL dE dM dH dN gP io cd fN sv hs EW EY EZ R8 E0) (.inr Z) ?_
 rintro sw TX Xk Av l7 Lg ⟨rfl,rfl⟩
 have Lh:sW w U sw [.blk bo 41 bz,bx,.blk ag 45 af,.blk ae 28 B7,B0,ba,aq,dJ,bW,ao,bv,an,am,ak,aj,bw,ai] Av:=Lg
 refine oM Z Z (oR Z (zT Z Z (v:=.agg #[jV gC.Lo,jV gC.Hi]) Z) (oR Z (zT Z Z (v:=jV xm) Z) (zQ (cs:=cr) Z Z Z Z Z zi Z Lh ?_)))
 intro US bD Li
 let bC:List Value:=[jV gC.Lo,jV gC.Hi]
 refine zU (j:=0) (vs:=bC) Z Z Z Z Li Z Z Z Z zZ (zA Z) Z Z Z ?_
 intro fO Lj
 have p8:sW w U sw [.blk bD 41 bC,.blk bo 41 bz,bx,.blk ag 45 af,.blk ae 28 B7,B0,ba,aq,dJ,bW,ao,bv,an,am,ak,aj,bw,ai] fO:=Lj
 refine oA Z Z (eN (sR (.fl 0 (.fl 1 (.fx 2 (wFd gAe) .stop))) Z (oL Z (p8.ldBA (j:=11) Z Z Cu zf zY (vs:=[.slice bH bF.length bL,.slice bj gN.length bk,.slice bn dV.length bq,.slice bI bG.length bM]) Z Z) (oL Z (p8.ldBA (j:=3) Z Z iu ZY ZG (vs:=af) Z Z) ?_))))
 have q:=p8.freezeR (k:=7) (n:=bF.length) rfl (wAD (f:=KL.encI) (sz:=1) (fun _=>rfl) bF) (by decide)
 obtain ⟨xV,l8,R9,Lk⟩:=q
 have Ll:sW w U xV [.blk bD 41 bC,.blk bo 41 bz,bx,.blk ag 45 af,.blk ae 28 B7,B0,ba,dJ,bW,ao,bv,an,am,ak,aj,bw,ai] fO:=Lk
 have q:=Ll.freezeR (k:=7) (n:=gN.length) rfl (wAD (f:=wAC) (sz:=2) (fun _=>rfl) gN) (by decide)
 obtain ⟨xW,iO,Sa,Lm⟩:=q
 have Ln:sW w U xW [.blk bD 41 bC,.blk bo 41 bz,bx,.blk ag 45 af,.blk ae 28 B7,B0,ba,bW,ao,bv,an,am,ak,aj,bw,ai] fO:=Lm
 have q:=Ln.freezeR (k:=7) (n:=dV.length) rfl (wAD (f:=wAA) (sz:=3) (fun _=>rfl) dV) (by decide)
 obtain ⟨xX,gu,Sb,Lp⟩:=q
 have Lq:sW w U xX [.blk bD 41 bC,.blk bo 41 bz,bx,.blk ag 45 af,.blk ae 28 B7,B0,ba,ao,bv,an,am,ak,aj,bw,ai] fO:=Lp
 have q:=Lq.freezeR (k:=7) (n:=bG.length) rfl (wAD (f:=wAB) (sz:=4) (fun _=>rfl) bG) (by decide)
 obtain ⟨sA,fm,Sc,Ls⟩:=q
 have Lt:sW w U sA [.blk bD 41 bC,.blk bo 41 bz,bx,.blk ag 45 af,.blk ae 28 B7,B0,ba,bv,an,am,ak,aj,bw,ai] fO:=Ls
 have E1:=R9.le iO
 have E2:=E1.le gu
 have E3:=E2.le fm
 have E4:=Sa.le gu
 have E5:=E4.le fm
 have E6:=Sb.le fm
 have q:=bnd wn
 obtain ⟨⟨gD,xn⟩,E7,wo⟩:=q
 try dsimp only at wo
 refine zF 0 Z Z Z Z (zD Z Z yg (zB Z (zB Z zJ)) Z) Lt (fun hs=>wBS (⟨bF,gN,dV,bG⟩:wAE) bH bL bj bk bn bq bI bM cd fO sA hs E3 E5 E6 Sc E7) (.inr Z) ?_
 rintro sB TY Xl Aw ma Lu ⟨rfl,rfl⟩
 have Lv:sW w U sB [.blk bD 41 bC,.blk bo 41 bz,bx,.blk ag 45 af,.blk ae 28 B7,B0,ba,bv,an,am,ak,aj,bw,ai] Aw:=Lu
 refine oM Z Z (oR Z (zT Z Z (v:=.agg #[jV gD.Lo,jV gD.Hi]) Z) (oR Z (zT Z Z (v:=jV xn) Z) (zQ (cs:=cr) Z Z Z Z Z zi Z Lv ?_)))
 intro UT bQ Lw
 let bO:List Value:=[jV gD.Lo,jV gD.Hi]
 refine zU (j:=0) (vs:=bO) Z Z Z Z Lw Z Z Z Z zZ (zA Z) Z Z Z ?_
 intro ig Lx
 have p9:sW w U sB [.blk bQ 41 bO,.blk bD 41 bC,.blk bo 41 bz,bx,.blk ag 45 af,.blk ae 28 B7,B0,ba,bv,an,am,ak,aj,bw,ai] ig:=Lx
 refine oA Z Z (eN (sR (.fl 0 (.fl 1 (.fx 2 (wFd gAe) .stop))) Z (oL Z (p9.ldBA (j:=13) Z Z uU zf zY (vs:=[.slice dk cH.length dt,.slice dl cI.length du,.slice dm cJ.length dv,.slice none 0 0]) Z Z) (oL Z (p9.ldBA (j:=4) Z Z iu ZY ZG (vs:=af) Z Z) ?_))))
 have q:=p9.freezeR (k:=9) (n:=cH.length) rfl (wAD (f:=KL.encI) (sz:=1) (fun _=>rfl) cH) (by decide)
 obtain ⟨xY,mb,Sd,Ly⟩:=q
 have Lz:sW w U xY [.blk bQ 41 bO,.blk bD 41 bC,.blk bo 41 bz,bx,.blk ag 45 af,.blk ae 28 B7,B0,ba,bv,am,ak,aj,bw,ai] ig:=Ly
 have q:=Lz.freezeR (k:=9) (n:=cI.length) rfl (wAD (f:=wAC) (sz:=2) (fun _=>rfl) cI) (by decide)
 obtain ⟨xZ,iP,Se,LA⟩:=q
 have LB:sW w U xZ [.blk bQ 41 bO,.blk bD 41 bC,.blk bo 41 bz,bx,.blk ag 45 af,.blk ae 28 B7,B0,ba,bv,ak,aj,bw,ai] ig:=LA
 have q:=LB.freezeR (k:=9) (n:=cJ.length) rfl (wAD (f:=wAA) (sz:=3) (fun _=>rfl) cJ) (by decide)
 obtain ⟨sC,gv,Sf,LC⟩:=q
 have LD:sW w U sC [.blk bQ 41 bO,.blk bD 41 bC,.blk bo 41 bz,bx,.blk ag 45 af,.blk ae 28 B7,B0,ba,bv,aj,bw,ai] ig:=LC
 have E8:=Sd.le iP
 have E9:=E8.le gv
 have Fa:=Se.le gv
 have q:=bnd wo
 obtain ⟨⟨i3,xo⟩,Fb,wp⟩:=q
 try dsimp only at wp
 refine zF 0 rfl rfl rfl rfl (zD rfl rfl yg (zB rfl (zB rfl zJ)) rfl) LD (fun hs=>wBS (⟨cH,cI,cJ,[]⟩:wAE) dk dt dl du dm dv none 0 cd ig sC hs E9 Fa Sf (by first | exact Sl.nil _ _ _ _ | exact SlR.nil) Fb) (.inr rfl) ?_
 rintro de TZ Xm Ax mc LE ⟨rfl,rfl⟩
 have LF:sW w U de [.blk bQ 41 bO,.blk bD 41 bC,.blk bo 41 bz,bx,.blk ag 45 af,.blk ae 28 B7,B0,ba,bv,aj,bw,ai] Ax:=LE
 refine oM Z Z (oR Z (zT Z Z (v:=.agg #[jV i3.Lo,jV i3.Hi]) Z) (oR Z (zT Z Z (v:=jV xo) Z) (zQ (cs:=cr) Z Z Z Z Z zi Z LF ?_)))
 intro UU cb LG
 let cm:List Value:=[jV i3.Lo,jV i3.Hi]
 refine zU (j:=0) (vs:=cm) Z Z Z Z LG Z Z Z Z zZ (zA Z) Z Z Z ?_
 intro ox LH
 have cw:sW w U de [.blk cb 41 cm,.blk bQ 41 bO,.blk bD 41 bC,.blk bo 41 bz,bx,.blk ag 45 af,.blk ae 28 B7,B0,ba,bv,aj,bw,ai] ox:=LH
 refine oA Z Z (eN (zM (zM (yh fun dX dy=>?_))))
 have Cw:dX 5=.pointer (some ⟨ae,0,none⟩):=(dy 5).trans uT
 have Cx:dX 9=.pointer (some ⟨ag,0,none⟩):=(dy 9).trans iu
 have iv:dX 17=.pointer (some ⟨bo,0,none⟩):=(dy 17).trans rfl
 have Cy:dX 18=jV xl:=(dy 18).trans rfl
 have uV:dX 19=.pointer (some ⟨bD,0,none⟩):=(dy 19).trans rfl
 have Cz:dX 20=jV xm:=(dy 20).trans rfl
 have uW:dX 21=.pointer (some ⟨bQ,0,none⟩):=(dy 21).trans rfl
 have CA:dX 22=jV xn:=(dy 22).trans rfl
 have CC:dX 23=.pointer (some ⟨cb,0,none⟩):=(dy 23).trans rfl
 have CD:dX 24=jV xo:=(dy 24).trans rfl
 clear dy
 refine rR fL42 Z (oM Z Cy (oR Z (Ze Z Z Z) (oM Z Z (ifc wp ?_ ?_))))
 intro eY QC
 refine zw Z Z Z (zS Z Z (ZD (fun h=>h eY.out))) Z Cz (zc Z Z Z (zS Z Z (ZD (fun h=>h eY.out))) (fun _=>Ze Z Z Z) (oR Z (zg Z (ZD (fun h=>h eY.out)) Z) (oM Z Z (ifc QC ?_ ?_))))
 intro eZ QD
 refine zw Z Z Z (zS Z Z (ZD (fun h=>h eZ.out))) Z CA (zc Z Z Z (zS Z Z (ZD (fun h=>h eZ.out))) (fun _=>Ze Z Z Z) (oR Z (zg Z (ZD (fun h=>h eZ.out)) Z) (oM Z Z (ifc QD ?_ ?_))))
 intro e0 QE
 refine zw Z Z Z (zS Z Z (ZD (fun h=>h e0.out))) Z CD (zc Z Z Z (zS Z Z (ZD (fun h=>h e0.out))) (fun _=>Ze Z Z Z) (oR Z (zg Z (ZD (fun h=>h e0.out)) Z) (oM Z Z (ifc QE ?_ ?_))))
 intro cN QF
 refine zc Z Z Z (zS Z Z (ZD (fun h=>h cN.out))) (fun _=>zE Z uV zX Z zC) (ZF Z Z Z (zS Z Z (ZD (fun h=>h cN.out))) (cw.ldB (j:=2) Z Z Z zG (v:=jV gC.Lo) Z) Z (zc Z Z Z (zS Z Z (ZD (fun h=>h cN.out))) (fun _=>zE Z iv zX Z zC) (ZF Z Z Z (zS Z Z (ZD (fun h=>h cN.out))) (cw.ldB (j:=3) Z Z Z zG (v:=jV dB.Lo) Z) Z (zc Z Z Z (zS Z Z (ZD (fun h=>h cN.out))) (fun _=>ze Z Z Z) (oR Z (zg Z (ZD (fun h=>h cN.out)) Z) (oM Z Z (ifc QF ?_ ?_)))))))
 intro cO QG
 refine oT Z cO (oT Z cO (oT Z cO (oT Z cO (oT Z cO (oR Z (zN Z (Zi cO.out) Z) (oM Z Z (oN Z (oN Z (oN Z (oN Z (oN Z (oR Z (zN Z Z Z) (oM Z Z (oN Z (oN Z (oN Z (oN Z (oN Z (oR Z (zN Z Z Z) (eN (ZI Z (sR fL1 Z (oA Z Z (eN (zR (zW ?_))))))))))))))))))))))))))
 have hE:=hJ QG;first | subst r | cases hE
 exact ⟨rfl,_,(ZL rfl),de,_,(cw.pick [] _ (by decide) rfl),rfl,rfl⟩
 intro cO QH
 refine rU Z (wF Z cO) (zE Z uV zX Z zC) (ZF Z Z Z (wF Z cO) (cw.ldB (j:=2) Z Z Z zG (v:=jV gC.Hi) Z) Z (rU Z (wF Z cO) (zE Z iv zX Z zC) (ZF Z Z Z (wF Z cO) (cw.ldB (j:=3) Z Z Z zG (v:=jV dB.Hi) Z) Z (rU Z (wF Z cO) (ye Z Z Z) (oR Z (zg Z (ZD cO.out) Z) (oM Z Z (ifc QH ?_ ?_)))))))
 intro cP QI
 refine oT Z cP (oT Z cP (oT Z cP (oT Z cP (oT Z cP (oR Z (zN Z (Zi cP.out) Z) (oM Z Z (oN Z (oN Z (oN Z (oN Z (oN Z (oR Z (zN Z Z Z) (eN (ZI Z (sR fL1 Z (oA Z Z (eN (zR (zW ?_)))))))))))))))))))
 have hE:=hJ QI;first | subst r | cases hE
 exact ⟨rfl,_,(ZL rfl),de,_,(cw.pick [] _ (by decide) rfl),rfl,rfl⟩
 intro cP QJ
 refine rU Z (wF Z cP) (zE Z uW zX Z zC) (ZF Z Z Z (wF Z cP) (cw.ldB (j:=1) Z Z Z zG (v:=jV gD.Lo) Z) Z (rU Z (wF Z cP) (zE Z iv zX Z zC) (ZF Z Z Z (wF Z cP) (cw.ldB (j:=3) Z Z Z zG (v:=jV dB.Lo) Z) Z (rU Z (wF Z cP) (ye Z Z Z) (oR Z (zg Z (ZD cP.out) Z) (oM Z Z (ifc QJ ?_ ?_)))))))
 intro cQ QK
 refine oT Z cQ (oT Z cQ (oT Z cQ (oT Z cQ (oT Z cQ (oR Z (zN Z (Zi cQ.out) Z) (eN (ZI Z (sR fL1 Z (oA Z Z (eN (zR (zW ?_))))))))))))
 have hE:=hJ QK;first | subst r | cases hE
 exact ⟨rfl,_,(ZL rfl),de,_,(cw.pick [] _ (by decide) rfl),rfl,rfl⟩
 intro cQ QL
 refine rU Z (wF Z cQ) (zE Z uW zX Z zC) (ZF Z Z Z (wF Z cQ) (cw.ldB (j:=1) Z Z Z zG (v:=jV gD.Hi) Z) Z (rU Z (wF Z cQ) (zE Z iv zX Z zC) (ZF Z Z Z (wF Z cQ) (cw.ldB (j:=3) Z Z Z zG (v:=jV dB.Hi) Z) Z (rU Z (wF Z cQ) (ze Z Z Z) (oR Z (zg Z (ZD cQ.out) Z) (eN (ifc QL ?_ ?_)))))))
 intro o0 QM
 refine cT Z o0 (sR fL1 Z (oA Z Z (eN (zR (zW ?_)))))
 have hE:=hJ QM;first | subst r | cases hE
 exact ⟨rfl,_,(ZL rfl),de,_,(cw.pick [] _ (by decide) rfl),rfl,rfl⟩
 intro o0 QN
 refine cF Z o0 (kN (zM (yh fun mN iF=>?_)))
 have ly:mN 5=.pointer (some ⟨ae,0,none⟩):=(iF 5).trans Cw
 have lz:mN 9=.pointer (some ⟨ag,0,none⟩):=(iF 9).trans Cx
 have CE:mN 17=.pointer (some ⟨bo,0,none⟩):=(iF 17).trans iv
 have CF:mN 23=.pointer (some ⟨cb,0,none⟩):=(iF 23).trans CC
 clear iF
 refine zt zu [3,1,3,1,3,1,3,1,3,1,3,1,3,3] fL14 (by kernel_rfl) ?_
 have dO:=cw.drew
 generalize hw_W1676:({ ox with drawn:=ox.drawn + 1 }:World)=UV at dO ⊢
 refine oR Z (zE Z ly zI Z ZB) (oL Z (dO.ldB (j:=6) Z Z Z ZK (v:=.slice co bd.Starts.length cp) Z) (oR Z (zE Z lz yK Z zC) (oL Z (dO.ldB (j:=5) Z Z Z zG (v:=jV cd.Skier) Z) (bnK QN fun xp f8 QO=>?_))))
 have Fc:=vt.le l5
 have Fd:=Fc.le l6
 have Ff:=Fd.le iN
 have Fg:=Ff.le gq
 have Fh:=Fg.le fk
 have Fi:=Fh.le l7
 have Fj:=Fi.le l8
 have Fk:=Fj.le iO
 have Fm:=Fk.le gu
 have Fo:=Fm.le fm
 have Fp:=Fo.le ma
 have Fq:=Fp.le mb
 have Fr:=Fq.le iP
 have Fs:=Fr.le gv
 have pT:=Fs.le mc
 have q:=pT.el (fun _=>rfl) (wAb f8)
 obtain ⟨Vw,WX,J5,Kc⟩:=q
 refine oR Z (Zd Z Z J5 Z zK zC (wCG f8) (wCM f8)) (oL Z (dO.ldC (f:=0) Kc (v:=jV xp) Z Z zG Z) (oR Z (zE Z ly zI Z ZB) (oL Z (dO.ldB (j:=6) Z Z Z ZK (v:=.slice co bd.Starts.length cp) Z) (oR Z (zE Z lz yK Z zC) (oL Z (dO.ldB (j:=5) Z Z Z zG (v:=jV cd.Skier) Z) ?_)))))
 have q:=pT.el (fun _=>rfl) (wAb f8)
 obtain ⟨Vx,WY,J6,Kd⟩:=q
 refine oR Z (Zd Z Z J6 Z zK zC (wCG f8) (wCM f8)) (oL Z (dO.ldC (f:=0) Kd (v:=jV xp) Z Z zG Z) (oA Z Z (oA Z Z (eN (zM (sR fL7 Z (oR Z (zE Z ly zI Z Zj) (oL Z (dO.ldB (j:=6) Z Z Z Zr (v:=.slice bS bd.Splits.length bX) Z) (oR Z (zE Z lz yK Z zC) (oL Z (dO.ldB (j:=5) Z Z Z zG (v:=jV cd.Mat) Z) (bnK QO fun gE Ft QP=>?_)))))))))))
 have Fu:=vu.le l5
 have Fv:=Fu.le l6
 have Fw:=Fv.le iN
 have Fx:=Fw.le gq
 have Fy:=Fx.le fk
 have Fz:=Fy.le l7
 have FA:=Fz.le l8
 have FB:=FA.le iO
 have FC:=FB.le gu
 have FD:=FC.le fm
 have FE:=FD.le ma
 have FF:=FE.le mb
 have FG:=FF.le iP
 have FH:=FG.le gv
 have pU:=FH.le mc
 have q:=Sl.cutM (sz:=2) (f:=wAC) pU (fun _=>rfl) Ft
 obtain ⟨qK,Py,PA,PC,R2⟩:=q
 refine zc (v:=.slice (if bX=(0:Int).toNat then bS else nM (·.add ((0:Int).toNat * 2)) bS) gE.length (bX - (0:Int).toNat)) rfl rfl rfl rfl (fun _=>ZH (Runs.slc (sz:=2) (a:=0) (b:=cd.Mat) rfl rfl (.inr ⟨rfl,rfl⟩) (.inl ⟨_,rfl,rfl⟩) zn zZ Py PA PC (pU).cap) (by rw [R2])) ?_
 generalize hA_A1707:(if bX=(0:Int).toNat then bS else nM (·.add ((0:Int).toNat * 2)) bS)=xH at qK ⊢
 generalize hc_c1708:bX - (0:Int).toNat=BH at qK ⊢
 refine oR Z (zx Z Z zn) (oM Z Z (eN (zd ?_)))
 have q:=bnd QP
 obtain ⟨⟨qZ,q5⟩,PL,ws⟩:=q
 try dsimp only at ws
 have q:=wAx PL
 obtain ⟨qw,PM⟩:=q
 replace qw:=zO qw
 refine CK.forN' (fun iH (xq,xr) σ_ w_=>∃ (U_:PHeap),σ_ 248=jV (↑iH:Int)/\σ_ 5=.pointer (some ⟨ae,0,none⟩)/\σ_ 9=.pointer (some ⟨ag,0,none⟩)/\σ_ 17=.pointer (some ⟨bo,0,none⟩)/\σ_ 23=.pointer (some ⟨cb,0,none⟩)/\σ_ 25=jV xq/\σ_ 26=jV xr/\σ_ 246=.slice xH gE.length BH/\σ_ 247=jV (↑gE.length:Int)/\PHeap.Le de U_/\sW w U U_ [.blk cb 41 cm,.blk bQ 41 bO,.blk bD 41 bC,.blk bo 41 bz,bx,.blk ag 45 af,.blk ae 28 B7,B0,ba,bv,bw,ai] w_) PM ?_ ?_ ?_
 exact ⟨de,rfl,ly,lz,CE,CF,rfl,rfl,rfl,rfl,(zP _),(dO.pick [0,1,2,3,4,5,6,7,8,9,11,12] _ (by decide) rfl)⟩
 rintro iH ⟨xq,xr⟩ Yc Yt UW qo ⟨sD,pL,CG,CH,CI,CJ,CM,CN,uX,uY,w6,vV⟩ wV
 try dsimp only at wV
 have tZ:Hid ((↑iH:Int) < (↑gE.length:Int)):=zO (wAs qo)
 replace qo:=zO qo
 have Qj:Hid (w64 ((↑iH:Int) + 1)=(↑(iH + 1):Int)):=zO (by have h1:=qw.out;have h2:=tZ.out;rw [wAU] <;> omega)
 refine sR fL1 Z (oR Z (ze Z pL uY) (eN (zM (cT Z tZ (kN (zM (zd (sR gAj Z (bnK wV fun gF vx QQ=>?_)))))))))
 have FI:=qK.le w6
 have q:=FI.el (fun _=>rfl) (wAb vx)
 obtain ⟨Vy,WZ,J7,Ke⟩:=q
 refine oR Z (Zk Z uX J7 pL zn zZ (wCl vx)) (oL Z (vV.ldCA (f:=0) Ke Z Z Zn zZ (us:=[jV gF.Lo,jV gF.Hi]) Z Z) (zQ (cs:=cr) Z Z Z Z Z zi Z vV ?_))
 intro UX By LI
 let sn:List Value:=[jV gF.Lo,jV gF.Hi]
 refine zU (j:=0) (vs:=sn) Z Z Z Z LI Z Z Z Z zZ (zA Z) Z Z Z ?_
 intro oy LJ
 have LK:sW w U sD [.blk By 41 sn,.blk cb 41 cm,.blk bQ 41 bO,.blk bD 41 bC,.blk bo 41 bz,bx,.blk ag 45 af,.blk ae 28 B7,B0,ba,bv,bw,ai] oy:=LJ
 refine eN (zt zu [3,3,1,3,3,3,1,3,3,3] fL10 (by kernel_rfl) ?_)
 have lQ:=LK.drew
 generalize hw_W1783:({ oy with drawn:=oy.drawn + 1 }:World)=UY at lQ ⊢
 refine oM Z CM (oR Z (zE Z Z zX Z zC) (oL Z (lQ.ldB (j:=0) Z Z Z zG (v:=jV gF.Lo) Z) (oR Z (za Z Z Z) (oM Z CN (oR Z (zE Z Z zX Z zC) (oL Z (lQ.ldB (j:=0) Z Z Z zG (v:=jV gF.Hi) Z) (oR Z (za Z Z Z) (oA Z Z (oA Z Z (zh (ZA (zL (rR fL2 Z (oR Z (ZH (za Z pL Z) (congrArg (jV) Qj.out)) (oM Z Z (zh ?_))))))))))))))))
 cases QQ
 exact zL ⟨rfl,⟨sD,rfl,CG,CH,CI,CJ,rfl,rfl,uX,uY,w6,(lQ.pick [1,2,3,4,5,6,7,8,9,10,11,12] _ (by decide) rfl)⟩⟩
 rintro Yu Ay ⟨sE,DZ,pD,uZ,CO,CP,CQ,CR,VF,CS,md,iA⟩
 have BI:Hid (¬ ((↑(((↑gE.length:Int):Int) - 0).toNat:Int) < (↑gE.length:Int))):=zO (wAc)
 refine sR fL1 Z (oR Z (ze Z DZ CS) (eN (zM (cF Z BI (Zb (zo (zo (ZV (zL (zM (sR fL5 Z (oL Z (iA.ldBA (j:=0) Z Z CP Zn zZ (vs:=cm) Z Z) (oM Z CQ (oM Z CR (oR Z (zk (pv:=[(0,jV qZ),(1,jV q5)]) (z:=cr) (cs:=[jV qZ,jV q5]) Z (wAH Z (wAH Z wAO)) zi wBd Z Z) (oR Z (ZH (yn (enc:=wAC) (a:=i3) (b:=(⟨qZ,q5⟩:wAF)) Z Z Z wHZ wHY) (congrArg nI (decide_not).symm)) (eN (ifc ws ?_ ?_))))))))))))))))))
 intro o3 QR
 refine ZE (ZD (fun h=>h o3.out)) (kN (sR (.fl 0 (.fl 1 (.fx 2 (wLg (.nil)) .stop))) Z (oL Z (iA.ldBA (j:=6) Z Z pD zf zY (vs:=B7) Z Z) (oL Z (iA.ldBA (j:=5) Z Z uZ ZY ZG (vs:=af) Z Z) ?_))))
 have vy:=pT.le md
 have vz:=pU.le md
 have FJ:=vv.le l5
 have FK:=FJ.le l6
 have FL:=FK.le iN
 have FM:=FL.le gq
 have FN:=FM.le fk
 have FO:=FN.le l7
 have FP:=FO.le l8
 have FQ:=FP.le iO
 have FR:=FQ.le gu
 have FS:=FR.le fm
 have FT:=FS.le ma
 have FU:=FT.le mb
 have FV:=FU.le iP
 have FW:=FV.le gv
 have FX:=FW.le mc
 have vA:=FX.le md
 have FY:=vw.le l5
 have FZ:=FY.le l6
 have F0:=FZ.le iN
 have F3:=F0.le gq
 have F5:=F3.le fk
 have F6:=F5.le l7
 have F7:=F6.le l8
 have F8:=F7.le iO
 have F9:=F8.le gu
 have Ga:=F9.le fm
 have Gb:=Ga.le ma
 have Gc:=Gb.le mb
 have Gd:=Gc.le iP
 have Ge:=Gd.le gv
 have Gf:=Ge.le mc
 have vB:=Gf.le md
 have q:=bnd QR
 obtain ⟨⟨fu,TC⟩,Gg,wt⟩:=q
 try dsimp only at wt
 refine zF 0 Z Z Z Z (zD Z Z Try.call35 (zB Z (zB Z zJ)) Z) iA (fun hs=>wFJ bd co cp bS bX cE cG cB cD cd Ay sE hs vy vz vA vB Gg) (.inr Z) ?_
 rintro sF T0 Xn tm me LL ⟨gR,iq,rfl,rfl⟩
 have qa:sW w U sF [.row gR iq 3 1 (hD KL.encI fu),.blk cb 41 cm,.blk bQ 41 bO,.blk bD 41 bC,.blk bo 41 bz,bx,.blk ag 45 af,.blk ae 28 B7,B0,ba,bv,bw,ai] tm:=LL
 refine oM Z Z (oR Z (zT Z Z (v:=.slice gR fu.length iq) Z) (oR Z (zT Z Z (v:=jV TC) Z) (oA Z Z (oA Z Z (eN (zM (sR fL2 Z (oM Z Z (oR Z (Ze Z Z Z) (eN (ifc wt ?_ ?_)))))))))))
 intro o5 gj
 refine ZE (ZD (fun h=>h o5.out)) (kN (zM (sR fL4 Z (oR Z (zE Z pD zI Z ZO) (oL Z (qa.ldB (j:=7) Z Z Z Zs (v:=.slice cB bd.Readings.length cD) Z) (oR Z (zx Z Z ZN) (oM Z Z (eN (zd ?_)))))))))
 have q:=qa.freezeR (k:=0) (n:=fu.length) rfl (wAD (f:=KL.encI) (sz:=1) (fun _=>rfl) fu) (by decide)
 obtain ⟨oi,mf,Sg,LM⟩:=q
 have LN:sW w U oi [.blk cb 41 cm,.blk bQ 41 bO,.blk bD 41 bC,.blk bo 41 bz,bx,.blk ag 45 af,.blk ae 28 B7,B0,ba,bv,bw,ai] tm:=LM
 have q:=wBy gj
 obtain ⟨Xb,gh⟩:=q
 have q:=wBx gh
 obtain ⟨qx,PN⟩:=q
 replace qx:=zO qx
 refine yX (fun dS _ σ_ w_=>∃ (U_:PHeap),σ_ 277=jV (↑dS:Int)/\σ_ 5=.pointer (some ⟨ae,0,none⟩)/\σ_ 9=.pointer (some ⟨ag,0,none⟩)/\σ_ 17=.pointer (some ⟨bo,0,none⟩)/\σ_ 29=.slice gR fu.length iq/\σ_ 276=jV (↑bd.Readings.length:Int)/\PHeap.Le oi U_/\sW w U U_ [.blk cb 41 cm,.blk bQ 41 bO,.blk bD 41 bC,.blk bo 41 bz,bx,.blk ag 45 af,.blk ae 28 B7,B0,ba,bv,bw,ai] w_) PN ?_ ?_ ?_
 exact ⟨oi,Z,pD,uZ,CO,Z,Z,(zP _),LN⟩
 rintro dS ⟨⟩ Ye Yv Az qp ⟨x7,pM,u3,u4,CT,CU,u5,gw,vW⟩ wW lU
 try dsimp only at wW
 have t4:Hid ((↑dS:Int) < (↑bd.Readings.length:Int)):=zO (wAs qp)
 replace qp:=zO qp
 have wb:Hid (w64 ((↑dS:Int) + 1)=(↑(dS + 1):Int)):=zO (by have h1:=qx.out;have h2:=t4.out;rw [wAU] <;> omega)
 refine sR fL1 Z (oR Z (ze Z pM u5) (eN (zM (cT Z t4 (kN (zM (zd (sR fL2 Z (oM Z pM (oA Z Z (eN (sR gAk Z (oL Z (vW.ldBA (j:=6) Z Z u3 zf zY (vs:=B7) Z Z) ?_)))))))))))))
 have Gh:=vy.le me
 have Gi:=Gh.le mf
 have Gj:=Gi.le gw
 have Gk:=vz.le me
 have Gl:=Gk.le mf
 have Gm:=Gl.le gw
 have Gn:=vA.le me
 have Gp:=Gn.le mf
 have Gq:=Gp.le gw
 have Gr:=vB.le me
 have Gs:=Gr.le mf
 have Gt:=Gs.le gw
 refine bnK wW fun cf Gu QS=>zF 0 Z Z Z Z (zD Z Z Try.call13 (zB Z zJ) Z) vW (fun hs=>wBg bd co cp bS bX cE cG cB cD Az x7 hs Gj Gm Gq Gt Gu) (.inr Z) ?_
 rintro j1 T1 Xo AA w7 LO ⟨i9,lc,ja,lf,jb,lg,jc,lh,rfl,rfl⟩
 let eV:Res:=.row jb lg 43 3 (hD wAA cf.Clocks)
 let fJ:Res:=.row ja lf 41 2 (hD wAC cf.Splits)
 let g9:Res:=.row i9 lc 3 1 (hD KL.encI cf.Starts)
 let oh:Res:=.row jc lh 39 4 (hD wAB cf.Readings)
 have LP:sW w U j1 [g9,fJ,eV,oh,.blk cb 41 cm,.blk bQ 41 bO,.blk bD 41 bC,.blk bo 41 bz,bx,.blk ag 45 af,.blk ae 28 B7,B0,ba,bv,bw,ai] AA:=LO
 refine zQ (cs:=B6) Z Z Z Z Z yC Z LP ?_
 intro UZ dq LQ
 let jQ:List Value:=[.slice i9 cf.Starts.length lc,.slice ja cf.Splits.length lf,.slice jb cf.Clocks.length lg,.slice jc cf.Readings.length lh]
 refine zU (j:=0) (vs:=jQ) Z Z Z Z LQ Z Z Z Z zY (zA Z) Z Z Z ?_
 intro oB LS
 have vX:sW w U j1 [.blk dq 28 jQ,g9,fJ,eV,oh,.blk cb 41 cm,.blk bQ 41 bO,.blk bD 41 bC,.blk bo 41 bz,bx,.blk ag 45 af,.blk ae 28 B7,B0,ba,bv,bw,ai] oB:=LS
 refine eN (sR (wFk gAg) Z (oR Z (zE Z Z zI Z ZO) (oL Z (vX.ldB (j:=0) Z Z Z Zs (v:=.slice jc cf.Readings.length lh) Z) (oM Z Z (oM Z Z (oR Z (ZH (za Z Z Z) (congrArg (jV) wb.out)) (bnK QS fun gG Gw QT=>?_)))))))
 have LT:sW w U j1 [oh,.blk dq 28 jQ,g9,fJ,eV,.blk cb 41 cm,.blk bQ 41 bO,.blk bD 41 bC,.blk bo 41 bz,bx,.blk ag 45 af,.blk ae 28 B7,B0,ba,bv,bw,ai] oB:=vX.pick [4,0,1,2,3,5,6,7,8,9,10,11,12,13,14,15,16] _ (by decide) rfl
 refine zF 1 Z Z Z Z (zD Z Z Try.call36 (zB Z (zB Z (zB Z zJ))) Z) LT (fun hs=>wBV cf.Readings jc lh (↑dS:Int) (↑(dS + 1):Int) oB j1 hs Gw) (.inl Z) ?_
 rintro sG T2 Xp AD w8 LU ⟨jd,lj,rfl,rfl⟩
 let ib:Res:=.row jd lj 39 4 (hD wAB gG)
 have LV:sW w U sG [ib,.blk dq 28 jQ,g9,fJ,eV,.blk cb 41 cm,.blk bQ 41 bO,.blk bD 41 bC,.blk bo 41 bz,bx,.blk ag 45 af,.blk ae 28 B7,B0,ba,bv,bw,ai] AD:=LU
 refine oR Z (zE Z Z zI Z ZO) (zU (j:=1) (vs:=[.slice jd gG.length lj]) Z Z Z Z LV Z Z Z Z ZO (zA Z) Z Z Z ?_)
 intro fP LW
 let d7:List Value:=[.slice i9 cf.Starts.length lc,.slice ja cf.Splits.length lf,.slice jb cf.Clocks.length lg,.slice jd gG.length lj]
 have qb:sW w U sG [ib,.blk dq 28 d7,g9,fJ,eV,.blk cb 41 cm,.blk bQ 41 bO,.blk bD 41 bC,.blk bo 41 bz,bx,.blk ag 45 af,.blk ae 28 B7,B0,ba,bv,bw,ai] fP:=LW
 refine eN (sR (.fl 0 (.fl 1 (.fx 2 (wFd gAe) .stop))) Z (oL Z (qb.ldBA (j:=1) Z Z Z zf zY (vs:=d7) Z Z) (oL Z (qb.ldBA (j:=10) Z Z u4 ZY ZG (vs:=af) Z Z) ?_)))
 have q:=qb.freezeR (k:=2) (n:=cf.Starts.length) rfl (wAD (f:=KL.encI) (sz:=1) (fun _=>rfl) cf.Starts) (by decide)
 obtain ⟨x8,w9,Sh,LX⟩:=q
 have LY:sW w U x8 [ib,.blk dq 28 d7,fJ,eV,.blk cb 41 cm,.blk bQ 41 bO,.blk bD 41 bC,.blk bo 41 bz,bx,.blk ag 45 af,.blk ae 28 B7,B0,ba,bv,bw,ai] fP:=LX
 have q:=LY.freezeR (k:=2) (n:=cf.Splits.length) rfl (wAD (f:=wAC) (sz:=2) (fun _=>rfl) cf.Splits) (by decide)
 obtain ⟨yo,qC,Si,LZ⟩:=q
 have L2:sW w U yo [ib,.blk dq 28 d7,eV,.blk cb 41 cm,.blk bQ 41 bO,.blk bD 41 bC,.blk bo 41 bz,bx,.blk ag 45 af,.blk ae 28 B7,B0,ba,bv,bw,ai] fP:=LZ
 have q:=L2.freezeR (k:=2) (n:=cf.Clocks.length) rfl (wAD (f:=wAA) (sz:=3) (fun _=>rfl) cf.Clocks) (by decide)
 obtain ⟨yp,mg,Sj,L4⟩:=q
 have L6:sW w U yp [ib,.blk dq 28 d7,.blk cb 41 cm,.blk bQ 41 bO,.blk bD 41 bC,.blk bo 41 bz,bx,.blk ag 45 af,.blk ae 28 B7,B0,ba,bv,bw,ai] fP:=L4
 have q:=L6.freezeR (k:=0) (n:=gG.length) rfl (wAD (f:=wAB) (sz:=4) (fun _=>rfl) gG) (by decide)
 obtain ⟨sI,iQ,Sk,L8⟩:=q
 have Ma:sW w U sI [.blk dq 28 d7,.blk cb 41 cm,.blk bQ 41 bO,.blk bD 41 bC,.blk bo 41 bz,bx,.blk ag 45 af,.blk ae 28 B7,B0,ba,bv,bw,ai] fP:=L8
 have Gx:=Sh.le qC
 have Gy:=Gx.le mg
 have Gz:=Gy.le iQ
 have GA:=Si.le mg
 have GB:=GA.le iQ
 have GC:=Sj.le iQ
 have q:=bnd QT
 obtain ⟨⟨fw,xt⟩,GD,wu⟩:=q
 try dsimp only at wu
 refine zF 0 Z Z Z Z (zD Z Z yg (zB Z (zB Z zJ)) Z) Ma (fun hs=>wBS (⟨cf.Starts,cf.Splits,cf.Clocks,gG⟩:wAE) i9 lc ja lf jb lg jd lj cd fP sI hs Gz GB GC Sk GD) (.inr Z) ?_
 rintro fK T3 Xq AE xa Mb ⟨rfl,rfl⟩
 have Mc:sW w U fK [.blk dq 28 d7,.blk cb 41 cm,.blk bQ 41 bO,.blk bD 41 bC,.blk bo 41 bz,bx,.blk ag 45 af,.blk ae 28 B7,B0,ba,bv,bw,ai] AE:=Mb
 refine oM Z Z (oR Z (zT Z Z (v:=.agg #[jV fw.Lo,jV fw.Hi]) Z) (oR Z (zT Z Z (v:=jV xt) Z) (zQ (cs:=cr) Z Z Z Z Z zi Z Mc ?_)))
 intro U7 oU Md
 let jR:List Value:=[jV fw.Lo,jV fw.Hi]
 refine zU (j:=0) (vs:=jR) Z Z Z Z Md Z Z Z Z zZ (zA Z) Z Z Z ?_
 intro oG Me
 have Mf:sW w U fK [.blk oU 41 jR,.blk dq 28 d7,.blk cb 41 cm,.blk bQ 41 bO,.blk bD 41 bC,.blk bo 41 bz,bx,.blk ag 45 af,.blk ae 28 B7,B0,ba,bv,bw,ai] oG:=Me
 refine oA Z Z (eN (zM (yh fun ek dQ=>?_)))
 have CV:ek 5=.pointer (some ⟨ae,0,none⟩):=(dQ 5).trans u3
 have CW:ek 9=.pointer (some ⟨ag,0,none⟩):=(dQ 9).trans u4
 have lA:ek 17=.pointer (some ⟨bo,0,none⟩):=(dQ 17).trans CT
 have u6:ek 29=.slice gR fu.length iq:=(dQ 29).trans CU
 have CX:ek 30=jV (↑dS:Int):=(dQ 30).trans rfl
 have pE:ek 32=.pointer (some ⟨oU,0,none⟩):=(dQ 32).trans rfl
 have CY:ek 33=jV xt:=(dQ 33).trans rfl
 have CZ:ek 276=jV (↑bd.Readings.length:Int):=(dQ 276).trans u5
 have C0:ek 277=jV (↑dS:Int):=(dQ 277).trans pM
 clear dQ
 refine zt zu [3,3,3,3,1,3,1,3,3,3,3,1,3,1,3,3,3,3,3,2,1,1,3,3,3] (wJx (wIP gAh)) (by kernel_rfl) ?_
 have dw:=Mf.drew
 generalize hw_W1999:({ oG with drawn:=oG.drawn + 1 }:World)=AG at dw ⊢
 refine oM Z CY (oR Z (Ze Z Z Z) (oM Z Z (ifc wu ?_ ?_)))
 intro cR QU
 refine zc Z Z Z (zS Z Z (ZD (fun h=>h cR.out))) (fun _=>zE Z pE zX Z zC) (ZF Z Z Z (zS Z Z (ZD (fun h=>h cR.out))) (dw.ldB (j:=0) Z Z Z zG (v:=jV fw.Lo) Z) Z (zc Z Z Z (zS Z Z (ZD (fun h=>h cR.out))) (fun _=>zE Z lA zX Z zC) (ZF Z Z Z (zS Z Z (ZD (fun h=>h cR.out))) (dw.ldB (j:=5) Z Z Z zG (v:=jV dB.Lo) Z) Z (zc Z Z Z (zS Z Z (ZD (fun h=>h cR.out))) (fun _=>ye Z Z Z) (oR Z (zg Z (ZD (fun h=>h cR.out)) Z) (oM Z Z (ifc QU ?_ ?_)))))))
 intro cS QV
 refine oT Z cS (oT Z cS (oT Z cS (oT Z cS (oT Z cS (oR Z (zN Z (Zi cS.out) Z) (oM Z Z (oN Z (oN Z (oN Z (oN Z (oN Z (ZC Z Z Z (zV Z Z Z Z) (oN Z (oR Z (zN Z Z Z) (eN (ZI Z (sR fL1 Z (oA Z Z (eN (zR (zq (zW ?_))))))))))))))))))))))
 have q:=wAY QV
 obtain ⟨Tu,QW,BS⟩:=q
 have q:=wBY gj gh (lU Tu BS)
 obtain rfl:=q
 refine zW (zq (zW ?_))
 have hE:=hJ QW;first | subst r | cases hE
 exact ⟨rfl,_,(ZL rfl),fK,_,(dw.pick [] _ (by decide) rfl),rfl,rfl⟩
 intro cS QX
 refine rU Z (wF Z cS) (zE Z pE zX Z zC) (ZF Z Z Z (wF Z cS) (dw.ldB (j:=0) Z Z Z zG (v:=jV fw.Hi) Z) Z (rU Z (wF Z cS) (zE Z lA zX Z zC) (ZF Z Z Z (wF Z cS) (dw.ldB (j:=5) Z Z Z zG (v:=jV dB.Hi) Z) Z (rU Z (wF Z cS) (ze Z Z Z) (oR Z (zg Z (ZD cS.out) Z) (oM Z Z (ifc QX ?_ ?_)))))))
 intro ct QY
 refine oT Z ct (oT Z ct (oT Z ct (oT Z ct (oT Z ct (ZC Z Z Z (zV Z Z (Zi ct.out) Z) (oT Z ct (oR Z (zN Z (Zi ct.out) Z) (eN (ZI Z (sR fL1 Z (oA Z Z (eN (zR (zq (zW ?_)))))))))))))))
 have q:=wAY QY
 obtain ⟨Tv,QZ,BT⟩:=q
 have q:=wBY gj gh (lU Tv BT)
 obtain rfl:=q
 refine zW (zq (zW ?_))
 have hE:=hJ QZ;first | subst r | cases hE
 exact ⟨rfl,_,(ZL rfl),fK,_,(dw.pick [] _ (by decide) rfl),rfl,rfl⟩
 intro ct Q0
 refine zw Z Z Z (wF Z ct) Z u6 (zw Z Z Z (wF Z ct) Z CX (ZF Z Z Z (wF Z ct) (dw.ldBA (j:=0) Z Z pE Zn zZ (vs:=jR) Z Z) Z (ZF Z Z Z (wF Z ct) (dw.ldBA (j:=5) Z Z lA Zn zZ (vs:=bz) Z Z) Z (rU Z (wF Z ct) (ZH (yn (enc:=wAC) (a:=fw) (b:=dB) Z Z Z wHZ wHY) (congrArg nI (decide_not).symm)) ?_))))
 have GF:=Sg.le gw
 have GG:=GF.le w7
 have GH:=GG.le w8
 have GI:=GH.le w9
 have GJ:=GI.le qC
 have GK:=GJ.le mg
 have GL:=GK.le iQ
 have GM:=GL.le xa
 refine bnK Q0 fun X6 GN Q1=>zF 0 Z Z Z (wF Z ct) (zD Z Z Try.call26 (zB Z (zB Z zJ)) Z) dw (fun hs=>wCt fu gR iq (↑dS:Int) AG fK hs GM GN) (.inr Z) ?_
 rintro oj T4 Xr AI SZ Mg ⟨rfl,rfl⟩
 have vY:sW w U oj [.blk oU 41 jR,.blk dq 28 d7,.blk cb 41 cm,.blk bQ 41 bO,.blk bD 41 bC,.blk bo 41 bz,bx,.blk ag 45 af,.blk ae 28 B7,B0,ba,bv,bw,ai] AI:=Mg
 refine rU Z (wF Z ct) (Runs.neB Z Z Z Try.runUnderlying4) (oR Z (zg Z (ZD ct.out) Z) (eN (ifc Q1 ?_ ?_)))
 intro o6 Q2
 refine ZE (nC o6.out) (Zo (ZA (zL (rR fL2 Z (oR Z (ZH (za Z C0 Z) (congrArg (jV) wb.out)) (oM Z Z (zh ?_)))))))
 have q:=hJ Q2
 obtain rfl:=q
 exact zL ⟨rfl,_,rfl,⟨oj,rfl,CV,CW,lA,u6,CZ,((((((((gw.trans w7).trans w8).trans w9).trans qC).trans mg).trans iQ).trans xa).trans SZ),(vY.pick [2,3,4,5,6,7,8,9,10,11,12,13] _ (by decide) rfl)⟩⟩
 intro o6 Q3
 refine ZI (nF (o6.out)) (sR fL1 Z (oA Z Z (eN (zR (zq (zW ?_))))))
 have q:=wAY Q3
 obtain ⟨Tw,Q4,BU⟩:=q
 have q:=wBY gj gh (lU Tw BU)
 obtain rfl:=q
 refine zW (zq (zW ?_))
 have hE:=hJ Q4;first | subst r | cases hE
 exact ⟨rfl,_,(ZL rfl),oj,_,(vY.pick [] _ (by decide) rfl),rfl,rfl⟩
 intro cR Q5
 refine oT Z cR (oT Z cR (oT Z cR (oT Z cR (oT Z cR (oR Z (zN Z (Zi cR.out) Z) (oM Z Z (oN Z (oN Z (oN Z (oN Z (oN Z (oR Z (zN Z Z Z) (oM Z Z (oN Z (oN Z (oN Z (oN Z (oN Z (ZC Z Z Z (zV Z Z Z Z) (oN Z (oR Z (zN Z Z Z) (eN (ZI Z (sR fL1 Z (oA Z Z (eN (zR (zq (zW ?_)))))))))))))))))))))))))))))
 have q:=wAY Q5
 obtain ⟨Tx,Q6,BV⟩:=q
 have q:=wBY gj gh (lU Tx BV)
 obtain rfl:=q
 refine zW (zq (zW ?_))
 have hE:=hJ Q6;first | subst r | cases hE
 exact ⟨rfl,_,(ZL rfl),fK,_,(dw.pick [] _ (by decide) rfl),rfl,rfl⟩
 rintro ⟨⟩ Yw AJ ⟨yq,D0,VG,VH,VI,VJ,C1,WP,Mh⟩ PD
 have wv:=wCm gj gh PD
 try dsimp only at wv
 have BJ:Hid (¬ ((↑(((↑bd.Readings.length:Int):Int) - 0).toNat:Int) < (↑bd.Readings.length:Int))):=zO (wAc)
 refine sR fL1 Z (oR Z (ze Z D0 C1) (eN (zM (cF Z BJ (Zb (zo (zo (ZV (zL (sR gAa Z (bnK wv fun X7 GO Q7=>zF 0 Z Z Z Z (zD Z Z Try.call19 zJ Z) Mh (fun hs=>wDb AJ yq hs GO) (.inr Z) ?_)))))))))))
 rintro sJ T5 Xs AK WQ Mi ⟨rfl,rfl⟩
 have Mj:sW w U sJ [.blk cb 41 cm,.blk bQ 41 bO,.blk bD 41 bC,.blk bo 41 bz,bx,.blk ag 45 af,.blk ae 28 B7,B0,ba,bv,bw,ai] AK:=Mi
 refine oA Z Z (eN (zR ?_))
 have hE:=hJ Q7;first | subst r | cases hE
 exact ⟨rfl,_,(ZL rfl),sJ,_,(Mj.pick [] _ (by decide) rfl),rfl,rfl⟩
 intro o5 Q8
 refine cT Z o5 (sR fL1 Z (oA Z Z (eN (zR (zW ?_)))))
 have hE:=hJ Q8;first | subst r | cases hE
 exact ⟨rfl,_,(ZL rfl),sF,_,(qa.pick [] _ (by decide) rfl),rfl,rfl⟩
 intro o3 Q9
 refine cT Z o3 (sR fL1 Z (oA Z Z (eN (zR (zW ?_)))))
 have hE:=hJ Q9;first | subst r | cases hE
 exact ⟨rfl,_,(ZL rfl),sE,_,(iA.pick [] _ (by decide) rfl),rfl,rfl⟩
 intro cN Ra
 refine oT Z cN (oT Z cN (oT Z cN (oT Z cN (oT Z cN (oR Z (zN Z (Zi cN.out) Z) (oM Z Z (oN Z (oN Z (oN Z (oN Z (oN Z (oR Z (zN Z Z Z) (oM Z Z (oN Z (oN Z (oN Z (oN Z (oN Z (oR Z (zN Z Z Z) (oM Z Z (oN Z (oN Z (oN Z (oN Z (oN Z (oR Z (zN Z Z Z) (eN (ZI Z (sR fL1 Z (oA Z Z (eN (zR (zW ?_)))))))))))))))))))))))))))))))))
 have hE:=hJ Ra;first | subst r | cases hE
 exact ⟨rfl,_,(ZL rfl),de,_,(cw.pick [] _ (by decide) rfl),rfl,rfl⟩
 intro e0 Rb
 refine oT Z e0 (oT Z e0 (oR Z (zN Z (Zi e0.out) Z) (oM Z Z (oN Z (oN Z (oN Z (oN Z (oN Z (oR Z (zN Z Z Z) (oM Z Z (oN Z (oN Z (oN Z (oN Z (oN Z (oR Z (zN Z Z Z) (oM Z Z (oN Z (oN Z (oN Z (oN Z (oN Z (oR Z (zN Z Z Z) (oM Z Z (oN Z (oN Z (oN Z (oN Z (oN Z (oR Z (zN Z Z Z) (eN (ZI Z (sR fL1 Z (oA Z Z (eN (zR (zW ?_)))))))))))))))))))))))))))))))))))))
 have hE:=hJ Rb;first | subst r | cases hE
 exact ⟨rfl,_,(ZL rfl),de,_,(cw.pick [] _ (by decide) rfl),rfl,rfl⟩
 intro eZ Rc
 refine oT Z eZ (oT Z eZ (oR Z (zN Z (Zi eZ.out) Z) (oM Z Z (oN Z (oN Z (oR Z (zN Z Z Z) (oM Z Z (oN Z (oN Z (oN Z (oN Z (oN Z (oR Z (zN Z Z Z) (oM Z Z (oN Z (oN Z (oN Z (oN Z (oN Z (oR Z (zN Z Z Z) (oM Z Z (oN Z (oN Z (oN Z (oN Z (oN Z (oR Z (zN Z Z Z) (oM Z Z (oN Z (oN Z (oN Z (oN Z (oN Z (oR Z (zN Z Z Z) (eN (ZI Z (sR fL1 Z (oA Z Z (eN (zR (zW ?_)))))))))))))))))))))))))))))))))))))))))
 have hE:=hJ Rc;first | subst r | cases hE
 exact ⟨rfl,_,(ZL rfl),de,_,(cw.pick [] _ (by decide) rfl),rfl,rfl⟩
 intro eY Rd
 refine oT Z eY (oT Z eY (oR Z (zN Z (Zi eY.out) Z) (oM Z Z (oN Z (oN Z (oR Z (zN Z Z Z) (oM Z Z (oN Z (oN Z (oR Z (zN Z Z Z) (oM Z Z (oN Z (oN Z (oN Z (oN Z (oN Z (oR Z (zN Z Z Z) (oM Z Z (oN Z (oN Z (oN Z (oN Z (oN Z (oR Z (zN Z Z Z) (oM Z Z (oN Z (oN Z (oN Z (oN Z (oN Z (oR Z (zN Z Z Z) (oM Z Z (oN Z (oN Z (oN Z (oN Z (oN Z (oR Z (zN Z Z Z) (eN (ZI Z (sR fL1 Z (oA Z Z (eN (zR (zW ?_)))))))))))))))))))))))))))))))))))))))))))))
 have hE:=hJ Rd;first | subst r | cases hE
 exact ⟨rfl,_,(ZL rfl),de,_,(cw.pick [] _ (by decide) rfl),rfl,rfl⟩
 intro oX Re
 refine cF Z oX (kN (zM (sR fL4 Z (oR Z (zE Z lw zI Z Zl) (oL Z (gf.ldB (j:=13) Z Z Z yD (v:=.slice bn cA.length bq) Z) (oR Z (zx Z Z ZS) (oM Z Z (eN (zd ?_)))))))))
 have q:=bnd Re
 obtain ⟨⟨Ym,Yn,Yo,dW⟩,PO,wx⟩:=q
 try dsimp only at wx
 have q:=wAx PO
 obtain ⟨qy,PP⟩:=q
 replace qy:=zO qy
 refine CK.forN' (fun av (iL,qT,qU,a8) σ_ w_=>∃ (U_:PHeap) (je:Option Addr) (lk:Nat),σ_ 97=jV (↑av:Int)/\σ_ 5=.pointer (some ⟨ae,0,none⟩)/\σ_ 8=.pointer (some ⟨ap,0,none⟩)/\σ_ 9=.pointer (some ⟨ag,0,none⟩)/\σ_ 10=.pointer (some ⟨dK,0,none⟩)/\σ_ 11=.pointer (some ⟨bJ,0,none⟩)/\σ_ 12=.pointer (some ⟨dp,0,none⟩)/\σ_ 96=jV (↑cA.length:Int)/\PHeap.Le d9 U_/\sW w U U_ [.blk ap 94 [.slice je iL.length lk,jV qT,.int .u32 qU],.blk ag 45 af,.blk ae 28 B7,B0,az,ay,ax,bh,aw,aq,bi,.row bn bq 43 3 (hD wAA a8),ao,.blk bJ 28 [.slice bH bF.length bL,.slice bj bY.length bk,.slice bn a8.length bq,.slice bI bG.length bM],an,am,ak,aj,a9,ai] w_/\Sl U_ 1 je lk iL.length (hD KL.encB8 iL)/\a8.length=cA.length) PP ?_ ?_ ?_
 exact ⟨d9,fC,fV,rfl,uL,uM,uN,lv,lw,uO,rfl,(zP _),(gf.pick [0,1,2,3,4,5,6,7,8,9,10,11,12,13,14,15,16,17,18,20] _ (by decide) rfl),vq,rfl⟩
 rintro av ⟨iL,qT,qU,a8⟩ Yf Yx tn qq ⟨yr,je,lk,pN,C2,lB,C3,C4,u7,C5,u9,S0,qc,GP,GQ⟩ wX
 try dsimp only at wX
 have t5:Hid ((↑av:Int) < (↑cA.length:Int)):=zO (wAs qq)
 replace qq:=zO qq
 have Qk:Hid (w64 ((↑av:Int) + 1)=(↑(av + 1):Int)):=zO (by have h1:=qy.out;have h2:=t5.out;rw [wAU] <;> omega)
 refine sR fL1 Z (oR Z (ze Z pN u9) (eN (zM (cT Z t5 (kN (zM (zd (sR fL2 Z (oM Z pN (oA Z Z (eN (sR fL5 Z (oR Z (zE Z u7 zI Z Zl) (oL Z (qc.ldB (j:=13) Z Z Z yD (v:=.slice bn a8.length bq) Z) (oM Z Z (bnK wX fun _ dh Rf=>?_))))))))))))))))
 obtain ⟨Vz,ge⟩:=qc.rowSome (j:=11) rfl (by rw [wAD (f:=wAA) (sz:=3) (fun _=>rfl) a8];have hz:=wAS dh;omega)
 refine zc rfl rfl rfl rfl (fun _=>Zk rfl rfl ge rfl ZS yA (wAS dh)) (yI rfl rfl rfl rfl rfl rfl (eN (zM (zt zu [3,3,3,1004,3,1005,3,3,3,0,ap] (wFk (.fx 5 (wLi (.fx 9 .nil .stop)) .stop)) (by kernel_rfl) ?_))))
 have qd:=qc.drew
 generalize hw_W2156:({ tn with drawn:=tn.drawn + 1 }:World)=AL at qd ⊢
 refine oM Z Z (oR Z (ZT Z Z) (oR Z (zE Z Z Zc Z zC) ?_))
 have P8:=wBL (xs:=a8) (wAS dh)
 let jS:Res:=.blk bJ 28 [.slice bH bF.length bL,.slice bj bY.length bk,.slice bn a8.length bq,.slice bI bG.length bM]
 let so:Res:=.row bn bq 43 3 (hD wAA a8)
 refine yW (T:=[ap]) [0] [1,2,3,4,5,6,7,8,9,10,11,12,13,14,15,16,17,18,19] [.blk ag 45 af,.blk ae 28 B7,B0,az,ay,ax,bh,aw,aq,bi,so,ao,jS,an,am,ak,aj,a9,ai] rfl rfl rfl rfl qd rfl ⟨⟨0,by decide,_,rfl,rfl⟩,trivial⟩ (by decide) rfl (by decide) (fun _ Pk=>(Pk.ldR (j:=10) rfl ge rfl rfl zG (wAV (sz:=3) (fun _=>rfl) _ _ 2 _ P8 (by first | omega | rfl | simp) rfl))) rfl (zw rfl rfl rfl rfl rfl lB ?_)
 have q:=bnd Rf
 obtain ⟨⟨ca,mI⟩,GR,wy⟩:=q
 try dsimp only at wy
 refine Zt 1 rfl rfl rfl rfl (zD rfl rfl ZZ (zB rfl (zB rfl zJ)) rfl) qd (fun hs=>wAN (⟨iL,qT,qU⟩:wAI) ap je lk 9 AL yr hs GP GR) rfl (T:=[ap]) rfl ⟨fun b h=>(by cases h;exact .head _),trivial⟩ ?_
 rintro j2 T6 Xt AM S1 Mk ⟨rh,t6,rfl,rfl,GS⟩
 let jU:Res:=.blk ap 94 [.slice rh mI.bytes.length t6,jV mI.next,.int .u32 mI.state]
 have Ml:sW w U j2 [jU,.blk ag 45 af,.blk ae 28 B7,B0,az,ay,ax,bh,aw,aq,bi,so,ao,jS,an,am,ak,aj,a9,ai] AM:=Mk
 refine oR Z (za Z Z Z) (oR Z (ZT Z Z) (oR Z (zE Z Z Zc Z zC) ?_))
 have P9:=wBL (xs:=a8) (wAS dh)
 refine ya (j:=11) (vs:=[jV (w64 (((gd a8 av).Error) + ca))]) (cs':=hD wAA (hH a8 av (⟨((gd a8 av).Offset),w64 (((gd a8 av).Error) + ca)⟩:wAG))) rfl rfl rfl rfl Ml rfl ge rfl rfl rfl zC (by rw [wAD (f:=wAA) (sz:=3) (fun _=>rfl)];have hz:=wAS dh;show _ + 1 <= _;first | omega | (simp only [nH];omega) | (simp only [nE,nB,nD];omega)) rfl (wCH (sz:=3) (fo:=2) (fun _=>rfl) _ _ _ _ P9 (by first | omega | (simp only [nH];omega) | (simp only [nE,nB,nD];omega)) (zA rfl) rfl) rfl ?_
 intro k5 Mm
 let eX:Res:=.row bn bq 43 3 (hD wAA (hH a8 av (⟨((gd a8 av).Offset),w64 (((gd a8 av).Error) + ca)⟩:wAG)))
 have Mn:sW w U j2 [jU,.blk ag 45 af,.blk ae 28 B7,B0,az,ay,ax,bh,aw,aq,bi,eX,ao,jS,an,am,ak,aj,a9,ai] k5:=Mm
 let er:Res:=.blk bJ 28 [.slice bH bF.length bL,.slice bj bY.length bk,.slice bn ((hH a8 av (⟨((gd a8 av).Offset),w64 (((gd a8 av).Error) + ca)⟩:wAG)).length) bq,.slice bI bG.length bM]
 have Mo:sW w U j2 [jU,.blk ag 45 af,.blk ae 28 B7,B0,az,ay,ax,bh,aw,aq,bi,eX,ao,er,an,am,ak,aj,a9,ai] k5:=by simpa only [B0,af,aw,a9,aj,ak,am,ao,an,ax,ay,aq,az,bh,bi,ai,B7,jS,jU,eX,er,nA] using Mn
 refine eN (zt zu [3,3,3,3,3,1004,3,1005,3,3,3,3,3,1004,3,1005,3,3,3,3,0,ap] (wGc (wLE (.fx 7 (.fl 8 (.fx 15 (wKA (.fx 20 .nil .stop)) .stop)) .stop))) (by kernel_rfl) ?_)
 have lR:=Mo.drew
 generalize hw_W2218:({ k5 with drawn:=k5.drawn + 1 }:World)=AN at lR ⊢
 refine oM Z Z (oM Z Z (oR Z (ZT Z Z) (oR Z (zE Z Z Zc Z zZ) (oR Z (zE Z Z zX Z zC) ?_))))
 have Qa:=wBL (xs:=(hH a8 av (⟨((gd a8 av).Offset),w64 (((gd a8 av).Error) + ca)⟩:wAG))) (by first | exact wAS dh | (have hz:=wAS dh;simpa only [nA] using hz))
 refine yW (T:=[ap]) [0] [1,2,3,4,5,6,7,8,9,10,11,12,13,14,15,16,17,18,19] [.blk ag 45 af,.blk ae 28 B7,B0,az,ay,ax,bh,aw,aq,bi,eX,ao,er,an,am,ak,aj,a9,ai] rfl rfl rfl rfl lR rfl ⟨⟨0,by decide,_,rfl,rfl⟩,trivial⟩ (by decide) rfl (by decide) (fun _ Pm=>(Pm.ldR (j:=10) rfl ge rfl rfl zG (wAV (sz:=3) (fun _=>rfl) _ _ 0 _ Qa (by first | omega | rfl | simp) rfl))) rfl (zw rfl rfl rfl rfl rfl lB (zw rfl rfl rfl rfl rfl rfl (zc rfl rfl rfl rfl (fun _=>ZT rfl rfl) (zc rfl rfl rfl rfl (fun _=>zE rfl rfl Zc rfl zZ) (zc rfl rfl rfl rfl (fun _=>zE rfl rfl zX rfl zC) ?_)))))
 have Qb:=wBL (xs:=(hH a8 av (⟨((gd a8 av).Offset),w64 (((gd a8 av).Error) + ca)⟩:wAG))) (by first | exact wAS dh | (have hz:=wAS dh;simpa only [nA] using hz))
 refine yW (T:=[ap]) [0] [1,2,3,4,5,6,7,8,9,10,11,12,13,14,15,16,17,18,19] [.blk ag 45 af,.blk ae 28 B7,B0,az,ay,ax,bh,aw,aq,bi,eX,ao,er,an,am,ak,aj,a9,ai] rfl rfl rfl rfl lR rfl ⟨⟨0,by decide,_,rfl,rfl⟩,trivial⟩ (by decide) rfl (by decide) (fun _ Pn=>(Pn.ldR (j:=10) rfl ge rfl rfl zG (wAV (sz:=3) (fun _=>rfl) _ _ 1 _ Qb (by first | omega | rfl | simp) rfl))) rfl (zw rfl rfl rfl rfl rfl lB ?_)
 have q:=bnd wy
 obtain ⟨⟨i4,mJ⟩,GT,wz⟩:=q
 try dsimp only at wz
 refine Zt 1 rfl rfl rfl rfl (zD rfl rfl ZZ (zB rfl (zB rfl zJ)) rfl) lR (fun hs=>wAN mI ap rh t6 9 AN j2 hs GS GT) rfl (T:=[ap]) rfl ⟨fun b h=>(by cases h;exact .head _),trivial⟩ ?_
 rintro sK T7 Xu tp S2 Mp ⟨ri,t7,rfl,rfl,GU⟩
 have Mq:sW w U sK [.blk ap 94 [.slice ri mJ.bytes.length t7,jV mJ.next,.int .u32 mJ.state],.blk ag 45 af,.blk ae 28 B7,B0,az,ay,ax,bh,aw,aq,bi,eX,ao,er,an,am,ak,aj,a9,ai] tp:=Mp
 refine oR Z (yP Z Z Z) ?_
 have q:=bnd wz
 obtain ⟨⟨i5,qV⟩,GV,wA⟩:=q
 try dsimp only at wA
 refine Zt 1 rfl rfl rfl rfl (zD rfl rfl ZZ (zB rfl (zB rfl zJ)) rfl) Mq (fun hs=>wAN mJ ap ri t7 9 tp sK hs GU GV) rfl (T:=[ap]) rfl ⟨fun b h=>(by cases h;exact .head _),trivial⟩ ?_
 rintro j3 T8 Xv AP S3 Mr ⟨rj,t8,rfl,rfl,GW⟩
 let jm:Res:=.blk ap 94 [.slice rj qV.bytes.length t8,jV qV.next,.int .u32 qV.state]
 have Ms:sW w U j3 [jm,.blk ag 45 af,.blk ae 28 B7,B0,az,ay,ax,bh,aw,aq,bi,eX,ao,er,an,am,ak,aj,a9,ai] AP:=Mr
 refine oR Z (za Z Z Z) ?_
 let r7:List Value:=[jV (w64 ((((gd (hH a8 av (⟨((gd a8 av).Offset),w64 (((gd a8 av).Error) + ca)⟩:wAG)) av).Offset).Lo) - i4)),jV (w64 ((((gd (hH a8 av (⟨((gd a8 av).Offset),w64 (((gd a8 av).Error) + ca)⟩:wAG)) av).Offset).Hi) + i5))]
 refine oR Z (zk (pv:=[(0,jV (w64 ((((gd (hH a8 av (⟨((gd a8 av).Offset),w64 (((gd a8 av).Error) + ca)⟩:wAG)) av).Offset).Lo) - i4))),(1,jV (w64 ((((gd (hH a8 av (⟨((gd a8 av).Offset),w64 (((gd a8 av).Error) + ca)⟩:wAG)) av).Offset).Hi) + i5)))]) (z:=cr) (cs:=r7) Z (wAH Z (wAH Z wAO)) zi wBd Z Z) (oR Z (ZT Z Z) (oR Z (zE Z Z Zc Z zZ) ?_))
 have Qc:=wBL (xs:=(hH a8 av (⟨((gd a8 av).Offset),w64 (((gd a8 av).Error) + ca)⟩:wAG))) (by first | exact wAS dh | (have hz:=wAS dh;simpa only [nA] using hz))
 refine ya (j:=11) (vs:=r7) (cs':=hD wAA (hH (hH a8 av (⟨((gd a8 av).Offset),w64 (((gd a8 av).Error) + ca)⟩:wAG)) av (⟨(⟨w64 ((((gd (hH a8 av (⟨((gd a8 av).Offset),w64 (((gd a8 av).Error) + ca)⟩:wAG)) av).Offset).Lo) - i4),w64 ((((gd (hH a8 av (⟨((gd a8 av).Offset),w64 (((gd a8 av).Error) + ca)⟩:wAG)) av).Offset).Hi) + i5)⟩:wAF),(gd (hH a8 av (⟨((gd a8 av).Offset),w64 (((gd a8 av).Error) + ca)⟩:wAG)) av).Error⟩:wAG))) rfl rfl rfl rfl Ms rfl ge rfl rfl rfl zZ (by rw [wAD (f:=wAA) (sz:=3) (fun _=>rfl)];have hz:=wAS dh;show _ + 2 <= _;first | omega | (simp only [nA];omega) | (simp only [nE,nB,nD,nA];omega) | (simp only [nH];omega) | (simp only [nE,nB,nD];omega)) rfl (wCH (sz:=3) (fo:=0) (fun _=>rfl) _ _ _ _ Qc (by first | omega | (simp only [nH];omega) | (simp only [nE,nB,nD];omega)) (zA rfl) rfl) rfl ?_
 intro tq Mt
 let m7:Res:=.row bn bq 43 3 (hD wAA (hH (hH a8 av (⟨((gd a8 av).Offset),w64 (((gd a8 av).Error) + ca)⟩:wAG)) av (⟨(⟨w64 ((((gd (hH a8 av (⟨((gd a8 av).Offset),w64 (((gd a8 av).Error) + ca)⟩:wAG)) av).Offset).Lo) - i4),w64 ((((gd (hH a8 av (⟨((gd a8 av).Offset),w64 (((gd a8 av).Error) + ca)⟩:wAG)) av).Offset).Hi) + i5)⟩:wAF),(gd (hH a8 av (⟨((gd a8 av).Offset),w64 (((gd a8 av).Error) + ca)⟩:wAG)) av).Error⟩:wAG)))
 have Mw:sW w U j3 [jm,.blk ag 45 af,.blk ae 28 B7,B0,az,ay,ax,bh,aw,aq,bi,m7,ao,er,an,am,ak,aj,a9,ai] tq:=Mt
 have Mx:sW w U j3 [jm,.blk ag 45 af,.blk ae 28 B7,B0,az,ay,ax,bh,aw,aq,bi,m7,ao,.blk bJ 28 [.slice bH bF.length bL,.slice bj bY.length bk,.slice bn ((hH (hH a8 av (⟨((gd a8 av).Offset),w64 (((gd a8 av).Error) + ca)⟩:wAG)) av (⟨(⟨w64 ((((gd (hH a8 av (⟨((gd a8 av).Offset),w64 (((gd a8 av).Error) + ca)⟩:wAG)) av).Offset).Lo) - i4),w64 ((((gd (hH a8 av (⟨((gd a8 av).Offset),w64 (((gd a8 av).Error) + ca)⟩:wAG)) av).Offset).Hi) + i5)⟩:wAF),(gd (hH a8 av (⟨((gd a8 av).Offset),w64 (((gd a8 av).Error) + ca)⟩:wAG)) av).Error⟩:wAG)).length) bq,.slice bI bG.length bM],an,am,ak,aj,a9,ai] tq:=by simpa only [B0,jm,m7,af,aw,a9,aj,ak,am,ao,an,ax,ay,aq,az,bh,bi,ai,B7,er,nA] using Mw
 refine zh (ZA (zL (rR fL2 Z (oR Z (ZH (za Z pN Z) (congrArg (jV) Qk.out)) (oM Z Z (zh ?_))))))
 cases wA
 exact zL ⟨Z,⟨j3,rj,t8,Z,C2,lB,C3,C4,u7,C5,u9,(((S0.trans S1).trans S2).trans S3),Mx,GW,((nA.trans nA).trans GQ)⟩⟩
 rintro Yy Va ⟨sM,xI,BK,D1,C6,C7,C8,C9,va,Da,Db,mh,vZ,GX,WL⟩
 have BL:Hid (¬ ((↑(((↑cA.length:Int):Int) - 0).toNat:Int) < (↑cA.length:Int))):=zO (wAc)
 refine sR fL1 Z (oR Z (ze Z D1 Db) (eN (zM (cF Z BL (Zb (zo (zo (ZV (zL (zM (sR fL4 Z (oR Z (zE Z va zI Z Zj) (oL Z (vZ.ldB (j:=13) Z Z Z Zr (v:=.slice bj bY.length bk) Z) (oR Z (zx Z Z zn) (oM Z Z (eN (zd ?_)))))))))))))))))
 have q:=bnd wx
 obtain ⟨⟨TH,TI,TJ,gO⟩,PQ,wB⟩:=q
 try dsimp only at wB
 have q:=wAx PQ
 obtain ⟨qz,PR⟩:=q
 replace qz:=zO qz
 let bT:Res:=.row bn bq 43 3 (hD wAA dW)
 refine CK.forN' (fun bc (iM,qW,qX,bg) σ_ w_=>∃ (U_:PHeap) (jf:Option Addr) (ll:Nat),σ_ 137=jV (↑bc:Int)/\σ_ 5=.pointer (some ⟨ae,0,none⟩)/\σ_ 8=.pointer (some ⟨ap,0,none⟩)/\σ_ 9=.pointer (some ⟨ag,0,none⟩)/\σ_ 10=.pointer (some ⟨dK,0,none⟩)/\σ_ 11=.pointer (some ⟨bJ,0,none⟩)/\σ_ 12=.pointer (some ⟨dp,0,none⟩)/\σ_ 136=jV (↑bY.length:Int)/\PHeap.Le sM U_/\sW w U U_ [.blk ap 94 [.slice jf iM.length ll,jV qW,.int .u32 qX],.blk ag 45 af,.blk ae 28 B7,B0,az,ay,ax,bh,aw,aq,.row bj bk 41 2 (hD wAC bg),bT,ao,.blk bJ 28 [.slice bH bF.length bL,.slice bj bg.length bk,.slice bn dW.length bq,.slice bI bG.length bM],an,am,ak,aj,a9,ai] w_/\Sl U_ 1 jf ll iM.length (hD KL.encB8 iM)/\bg.length=bY.length) PR ?_ ?_ ?_
 exact ⟨sM,xI,BK,Z,C6,C7,C8,C9,va,Da,Z,(zP _),vZ,GX,Z⟩
 rintro bc ⟨iM,qW,qX,bg⟩ Yg Yz tr qr ⟨yt,jf,ll,pO,Dc,pF,Dd,De,pG,Df,vb,S4,My,GY,GZ⟩ wY
 try dsimp only at wY
 have t9:Hid ((↑bc:Int) < (↑bY.length:Int)):=zO (wAs qr)
 replace qr:=zO qr
 have Ql:Hid (w64 ((↑bc:Int) + 1)=(↑(bc + 1):Int)):=zO (by have h1:=qz.out;have h2:=t9.out;rw [wAU] <;> omega)
 refine sR fL1 rfl (zc rfl rfl rfl rfl (fun _=>ze rfl pO vb) (eN (zM (cT Z t9 (kN (zM (zd (sR fL2 rfl (zw rfl rfl rfl rfl rfl pO (yI rfl rfl rfl rfl rfl rfl (eN (zM (zt zu [3,1004,3,3,3,1004,3,1005,3,3,3,0,ap] (wGc (.fx 7 (wGm (.fx 11 .nil .stop)) .stop)) (by kernel_rfl) ?_)))))))))))))
 have iB:=My.drew
 generalize hw_W2371:({ tr with drawn:=tr.drawn + 1 }:World)=AQ at iB ⊢
 refine oR Z (zE Z pG zI Z Zj) ?_
 let gU:Res:=.blk bJ 28 [.slice bH bF.length bL,.slice bj bg.length bk,.slice bn dW.length bq,.slice bI bG.length bM]
 let m8:Res:=.row bj bk 41 2 (hD wAC bg)
 refine yW (T:=[ap]) [0] [1,2,3,4,5,6,7,8,9,10,11,12,13,14,15,16,17,18,19] [.blk ag 45 af,.blk ae 28 B7,B0,az,ay,ax,bh,aw,aq,m8,bT,ao,gU,an,am,ak,aj,a9,ai] rfl rfl rfl rfl iB rfl ⟨⟨0,by decide,_,rfl,rfl⟩,trivial⟩ (by decide) rfl (by decide) (fun _ Po=>(Po.ldB (j:=12) rfl rfl rfl Zr (v:=.slice bj bg.length bk) rfl)) rfl (zw rfl rfl rfl rfl rfl rfl (bnK wY fun _ f9 Rg=>?_))
 obtain ⟨VA,ey⟩:=iB.rowSome (j:=10) rfl (by rw [wAD (f:=wAC) (sz:=2) (fun _=>rfl) bg];have hz:=wAS f9;omega)
 refine oR Z (Zk Z Z ey Z zn zZ (wAS f9)) (oR Z (zE Z Z zX Z zC) ?_)
 have Qd:=wBL (xs:=bg) (wAS f9)
 refine yW (T:=[ap]) [0] [1,2,3,4,5,6,7,8,9,10,11,12,13,14,15,16,17,18,19] [.blk ag 45 af,.blk ae 28 B7,B0,az,ay,ax,bh,aw,aq,m8,bT,ao,gU,an,am,ak,aj,a9,ai] rfl rfl rfl rfl iB rfl ⟨⟨0,by decide,_,rfl,rfl⟩,trivial⟩ (by decide) rfl (by decide) (fun _ Pp=>(Pp.ldR (j:=9) rfl ey rfl rfl zG (wAV (sz:=2) (fun _=>rfl) _ _ 0 _ Qd (by first | omega | rfl | simp) rfl))) rfl (zw rfl rfl rfl rfl rfl pF ?_)
 have q:=bnd Rg
 obtain ⟨⟨cz,mK⟩,G0,wC⟩:=q
 try dsimp only at wC
 refine Zt 1 rfl rfl rfl rfl (zD rfl rfl ZZ (zB rfl (zB rfl zJ)) rfl) iB (fun hs=>wAN (⟨iM,qW,qX⟩:wAI) ap jf ll 9 AQ yt hs GY G0) rfl (T:=[ap]) rfl ⟨fun b h=>(by cases h;exact .head _),trivial⟩ ?_
 rintro j4 Ua Xw AS S5 Mz ⟨rk,ua,rfl,rfl,G1⟩
 let jo:Res:=.blk ap 94 [.slice rk mK.bytes.length ua,jV mK.next,.int .u32 mK.state]
 have MA:sW w U j4 [jo,.blk ag 45 af,.blk ae 28 B7,B0,az,ay,ax,bh,aw,aq,m8,bT,ao,gU,an,am,ak,aj,a9,ai] AS:=Mz
 refine oR Z (yP Z Z Z) (oR Z (Zk Z Z ey Z zn zZ (wAS f9)) (oR Z (zE Z Z zX Z zC) ?_))
 have Qe:=wBL (xs:=bg) (wAS f9)
 refine ya (j:=10) (vs:=[jV (w64 (((gd bg bc).Lo) - cz))]) (cs':=hD wAC (hH bg bc (⟨w64 (((gd bg bc).Lo) - cz),(gd bg bc).Hi⟩:wAF))) rfl rfl rfl rfl MA rfl ey rfl rfl rfl zC (by rw [wAD (f:=wAC) (sz:=2) (fun _=>rfl)];have hz:=wAS f9;show _ + 1 <= _;first | omega | (simp only [nH];omega) | (simp only [nE,nB,nD];omega)) rfl (wCH (sz:=2) (fo:=0) (fun _=>rfl) _ _ _ _ Qe (by first | omega | (simp only [nH];omega) | (simp only [nE,nB,nD];omega)) (zA rfl) rfl) rfl ?_
 intro k6 MB
 let fD:Res:=.row bj bk 41 2 (hD wAC (hH bg bc (⟨w64 (((gd bg bc).Lo) - cz),(gd bg bc).Hi⟩:wAF)))
 have MC:sW w U j4 [jo,.blk ag 45 af,.blk ae 28 B7,B0,az,ay,ax,bh,aw,aq,fD,bT,ao,gU,an,am,ak,aj,a9,ai] k6:=MB
 let eI:Res:=.blk bJ 28 [.slice bH bF.length bL,.slice bj ((hH bg bc (⟨w64 (((gd bg bc).Lo) - cz),(gd bg bc).Hi⟩:wAF)).length) bk,.slice bn dW.length bq,.slice bI bG.length bM]
 have MD:sW w U j4 [jo,.blk ag 45 af,.blk ae 28 B7,B0,az,ay,ax,bh,aw,aq,fD,bT,ao,eI,an,am,ak,aj,a9,ai] k6:=by simpa only [B0,bT,gU,jo,fD,eI,af,aw,a9,aj,ak,am,ao,an,ax,ay,aq,az,bh,ai,B7,nA] using MC
 refine eN (zt zu [3,1004,3,3,3,1004,3,1005,3,3,3,0,ap] (wGc (.fx 7 (wGm (.fx 11 .nil .stop)) .stop)) (by kernel_rfl) ?_)
 have lS:=MD.drew
 generalize hw_W2424:({ k6 with drawn:=k6.drawn + 1 }:World)=AT at lS ⊢
 refine zc rfl rfl rfl rfl (fun _=>zE rfl pG zI rfl Zj) (yW (T:=[ap]) [0] [1,2,3,4,5,6,7,8,9,10,11,12,13,14,15,16,17,18,19] [.blk ag 45 af,.blk ae 28 B7,B0,az,ay,ax,bh,aw,aq,fD,bT,ao,eI,an,am,ak,aj,a9,ai] rfl rfl rfl rfl lS rfl ⟨⟨0,by decide,_,rfl,rfl⟩,trivial⟩ (by decide) rfl (by decide) (fun _ Pq=>(Pq.ldB (j:=12) rfl rfl rfl Zr (v:=.slice bj ((hH bg bc (⟨w64 (((gd bg bc).Lo) - cz),(gd bg bc).Hi⟩:wAF)).length) bk) rfl)) rfl (zw rfl rfl rfl rfl rfl rfl (bnK wC fun _ fj Rh=>zc rfl rfl rfl rfl (fun _=>Zk rfl rfl ey rfl zn zZ (wAS fj)) (zc rfl rfl rfl rfl (fun _=>zE rfl rfl zX rfl zC) ?_))))
 have Qf:=wBL (xs:=(hH bg bc (⟨w64 (((gd bg bc).Lo) - cz),(gd bg bc).Hi⟩:wAF))) (by first | exact wAS fj | (have hz:=wAS fj;simpa only [nA] using hz))
 refine yW (T:=[ap]) [0] [1,2,3,4,5,6,7,8,9,10,11,12,13,14,15,16,17,18,19] [.blk ag 45 af,.blk ae 28 B7,B0,az,ay,ax,bh,aw,aq,fD,bT,ao,eI,an,am,ak,aj,a9,ai] rfl rfl rfl rfl lS rfl ⟨⟨0,by decide,_,rfl,rfl⟩,trivial⟩ (by decide) rfl (by decide) (fun _ Pr=>(Pr.ldR (j:=9) rfl ey rfl rfl zG (wAV (sz:=2) (fun _=>rfl) _ _ 1 _ Qf (by first | omega | rfl | simp) rfl))) rfl (zw rfl rfl rfl rfl rfl pF ?_)
 have q:=bnd Rh
 obtain ⟨⟨mL,qY⟩,G2,wD⟩:=q
 try dsimp only at wD
 refine Zt 1 rfl rfl rfl rfl (zD rfl rfl ZZ (zB rfl (zB rfl zJ)) rfl) lS (fun hs=>wAN mK ap rk ua 9 AT j4 hs G1 G2) rfl (T:=[ap]) rfl ⟨fun b h=>(by cases h;exact .head _),trivial⟩ ?_
 rintro j5 Ub Xy AU S6 ME ⟨rn,ub,rfl,rfl,G3⟩
 let jp:Res:=.blk ap 94 [.slice rn qY.bytes.length ub,jV qY.next,.int .u32 qY.state]
 have MF:sW w U j5 [jp,.blk ag 45 af,.blk ae 28 B7,B0,az,ay,ax,bh,aw,aq,fD,bT,ao,eI,an,am,ak,aj,a9,ai] AU:=ME
 refine oR Z (za Z Z Z) (oR Z (Zk Z Z ey Z zn zZ (wAS fj)) (oR Z (zE Z Z zX Z zC) ?_))
 have Qg:=wBL (xs:=(hH bg bc (⟨w64 (((gd bg bc).Lo) - cz),(gd bg bc).Hi⟩:wAF))) (by first | exact wAS fj | (have hz:=wAS fj;simpa only [nA] using hz))
 refine ya (j:=10) (vs:=[jV (w64 (((gd (hH bg bc (⟨w64 (((gd bg bc).Lo) - cz),(gd bg bc).Hi⟩:wAF)) bc).Hi) + mL))]) (cs':=hD wAC (hH (hH bg bc (⟨w64 (((gd bg bc).Lo) - cz),(gd bg bc).Hi⟩:wAF)) bc (⟨(gd (hH bg bc (⟨w64 (((gd bg bc).Lo) - cz),(gd bg bc).Hi⟩:wAF)) bc).Lo,w64 (((gd (hH bg bc (⟨w64 (((gd bg bc).Lo) - cz),(gd bg bc).Hi⟩:wAF)) bc).Hi) + mL)⟩:wAF))) rfl rfl rfl rfl MF rfl ey rfl rfl rfl zC (by rw [wAD (f:=wAC) (sz:=2) (fun _=>rfl)];have hz:=wAS fj;show _ + 1 <= _;first | omega | (simp only [nA];omega) | (simp only [nE,nB,nD,nA];omega) | (simp only [nH];omega) | (simp only [nE,nB,nD];omega)) rfl (wCH (sz:=2) (fo:=1) (fun _=>rfl) _ _ _ _ Qg (by first | omega | (simp only [nH];omega) | (simp only [nE,nB,nD];omega)) (zA rfl) rfl) rfl ?_
 intro tt MG
 let m9:Res:=.row bj bk 41 2 (hD wAC (hH (hH bg bc (⟨w64 (((gd bg bc).Lo) - cz),(gd bg bc).Hi⟩:wAF)) bc (⟨(gd (hH bg bc (⟨w64 (((gd bg bc).Lo) - cz),(gd bg bc).Hi⟩:wAF)) bc).Lo,w64 (((gd (hH bg bc (⟨w64 (((gd bg bc).Lo) - cz),(gd bg bc).Hi⟩:wAF)) bc).Hi) + mL)⟩:wAF)))
 have MH:sW w U j5 [jp,.blk ag 45 af,.blk ae 28 B7,B0,az,ay,ax,bh,aw,aq,m9,bT,ao,eI,an,am,ak,aj,a9,ai] tt:=MG
 have MI:sW w U j5 [jp,.blk ag 45 af,.blk ae 28 B7,B0,az,ay,ax,bh,aw,aq,m9,bT,ao,.blk bJ 28 [.slice bH bF.length bL,.slice bj ((hH (hH bg bc (⟨w64 (((gd bg bc).Lo) - cz),(gd bg bc).Hi⟩:wAF)) bc (⟨(gd (hH bg bc (⟨w64 (((gd bg bc).Lo) - cz),(gd bg bc).Hi⟩:wAF)) bc).Lo,w64 (((gd (hH bg bc (⟨w64 (((gd bg bc).Lo) - cz),(gd bg bc).Hi⟩:wAF)) bc).Hi) + mL)⟩:wAF)).length) bk,.slice bn dW.length bq,.slice bI bG.length bM],an,am,ak,aj,a9,ai] tt:=by simpa only [B0,bT,eI,jp,af,m9,aw,a9,aj,ak,am,ao,an,ax,ay,aq,az,bh,ai,B7,nA] using MH
 refine zh (ZA (zL (rR fL2 Z (oR Z (ZH (za Z pO Z) (congrArg (jV) Ql.out)) (oM Z Z (zh ?_))))))
 cases wD
 exact zL ⟨Z,⟨j5,rn,ub,Z,Dc,pF,Dd,De,pG,Df,vb,((S4.trans S5).trans S6),MI,G3,((nA.trans nA).trans GZ)⟩⟩
 rintro YA Vb ⟨sN,xJ,BM,D5,vc,VK,iw,Dg,Dh,vd,Di,mi,MJ,WM,WN⟩
 have BN:Hid (¬ ((↑(((↑bY.length:Int):Int) - 0).toNat:Int) < (↑bY.length:Int))):=zO (wAc)
 refine sR fL1 Z (oR Z (ze Z D5 Di) (eN (zM (cF Z BN (Zb (zo (zo (ZV (zL (sR gAb Z (oR Z (zE Z vd zI Z ZO) (zU (j:=18) (vs:=[.slice none 0 0]) Z Z Z Z MJ Z Z Z Z ZO (zA Z) Z Z Z ?_))))))))))))
 intro tu MK
 let br:Res:=.blk bJ 28 [.slice bH bF.length bL,.slice bj gO.length bk,.slice bn dW.length bq,.slice bI bG.length bM]
 let bs:Res:=.blk dp 28 [.slice dk cH.length dt,.slice dl cI.length du,.slice dm cJ.length dv,.slice none 0 0]
 let bt:Res:=.blk ap 94 [.slice xJ TH.length BM,jV TI,.int .u32 TJ]
 let dI:Res:=.row bj bk 41 2 (hD wAC gO)
 have qe:sW w U sN [bt,.blk ag 45 af,.blk ae 28 B7,B0,az,ay,ax,bh,aw,aq,dI,bT,ao,br,an,am,ak,aj,bs,ai] tu:=MK
 refine eN (sR (.fl 0 (.fl 1 (.fx 2 (wFd gAe) .stop))) Z (oL Z (qe.ldBA (j:=2) Z Z vc zf zY (vs:=B7) Z Z) (oL Z (qe.ldBA (j:=1) Z Z iw ZY ZG (vs:=af) Z Z) ?_)))
 have G4:=fZ.le cn
 have G5:=G4.le dA
 have G6:=G5.le eh
 have G7:=G6.le mh
 have vC:=G7.le mi
 have G8:=f4.le cn
 have G9:=G8.le dA
 have Ha:=G9.le eh
 have Hb:=Ha.le mh
 have vD:=Hb.le mi
 have Hc:=f5.le cn
 have He:=Hc.le dA
 have Hf:=He.le eh
 have Hg:=Hf.le mh
 have vE:=Hg.le mi
 have Hh:=gp.le cn
 have Hj:=Hh.le dA
 have Hk:=Hj.le eh
 have Hl:=Hk.le mh
 have vG:=Hl.le mi
 have q:=bnd wB
 obtain ⟨⟨dC,xu⟩,Hm,wE⟩:=q
 try dsimp only at wE
 refine zF 0 Z Z Z Z (zD Z Z yg (zB Z (zB Z zJ)) Z) qe (fun hs=>wBS bd co cp bS bX cE cG cB cD cd tu sN hs vC vD vE vG Hm) (.inr Z) ?_
 rintro sO Uc Xz AX mj ML ⟨rfl,rfl⟩
 have MM:sW w U sO [bt,.blk ag 45 af,.blk ae 28 B7,B0,az,ay,ax,bh,aw,aq,dI,bT,ao,br,an,am,ak,aj,bs,ai] AX:=ML
 refine oM Z Z (oR Z (zT Z Z (v:=.agg #[jV dC.Lo,jV dC.Hi]) Z) (oR Z (zT Z Z (v:=jV xu) Z) (zQ (cs:=cr) Z Z Z Z Z zi Z MM ?_)))
 intro Vc bp MN
 let bu:List Value:=[jV dC.Lo,jV dC.Hi]
 refine zU (j:=0) (vs:=bu) Z Z Z Z MN Z Z Z Z zZ (zA Z) Z Z Z ?_
 intro fQ MO
 have qf:sW w U sO [.blk bp 41 bu,bt,.blk ag 45 af,.blk ae 28 B7,B0,az,ay,ax,bh,aw,aq,dI,bT,ao,br,an,am,ak,aj,bs,ai] fQ:=MO
 refine oA Z Z (eN (sR (.fl 0 (.fl 1 (.fx 2 (wFd gAe) .stop))) Z (oL Z (qf.ldBA (j:=9) Z Z Dg zf zY (vs:=[.slice dD c6.length dL,.slice dE da.length dM,.slice dH db.length dN,.slice eo dU.length eu]) Z Z) (oL Z (qf.ldBA (j:=2) Z Z iw ZY ZG (vs:=af) Z Z) ?_))))
 have q:=qf.freezeR (k:=5) (n:=c6.length) rfl (wAD (f:=KL.encI) (sz:=1) (fun _=>rfl) c6) (by decide)
 obtain ⟨yu,mm,Sn,MP⟩:=q
 have MQ:sW w U yu [.blk bp 41 bu,bt,.blk ag 45 af,.blk ae 28 B7,B0,ay,ax,bh,aw,aq,dI,bT,ao,br,an,am,ak,aj,bs,ai] fQ:=MP
 have q:=MQ.freezeR (k:=5) (n:=da.length) rfl (wAD (f:=wAC) (sz:=2) (fun _=>rfl) da) (by decide)
 obtain ⟨yv,iR,So,MR⟩:=q
 have MS:sW w U yv [.blk bp 41 bu,bt,.blk ag 45 af,.blk ae 28 B7,B0,ax,bh,aw,aq,dI,bT,ao,br,an,am,ak,aj,bs,ai] fQ:=MR
 have q:=MS.freezeR (k:=5) (n:=db.length) rfl (wAD (f:=wAA) (sz:=3) (fun _=>rfl) db) (by decide)
 obtain ⟨yw,gx,Sp,MT⟩:=q
 have MU:sW w U yw [.blk bp 41 bu,bt,.blk ag 45 af,.blk ae 28 B7,B0,bh,aw,aq,dI,bT,ao,br,an,am,ak,aj,bs,ai] fQ:=MT
 have q:=MU.freezeR (k:=5) (n:=dU.length) rfl (wAD (f:=wAB) (sz:=4) (fun _=>rfl) dU) (by decide)
 obtain ⟨sP,fq,Sq,MV⟩:=q
 have MW:sW w U sP [.blk bp 41 bu,bt,.blk ag 45 af,.blk ae 28 B7,B0,aw,aq,dI,bT,ao,br,an,am,ak,aj,bs,ai] fQ:=MV
 have Hn:=Sn.le iR
 have Ho:=Hn.le gx
 have Hp:=Ho.le fq
 have Hq:=So.le gx
 have Hr:=Hq.le fq
 have Hs:=Sp.le fq
 have q:=bnd wE
 obtain ⟨⟨gH,xv⟩,Ht,wG⟩:=q
 try dsimp only at wG
 refine zF 0 Z Z Z Z (zD Z Z yg (zB Z (zB Z zJ)) Z) MW (fun hs=>wBS (⟨c6,da,db,dU⟩:wAE) dD dL dE dM dH dN eo eu cd fQ sP hs Hp Hr Hs Sq Ht) (.inr Z) ?_
 rintro sQ Ud XA AY mn MX ⟨rfl,rfl⟩
 have MY:sW w U sQ [.blk bp 41 bu,bt,.blk ag 45 af,.blk ae 28 B7,B0,aw,aq,dI,bT,ao,br,an,am,ak,aj,bs,ai] AY:=MX
 refine oM Z Z (oR Z (zT Z Z (v:=.agg #[jV gH.Lo,jV gH.Hi]) Z) (oR Z (zT Z Z (v:=jV xv) Z) (zQ (cs:=cr) Z Z Z Z Z zi Z MY ?_)))
 intro Vd bE MZ
 let bB:List Value:=[jV gH.Lo,jV gH.Hi]
 refine zU (j:=0) (vs:=bB) Z Z Z Z MZ Z Z Z Z zZ (zA Z) Z Z Z ?_
 intro fR M0
 have qh:sW w U sQ [.blk bE 41 bB,.blk bp 41 bu,bt,.blk ag 45 af,.blk ae 28 B7,B0,aw,aq,dI,bT,ao,br,an,am,ak,aj,bs,ai] fR:=M0
 refine oA Z Z (eN (sR (.fl 0 (.fl 1 (.fx 2 (wFd gAe) .stop))) Z (oL Z (qh.ldBA (j:=11) Z Z Dh zf zY (vs:=[.slice bH bF.length bL,.slice bj gO.length bk,.slice bn dW.length bq,.slice bI bG.length bM]) Z Z) (oL Z (qh.ldBA (j:=3) Z Z iw ZY ZG (vs:=af) Z Z) ?_))))
 have q:=qh.freezeR (k:=7) (n:=bF.length) rfl (wAD (f:=KL.encI) (sz:=1) (fun _=>rfl) bF) (by decide)
 obtain ⟨yy,mo,Sr,M6⟩:=q
 have M7:sW w U yy [.blk bE 41 bB,.blk bp 41 bu,bt,.blk ag 45 af,.blk ae 28 B7,B0,aw,dI,bT,ao,br,an,am,ak,aj,bs,ai] fR:=M6
 have q:=M7.freezeR (k:=7) (n:=gO.length) rfl (wAD (f:=wAC) (sz:=2) (fun _=>rfl) gO) (by decide)
 obtain ⟨y4,iS,Ss,M8⟩:=q
 have M9:sW w U y4 [.blk bE 41 bB,.blk bp 41 bu,bt,.blk ag 45 af,.blk ae 28 B7,B0,aw,bT,ao,br,an,am,ak,aj,bs,ai] fR:=M8
 have q:=M9.freezeR (k:=7) (n:=dW.length) rfl (wAD (f:=wAA) (sz:=3) (fun _=>rfl) dW) (by decide)
 obtain ⟨y5,gy,Su,Na⟩:=q
 have Nb:sW w U y5 [.blk bE 41 bB,.blk bp 41 bu,bt,.blk ag 45 af,.blk ae 28 B7,B0,aw,ao,br,an,am,ak,aj,bs,ai] fR:=Na
 have q:=Nb.freezeR (k:=7) (n:=bG.length) rfl (wAD (f:=wAB) (sz:=4) (fun _=>rfl) bG) (by decide)
 obtain ⟨sS,ft,Sv,Nc⟩:=q
 have Nd:sW w U sS [.blk bE 41 bB,.blk bp 41 bu,bt,.blk ag 45 af,.blk ae 28 B7,B0,aw,br,an,am,ak,aj,bs,ai] fR:=Nc
 have Hu:=Sr.le iS
 have Hv:=Hu.le gy
 have Hw:=Hv.le ft
 have Hx:=Ss.le gy
 have Hy:=Hx.le ft
 have Hz:=Su.le ft
 have q:=bnd wG
 obtain ⟨⟨gI,xw⟩,HA,wH⟩:=q
 try dsimp only at wH
 refine zF 0 Z Z Z Z (zD Z Z yg (zB Z (zB Z zJ)) Z) Nd (fun hs=>wBS (⟨bF,gO,dW,bG⟩:wAE) bH bL bj bk bn bq bI bM cd fR sS hs Hw Hy Hz Sv HA) (.inr Z) ?_
 rintro sT Ue XB AZ mp Nf ⟨rfl,rfl⟩
 have Ng:sW w U sT [.blk bE 41 bB,.blk bp 41 bu,bt,.blk ag 45 af,.blk ae 28 B7,B0,aw,br,an,am,ak,aj,bs,ai] AZ:=Nf
 refine oM Z Z (oR Z (zT Z Z (v:=.agg #[jV gI.Lo,jV gI.Hi]) Z) (oR Z (zT Z Z (v:=jV xw) Z) (zQ (cs:=cr) Z Z Z Z Z zi Z Ng ?_)))
 intro Ve bR Nh
 let bN:List Value:=[jV gI.Lo,jV gI.Hi]
 refine zU (j:=0) (vs:=bN) Z Z Z Z Nh Z Z Z Z zZ (zA Z) Z Z Z ?_
 intro ii Ni
 have qi:sW w U sT [.blk bR 41 bN,.blk bE 41 bB,.blk bp 41 bu,bt,.blk ag 45 af,.blk ae 28 B7,B0,aw,br,an,am,ak,aj,bs,ai] ii:=Ni
 refine oA Z Z (eN (sR (.fl 0 (.fl 1 (.fx 2 (wFd gAe) .stop))) Z (oL Z (qi.ldBA (j:=13) Z Z vd zf zY (vs:=[.slice dk cH.length dt,.slice dl cI.length du,.slice dm cJ.length dv,.slice none 0 0]) Z Z) (oL Z (qi.ldBA (j:=4) Z Z iw ZY ZG (vs:=af) Z Z) ?_))))
 have q:=qi.freezeR (k:=9) (n:=cH.length) rfl (wAD (f:=KL.encI) (sz:=1) (fun _=>rfl) cH) (by decide)
 obtain ⟨y6,mq,Sw,Nj⟩:=q
 have Nk:sW w U y6 [.blk bR 41 bN,.blk bE 41 bB,.blk bp 41 bu,bt,.blk ag 45 af,.blk ae 28 B7,B0,aw,br,am,ak,aj,bs,ai] ii:=Nj
 have q:=Nk.freezeR (k:=9) (n:=cI.length) rfl (wAD (f:=wAC) (sz:=2) (fun _=>rfl) cI) (by decide)
 obtain ⟨y7,iT,Sx,Nl⟩:=q
 have Nm:sW w U y7 [.blk bR 41 bN,.blk bE 41 bB,.blk bp 41 bu,bt,.blk ag 45 af,.blk ae 28 B7,B0,aw,br,ak,aj,bs,ai] ii:=Nl
 have q:=Nm.freezeR (k:=9) (n:=cJ.length) rfl (wAD (f:=wAA) (sz:=3) (fun _=>rfl) cJ) (by decide)
 obtain ⟨sU,gz,Sy,Nn⟩:=q
 have No:sW w U sU [.blk bR 41 bN,.blk bE 41 bB,.blk bp 41 bu,bt,.blk ag 45 af,.blk ae 28 B7,B0,aw,br,aj,bs,ai] ii:=Nn
 have HB:=Sw.le iT
 have HC:=HB.le gz
 have HD:=Sx.le gz
 have q:=bnd wH
 obtain ⟨⟨i6,xx⟩,HE,wI⟩:=q
 try dsimp only at wI
 refine zF 0 rfl rfl rfl rfl (zD rfl rfl yg (zB rfl (zB rfl zJ)) rfl) No (fun hs=>wBS (⟨cH,cI,cJ,[]⟩:wAE) dk dt dl du dm dv none 0 cd ii sU hs HC HD Sy (by first | exact Sl.nil _ _ _ _ | exact SlR.nil) HE) (.inr rfl) ?_
 rintro df Uf XC A3 mr Np ⟨rfl,rfl⟩
 have Nq:sW w U df [.blk bR 41 bN,.blk bE 41 bB,.blk bp 41 bu,bt,.blk ag 45 af,.blk ae 28 B7,B0,aw,br,aj,bs,ai] A3:=Np
 refine oM Z Z (oR Z (zT Z Z (v:=.agg #[jV i6.Lo,jV i6.Hi]) Z) (oR Z (zT Z Z (v:=jV xx) Z) (zQ (cs:=cr) Z Z Z Z Z zi Z Nq ?_)))
 intro Vf cc Nr
 let ci:List Value:=[jV i6.Lo,jV i6.Hi]
 refine zU (j:=0) (vs:=ci) Z Z Z Z Nr Z Z Z Z zZ (zA Z) Z Z Z ?_
 intro oH Ns
 have cx:sW w U df [.blk cc 41 ci,.blk bR 41 bN,.blk bE 41 bB,.blk bp 41 bu,bt,.blk ag 45 af,.blk ae 28 B7,B0,aw,br,aj,bs,ai] oH:=Ns
 refine oA Z Z (eN (zM (zM (yh fun dY dz=>?_))))
 have Dj:dY 5=.pointer (some ⟨ae,0,none⟩):=(dz 5).trans vc
 have Dk:dY 9=.pointer (some ⟨ag,0,none⟩):=(dz 9).trans iw
 have iy:dY 17=.pointer (some ⟨bp,0,none⟩):=(dz 17).trans rfl
 have Dl:dY 18=jV xu:=(dz 18).trans rfl
 have ve:dY 19=.pointer (some ⟨bE,0,none⟩):=(dz 19).trans rfl
 have Dm:dY 20=jV xv:=(dz 20).trans rfl
 have vf:dY 21=.pointer (some ⟨bR,0,none⟩):=(dz 21).trans rfl
 have Dn:dY 22=jV xw:=(dz 22).trans rfl
 have Do:dY 23=.pointer (some ⟨cc,0,none⟩):=(dz 23).trans rfl
 have Dp:dY 24=jV xx:=(dz 24).trans rfl
 clear dz
 refine rR fL42 Z (oM Z Dl (oR Z (Ze Z Z Z) (oM Z Z (ifc wI ?_ ?_))))
 intro fb Ri
 refine zw Z Z Z (zS Z Z (ZD (fun h=>h fb.out))) Z Dm (zc Z Z Z (zS Z Z (ZD (fun h=>h fb.out))) (fun _=>Ze Z Z Z) (oR Z (zg Z (ZD (fun h=>h fb.out)) Z) (oM Z Z (ifc Ri ?_ ?_))))
 intro fc Rj
 refine zw Z Z Z (zS Z Z (ZD (fun h=>h fc.out))) Z Dn (zc Z Z Z (zS Z Z (ZD (fun h=>h fc.out))) (fun _=>Ze Z Z Z) (oR Z (zg Z (ZD (fun h=>h fc.out)) Z) (oM Z Z (ifc Rj ?_ ?_))))
 intro fd Rk
 refine zw Z Z Z (zS Z Z (ZD (fun h=>h fd.out))) Z Dp (zc Z Z Z (zS Z Z (ZD (fun h=>h fd.out))) (fun _=>Ze Z Z Z) (oR Z (zg Z (ZD (fun h=>h fd.out)) Z) (oM Z Z (ifc Rk ?_ ?_))))
 intro cU Rm
 refine zc Z Z Z (zS Z Z (ZD (fun h=>h cU.out))) (fun _=>zE Z ve zX Z zC) (ZF Z Z Z (zS Z Z (ZD (fun h=>h cU.out))) (cx.ldB (j:=2) Z Z Z zG (v:=jV gH.Lo) Z) Z (zc Z Z Z (zS Z Z (ZD (fun h=>h cU.out))) (fun _=>zE Z iy zX Z zC) (ZF Z Z Z (zS Z Z (ZD (fun h=>h cU.out))) (cx.ldB (j:=3) Z Z Z zG (v:=jV dC.Lo) Z) Z (zc Z Z Z (zS Z Z (ZD (fun h=>h cU.out))) (fun _=>ze Z Z Z) (oR Z (zg Z (ZD (fun h=>h cU.out)) Z) (oM Z Z (ifc Rm ?_ ?_)))))))
 intro cV Rn
 refine oT Z cV (oT Z cV (oT Z cV (oT Z cV (oT Z cV (oR Z (zN Z (Zi cV.out) Z) (oM Z Z (oN Z (oN Z (oN Z (oN Z (oN Z (oR Z (zN Z Z Z) (oM Z Z (oN Z (oN Z (oN Z (oN Z (oN Z (oR Z (zN Z Z Z) (eN (ZI Z (sR fL1 Z (oA Z Z (eN (zR (zW ?_))))))))))))))))))))))))))
 have hE:=hJ Rn;first | subst r | cases hE
 exact ⟨rfl,_,(ZL rfl),df,_,(cx.pick [] _ (by decide) rfl),rfl,rfl⟩
 intro cV Ro
 refine rU Z (wF Z cV) (zE Z ve zX Z zC) (ZF Z Z Z (wF Z cV) (cx.ldB (j:=2) Z Z Z zG (v:=jV gH.Hi) Z) Z (rU Z (wF Z cV) (zE Z iy zX Z zC) (ZF Z Z Z (wF Z cV) (cx.ldB (j:=3) Z Z Z zG (v:=jV dC.Hi) Z) Z (rU Z (wF Z cV) (ye Z Z Z) (oR Z (zg Z (ZD cV.out) Z) (oM Z Z (ifc Ro ?_ ?_)))))))
 intro cW Rp
 refine oT Z cW (oT Z cW (oT Z cW (oT Z cW (oT Z cW (oR Z (zN Z (Zi cW.out) Z) (oM Z Z (oN Z (oN Z (oN Z (oN Z (oN Z (oR Z (zN Z Z Z) (eN (ZI Z (sR fL1 Z (oA Z Z (eN (zR (zW ?_)))))))))))))))))))
 have hE:=hJ Rp;first | subst r | cases hE
 exact ⟨rfl,_,(ZL rfl),df,_,(cx.pick [] _ (by decide) rfl),rfl,rfl⟩
 intro cW Rq
 refine rU Z (wF Z cW) (zE Z vf zX Z zC) (ZF Z Z Z (wF Z cW) (cx.ldB (j:=1) Z Z Z zG (v:=jV gI.Lo) Z) Z (rU Z (wF Z cW) (zE Z iy zX Z zC) (ZF Z Z Z (wF Z cW) (cx.ldB (j:=3) Z Z Z zG (v:=jV dC.Lo) Z) Z (rU Z (wF Z cW) (ye Z Z Z) (oR Z (zg Z (ZD cW.out) Z) (oM Z Z (ifc Rq ?_ ?_)))))))
 intro cX Rr
 refine oT Z cX (oT Z cX (oT Z cX (oT Z cX (oT Z cX (oR Z (zN Z (Zi cX.out) Z) (eN (ZI Z (sR fL1 Z (oA Z Z (eN (zR (zW ?_))))))))))))
 have hE:=hJ Rr;first | subst r | cases hE
 exact ⟨rfl,_,(ZL rfl),df,_,(cx.pick [] _ (by decide) rfl),rfl,rfl⟩
 intro cX Rs
 refine rU Z (wF Z cX) (zE Z vf zX Z zC) (ZF Z Z Z (wF Z cX) (cx.ldB (j:=1) Z Z Z zG (v:=jV gI.Hi) Z) Z (rU Z (wF Z cX) (zE Z iy zX Z zC) (ZF Z Z Z (wF Z cX) (cx.ldB (j:=3) Z Z Z zG (v:=jV dC.Hi) Z) Z (rU Z (wF Z cX) (ze Z Z Z) (oR Z (zg Z (ZD cX.out) Z) (eN (ifc Rs ?_ ?_)))))))
 intro o7 Rt
 refine cT Z o7 (sR fL1 Z (oA Z Z (eN (zR (zW ?_)))))
 have hE:=hJ Rt;first | subst r | cases hE
 exact ⟨rfl,_,(ZL rfl),df,_,(cx.pick [] _ (by decide) rfl),rfl,rfl⟩
 intro o7 Ru
 refine cF Z o7 (kN (zM (yh fun mO iG=>?_)))
 have lD:mO 5=.pointer (some ⟨ae,0,none⟩):=(iG 5).trans Dj
 have lE:mO 9=.pointer (some ⟨ag,0,none⟩):=(iG 9).trans Dk
 have Dq:mO 17=.pointer (some ⟨bp,0,none⟩):=(iG 17).trans iy
 have Dr:mO 23=.pointer (some ⟨cc,0,none⟩):=(iG 23).trans Do
 clear iG
 refine zt zu [3,1,3,1,3,1,3,1,3,1,3,1,3,3] fL14 (by kernel_rfl) ?_
 have dP:=cx.drew
 generalize hw_W2684:({ oH with drawn:=oH.drawn + 1 }:World)=Vg at dP ⊢
 refine oR Z (zE Z lD zI Z ZB) (oL Z (dP.ldB (j:=6) Z Z Z ZK (v:=.slice co bd.Starts.length cp) Z) (oR Z (zE Z lE yK Z zC) (oL Z (dP.ldB (j:=5) Z Z Z zG (v:=jV cd.Skier) Z) (bnK Ru fun xz ga Rv=>?_))))
 have HF:=vC.le mj
 have HG:=HF.le mm
 have HH:=HG.le iR
 have HI:=HH.le gx
 have HJ:=HI.le fq
 have HK:=HJ.le mn
 have HL:=HK.le mo
 have HM:=HL.le iS
 have HN:=HM.le gy
 have HO:=HN.le ft
 have HP:=HO.le mp
 have HQ:=HP.le mq
 have HR:=HQ.le iT
 have HS:=HR.le gz
 have pW:=HS.le mr
 have q:=pW.el (fun _=>rfl) (wAb ga)
 obtain ⟨VB,W0,J8,Kf⟩:=q
 refine oR Z (Zd Z Z J8 Z zK zC (wCG ga) (wCM ga)) (oL Z (dP.ldC (f:=0) Kf (v:=jV xz) Z Z zG Z) (oR Z (zE Z lD zI Z ZB) (oL Z (dP.ldB (j:=6) Z Z Z ZK (v:=.slice co bd.Starts.length cp) Z) (oR Z (zE Z lE yK Z zC) (oL Z (dP.ldB (j:=5) Z Z Z zG (v:=jV cd.Skier) Z) ?_)))))
 have q:=pW.el (fun _=>rfl) (wAb ga)
 obtain ⟨VC,W4,J9,Kg⟩:=q
 refine oR Z (Zd Z Z J9 Z zK zC (wCG ga) (wCM ga)) (oL Z (dP.ldC (f:=0) Kg (v:=jV xz) Z Z zG Z) (oA Z Z (oA Z Z (eN (zM (sR fL7 Z (oR Z (zE Z lD zI Z Zj) (oL Z (dP.ldB (j:=6) Z Z Z Zr (v:=.slice bS bd.Splits.length bX) Z) (oR Z (zE Z lE yK Z zC) (oL Z (dP.ldB (j:=5) Z Z Z zG (v:=jV cd.Mat) Z) (bnK Rv fun gJ HT Rz=>?_)))))))))))
 have HU:=vD.le mj
 have HV:=HU.le mm
 have HW:=HV.le iR
 have HX:=HW.le gx
 have HY:=HX.le fq
 have HZ:=HY.le mn
 have H0:=HZ.le mo
 have H1:=H0.le iS
 have H2:=H1.le gy
 have H3:=H2.le ft
 have H4:=H3.le mp
 have H5:=H4.le mq
 have H6:=H5.le iT
 have H7:=H6.le gz
 have pX:=H7.le mr
 have q:=Sl.cutM (sz:=2) (f:=wAC) pX (fun _=>rfl) HT
 obtain ⟨qL,Pz,PB,PF,R3⟩:=q
 refine zc (v:=.slice (if bX=(0:Int).toNat then bS else nM (·.add ((0:Int).toNat * 2)) bS) gJ.length (bX - (0:Int).toNat)) rfl rfl rfl rfl (fun _=>ZH (Runs.slc (sz:=2) (a:=0) (b:=cd.Mat) rfl rfl (.inr ⟨rfl,rfl⟩) (.inl ⟨_,rfl,rfl⟩) zn zZ Pz PB PF (pX).cap) (by rw [R3])) ?_
 generalize hA_A2715:(if bX=(0:Int).toNat then bS else nM (·.add ((0:Int).toNat * 2)) bS)=xK at qL ⊢
 generalize hc_c2716:bX - (0:Int).toNat=BO at qL ⊢
 refine oR Z (zx Z Z zn) (oM Z Z (eN (zd ?_)))
 have q:=bnd Rz
 obtain ⟨⟨q6,q7⟩,PS,wJ⟩:=q
 try dsimp only at wJ
 have q:=wAx PS
 obtain ⟨qA,PT⟩:=q
 replace qA:=zO qA
 refine CK.forN' (fun iI (xA,xB) σ_ w_=>∃ (U_:PHeap),σ_ 248=jV (↑iI:Int)/\σ_ 5=.pointer (some ⟨ae,0,none⟩)/\σ_ 9=.pointer (some ⟨ag,0,none⟩)/\σ_ 17=.pointer (some ⟨bp,0,none⟩)/\σ_ 23=.pointer (some ⟨cc,0,none⟩)/\σ_ 25=jV xA/\σ_ 26=jV xB/\σ_ 246=.slice xK gJ.length BO/\σ_ 247=jV (↑gJ.length:Int)/\PHeap.Le df U_/\sW w U U_ [.blk cc 41 ci,.blk bR 41 bN,.blk bE 41 bB,.blk bp 41 bu,bt,.blk ag 45 af,.blk ae 28 B7,B0,aw,br,bs,ai] w_) PT ?_ ?_ ?_
 exact ⟨df,rfl,lD,lE,Dq,Dr,rfl,rfl,rfl,rfl,(zP _),(dP.pick [0,1,2,3,4,5,6,7,8,9,11,12] _ (by decide) rfl)⟩
 rintro iI ⟨xA,xB⟩ Yh YB Vi qs ⟨sV,pP,Ds,Dt,Du,Dv,Dw,Dx,vg,vh,xb,v2⟩ wZ
 try dsimp only at wZ
 have uc:Hid ((↑iI:Int) < (↑gJ.length:Int)):=zO (wAs qs)
 replace qs:=zO qs
 have Qm:Hid (w64 ((↑iI:Int) + 1)=(↑(iI + 1):Int)):=zO (by have h1:=qA.out;have h2:=uc.out;rw [wAU] <;> omega)
 refine sR fL1 Z (oR Z (ze Z pP vh) (eN (zM (cT Z uc (kN (zM (zd (sR gAj Z (bnK wZ fun gK vH RA=>?_)))))))))
 have H8:=qL.le xb
 have q:=H8.el (fun _=>rfl) (wAb vH)
 obtain ⟨VD,Xa,Ka,Kh⟩:=q
 refine oR Z (Zk Z vg Ka pP zn zZ (wCl vH)) (oL Z (v2.ldCA (f:=0) Kh Z Z Zn zZ (us:=[jV gK.Lo,jV gK.Hi]) Z Z) (zQ (cs:=cr) Z Z Z Z Z zi Z v2 ?_))
 intro Vj Bz Nu
 let r8:List Value:=[jV gK.Lo,jV gK.Hi]
 refine zU (j:=0) (vs:=r8) Z Z Z Z Nu Z Z Z Z zZ (zA Z) Z Z Z ?_
 intro oI Nv
 have Nw:sW w U sV [.blk Bz 41 r8,.blk cc 41 ci,.blk bR 41 bN,.blk bE 41 bB,.blk bp 41 bu,bt,.blk ag 45 af,.blk ae 28 B7,B0,aw,br,bs,ai] oI:=Nv
 refine eN (zt zu [3,3,1,3,3,3,1,3,3,3] fL10 (by kernel_rfl) ?_)
 have lT:=Nw.drew
 generalize hw_W2791:({ oI with drawn:=oI.drawn + 1 }:World)=Vk at lT ⊢
 refine oM Z Dw (oR Z (zE Z Z zX Z zC) (oL Z (lT.ldB (j:=0) Z Z Z zG (v:=jV gK.Lo) Z) (oR Z (za Z Z Z) (oM Z Dx (oR Z (zE Z Z zX Z zC) (oL Z (lT.ldB (j:=0) Z Z Z zG (v:=jV gK.Hi) Z) (oR Z (za Z Z Z) (oA Z Z (oA Z Z (zh (ZA (zL (rR fL2 Z (oR Z (ZH (za Z pP Z) (congrArg (jV) Qm.out)) (oM Z Z (zh ?_))))))))))))))))
 cases RA
 exact zL ⟨rfl,⟨sV,rfl,Ds,Dt,Du,Dv,rfl,rfl,vg,vh,xb,(lT.pick [1,2,3,4,5,6,7,8,9,10,11,12] _ (by decide) rfl)⟩⟩
 rintro YC A4 ⟨sX,D6,pH,vi,Dy,Dz,DA,DB,VL,DC,ms,iD⟩
 have BP:Hid (¬ ((↑(((↑gJ.length:Int):Int) - 0).toNat:Int) < (↑gJ.length:Int))):=zO (wAc)
 refine sR fL1 Z (oR Z (ze Z D6 DC) (eN (zM (cF Z BP (Zb (zo (zo (ZV (zL (zM (sR fL5 Z (oL Z (iD.ldBA (j:=0) Z Z Dz Zn zZ (vs:=ci) Z Z) (oM Z DA (oM Z DB (oR Z (zk (pv:=[(0,jV q6),(1,jV q7)]) (z:=cr) (cs:=[jV q6,jV q7]) Z (wAH Z (wAH Z wAO)) zi wBd Z Z) (oR Z (ZH (yn (enc:=wAC) (a:=i6) (b:=(⟨q6,q7⟩:wAF)) Z Z Z wHZ wHY) (congrArg nI (decide_not).symm)) (eN (ifc wJ ?_ ?_))))))))))))))))))
 intro o8 RB
 refine ZE (ZD (fun h=>h o8.out)) (kN (sR (.fl 0 (.fl 1 (.fx 2 (wLg (.nil)) .stop))) Z (oL Z (iD.ldBA (j:=6) Z Z pH zf zY (vs:=B7) Z Z) (oL Z (iD.ldBA (j:=5) Z Z vi ZY ZG (vs:=af) Z Z) ?_))))
 have vJ:=pW.le ms
 have vK:=pX.le ms
 have H9:=vE.le mj
 have Ia:=H9.le mm
 have Ib:=Ia.le iR
 have Ic:=Ib.le gx
 have Ie:=Ic.le fq
 have If:=Ie.le mn
 have Ig:=If.le mo
 have Ih:=Ig.le iS
 have Ii:=Ih.le gy
 have Ij:=Ii.le ft
 have Ik:=Ij.le mp
 have Il:=Ik.le mq
 have Im:=Il.le iT
 have In:=Im.le gz
 have Io:=In.le mr
 have vL:=Io.le ms
 have Ip:=vG.le mj
 have Iq:=Ip.le mm
 have Ir:=Iq.le iR
 have Is:=Ir.le gx
 have It:=Is.le fq
 have Iu:=It.le mn
 have Iv:=Iu.le mo
 have Iw:=Iv.le iS
 have Ix:=Iw.le gy
 have Iy:=Ix.le ft
 have Iz:=Iy.le mp
 have IA:=Iz.le mq
 have IB:=IA.le iT
 have IC:=IB.le gz
 have ID:=IC.le mr
 have vM:=ID.le ms
 have q:=bnd RB
 obtain ⟨⟨fy,TD⟩,IE,wL⟩:=q
 try dsimp only at wL
 refine zF 0 Z Z Z Z (zD Z Z Try.call35 (zB Z (zB Z zJ)) Z) iD (fun hs=>wFJ bd co cp bS bX cE cG cB cD cd A4 sX hs vJ vK vL vM IE) (.inr Z) ?_
 rintro sY Ug XD tv mu Nx ⟨gS,ir,rfl,rfl⟩
 have qj:sW w U sY [.row gS ir 3 1 (hD KL.encI fy),.blk cc 41 ci,.blk bR 41 bN,.blk bE 41 bB,.blk bp 41 bu,bt,.blk ag 45 af,.blk ae 28 B7,B0,aw,br,bs,ai] tv:=Nx
 refine oM Z Z (oR Z (zT Z Z (v:=.slice gS fy.length ir) Z) (oR Z (zT Z Z (v:=jV TD) Z) (oA Z Z (oA Z Z (eN (zM (sR fL2 Z (oM Z Z (oR Z (Ze Z Z Z) (eN (ifc wL ?_ ?_)))))))))))
 intro o9 gm
 refine ZE (ZD (fun h=>h o9.out)) (kN (zM (sR fL4 Z (oR Z (zE Z pH zI Z ZO) (oL Z (qj.ldB (j:=7) Z Z Z Zs (v:=.slice cB bd.Readings.length cD) Z) (oR Z (zx Z Z ZN) (oM Z Z (eN (zd ?_)))))))))
 have q:=qj.freezeR (k:=0) (n:=fy.length) rfl (wAD (f:=KL.encI) (sz:=1) (fun _=>rfl) fy) (by decide)
 obtain ⟨om,mw,Sz,Ny⟩:=q
 have Nz:sW w U om [.blk cc 41 ci,.blk bR 41 bN,.blk bE 41 bB,.blk bp 41 bu,bt,.blk ag 45 af,.blk ae 28 B7,B0,aw,br,bs,ai] tv:=Ny
 have q:=wBy gm
 obtain ⟨Xc,gi⟩:=q
 have q:=wBx gi
 obtain ⟨qB,PU⟩:=q
 replace qB:=zO qB
 refine yX (fun dT _ σ_ w_=>∃ (U_:PHeap),σ_ 277=jV (↑dT:Int)/\σ_ 5=.pointer (some ⟨ae,0,none⟩)/\σ_ 9=.pointer (some ⟨ag,0,none⟩)/\σ_ 17=.pointer (some ⟨bp,0,none⟩)/\σ_ 29=.slice gS fy.length ir/\σ_ 276=jV (↑bd.Readings.length:Int)/\PHeap.Le om U_/\sW w U U_ [.blk cc 41 ci,.blk bR 41 bN,.blk bE 41 bB,.blk bp 41 bu,bt,.blk ag 45 af,.blk ae 28 B7,B0,aw,br,bs,ai] w_) PU ?_ ?_ ?_
 exact ⟨om,Z,pH,vi,Dy,Z,Z,(zP _),Nz⟩
 rintro dT ⟨⟩ Yi YD A5 qt ⟨y8,pQ,vj,vk,DD,DE,vl,gA,v3⟩ w5 lV
 try dsimp only at w5
 have uf:Hid ((↑dT:Int) < (↑bd.Readings.length:Int)):=zO (wAs qt)
 replace qt:=zO qt
 have wc:Hid (w64 ((↑dT:Int) + 1)=(↑(dT + 1):Int)):=zO (by have h1:=qB.out;have h2:=uf.out;rw [wAU] <;> omega)
 refine sR fL1 Z (oR Z (ze Z pQ vl) (eN (zM (cT Z uf (kN (zM (zd (sR fL2 Z (oM Z pQ (oA Z Z (eN (sR gAk Z (oL Z (v3.ldBA (j:=6) Z Z vj zf zY (vs:=B7) Z Z) ?_)))))))))))))
 have IF:=vJ.le mu
 have IG:=IF.le mw
 have IH:=IG.le gA
 have II:=vK.le mu
 have IJ:=II.le mw
 have IK:=IJ.le gA
 have IL:=vL.le mu
 have IM:=IL.le mw
 have IN:=IM.le gA
 have IP:=vM.le mu
 have IQ:=IP.le mw
 have IR:=IQ.le gA
 refine bnK w5 fun cg IS RD=>zF 0 Z Z Z Z (zD Z Z Try.call13 (zB Z zJ) Z) v3 (fun hs=>wBg bd co cp bS bX cE cG cB cD A5 y8 hs IH IK IN IR IS) (.inr Z) ?_
 rintro j6 Uh XE A6 xc NA ⟨jg,lm,jh,ln,ji,lp,jj,lq,rfl,rfl⟩
 let eJ:Res:=.row ji lp 43 3 (hD wAA cg.Clocks)
 let fE:Res:=.row jh ln 41 2 (hD wAC cg.Splits)
 let gX:Res:=.row jg lm 3 1 (hD KL.encI cg.Starts)
 let n3:Res:=.row jj lq 39 4 (hD wAB cg.Readings)
 have NB:sW w U j6 [gX,fE,eJ,n3,.blk cc 41 ci,.blk bR 41 bN,.blk bE 41 bB,.blk bp 41 bu,bt,.blk ag 45 af,.blk ae 28 B7,B0,aw,br,bs,ai] A6:=NA
 refine zQ (cs:=B6) Z Z Z Z Z yC Z NB ?_
 intro Vl dr NC
 let jr:List Value:=[.slice jg cg.Starts.length lm,.slice jh cg.Splits.length ln,.slice ji cg.Clocks.length lp,.slice jj cg.Readings.length lq]
 refine zU (j:=0) (vs:=jr) Z Z Z Z NC Z Z Z Z zY (zA Z) Z Z Z ?_
 intro oK ND
 have v4:sW w U j6 [.blk dr 28 jr,gX,fE,eJ,n3,.blk cc 41 ci,.blk bR 41 bN,.blk bE 41 bB,.blk bp 41 bu,bt,.blk ag 45 af,.blk ae 28 B7,B0,aw,br,bs,ai] oK:=ND
 refine eN (sR (wFk gAg) Z (oR Z (zE Z Z zI Z ZO) (oL Z (v4.ldB (j:=0) Z Z Z Zs (v:=.slice jj cg.Readings.length lq) Z) (oM Z Z (oM Z Z (oR Z (ZH (za Z Z Z) (congrArg (jV) wc.out)) (bnK RD fun gM IT RE=>?_)))))))
 have NE:sW w U j6 [n3,.blk dr 28 jr,gX,fE,eJ,.blk cc 41 ci,.blk bR 41 bN,.blk bE 41 bB,.blk bp 41 bu,bt,.blk ag 45 af,.blk ae 28 B7,B0,aw,br,bs,ai] oK:=v4.pick [4,0,1,2,3,5,6,7,8,9,10,11,12,13,14,15,16] _ (by decide) rfl
 refine zF 1 Z Z Z Z (zD Z Z Try.call36 (zB Z (zB Z (zB Z zJ))) Z) NE (fun hs=>wBV cg.Readings jj lq (↑dT:Int) (↑(dT + 1):Int) oK j6 hs IT) (.inl Z) ?_
 rintro sZ Ui XF A8 xd NF ⟨jk,ls,rfl,rfl⟩
 let gY:Res:=.row jk ls 39 4 (hD wAB gM)
 have NG:sW w U sZ [gY,.blk dr 28 jr,gX,fE,eJ,.blk cc 41 ci,.blk bR 41 bN,.blk bE 41 bB,.blk bp 41 bu,bt,.blk ag 45 af,.blk ae 28 B7,B0,aw,br,bs,ai] A8:=NF
 refine oR Z (zE Z Z zI Z ZO) (zU (j:=1) (vs:=[.slice jk gM.length ls]) Z Z Z Z NG Z Z Z Z ZO (zA Z) Z Z Z ?_)
 intro fS NH
 let dZ:List Value:=[.slice jg cg.Starts.length lm,.slice jh cg.Splits.length ln,.slice ji cg.Clocks.length lp,.slice jk gM.length ls]
 have qk:sW w U sZ [gY,.blk dr 28 dZ,gX,fE,eJ,.blk cc 41 ci,.blk bR 41 bN,.blk bE 41 bB,.blk bp 41 bu,bt,.blk ag 45 af,.blk ae 28 B7,B0,aw,br,bs,ai] fS:=NH
 refine eN (sR (.fl 0 (.fl 1 (.fx 2 (wFd gAe) .stop))) Z (oL Z (qk.ldBA (j:=1) Z Z Z zf zY (vs:=dZ) Z Z) (oL Z (qk.ldBA (j:=10) Z Z vk ZY ZG (vs:=af) Z Z) ?_)))
 have q:=qk.freezeR (k:=2) (n:=cg.Starts.length) rfl (wAD (f:=KL.encI) (sz:=1) (fun _=>rfl) cg.Starts) (by decide)
 obtain ⟨y9,xe,SA,NI⟩:=q
 have NJ:sW w U y9 [gY,.blk dr 28 dZ,fE,eJ,.blk cc 41 ci,.blk bR 41 bN,.blk bE 41 bB,.blk bp 41 bu,bt,.blk ag 45 af,.blk ae 28 B7,B0,aw,br,bs,ai] fS:=NI
 have q:=NJ.freezeR (k:=2) (n:=cg.Splits.length) rfl (wAD (f:=wAC) (sz:=2) (fun _=>rfl) cg.Splits) (by decide)
 obtain ⟨z2,qD,SB,NK⟩:=q
 have NL:sW w U z2 [gY,.blk dr 28 dZ,eJ,.blk cc 41 ci,.blk bR 41 bN,.blk bE 41 bB,.blk bp 41 bu,bt,.blk ag 45 af,.blk ae 28 B7,B0,aw,br,bs,ai] fS:=NK
 have q:=NL.freezeR (k:=2) (n:=cg.Clocks.length) rfl (wAD (f:=wAA) (sz:=3) (fun _=>rfl) cg.Clocks) (by decide)
 obtain ⟨z3,mx,SC,NM⟩:=q
 have NN:sW w U z3 [gY,.blk dr 28 dZ,.blk cc 41 ci,.blk bR 41 bN,.blk bE 41 bB,.blk bp 41 bu,bt,.blk ag 45 af,.blk ae 28 B7,B0,aw,br,bs,ai] fS:=NM
 have q:=NN.freezeR (k:=0) (n:=gM.length) rfl (wAD (f:=wAB) (sz:=4) (fun _=>rfl) gM) (by decide)
 obtain ⟨s5,iU,SD,NO⟩:=q
 have NP:sW w U s5 [.blk dr 28 dZ,.blk cc 41 ci,.blk bR 41 bN,.blk bE 41 bB,.blk bp 41 bu,bt,.blk ag 45 af,.blk ae 28 B7,B0,aw,br,bs,ai] fS:=NO
 have IU:=SA.le qD
 have IV:=IU.le mx
 have IW:=IV.le iU
 have IX:=SB.le mx
 have IY:=IX.le iU
 have IZ:=SC.le iU
 have q:=bnd RE
 obtain ⟨⟨fz,xC⟩,I0,wM⟩:=q
 try dsimp only at wM
 refine zF 0 Z Z Z Z (zD Z Z yg (zB Z (zB Z zJ)) Z) NP (fun hs=>wBS (⟨cg.Starts,cg.Splits,cg.Clocks,gM⟩:wAE) jg lm jh ln ji lp jk ls cd fS s5 hs IW IY IZ SD I0) (.inr Z) ?_
 rintro fM Uj XG A9 xf NQ ⟨rfl,rfl⟩
 have NR:sW w U fM [.blk dr 28 dZ,.blk cc 41 ci,.blk bR 41 bN,.blk bE 41 bB,.blk bp 41 bu,bt,.blk ag 45 af,.blk ae 28 B7,B0,aw,br,bs,ai] A9:=NQ
 refine oM Z Z (oR Z (zT Z Z (v:=.agg #[jV fz.Lo,jV fz.Hi]) Z) (oR Z (zT Z Z (v:=jV xC) Z) (zQ (cs:=cr) Z Z Z Z Z zi Z NR ?_)))
 intro Vm oW NT
 let jt:List Value:=[jV fz.Lo,jV fz.Hi]
 refine zU (j:=0) (vs:=jt) Z Z Z Z NT Z Z Z Z zZ (zA Z) Z Z Z ?_
 intro oO NU
 have NV:sW w U fM [.blk oW 41 jt,.blk dr 28 dZ,.blk cc 41 ci,.blk bR 41 bN,.blk bE 41 bB,.blk bp 41 bu,bt,.blk ag 45 af,.blk ae 28 B7,B0,aw,br,bs,ai] oO:=NU
 refine oA Z Z (eN (zM (yh fun en dR=>?_)))
 have DF:en 5=.pointer (some ⟨ae,0,none⟩):=(dR 5).trans vj
 have DG:en 9=.pointer (some ⟨ag,0,none⟩):=(dR 9).trans vk
 have lF:en 17=.pointer (some ⟨bp,0,none⟩):=(dR 17).trans DD
 have vm:en 29=.slice gS fy.length ir:=(dR 29).trans DE
 have DH:en 30=jV (↑dT:Int):=(dR 30).trans rfl
 have pI:en 32=.pointer (some ⟨oW,0,none⟩):=(dR 32).trans rfl
 have DI:en 33=jV xC:=(dR 33).trans rfl
 have DJ:en 276=jV (↑bd.Readings.length:Int):=(dR 276).trans vl
 have DK:en 277=jV (↑dT:Int):=(dR 277).trans pQ
 clear dR
 refine zt zu [3,3,3,3,1,3,1,3,3,3,3,1,3,1,3,3,3,3,3,2,1,1,3,3,3] (wJx (wIP gAh)) (by kernel_rfl) ?_
 have dx:=NV.drew
 generalize hw_W3007:({ oO with drawn:=oO.drawn + 1 }:World)=Ba at dx ⊢
 refine oM Z DI (oR Z (Ze Z Z Z) (oM Z Z (ifc wM ?_ ?_)))
 intro cY RG
 refine zc Z Z Z (zS Z Z (ZD (fun h=>h cY.out))) (fun _=>zE Z pI zX Z zC) (ZF Z Z Z (zS Z Z (ZD (fun h=>h cY.out))) (dx.ldB (j:=0) Z Z Z zG (v:=jV fz.Lo) Z) Z (zc Z Z Z (zS Z Z (ZD (fun h=>h cY.out))) (fun _=>zE Z lF zX Z zC) (ZF Z Z Z (zS Z Z (ZD (fun h=>h cY.out))) (dx.ldB (j:=5) Z Z Z zG (v:=jV dC.Lo) Z) Z (zc Z Z Z (zS Z Z (ZD (fun h=>h cY.out))) (fun _=>ye Z Z Z) (oR Z (zg Z (ZD (fun h=>h cY.out)) Z) (oM Z Z (ifc RG ?_ ?_)))))))
 intro cZ RH
 refine oT Z cZ (oT Z cZ (oT Z cZ (oT Z cZ (oT Z cZ (oR Z (zN Z (Zi cZ.out) Z) (oM Z Z (oN Z (oN Z (oN Z (oN Z (oN Z (ZC Z Z Z (zV Z Z Z Z) (oN Z (oR Z (zN Z Z Z) (eN (ZI Z (sR fL1 Z (oA Z Z (eN (zR (zq (zW ?_))))))))))))))))))))))
 have q:=wAY RH
 obtain ⟨Ty,RI,BW⟩:=q
 have q:=wBY gm gi (lV Ty BW)
 obtain rfl:=q
 refine zW (zq (zW ?_))
 have hE:=hJ RI;first | subst r | cases hE
 exact ⟨rfl,_,(ZL rfl),fM,_,(dx.pick [] _ (by decide) rfl),rfl,rfl⟩
 intro cZ RJ
 refine rU Z (wF Z cZ) (zE Z pI zX Z zC) (ZF Z Z Z (wF Z cZ) (dx.ldB (j:=0) Z Z Z zG (v:=jV fz.Hi) Z) Z (rU Z (wF Z cZ) (zE Z lF zX Z zC) (ZF Z Z Z (wF Z cZ) (dx.ldB (j:=5) Z Z Z zG (v:=jV dC.Hi) Z) Z (rU Z (wF Z cZ) (ze Z Z Z) (oR Z (zg Z (ZD cZ.out) Z) (oM Z Z (ifc RJ ?_ ?_)))))))
 intro cu RK
 refine oT Z cu (oT Z cu (oT Z cu (oT Z cu (oT Z cu (ZC Z Z Z (zV Z Z (Zi cu.out) Z) (oT Z cu (oR Z (zN Z (Zi cu.out) Z) (eN (ZI Z (sR fL1 Z (oA Z Z (eN (zR (zq (zW ?_)))))))))))))))
 have q:=wAY RK
 obtain ⟨Tz,RL,BX⟩:=q
 have q:=wBY gm gi (lV Tz BX)
 obtain rfl:=q
 refine zW (zq (zW ?_))
 have hE:=hJ RL;first | subst r | cases hE
 exact ⟨rfl,_,(ZL rfl),fM,_,(dx.pick [] _ (by decide) rfl),rfl,rfl⟩
 intro cu RM
 refine zw Z Z Z (wF Z cu) Z vm (zw Z Z Z (wF Z cu) Z DH (ZF Z Z Z (wF Z cu) (dx.ldBA (j:=0) Z Z pI Zn zZ (vs:=jt) Z Z) Z (ZF Z Z Z (wF Z cu) (dx.ldBA (j:=5) Z Z lF Zn zZ (vs:=bu) Z Z) Z (rU Z (wF Z cu) (ZH (yn (enc:=wAC) (a:=fz) (b:=dC) Z Z Z wHZ wHY) (congrArg nI (decide_not).symm)) ?_))))
 have I3:=Sz.le gA
 have I4:=I3.le xc
 have I5:=I4.le xd
 have I6:=I5.le xe
 have I7:=I6.le qD
 have I8:=I7.le mx
 have I9:=I8.le iU
 have Ja:=I9.le xf
 refine bnK RM fun X8 Jb RN=>zF 0 Z Z Z (wF Z cu) (zD Z Z Try.call26 (zB Z (zB Z zJ)) Z) dx (fun hs=>wCt fy gS ir (↑dT:Int) Ba fM hs Ja Jb) (.inr Z) ?_
 rintro oo Uk XH Bb S8 NW ⟨rfl,rfl⟩
 have v5:sW w U oo [.blk oW 41 jt,.blk dr 28 dZ,.blk cc 41 ci,.blk bR 41 bN,.blk bE 41 bB,.blk bp 41 bu,bt,.blk ag 45 af,.blk ae 28 B7,B0,aw,br,bs,ai] Bb:=NW
 refine rU Z (wF Z cu) (Runs.neB Z Z Z Try.runUnderlying4) (oR Z (zg Z (ZD cu.out) Z) (eN (ifc RN ?_ ?_)))
 intro pd RO
 refine ZE (nC pd.out) (Zo (ZA (zL (rR fL2 Z (oR Z (ZH (za Z DK Z) (congrArg (jV) wc.out)) (oM Z Z (zh ?_)))))))
 have q:=hJ RO
 obtain rfl:=q
 exact zL ⟨rfl,_,rfl,⟨oo,rfl,DF,DG,lF,vm,DJ,((((((((gA.trans xc).trans xd).trans xe).trans qD).trans mx).trans iU).trans xf).trans S8),(v5.pick [2,3,4,5,6,7,8,9,10,11,12,13] _ (by decide) rfl)⟩⟩
 intro pd RP
 refine ZI (nF (pd.out)) (sR fL1 Z (oA Z Z (eN (zR (zq (zW ?_))))))
 have q:=wAY RP
 obtain ⟨TA,RQ,BY⟩:=q
 have q:=wBY gm gi (lV TA BY)
 obtain rfl:=q
 refine zW (zq (zW ?_))
 have hE:=hJ RQ;first | subst r | cases hE
 exact ⟨rfl,_,(ZL rfl),oo,_,(v5.pick [] _ (by decide) rfl),rfl,rfl⟩
 intro cY RS
 refine oT Z cY (oT Z cY (oT Z cY (oT Z cY (oT Z cY (oR Z (zN Z (Zi cY.out) Z) (oM Z Z (oN Z (oN Z (oN Z (oN Z (oN Z (oR Z (zN Z Z Z) (oM Z Z (oN Z (oN Z (oN Z (oN Z (oN Z (ZC Z Z Z (zV Z Z Z Z) (oN Z (oR Z (zN Z Z Z) (eN (ZI Z (sR fL1 Z (oA Z Z (eN (zR (zq (zW ?_)))))))))))))))))))))))))))))
 have q:=wAY RS
 obtain ⟨TB,RT,BZ⟩:=q
 have q:=wBY gm gi (lV TB BZ)
 obtain rfl:=q
 refine zW (zq (zW ?_))
 have hE:=hJ RT;first | subst r | cases hE
 exact ⟨rfl,_,(ZL rfl),fM,_,(dx.pick [] _ (by decide) rfl),rfl,rfl⟩
 rintro ⟨⟩ YE Bc ⟨z4,D7,VM,VN,VO,VP,DL,WR,NX⟩ PG
 have wN:=wCm gm gi PG
 try dsimp only at wN
 have BQ:Hid (¬ ((↑(((↑bd.Readings.length:Int):Int) - 0).toNat:Int) < (↑bd.Readings.length:Int))):=zO (wAc)
 refine sR fL1 Z (oR Z (ze Z D7 DL) (eN (zM (cF Z BQ (Zb (zo (zo (ZV (zL (sR gAa Z (bnK wN fun X9 Jc RU=>zF 0 Z Z Z Z (zD Z Z Try.call19 zJ Z) NX (fun hs=>wDb Bc z4 hs Jc) (.inr Z) ?_)))))))))))
 rintro s6 Ul XI Bd WS NY ⟨rfl,rfl⟩
 have NZ:sW w U s6 [.blk cc 41 ci,.blk bR 41 bN,.blk bE 41 bB,.blk bp 41 bu,bt,.blk ag 45 af,.blk ae 28 B7,B0,aw,br,bs,ai] Bd:=NY
 refine oA Z Z (eN (zR ?_))
 have hE:=hJ RU;first | subst r | cases hE
 exact ⟨rfl,_,(ZL rfl),s6,_,(NZ.pick [] _ (by decide) rfl),rfl,rfl⟩
 intro o9 RV
 refine cT Z o9 (sR fL1 Z (oA Z Z (eN (zR (zW ?_)))))
 have hE:=hJ RV;first | subst r | cases hE
 exact ⟨rfl,_,(ZL rfl),sY,_,(qj.pick [] _ (by decide) rfl),rfl,rfl⟩
 intro o8 RW
 refine cT Z o8 (sR fL1 Z (oA Z Z (eN (zR (zW ?_)))))
 have hE:=hJ RW;first | subst r | cases hE
 exact ⟨rfl,_,(ZL rfl),sX,_,(iD.pick [] _ (by decide) rfl),rfl,rfl⟩
 intro cU RX
 refine oT Z cU (oT Z cU (oT Z cU (oT Z cU (oT Z cU (oR Z (zN Z (Zi cU.out) Z) (oM Z Z (oN Z (oN Z (oN Z (oN Z (oN Z (oR Z (zN Z Z Z) (oM Z Z (oN Z (oN Z (oN Z (oN Z (oN Z (oR Z (zN Z Z Z) (oM Z Z (oN Z (oN Z (oN Z (oN Z (oN Z (oR Z (zN Z Z Z) (eN (ZI Z (sR fL1 Z (oA Z Z (eN (zR (zW ?_)))))))))))))))))))))))))))))))))
 have hE:=hJ RX;first | subst r | cases hE
 exact ⟨rfl,_,(ZL rfl),df,_,(cx.pick [] _ (by decide) rfl),rfl,rfl⟩
 intro fd RY
 refine oT Z fd (oT Z fd (oR Z (zN Z (Zi fd.out) Z) (oM Z Z (oN Z (oN Z (oN Z (oN Z (oN Z (oR Z (zN Z Z Z) (oM Z Z (oN Z (oN Z (oN Z (oN Z (oN Z (oR Z (zN Z Z Z) (oM Z Z (oN Z (oN Z (oN Z (oN Z (oN Z (oR Z (zN Z Z Z) (oM Z Z (oN Z (oN Z (oN Z (oN Z (oN Z (oR Z (zN Z Z Z) (eN (ZI Z (sR fL1 Z (oA Z Z (eN (zR (zW ?_)))))))))))))))))))))))))))))))))))))
 have hE:=hJ RY;first | subst r | cases hE
 exact ⟨rfl,_,(ZL rfl),df,_,(cx.pick [] _ (by decide) rfl),rfl,rfl⟩
 intro fc RZ
 refine oT Z fc (oT Z fc (oR Z (zN Z (Zi fc.out) Z) (oM Z Z (oN Z (oN Z (oR Z (zN Z Z Z) (oM Z Z (oN Z (oN Z (oN Z (oN Z (oN Z (oR Z (zN Z Z Z) (oM Z Z (oN Z (oN Z (oN Z (oN Z (oN Z (oR Z (zN Z Z Z) (oM Z Z (oN Z (oN Z (oN Z (oN Z (oN Z (oR Z (zN Z Z Z) (oM Z Z (oN Z (oN Z (oN Z (oN Z (oN Z (oR Z (zN Z Z Z) (eN (ZI Z (sR fL1 Z (oA Z Z (eN (zR (zW ?_)))))))))))))))))))))))))))))))))))))))))
 have hE:=hJ RZ;first | subst r | cases hE
 exact ⟨rfl,_,(ZL rfl),df,_,(cx.pick [] _ (by decide) rfl),rfl,rfl⟩
 intro fb R0
 refine oT Z fb (oT Z fb (oR Z (zN Z (Zi fb.out) Z) (oM Z Z (oN Z (oN Z (oR Z (zN Z Z Z) (oM Z Z (oN Z (oN Z (oR Z (zN Z Z Z) (oM Z Z (oN Z (oN Z (oN Z (oN Z (oN Z (oR Z (zN Z Z Z) (oM Z Z (oN Z (oN Z (oN Z (oN Z (oN Z (oR Z (zN Z Z Z) (oM Z Z (oN Z (oN Z (oN Z (oN Z (oN Z (oR Z (zN Z Z Z) (oM Z Z (oN Z (oN Z (oN Z (oN Z (oN Z (oR Z (zN Z Z Z) (eN (ZI Z (sR fL1 Z (oA Z Z (eN (zR (zW ?_)))))))))))))))))))))))))))))))))))))))))))))
 have hE:=hJ R0;first | subst r | cases hE
 exact ⟨rfl,_,(ZL rfl),df,_,(cx.pick [] _ (by decide) rfl),rfl,rfl⟩
end Go.Proofs.Ytlnfbjphfoipaaa
