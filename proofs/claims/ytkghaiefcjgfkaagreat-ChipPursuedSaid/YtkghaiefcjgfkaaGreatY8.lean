import Derived.Test.YtkghaiefcjgfkaaGreatY5
import Derived.Test.YtkghaiefcjgfkaaGreatY4
import Derived.Test.YtkghaiefcjgfkaaGreatY6
import Derived.Test.YtkghaiefcjgfkaaGreatY7
set_option linter.all false
open List renaming flatMap->hH
open Option.some renaming inj->hJ
namespace Go.Proofs.YtkghaiefcjgfkaaGreat
open Go.KL
def gEn:Sch:=.fx 13 (.fl 14 .nil) .stop
def gEo:Sch:=.fl 11 (.fl 14 .nil)
def gEp:Sch:=.fx 2 (.fx 3 .nil .stop) .stop
def gEq:Sch:=.fl 0 (.fx 1 (.fl 2 .nil) .stop)
def gEr:Sch:=.fx 10 gEo .stop
def gEs:Sch:=.fl 8 (.fl 11 gEn)
def gEt:Sch:=.fx 7 (.fl 8 gEo) .stop
def gEu:Sch:=.fx 4 (.fl 12 gEn) .stop
def gEv:Sch:=.fl 0 (.fl 1 gEp)
def gEw:Sch:=.fx 10 (.fl 11 gEn) (.fx 13 gEr .stop)
def gEx:Sch:=.fx 7 gEs (.fx 13 gEt .stop)
def gEy:Sch:=.fl 8 (.fl 11 gEu)
def gEz:Sch:=.fl 11 (.fx 3 gEu .stop)
def gFa:Sch:=.fx 4 (.fl 12 gEw) (.fx 10 (.fl 11 gEu) .stop)
def gFb:Sch:=.fx 4 (.fl 12 gEx) (.fx 7 gEy .stop)
set_option maxHeartbeats 4000000
theorem wEI (p0:List Int) (iC:Option Addr) (iE:Nat) (p1:List Int) (iD:Option Addr) (iF:Nat) (p2:Int) (w:World) (U:PHeap) (hS:St0 w U []) (AU:Sl U 1 iC iE p0.length (hH KL.encB8 p0)) (AV:Sl U 1 iD iF p1.length (hH KL.encB8 p1)) {r:Bool} (hm:wBY p0 p1 p2=some r):Gv Tryz.prog 3 [.slice iC p0.length iE,.slice iD p1.length iF,jV p2] w (wBl w [] U (fun U_ L_ v=>v=.bool r/\L_=[])):=by
 unfold wBY at hm
 refine Gv.of Tryz.func3 Z Tryz.ntmps3 Tryz.results3 Z (sR fL1 Z (oA Z Z (eN (sR (.fl 0 (.fx 1 (.fl 2 (.fx 3 (.fl 4 (.fl 5 .nil)) .stop)) .stop)) Z (oM Z Z (bnK hm fun x1 h2 Cn=>zG 0 Z Z Z Z (zH Z Z Tryz.call5 (zB Z zN) Z) hS (fun hs=>wEw p0 iC iE w U hs AU h2) (.inr Z) ?_))))))
 rintro U4 L5 v6 W7 CV AJ ⟨au,iV,jY,rfl,rfl,vM⟩
 let B0:Res:=.blk au 80 [.slice iV x1.bytes.length jY,jV x1.next,.int .u32 x1.state]
 have xQ:sW w U U4 [B0] W7:=AJ
 refine oM Z Z ?_
 have v3:=AV.le CV
 refine bnK Cn fun iK wr Ci=>zG 0 Z Z Z Z (zH Z Z Tryz.call5 (zB Z zN) Z) xQ (fun hs=>wEw p1 iD iF W7 U4 hs v3 wr) (.inr Z) ?_
 rintro fK Dq Fh fT CN Ac ⟨ay,jb,lc,rfl,rfl,wz⟩
 let B1:Res:=.blk ay 80 [.slice jb iK.bytes.length lc,jV iK.next,.int .u32 iK.state]
 have Af:sW w U fK [B1,B0] fT:=Ac
 refine oA Z Z (oA Z Z (eN (sR fL1 Z (oA Z Z (eN (zJ (sR gEq Z (oM Z Z ?_))))))))
 have wC:=vM.le CN
 have q:=bnd Ci
 obtain ⟨⟨fj,iQ⟩,wG,oz⟩:=q
 try dsimp only at oz
 have An:sW w U fK [B0,B1] fT:=Af.pick [1,0] _ (by decide) rfl
 refine zG 1 Z Z Z Z (zH Z Z Tryz.call6 (zB Z (zB Z (zB Z zN))) Z) An (fun hs=>wBd x1 au iV jY 1 7 fT fK hs wC wG) (.inl Z) ?_
 rintro fM Du Fo qz CO Ao ⟨jd,lh,rfl,rfl,wH⟩
 have Ap:sW w U fM [.blk au 80 [.slice jd iQ.bytes.length lh,jV iQ.next,.int .u32 iQ.state],B1] qz:=Ao
 refine oM Z Z (eN (zY ?_))
 have q:=bnd oz
 obtain ⟨⟨pu,py,pz,fk⟩,Bc,oB⟩:=q
 try dsimp only at oB
 have q:=wBE Bc
 obtain ⟨io,Bd⟩:=q
 replace io:=zK io
 refine CK.forN' (fun bu (dJ,iR,iS,dK) σ_ w_=>∃ (U_:PHeap) (dZ:Option Addr) (eH:Nat) (d4:Option Addr) (eI:Nat),σ_ 39=jV (↑bu:Int)/\σ_ 2=jV p2/\σ_ 7=.pointer (some ⟨au,0,none⟩)/\σ_ 8=.pointer (some ⟨ay,0,none⟩)/\σ_ 9=.slice d4 dK.length eI/\σ_ 38=jV fj/\PHeap.Le fM U_/\sW w U U_ [.blk au 80 [.slice dZ dJ.length eH,jV iR,.int .u32 iS],B1,.row d4 eI 29 2 (hH wAe dK)] w_/\Sl U_ 1 dZ eH dJ.length (hH KL.encB8 dJ)) Bd ?_ ?_ ?_
 have AM:=Ap.nilrow 29 2
 exact ⟨fM,jd,lh,none,0,rfl,rfl,rfl,rfl,rfl,rfl,(zL _),(AM.pick [1,2,0] _ (by decide) rfl),wH⟩
 rintro bu ⟨dJ,iR,iS,dK⟩ Fz F2 qI g6 ⟨pE,dZ,eH,d4,eI,gC,q8,lm,q9,rc,ln,Cz,w8,vu⟩ oJ
 try dsimp only at oJ
 have jW:Hid ((↑bu:Int) < fj):=zK (wAx g6)
 replace g6:=zK g6
 have og:Hid (w64 ((↑bu:Int) + 1)=(↑(bu + 1):Int)):=zK (by have h1:=io.out;have h2:=jW.out;rw [wAW] <;> omega)
 refine sR fL1 Z (oR Z (zT Z gC ln) (eN (zJ (cT Z jW (kN (zJ (zY (sR fL2 Z (oM Z gC (oA Z Z (eN (rR (wDu (.fx 4 (wLH (.fx 8 (.fx 9 (.fl 10 .nil) .stop) .stop)) .stop)) Z (oM Z rc (oM Z Z (oR Z (ZI (zV Z Z Z) (congrArg (jV) og.out)) (oM Z lm ?_))))))))))))))))
 have q:=bnd oJ
 obtain ⟨⟨dO,iG⟩,vv,oi⟩:=q
 try dsimp only at oi
 refine zG 1 Z Z Z Z (zH Z Z Tryz.call7 (zB Z (zB Z zN)) Z) w8 (fun hs=>wCg (⟨dJ,iR,iS⟩:wAP) au dZ eH 200 qI pE hs vu vv) (.inl Z) ?_
 rintro d7 Dh E8 p8 CC xo ⟨iW,jZ,rfl,rfl,vF⟩
 let B2:Res:=.blk au 80 [.slice iW iG.bytes.length jZ,jV iG.next,.int .u32 iG.state]
 let B3:Res:=.row d4 eI 29 2 (hH wAe dK)
 have xp:sW w U d7 [B2,B1,B3] p8:=xo
 refine oR Z (Runs.mulw Z Z Z) (oR Z (zV Z Z Z) ?_)
 let B4:List Value:=[jV (↑(bu + 1):Int),jV (w64 (12000 + (w64 (7 * dO))))]
 refine oR Z (zl (pv:=[(0,jV (↑(bu + 1):Int)),(1,jV (w64 (12000 + (w64 (7 * dO)))))]) (z:=[jV 0,jV 0]) (cs:=B4) Z (wAE Z (wAE Z wAL)) yo wLU Z Z) (zr (pv:=[(0,.agg B4.toArray)]) (zs:=[jV 0,jV 0]) (cs:=B4) Z Z Z Z Z (wAE Z wAL) Zh Zw yo Z Z Z Z Z xp ?_)
 intro qc qO xt
 let B5:Res:=.row (some ⟨qO,0,none⟩) 1 29 2 (hH wAe [(⟨(↑(bu + 1):Int),w64 (12000 + (w64 (7 * dO)))⟩:wAK)])
 have n4:sW w U d7 [B5,B2,B1,B3] qc:=xt
 refine bnK oi fun pn vJ Bt=>Zn (j:=3) (enc:=wAe) (xs:=dK) (ys:=[(⟨(↑(bu + 1):Int),w64 (12000 + (w64 (7 * dO)))⟩:wAK)]) (zs:=pn) rfl rfl rfl rfl rfl Tryz.underlying25 wNY rfl rfl rfl rfl rfl rfl n4 rfl rfl rfl (n4.srcR (j:=0) rfl (by decide) (wAC (f:=wAe) (sz:=2) (fun _=>rfl) [(⟨(↑(bu + 1):Int),w64 (12000 + (w64 (7 * dO)))⟩:wAK)])) (fun _=>rfl) (fun _=>rfl) vJ rfl ?_
 intro i7 j6 qh xC
 have xD:sW w U d7 [B5,B2,B1,.row i7 j6 29 2 (hH wAe pn)] qh:=xC
 refine oA Z Z (zc (zk (zI (rR fL2 Z (oR Z (ZI (zV Z gC Z) (congrArg (jV) og.out)) (oM Z Z (zc ?_)))))))
 cases Bt
 exact zI ⟨rfl,⟨d7,iW,jZ,i7,j6,rfl,q8,lm,q9,rfl,ln,(Cz.trans CC),(xD.pick [1,2,3] _ (by decide) rfl),vF⟩⟩
 rintro FG qk ⟨pK,i8,j8,i9,k7,vp,sf,lI,sg,lJ,sh,CI,yy,wm⟩
 have qX:Hid (¬ ((↑((fj:Int) - 0).toNat:Int) < fj)):=zK (wAd)
 refine sR fL1 Z (oR Z (zT Z vp sh) (eN (zJ (cF Z qX (ZQ (zg (zg (ZJ (zI (sR (.fl 0 (.fl 1 (.fx 2 (.fl 3 (.fl 4 (.fx 5 (wML (.nil)) .stop))) .stop))) Z (oM Z lJ (oM Z sf (bnK oB fun iL wp BO=>zG 0 Z Z Z Z (zH Z Z Tryz.call9 (zB Z (zB Z zN)) Z) yy (fun hs=>wFx p2 50 qk pK hs wp) (.inr Z) ?_)))))))))))))
 rintro pM Dn Fe fR o7 y6 ⟨rfl,rfl⟩
 let B6:Res:=.blk au 80 [.slice i8 pu.length j8,jV py,.int .u32 pz]
 have y9:sW w U pM [B6,B1,.row i9 k7 29 2 (hH wAe fk)] fR:=y6
 refine oR Z (zV Z Z Z) ?_
 let B7:List Value:=[jV 0,jV 0]
 refine oR Z (zl (pv:=[(0,jV (w64 (iL + 1))),(1,jV 1000)]) (z:=B7) (cs:=[jV (w64 (iL + 1)),jV 1000]) Z (wAE Z (wAE Z wAL)) Tryz.zeroValue35 wLV Z Z) ?_
 have q:=y9.freezeR (k:=2) (n:=fk.length) rfl (wAC (f:=wAe) (sz:=2) (fun _=>rfl) fk) (by decide)
 obtain ⟨jD,o8,Cu,z1⟩:=q
 have z2:sW w U jD [B6,B1] fR:=z1
 have q:=bnd BO
 obtain ⟨⟨am,C7⟩,wt,ou⟩:=q
 try dsimp only at ou
 refine zG 0 Z Z Z Z (zH Z Z Tryz.call8 (zB Z (zB Z zN)) Z) z2 (fun hs=>wGX fk i9 k7 (⟨w64 (iL + 1),1000⟩:wAX) fR jD hs Cu wt) (.inr Z) ?_
 rintro bT Dp Fg qu o9 z3 ⟨az,aG,rfl,rfl⟩
 let B8:Res:=.row az aG 47 3 (hH wBG am)
 have gV:sW w U bT [B8,B6,B1] qu:=z3
 refine oM Z Z (oR Z (zZ Z Z (v:=.slice az am.length aG) Z) (oR Z (zZ Z Z (v:=jV C7) Z) (oA Z Z (oA Z Z (eN (zJ (sR fL9 Z (oM Z Z (oR Z (Zb Z Z Z) (oM Z Z (ifc ou ?_ ?_)))))))))))
 intro ba Cj
 refine zU Z Z Z (zO Z Z (ZA (fun h=>h ba.out))) Z Z (ze Z Z Z (zO Z Z (ZA (fun h=>h ba.out))) (fun _=>zx Z Z yS) (zU Z Z Z (zO Z Z (ZA (fun h=>h ba.out))) Z lJ (ze Z Z Z (zO Z Z (ZA (fun h=>h ba.out))) (fun _=>zx Z Z Zh) (ze Z Z Z (zO Z Z (ZA (fun h=>h ba.out))) (fun _=>Zb Z Z Z) (oR Z (zd Z (ZA (fun h=>h ba.out)) Z) (eN (ifc Cj ?_ ?_)))))))
 intro ga Cm
 refine zj (ZA (fun h=>h ga.out)) (kN (sR (.fl 0 (.fx 1 (.fl 2 (.fx 3 (.fx 4 .nil .stop) .stop)) .stop)) Z ?_))
 let B9:List Value:=[jV 0,jV 0,jV 0]
 refine oR Z (zl (pv:=[]) (z:=B9) (cs:=B9) Z wAL Tryz.zeroValue39 wJR Z Z) (zr (pv:=[(0,.agg B9.toArray)]) (zs:=B9) (cs:=B9) Z Z Z Z Z (wAE Z wAL) Zo yd Tryz.zeroValue39 Z Z Z Z Z gV ?_)
 intro qv aF z4
 let ah:Res:=.row (some ⟨aF,0,none⟩) 1 39 3 (hH wAG [(⟨(⟨0,0⟩:wAF),0⟩:wAO)])
 have z5:sW w U bT [ah,B8,B6,B1] qv:=z4
 let dd:List Value:=[.slice none 0 0,.slice none 0 0,.slice (some ⟨aF,0,none⟩) 1 1,.slice none 0 0]
 let fz:List Value:=[.slice none 0 0,.slice none 0 0,.slice none 0 0,.slice none 0 0]
 refine oR Z (zl (pv:=[(2,.slice (some ⟨aF,0,none⟩) 1 1)]) (z:=fz) (cs:=dd) Z (wAE Z wAL) yY wHc Z Z) (zX (cs:=fz) Z Z Z Z Z yY Z z5 ?_)
 intro DJ ab z6
 refine za (j:=0) (vs:=dd) Z Z Z Z z6 Z Z Z Z zf (zA Z) Z Z Z ?_
 intro fS z7
 have z8:sW w U bT [.blk ab 45 dd,ah,B8,B6,B1] fS:=z7
 refine eN (sR fL1 Z (oA Z Z (eN (zJ (sR gEq Z (oM Z lI ?_))))))
 have wu:=wm.le o7
 have wv:=wu.le o8
 have ww:=wv.le o9
 have q:=bnd Cm
 obtain ⟨⟨aM,iM⟩,wx,ov⟩:=q
 try dsimp only at ov
 have z9:sW w U bT [B6,.blk ab 45 dd,ah,B8,B1] fS:=z8.pick [3,0,1,2,4] _ (by decide) rfl
 refine zG 1 Z Z Z Z (zH Z Z Tryz.call6 (zB Z (zB Z (zB Z zN))) Z) z9 (fun hs=>wBd (⟨pu,py,pz⟩:wAP) au i8 j8 1 3 fS bT hs ww wx) (.inl Z) ?_
 rintro fL Dr Fi qw CM Aa ⟨ja,lb,rfl,rfl,wy⟩
 have Ab:sW w U fL [.blk au 80 [.slice ja iM.bytes.length lb,jV iM.next,.int .u32 iM.state],.blk ab 45 dd,ah,B8,B1] qw:=Aa
 refine oM Z Z (eN (zY ?_))
 have q:=bnd ov
 obtain ⟨⟨De,Df,Dg,aq,dR⟩,Ba,ow⟩:=q
 try dsimp only at ow
 have q:=wBE Ba
 obtain ⟨im,Bb⟩:=q
 replace im:=zK im
 refine CK.forN' (fun aK (dI,iN,iO,aP,ao) σ_ w_=>∃ (U_:PHeap) (dV:Option Addr) (eB:Nat) (bm:Option Addr) (bt:Nat),σ_ 76=jV (↑aK:Int)/\σ_ 7=.pointer (some ⟨au,0,none⟩)/\σ_ 8=.pointer (some ⟨ay,0,none⟩)/\σ_ 11=.slice az am.length aG/\σ_ 13=.pointer (some ⟨ab,0,none⟩)/\σ_ 14=jV ao/\σ_ 75=jV aM/\PHeap.Le fL U_/\sW w U U_ [.blk au 80 [.slice dV dI.length eB,jV iN,.int .u32 iO],.row bm bt 37 2 (hH wAA aP),ah,.blk ab 45 [.slice none 0 0,.slice bm aP.length bt,.slice (some ⟨aF,0,none⟩) ([(⟨(⟨0,0⟩:wAF),0⟩:wAO)].length) 1,.slice none 0 0],B1,B8] w_/\Sl U_ 1 dV eB dI.length (hH KL.encB8 dI)) Bb ?_ ?_ ?_
 have Ad:=Ab.nilrow 37 2
 exact ⟨fL,ja,lb,none,0,rfl,lI,sg,rfl,rfl,rfl,rfl,(zL _),(Ad.pick [1,0,3,2,5,4] _ (by decide) rfl),wy⟩
 rintro aK ⟨dI,iN,iO,aP,ao⟩ Fy FN qx ie ⟨pO,dV,eB,bm,bt,aW,aR,aZ,a6,aS,aU,aV,iz,Ae,wA⟩ oI
 try dsimp only at oI
 have lf:Hid ((↑aK:Int) < aM):=zK (wAx ie)
 replace ie:=zK ie
 have gZ:Hid (w64 ((↑aK:Int) + 1)=(↑(aK + 1):Int)):=zK (by have h1:=im.out;have h2:=lf.out;rw [wAW] <;> omega)
 refine sR fL1 Z (oR Z (zT Z aW aV) (eN (zJ (cT Z lf (kN (zJ (zY (sR (.fl 0 (.fx 1 (.fl 2 (.fl 3 .nil)) .stop)) Z (oM Z aR ?_)))))))))
 have q:=bnd oI
 obtain ⟨⟨O,fh⟩,wB,ox⟩:=q
 try dsimp only at ox
 refine zG 1 Z Z Z Z (zH Z Z Tryz.call6 (zB Z (zB Z (zB Z zN))) Z) Ae (fun hs=>wBd (⟨dI,iN,iO⟩:wAP) au dV eB 1 9 qx pO hs wA wB) (.inl Z) ?_
 rintro jE Ds Fj jO iA Ag ⟨jc,lg,rfl,rfl,wD⟩
 let aE:Res:=.blk ab 45 [.slice none 0 0,.slice bm aP.length bt,.slice (some ⟨aF,0,none⟩) ([(⟨(⟨0,0⟩:wAF),0⟩:wAO)].length) 1,.slice none 0 0]
 let be:Res:=.row bm bt 37 2 (hH wAA aP)
 have Ah:sW w U jE [.blk au 80 [.slice jc fh.bytes.length lg,jV fh.next,.int .u32 fh.state],be,ah,aE,B1,B8] jO:=Ag
 refine oR Z (Runs.mulw Z Z Z) (oA Z Z (eN (sR (wDp (.fx 3 (wOF (.fx 7 (.fx 8 .nil .stop) .stop)) .stop)) Z (oM Z Z (oM Z Z (oM Z aR ?_))))))
 have q:=bnd ox
 obtain ⟨⟨aa,iP⟩,wE,oy⟩:=q
 try dsimp only at oy
 refine zG 1 Z Z Z Z (zH Z Z Tryz.call7 (zB Z (zB Z zN)) Z) Ah (fun hs=>wCg fh au jc lg 20 jO jE hs wD wE) (.inl Z) ?_
 rintro an Dt Fm qy iB Ai ⟨dW,eE,rfl,rfl,gO⟩
 let ap:Res:=.blk au 80 [.slice dW iP.bytes.length eE,jV iP.next,.int .u32 iP.state]
 have Aj:sW w U an [ap,be,ah,aE,B1,B8] qy:=Ai
 refine oR Z (Runs.mulw Z Z Z) (oR Z (zV Z Z Z) ?_)
 let af:List Value:=[jV (w64 (50 * O)),jV (w64 ((w64 (50 * O)) + (w64 (10 * aa))))]
 refine oR Z (zl (pv:=[(0,jV (w64 (50 * O))),(1,jV (w64 ((w64 (50 * O)) + (w64 (10 * aa)))))]) (z:=B7) (cs:=af) Z (wAE Z (wAE Z wAL)) ZF wCI Z Z) (zX (cs:=B7) Z Z Z Z Z ZF Z Aj ?_)
 intro DK ac Ak
 refine za (j:=0) (vs:=af) Z Z Z Z Ak Z Z Z Z zo (zA Z) Z Z Z ?_
 intro fU Al
 have Am:sW w U an [.blk ac 37 af,ap,be,ah,aE,B1,B8] fU:=Al
 refine eN (bnK oy fun ag cc ip=>ZB zw [3,1,1,2,0,3,3,2,3,3,2,3,3,0,3] (wDp (.fl 5 (.fl 6 (.fl 9 (.fx 3 (.fx 4 (.fl 12 (.fx 7 (.fl 8 gEw) (.fx 10 gEx (.fx 13 (.fx 7 (.fl 8 gEr) (.fx 10 gEt .stop)) .stop)))) (.fx 7 (.fl 8 gFa) (.fx 10 gFb .stop))) (.fx 7 (.fl 8 (.fx 3 gFa (.fx 10 gEz .stop))) (.fx 10 (.fx 3 gFb (.fx 7 (.fl 8 gEz) .stop)) .stop))))))) (by kernel_rfl) ?_)
 have bh:=Am.drew
 generalize hw_W363:({ fU with drawn:=fU.drawn + 1 }:World)=DL at bh ⊢
 refine ZO (s:=.fl 14 .nil) (M:=fun σ_ w_=>∃ (U_:PHeap) (cR:Option Addr) (dp:Nat) (ft:Option Addr) (gb:Nat),σ_ 7=.pointer (some ⟨au,0,none⟩)/\σ_ 8=.pointer (some ⟨ay,0,none⟩)/\σ_ 11=.slice az am.length aG/\σ_ 13=.pointer (some ⟨ab,0,none⟩)/\σ_ 14=jV ao/\σ_ 16=.pointer (some ⟨ac,0,none⟩)/\σ_ 75=jV aM/\σ_ 76=jV (↑aK:Int)/\σ_ 88=.pointer (some ⟨ab,1,none⟩)/\σ_ 90=.agg af.toArray/\σ_ 91=.slice ft ([(⟨w64 (50 * O),w64 ((w64 (50 * O)) + (w64 (10 * aa)))⟩:wAF)].length) gb/\σ_ 92=.slice cR ag.length dp/\σ_ 93=jV ao/\σ_ 94=.pointer (some ⟨ac,1,none⟩)/\σ_ 95=jV (w64 ((w64 (50 * O)) + (w64 (10 * aa))))/\σ_ 96=jV (w64 (ao + (w64 ((w64 (50 * O)) + (w64 (10 * aa))))))/\σ_ 97=.pointer (some ⟨ac,0,none⟩)/\σ_ 98=jV (w64 (50 * O))/\σ_ 99=jV (w64 ((w64 (ao + (w64 ((w64 (50 * O)) + (w64 (10 * aa)))))) - (w64 (50 * O))))/\σ_ 100=.pointer (some ⟨ab,1,none⟩)/\PHeap.Le an U_/\sW w U U_ [.blk ac 37 af,ap,.row cR dp 37 2 (hH wAA ag),ah,.blk ab 45 [.slice none 0 0,.slice cR ag.length dp,.slice (some ⟨aF,0,none⟩) ([(⟨(⟨0,0⟩:wAF),0⟩:wAO)].length) 1,.slice none 0 0],B1,B8,.row ft gb 37 2 (hH wAA [(⟨w64 (50 * O),w64 ((w64 (50 * O)) + (w64 (10 * aa)))⟩:wAF)])] w_) ?_ fun iq=>?_
 rintro FO DM ⟨pP,cR,dp,ft,gb,sv,sw,sA,sB,Ep,Er,sC,sD,Es,Et,Eu,Ev,Ew,Ex,Ey,Ez,EA,EB,sE,EC,pd,Aq⟩
 refine oA Z sE (zc (zk (zI (rR fL2 Z (oR Z (ZI (zV Z sD Z) (congrArg (jV) gZ.out)) (oM Z Z (zc ?_)))))))
 cases ip
 have wI:=gO.le pd
 exact zI ⟨rfl,⟨pP,dW,eE,cR,dp,rfl,sv,sw,sA,sB,rfl,sC,(((iz.trans iA).trans iB).trans pd),(Aq.pick [1,2,3,4,5,6] _ (by decide) rfl),wI⟩⟩
 refine ZO (s:=gEo) (M:=fun σ_ w_=>∃ (U_:PHeap) (cS:Option Addr) (dq:Nat) (fu:Option Addr) (ge:Nat),σ_ 7=.pointer (some ⟨au,0,none⟩)/\σ_ 8=.pointer (some ⟨ay,0,none⟩)/\σ_ 11=.slice az am.length aG/\σ_ 13=.pointer (some ⟨ab,0,none⟩)/\σ_ 14=jV ao/\σ_ 16=.pointer (some ⟨ac,0,none⟩)/\σ_ 75=jV aM/\σ_ 76=jV (↑aK:Int)/\σ_ 88=.pointer (some ⟨ab,1,none⟩)/\σ_ 90=.agg af.toArray/\σ_ 91=.slice fu ([(⟨w64 (50 * O),w64 ((w64 (50 * O)) + (w64 (10 * aa)))⟩:wAF)].length) ge/\σ_ 92=.slice cS ag.length dq/\σ_ 93=jV ao/\σ_ 94=.pointer (some ⟨ac,1,none⟩)/\σ_ 95=jV (w64 ((w64 (50 * O)) + (w64 (10 * aa))))/\σ_ 96=jV (w64 (ao + (w64 ((w64 (50 * O)) + (w64 (10 * aa))))))/\σ_ 97=.pointer (some ⟨ac,0,none⟩)/\σ_ 98=jV (w64 (50 * O))/\σ_ 100=.pointer (some ⟨ab,1,none⟩)/\PHeap.Le an U_/\sW w U U_ [.blk ac 37 af,ap,.row cS dq 37 2 (hH wAA ag),ah,.blk ab 45 [.slice none 0 0,.slice cS ag.length dq,.slice (some ⟨aF,0,none⟩) ([(⟨(⟨0,0⟩:wAF),0⟩:wAO)].length) 1,.slice none 0 0],B1,B8,.row fu ge 37 2 (hH wAA [(⟨w64 (50 * O),w64 ((w64 (50 * O)) + (w64 (10 * aa)))⟩:wAF)])] w_) ?_ fun oK=>?_
 rintro FP DN ⟨pQ,cS,dq,fu,ge,sF,sG,sH,sI,ED,EE,sJ,sK,EF,EG,EH,EI,EJ,EK,EL,sL,EM,sM,EN,pe,Ar⟩
 refine oR Z (ZV Z sL sM) (oA Z Z (zc (zk (zI (rR fL2 Z (oR Z (ZI (zV Z sK Z) (congrArg (jV) gZ.out)) (oM Z Z (zc ?_))))))))
 cases ip
 have wJ:=gO.le pe
 exact zI ⟨rfl,⟨pQ,dW,eE,cS,dq,rfl,sF,sG,sH,sI,rfl,sJ,(((iz.trans iA).trans iB).trans pe),(Ar.pick [1,2,3,4,5,6] _ (by decide) rfl),wJ⟩⟩
 refine ZO (s:=.fl 12 gEn) (M:=fun σ_ w_=>∃ (U_:PHeap) (cU:Option Addr) (dr:Nat) (bO:Option Addr) (bY:Nat),σ_ 7=.pointer (some ⟨au,0,none⟩)/\σ_ 8=.pointer (some ⟨ay,0,none⟩)/\σ_ 11=.slice az am.length aG/\σ_ 13=.pointer (some ⟨ab,0,none⟩)/\σ_ 14=jV ao/\σ_ 16=.pointer (some ⟨ac,0,none⟩)/\σ_ 75=jV aM/\σ_ 76=jV (↑aK:Int)/\σ_ 88=.pointer (some ⟨ab,1,none⟩)/\σ_ 90=.agg af.toArray/\σ_ 91=.slice cU ([(⟨w64 (50 * O),w64 ((w64 (50 * O)) + (w64 (10 * aa)))⟩:wAF)].length) dr/\σ_ 92=.slice bO ag.length bY/\σ_ 93=jV ao/\σ_ 94=.pointer (some ⟨ac,1,none⟩)/\σ_ 95=jV (w64 ((w64 (50 * O)) + (w64 (10 * aa))))/\σ_ 96=jV (w64 (ao + (w64 ((w64 (50 * O)) + (w64 (10 * aa))))))/\σ_ 97=.pointer (some ⟨ac,0,none⟩)/\σ_ 98=jV (w64 (50 * O))/\σ_ 99=jV (w64 ((w64 (ao + (w64 ((w64 (50 * O)) + (w64 (10 * aa)))))) - (w64 (50 * O))))/\PHeap.Le an U_/\sW w U U_ [.blk ac 37 af,ap,ah,aE,B1,B8,.row cU dr 37 2 (hH wAA [(⟨w64 (50 * O),w64 ((w64 (50 * O)) + (w64 (10 * aa)))⟩:wAF)]),.row bO bY 37 2 (hH wAA ag)] w_) ?_ fun ir=>?_
 rintro FQ DO ⟨jG,cU,dr,bO,bY,sN,sO,sP,lL,sQ,sS,sT,sU,sV,sX,sY,lM,sZ,s6,s7,s8,s9,tc,td,CP,As⟩
 refine oR Z (zM Z lL zP Z Zd) (za (j:=3) (vs:=[.slice bO ag.length bY]) Z Z Z Z As Z Z lM Z Zd (zA Z) Z Z Z ?_)
 intro qA Au
 have Av:sW w U jG [.blk ac 37 af,ap,ah,.blk ab 45 [.slice none 0 0,.slice bO ag.length bY,.slice (some ⟨aF,0,none⟩) ([(⟨(⟨0,0⟩:wAF),0⟩:wAO)].length) 1,.slice none 0 0],B1,B8,.row cU dr 37 2 (hH wAA [(⟨w64 (50 * O),w64 ((w64 (50 * O)) + (w64 (10 * aa)))⟩:wAF)]),.row bO bY 37 2 (hH wAA ag)] qA:=Au
 exact iq _ _ ⟨jG,bO,bY,cU,dr,sN,sO,sP,lL,sQ,sS,sT,sU,sV,sX,sY,lM,sZ,s6,s7,s8,s9,tc,td,rfl,CP,(Av.pick [0,1,7,2,3,4,5,6] _ (by decide) rfl)⟩
 refine ZO (s:=.fl 8 gEo) (M:=fun σ_ w_=>∃ (U_:PHeap) (cV:Option Addr) (dt:Nat) (fw:Option Addr) (gf:Nat),σ_ 7=.pointer (some ⟨au,0,none⟩)/\σ_ 8=.pointer (some ⟨ay,0,none⟩)/\σ_ 11=.slice az am.length aG/\σ_ 13=.pointer (some ⟨ab,0,none⟩)/\σ_ 14=jV ao/\σ_ 16=.pointer (some ⟨ac,0,none⟩)/\σ_ 75=jV aM/\σ_ 76=jV (↑aK:Int)/\σ_ 88=.pointer (some ⟨ab,1,none⟩)/\σ_ 90=.agg af.toArray/\σ_ 91=.slice fw ([(⟨w64 (50 * O),w64 ((w64 (50 * O)) + (w64 (10 * aa)))⟩:wAF)].length) gf/\σ_ 92=.slice cV ag.length dt/\σ_ 93=jV ao/\σ_ 94=.pointer (some ⟨ac,1,none⟩)/\σ_ 95=jV (w64 ((w64 (50 * O)) + (w64 (10 * aa))))/\σ_ 97=.pointer (some ⟨ac,0,none⟩)/\σ_ 98=jV (w64 (50 * O))/\σ_ 100=.pointer (some ⟨ab,1,none⟩)/\PHeap.Le an U_/\sW w U U_ [.blk ac 37 af,ap,.row cV dt 37 2 (hH wAA ag),ah,.blk ab 45 [.slice none 0 0,.slice cV ag.length dt,.slice (some ⟨aF,0,none⟩) ([(⟨(⟨0,0⟩:wAF),0⟩:wAO)].length) 1,.slice none 0 0],B1,B8,.row fw gf 37 2 (hH wAA [(⟨w64 (50 * O),w64 ((w64 (50 * O)) + (w64 (10 * aa)))⟩:wAF)])] w_) ?_ fun Cw=>?_
 rintro FR DP ⟨pR,cV,dt,fw,gf,te,tf,tg,th,EO,EP,tj,tl,EQ,ER,ES,ET,tn,EU,tp,EV,tq,EW,pf,Aw⟩
 refine oR Z (zV Z tn tp) (oR Z (ZV Z Z tq) (oA Z Z (zc (zk (zI (rR fL2 Z (oR Z (ZI (zV Z tl Z) (congrArg (jV) gZ.out)) (oM Z Z (zc ?_)))))))))
 cases ip
 have wK:=gO.le pf
 exact zI ⟨rfl,⟨pR,dW,eE,cV,dt,rfl,te,tf,tg,th,rfl,tj,(((iz.trans iA).trans iB).trans pf),(Aw.pick [1,2,3,4,5,6] _ (by decide) rfl),wK⟩⟩
 refine ZO (s:=gEr) (M:=fun σ_ w_=>∃ (U_:PHeap) (cW:Option Addr) (du:Nat) (dX:Option Addr) (eF:Nat),σ_ 7=.pointer (some ⟨au,0,none⟩)/\σ_ 8=.pointer (some ⟨ay,0,none⟩)/\σ_ 11=.slice az am.length aG/\σ_ 13=.pointer (some ⟨ab,0,none⟩)/\σ_ 14=jV ao/\σ_ 16=.pointer (some ⟨ac,0,none⟩)/\σ_ 75=jV aM/\σ_ 76=jV (↑aK:Int)/\σ_ 88=.pointer (some ⟨ab,1,none⟩)/\σ_ 90=.agg af.toArray/\σ_ 91=.slice dX ([(⟨w64 (50 * O),w64 ((w64 (50 * O)) + (w64 (10 * aa)))⟩:wAF)].length) eF/\σ_ 92=.slice cW ag.length du/\σ_ 93=jV ao/\σ_ 94=.pointer (some ⟨ac,1,none⟩)/\σ_ 95=jV (w64 ((w64 (50 * O)) + (w64 (10 * aa))))/\σ_ 96=jV (w64 (ao + (w64 ((w64 (50 * O)) + (w64 (10 * aa))))))/\σ_ 97=.pointer (some ⟨ac,0,none⟩)/\σ_ 100=.pointer (some ⟨ab,1,none⟩)/\PHeap.Le an U_/\sW w U U_ [.blk ac 37 af,ap,.row cW du 37 2 (hH wAA ag),ah,.blk ab 45 [.slice none 0 0,.slice cW ag.length du,.slice (some ⟨aF,0,none⟩) ([(⟨(⟨0,0⟩:wAF),0⟩:wAO)].length) 1,.slice none 0 0],B1,B8,.row dX eF 37 2 (hH wAA [(⟨w64 (50 * O),w64 ((w64 (50 * O)) + (w64 (10 * aa)))⟩:wAF)])] w_) ?_ fun oO=>?_
 rintro FS DQ ⟨pS,cW,du,dX,eF,tr,tt,tu,tv,tw,tx,tz,tB,tC,tD,tE,tF,tG,tH,tI,tJ,lN,tK,CQ,n9⟩
 exact ZL Z Z Z Z (n9.ldB (j:=0) Z Z lN zF (v:=jV (w64 (50 * O))) Z) (oK _ _ ⟨pS,cW,du,dX,eF,tr,tt,tu,tv,tw,tx,tz,tB,tC,tD,tE,tF,tG,tH,tI,tJ,lN,Z,tK,CQ,n9⟩)
 refine ZO (s:=.fl 11 gEn) (M:=fun σ_ w_=>∃ (U_:PHeap) (cX:Option Addr) (dv:Nat) (bP:Option Addr) (bZ:Nat),σ_ 7=.pointer (some ⟨au,0,none⟩)/\σ_ 8=.pointer (some ⟨ay,0,none⟩)/\σ_ 11=.slice az am.length aG/\σ_ 13=.pointer (some ⟨ab,0,none⟩)/\σ_ 14=jV ao/\σ_ 16=.pointer (some ⟨ac,0,none⟩)/\σ_ 75=jV aM/\σ_ 76=jV (↑aK:Int)/\σ_ 88=.pointer (some ⟨ab,1,none⟩)/\σ_ 90=.agg af.toArray/\σ_ 91=.slice cX ([(⟨w64 (50 * O),w64 ((w64 (50 * O)) + (w64 (10 * aa)))⟩:wAF)].length) dv/\σ_ 92=.slice bP ag.length bZ/\σ_ 93=jV ao/\σ_ 94=.pointer (some ⟨ac,1,none⟩)/\σ_ 95=jV (w64 ((w64 (50 * O)) + (w64 (10 * aa))))/\σ_ 96=jV (w64 (ao + (w64 ((w64 (50 * O)) + (w64 (10 * aa))))))/\σ_ 97=.pointer (some ⟨ac,0,none⟩)/\σ_ 98=jV (w64 (50 * O))/\σ_ 100=.pointer (some ⟨ab,1,none⟩)/\PHeap.Le an U_/\sW w U U_ [.blk ac 37 af,ap,ah,aE,B1,B8,.row cX dv 37 2 (hH wAA [(⟨w64 (50 * O),w64 ((w64 (50 * O)) + (w64 (10 * aa)))⟩:wAF)]),.row bP bZ 37 2 (hH wAA ag)] w_) ?_ fun oP=>?_
 rintro FT DR ⟨jH,cX,dv,bP,bZ,tL,tM,tN,tO,tP,tQ,tR,tS,tT,tU,tV,lO,tW,tX,tY,lP,tZ,lQ,lR,CR,Ax⟩
 refine oR Z (ZV Z lP lQ) (za (j:=3) (vs:=[.slice bP ag.length bZ]) Z Z Z Z Ax Z lR lO Z Zd (zA Z) Z Z Z ?_)
 intro qB Ay
 have Az:sW w U jH [.blk ac 37 af,ap,ah,.blk ab 45 [.slice none 0 0,.slice bP ag.length bZ,.slice (some ⟨aF,0,none⟩) ([(⟨(⟨0,0⟩:wAF),0⟩:wAO)].length) 1,.slice none 0 0],B1,B8,.row cX dv 37 2 (hH wAA [(⟨w64 (50 * O),w64 ((w64 (50 * O)) + (w64 (10 * aa)))⟩:wAF)]),.row bP bZ 37 2 (hH wAA ag)] qB:=Ay
 exact iq _ _ ⟨jH,bP,bZ,cX,dv,tL,tM,tN,tO,tP,tQ,tR,tS,tT,tU,tV,lO,tW,tX,tY,lP,tZ,lQ,rfl,lR,CR,(Az.pick [0,1,7,2,3,4,5,6] _ (by decide) rfl)⟩
 refine ZO (s:=gEu) (M:=fun σ_ w_=>∃ (U_:PHeap) (cY:Option Addr) (dw:Nat),σ_ 7=.pointer (some ⟨au,0,none⟩)/\σ_ 8=.pointer (some ⟨ay,0,none⟩)/\σ_ 11=.slice az am.length aG/\σ_ 13=.pointer (some ⟨ab,0,none⟩)/\σ_ 14=jV ao/\σ_ 16=.pointer (some ⟨ac,0,none⟩)/\σ_ 75=jV aM/\σ_ 76=jV (↑aK:Int)/\σ_ 88=.pointer (some ⟨ab,1,none⟩)/\σ_ 89=.slice bm aP.length bt/\σ_ 90=.agg af.toArray/\σ_ 91=.slice cY ([(⟨w64 (50 * O),w64 ((w64 (50 * O)) + (w64 (10 * aa)))⟩:wAF)].length) dw/\σ_ 93=jV ao/\σ_ 94=.pointer (some ⟨ac,1,none⟩)/\σ_ 95=jV (w64 ((w64 (50 * O)) + (w64 (10 * aa))))/\σ_ 96=jV (w64 (ao + (w64 ((w64 (50 * O)) + (w64 (10 * aa))))))/\σ_ 97=.pointer (some ⟨ac,0,none⟩)/\σ_ 98=jV (w64 (50 * O))/\σ_ 99=jV (w64 ((w64 (ao + (w64 ((w64 (50 * O)) + (w64 (10 * aa)))))) - (w64 (50 * O))))/\PHeap.Le an U_/\sW w U U_ [.blk ac 37 af,ap,be,ah,aE,B1,B8,.row cY dw 37 2 (hH wAA [(⟨w64 (50 * O),w64 ((w64 (50 * O)) + (w64 (10 * aa)))⟩:wAF)])] w_) ?_ fun oQ=>?_
 rintro FU DS ⟨jI,cY,dw,t4,t5,t6,t7,t8,t9,ua,ub,uc,ud,ue,lS,uf,ug,uh,ui,uj,uk,ul,CS,oa⟩
 refine Zn (j:=2) (enc:=wAA) (xs:=aP) (ys:=[(⟨w64 (50 * O),w64 ((w64 (50 * O)) + (w64 (10 * aa)))⟩:wAF)]) (zs:=ag) rfl rfl rfl rfl rfl yX wFk rfl rfl rfl rfl rfl rfl oa rfl ud lS (oa.srcR (j:=7) rfl (by decide) (wAC (f:=wAA) (sz:=2) (fun _=>rfl) [(⟨w64 (50 * O),w64 ((w64 (50 * O)) + (w64 (10 * aa)))⟩:wAF)])) (fun _=>rfl) (fun _=>rfl) cc rfl ?_
 intro je li qC AA
 have AB:sW w U jI [.blk ac 37 af,ap,.row je li 37 2 (hH wAA ag),ah,aE,B1,B8,.row cY dw 37 2 (hH wAA [(⟨w64 (50 * O),w64 ((w64 (50 * O)) + (w64 (10 * aa)))⟩:wAF)])] qC:=AA
 exact ir _ _ ⟨jI,cY,dw,je,li,t4,t5,t6,t7,t8,t9,ua,ub,uc,ue,lS,rfl,uf,ug,uh,ui,uj,uk,ul,CS,(AB.pick [0,1,3,4,5,6,7,2] _ (by decide) rfl)⟩
 refine ZO (s:=gEt) (M:=fun σ_ w_=>∃ (U_:PHeap) (cZ:Option Addr) (dx:Nat) (dY:Option Addr) (eG:Nat),σ_ 7=.pointer (some ⟨au,0,none⟩)/\σ_ 8=.pointer (some ⟨ay,0,none⟩)/\σ_ 11=.slice az am.length aG/\σ_ 13=.pointer (some ⟨ab,0,none⟩)/\σ_ 14=jV ao/\σ_ 16=.pointer (some ⟨ac,0,none⟩)/\σ_ 75=jV aM/\σ_ 76=jV (↑aK:Int)/\σ_ 88=.pointer (some ⟨ab,1,none⟩)/\σ_ 90=.agg af.toArray/\σ_ 91=.slice dY ([(⟨w64 (50 * O),w64 ((w64 (50 * O)) + (w64 (10 * aa)))⟩:wAF)].length) eG/\σ_ 92=.slice cZ ag.length dx/\σ_ 93=jV ao/\σ_ 94=.pointer (some ⟨ac,1,none⟩)/\σ_ 97=.pointer (some ⟨ac,0,none⟩)/\σ_ 98=jV (w64 (50 * O))/\σ_ 100=.pointer (some ⟨ab,1,none⟩)/\PHeap.Le an U_/\sW w U U_ [.blk ac 37 af,ap,.row cZ dx 37 2 (hH wAA ag),ah,.blk ab 45 [.slice none 0 0,.slice cZ ag.length dx,.slice (some ⟨aF,0,none⟩) ([(⟨(⟨0,0⟩:wAF),0⟩:wAO)].length) 1,.slice none 0 0],B1,B8,.row dY eG 37 2 (hH wAA [(⟨w64 (50 * O),w64 ((w64 (50 * O)) + (w64 (10 * aa)))⟩:wAF)])] w_) ?_ fun it=>?_
 rintro FV DT ⟨pT,cZ,dx,dY,eG,um,un,uo,up,uq,ur,ut,uu,uv,uw,ux,uy,uz,lT,uA,uB,uC,CT,oc⟩
 exact ZL Z Z Z Z (oc.ldB (j:=0) Z Z lT zF (v:=jV (w64 ((w64 (50 * O)) + (w64 (10 * aa))))) Z) (Cw _ _ ⟨pT,cZ,dx,dY,eG,um,un,uo,up,uq,ur,ut,uu,uv,uw,ux,uy,uz,lT,Z,uA,uB,uC,CT,oc⟩)
 refine ZO (s:=gEs) (M:=fun σ_ w_=>∃ (U_:PHeap) (c6:Option Addr) (dy:Nat) (bQ:Option Addr) (ca:Nat),σ_ 7=.pointer (some ⟨au,0,none⟩)/\σ_ 8=.pointer (some ⟨ay,0,none⟩)/\σ_ 11=.slice az am.length aG/\σ_ 13=.pointer (some ⟨ab,0,none⟩)/\σ_ 14=jV ao/\σ_ 16=.pointer (some ⟨ac,0,none⟩)/\σ_ 75=jV aM/\σ_ 76=jV (↑aK:Int)/\σ_ 88=.pointer (some ⟨ab,1,none⟩)/\σ_ 90=.agg af.toArray/\σ_ 91=.slice c6 ([(⟨w64 (50 * O),w64 ((w64 (50 * O)) + (w64 (10 * aa)))⟩:wAF)].length) dy/\σ_ 92=.slice bQ ag.length ca/\σ_ 93=jV ao/\σ_ 94=.pointer (some ⟨ac,1,none⟩)/\σ_ 95=jV (w64 ((w64 (50 * O)) + (w64 (10 * aa))))/\σ_ 97=.pointer (some ⟨ac,0,none⟩)/\σ_ 98=jV (w64 (50 * O))/\σ_ 100=.pointer (some ⟨ab,1,none⟩)/\PHeap.Le an U_/\sW w U U_ [.blk ac 37 af,ap,ah,aE,B1,B8,.row c6 dy 37 2 (hH wAA [(⟨w64 (50 * O),w64 ((w64 (50 * O)) + (w64 (10 * aa)))⟩:wAF)]),.row bQ ca 37 2 (hH wAA ag)] w_) ?_ fun oS=>?_
 rintro FW DU ⟨jJ,c6,dy,bQ,ca,uD,uE,uF,uG,uH,uI,uJ,uK,uL,uM,uN,lU,lV,uO,lW,uP,lX,lY,CU,AC⟩
 refine oR Z (zV Z lV lW) (oR Z (ZV Z Z lX) (za (j:=3) (vs:=[.slice bQ ag.length ca]) Z Z Z Z AC Z lY lU Z Zd (zA Z) Z Z Z ?_))
 intro qD AD
 have AE:sW w U jJ [.blk ac 37 af,ap,ah,.blk ab 45 [.slice none 0 0,.slice bQ ag.length ca,.slice (some ⟨aF,0,none⟩) ([(⟨(⟨0,0⟩:wAF),0⟩:wAO)].length) 1,.slice none 0 0],B1,B8,.row c6 dy 37 2 (hH wAA [(⟨w64 (50 * O),w64 ((w64 (50 * O)) + (w64 (10 * aa)))⟩:wAF)]),.row bQ ca 37 2 (hH wAA ag)] qD:=AD
 exact iq _ _ ⟨jJ,bQ,ca,c6,dy,uD,uE,uF,uG,uH,uI,uJ,uK,uL,uM,uN,lU,lV,uO,lW,rfl,uP,lX,rfl,lY,CU,(AE.pick [0,1,7,2,3,4,5,6] _ (by decide) rfl)⟩
 refine ZO (s:=.fl 11 gEu) (M:=fun σ_ w_=>∃ (U_:PHeap) (da:Option Addr) (dz:Nat),σ_ 7=.pointer (some ⟨au,0,none⟩)/\σ_ 8=.pointer (some ⟨ay,0,none⟩)/\σ_ 11=.slice az am.length aG/\σ_ 13=.pointer (some ⟨ab,0,none⟩)/\σ_ 14=jV ao/\σ_ 16=.pointer (some ⟨ac,0,none⟩)/\σ_ 75=jV aM/\σ_ 76=jV (↑aK:Int)/\σ_ 88=.pointer (some ⟨ab,1,none⟩)/\σ_ 89=.slice bm aP.length bt/\σ_ 90=.agg af.toArray/\σ_ 91=.slice da ([(⟨w64 (50 * O),w64 ((w64 (50 * O)) + (w64 (10 * aa)))⟩:wAF)].length) dz/\σ_ 93=jV ao/\σ_ 94=.pointer (some ⟨ac,1,none⟩)/\σ_ 95=jV (w64 ((w64 (50 * O)) + (w64 (10 * aa))))/\σ_ 96=jV (w64 (ao + (w64 ((w64 (50 * O)) + (w64 (10 * aa))))))/\σ_ 97=.pointer (some ⟨ac,0,none⟩)/\σ_ 98=jV (w64 (50 * O))/\PHeap.Le an U_/\sW w U U_ [.blk ac 37 af,ap,be,ah,aE,B1,B8,.row da dz 37 2 (hH wAA [(⟨w64 (50 * O),w64 ((w64 (50 * O)) + (w64 (10 * aa)))⟩:wAF)])] w_) ?_ fun oU=>?_
 rintro FX DV ⟨jK,da,dz,uQ,uR,uS,uT,uU,uV,uW,uX,uY,uZ,u3,lZ,u4,u5,u6,l0,u7,l4,CW,od⟩
 refine ze rfl rfl rfl rfl (fun _=>ZV rfl l0 l4) (Zn (j:=2) (enc:=wAA) (xs:=aP) (ys:=[(⟨w64 (50 * O),w64 ((w64 (50 * O)) + (w64 (10 * aa)))⟩:wAF)]) (zs:=ag) rfl rfl rfl rfl rfl yX wFk rfl rfl rfl rfl rfl rfl od rfl uZ lZ (od.srcR (j:=7) rfl (by decide) (wAC (f:=wAA) (sz:=2) (fun _=>rfl) [(⟨w64 (50 * O),w64 ((w64 (50 * O)) + (w64 (10 * aa)))⟩:wAF)])) (fun _=>rfl) (fun _=>rfl) cc rfl ?_)
 intro jf lj qE AF
 have AG:sW w U jK [.blk ac 37 af,ap,.row jf lj 37 2 (hH wAA ag),ah,aE,B1,B8,.row da dz 37 2 (hH wAA [(⟨w64 (50 * O),w64 ((w64 (50 * O)) + (w64 (10 * aa)))⟩:wAF)])] qE:=AF
 exact ir _ _ ⟨jK,da,dz,jf,lj,uQ,uR,uS,uT,uU,uV,uW,uX,uY,u3,lZ,rfl,u4,u5,u6,l0,u7,l4,rfl,CW,(AG.pick [0,1,3,4,5,6,7,2] _ (by decide) rfl)⟩
 refine ZO (s:=.fl 12 gEw) (M:=fun σ_ w_=>∃ (U_:PHeap) (co:Option Addr) (cA:Nat) (bB:Option Addr) (bG:Nat),σ_ 7=.pointer (some ⟨au,0,none⟩)/\σ_ 8=.pointer (some ⟨ay,0,none⟩)/\σ_ 11=.slice az am.length aG/\σ_ 13=.pointer (some ⟨ab,0,none⟩)/\σ_ 14=jV ao/\σ_ 16=.pointer (some ⟨ac,0,none⟩)/\σ_ 75=jV aM/\σ_ 76=jV (↑aK:Int)/\σ_ 88=.pointer (some ⟨ab,1,none⟩)/\σ_ 90=.agg af.toArray/\σ_ 91=.slice co ([(⟨w64 (50 * O),w64 ((w64 (50 * O)) + (w64 (10 * aa)))⟩:wAF)].length) cA/\σ_ 92=.slice bB ag.length bG/\σ_ 93=jV ao/\σ_ 94=.pointer (some ⟨ac,1,none⟩)/\σ_ 95=jV (w64 ((w64 (50 * O)) + (w64 (10 * aa))))/\σ_ 96=jV (w64 (ao + (w64 ((w64 (50 * O)) + (w64 (10 * aa))))))/\σ_ 97=.pointer (some ⟨ac,0,none⟩)/\PHeap.Le an U_/\sW w U U_ [.blk ac 37 af,ap,ah,aE,B1,B8,.row co cA 37 2 (hH wAA [(⟨w64 (50 * O),w64 ((w64 (50 * O)) + (w64 (10 * aa)))⟩:wAF)]),.row bB bG 37 2 (hH wAA ag)] w_) ?_ fun oV=>?_
 rintro FY DW ⟨fN,co,cA,bB,bG,l5,l6,ma,gq,mb,mc,md,me,mf,mg,mh,gt,mi,mj,ml,mm,gu,pg,gW⟩
 refine oR Z (zM Z gq zP Z Zd) (zq ?_ ?_)
 exact ZL Z Z Z Z (gW.ldB (j:=0) Z Z gu zF (v:=jV (w64 (50 * O))) Z) (oP _ _ ⟨fN,co,cA,bB,bG,l5,l6,ma,gq,mb,mc,md,me,mf,mg,mh,gt,mi,mj,ml,mm,gu,Z,Z,pg,gW⟩)
 refine za (j:=3) (vs:=[.slice bB ag.length bG]) Z Z Z Z gW Z Z gt Z Zd (zA Z) Z Z Z ?_
 intro qF AH
 have AI:sW w U fN [.blk ac 37 af,ap,ah,.blk ab 45 [.slice none 0 0,.slice bB ag.length bG,.slice (some ⟨aF,0,none⟩) ([(⟨(⟨0,0⟩:wAF),0⟩:wAO)].length) 1,.slice none 0 0],B1,B8,.row co cA 37 2 (hH wAA [(⟨w64 (50 * O),w64 ((w64 (50 * O)) + (w64 (10 * aa)))⟩:wAF)]),.row bB bG 37 2 (hH wAA ag)] qF:=AH
 exact oO _ _ ⟨fN,bB,bG,co,cA,l5,l6,ma,gq,mb,mc,md,me,mf,mg,mh,gt,mi,mj,ml,mm,gu,rfl,pg,(AI.pick [0,1,7,2,3,4,5,6] _ (by decide) rfl)⟩
 refine ZO (s:=gEy) (M:=fun σ_ w_=>∃ (U_:PHeap) (db:Option Addr) (dA:Nat),σ_ 7=.pointer (some ⟨au,0,none⟩)/\σ_ 8=.pointer (some ⟨ay,0,none⟩)/\σ_ 11=.slice az am.length aG/\σ_ 13=.pointer (some ⟨ab,0,none⟩)/\σ_ 14=jV ao/\σ_ 16=.pointer (some ⟨ac,0,none⟩)/\σ_ 75=jV aM/\σ_ 76=jV (↑aK:Int)/\σ_ 88=.pointer (some ⟨ab,1,none⟩)/\σ_ 89=.slice bm aP.length bt/\σ_ 90=.agg af.toArray/\σ_ 91=.slice db ([(⟨w64 (50 * O),w64 ((w64 (50 * O)) + (w64 (10 * aa)))⟩:wAF)].length) dA/\σ_ 93=jV ao/\σ_ 94=.pointer (some ⟨ac,1,none⟩)/\σ_ 95=jV (w64 ((w64 (50 * O)) + (w64 (10 * aa))))/\σ_ 97=.pointer (some ⟨ac,0,none⟩)/\σ_ 98=jV (w64 (50 * O))/\PHeap.Le an U_/\sW w U U_ [.blk ac 37 af,ap,be,ah,aE,B1,B8,.row db dA 37 2 (hH wAA [(⟨w64 (50 * O),w64 ((w64 (50 * O)) + (w64 (10 * aa)))⟩:wAF)])] w_) ?_ fun Cx=>?_
 rintro FZ DX ⟨jL,db,dA,u9,va,vb,vc,vd,ve,vf,vg,vh,vi,vj,mn,mo,vk,mp,vl,mq,CX,oe⟩
 refine ze rfl rfl rfl rfl (fun _=>zV rfl mo mp) (ze rfl rfl rfl rfl (fun _=>ZV rfl rfl mq) (Zn (j:=2) (enc:=wAA) (xs:=aP) (ys:=[(⟨w64 (50 * O),w64 ((w64 (50 * O)) + (w64 (10 * aa)))⟩:wAF)]) (zs:=ag) rfl rfl rfl rfl rfl yX wFk rfl rfl rfl rfl rfl rfl oe rfl vi mn (oe.srcR (j:=7) rfl (by decide) (wAC (f:=wAA) (sz:=2) (fun _=>rfl) [(⟨w64 (50 * O),w64 ((w64 (50 * O)) + (w64 (10 * aa)))⟩:wAF)])) (fun _=>rfl) (fun _=>rfl) cc rfl ?_))
 intro jg lk qG AK
 have AL:sW w U jL [.blk ac 37 af,ap,.row jg lk 37 2 (hH wAA ag),ah,aE,B1,B8,.row db dA 37 2 (hH wAA [(⟨w64 (50 * O),w64 ((w64 (50 * O)) + (w64 (10 * aa)))⟩:wAF)])] qG:=AK
 exact ir _ _ ⟨jL,db,dA,jg,lk,u9,va,vb,vc,vd,ve,vf,vg,vh,vj,mn,rfl,mo,vk,mp,rfl,vl,mq,rfl,CX,(AL.pick [0,1,3,4,5,6,7,2] _ (by decide) rfl)⟩
 refine ZO (s:=.fl 12 gEx) (M:=fun σ_ w_=>∃ (U_:PHeap) (cp:Option Addr) (cB:Nat) (bC:Option Addr) (bH:Nat),σ_ 7=.pointer (some ⟨au,0,none⟩)/\σ_ 8=.pointer (some ⟨ay,0,none⟩)/\σ_ 11=.slice az am.length aG/\σ_ 13=.pointer (some ⟨ab,0,none⟩)/\σ_ 14=jV ao/\σ_ 16=.pointer (some ⟨ac,0,none⟩)/\σ_ 75=jV aM/\σ_ 76=jV (↑aK:Int)/\σ_ 88=.pointer (some ⟨ab,1,none⟩)/\σ_ 90=.agg af.toArray/\σ_ 91=.slice cp ([(⟨w64 (50 * O),w64 ((w64 (50 * O)) + (w64 (10 * aa)))⟩:wAF)].length) cB/\σ_ 92=.slice bC ag.length bH/\σ_ 93=jV ao/\σ_ 94=.pointer (some ⟨ac,1,none⟩)/\σ_ 97=.pointer (some ⟨ac,0,none⟩)/\σ_ 98=jV (w64 (50 * O))/\PHeap.Le an U_/\sW w U U_ [.blk ac 37 af,ap,ah,aE,B1,B8,.row cp cB 37 2 (hH wAA [(⟨w64 (50 * O),w64 ((w64 (50 * O)) + (w64 (10 * aa)))⟩:wAF)]),.row bC bH 37 2 (hH wAA ag)] w_) ?_ fun Cy=>?_
 rintro F0 DY ⟨fO,cp,cB,bC,bH,mr,ms,mu,gv,mw,mx,my,mz,mA,mB,mC,gw,mD,gz,mE,mF,ph,gX⟩
 refine oR Z (zM Z gv zP Z Zd) (zq ?_ ?_)
 exact ZL Z Z Z Z (gX.ldB (j:=0) Z Z gz zF (v:=jV (w64 ((w64 (50 * O)) + (w64 (10 * aa))))) Z) (oS _ _ ⟨fO,cp,cB,bC,bH,mr,ms,mu,gv,mw,mx,my,mz,mA,mB,mC,gw,mD,gz,Z,mE,mF,Z,ph,gX⟩)
 refine za (j:=3) (vs:=[.slice bC ag.length bH]) Z Z Z Z gX Z Z gw Z Zd (zA Z) Z Z Z ?_
 intro qH AN
 have AO:sW w U fO [.blk ac 37 af,ap,ah,.blk ab 45 [.slice none 0 0,.slice bC ag.length bH,.slice (some ⟨aF,0,none⟩) ([(⟨(⟨0,0⟩:wAF),0⟩:wAO)].length) 1,.slice none 0 0],B1,B8,.row cp cB 37 2 (hH wAA [(⟨w64 (50 * O),w64 ((w64 (50 * O)) + (w64 (10 * aa)))⟩:wAF)]),.row bC bH 37 2 (hH wAA ag)] qH:=AN
 exact it _ _ ⟨fO,bC,bH,cp,cB,mr,ms,mu,gv,mw,mx,my,mz,mA,mB,mC,gw,mD,gz,mE,mF,rfl,ph,(AO.pick [0,1,7,2,3,4,5,6] _ (by decide) rfl)⟩
 refine ZO (s:=gFb) (M:=fun σ_ w_=>∃ (U_:PHeap) (cq:Option Addr) (cC:Nat),σ_ 7=.pointer (some ⟨au,0,none⟩)/\σ_ 8=.pointer (some ⟨ay,0,none⟩)/\σ_ 11=.slice az am.length aG/\σ_ 13=.pointer (some ⟨ab,0,none⟩)/\σ_ 14=jV ao/\σ_ 16=.pointer (some ⟨ac,0,none⟩)/\σ_ 75=jV aM/\σ_ 76=jV (↑aK:Int)/\σ_ 88=.pointer (some ⟨ab,1,none⟩)/\σ_ 89=.slice bm aP.length bt/\σ_ 90=.agg af.toArray/\σ_ 91=.slice cq ([(⟨w64 (50 * O),w64 ((w64 (50 * O)) + (w64 (10 * aa)))⟩:wAF)].length) cC/\σ_ 93=jV ao/\σ_ 94=.pointer (some ⟨ac,1,none⟩)/\σ_ 97=.pointer (some ⟨ac,0,none⟩)/\σ_ 98=jV (w64 (50 * O))/\PHeap.Le an U_/\sW w U U_ [.blk ac 37 af,ap,be,ah,aE,B1,B8,.row cq cC 37 2 (hH wAA [(⟨w64 (50 * O),w64 ((w64 (50 * O)) + (w64 (10 * aa)))⟩:wAF)])] w_) ?_ fun oW=>?_
 rintro F1 DZ ⟨fP,cq,cC,mG,mH,mI,mJ,mK,mL,mM,mN,mO,mP,mQ,gA,mR,gB,mS,mT,pk,e6⟩
 refine zq ?_ ?_
 refine Zn (j:=2) (enc:=wAA) (xs:=aP) (ys:=[(⟨w64 (50 * O),w64 ((w64 (50 * O)) + (w64 (10 * aa)))⟩:wAF)]) (zs:=ag) rfl rfl rfl rfl rfl yX wFk rfl rfl rfl rfl rfl rfl e6 rfl mP gA (e6.srcR (j:=7) rfl (by decide) (wAC (f:=wAA) (sz:=2) (fun _=>rfl) [(⟨w64 (50 * O),w64 ((w64 (50 * O)) + (w64 (10 * aa)))⟩:wAF)])) (fun _=>rfl) (fun _=>rfl) cc rfl ?_
 intro jh ll qJ AP
 have AQ:sW w U fP [.blk ac 37 af,ap,.row jh ll 37 2 (hH wAA ag),ah,aE,B1,B8,.row cq cC 37 2 (hH wAA [(⟨w64 (50 * O),w64 ((w64 (50 * O)) + (w64 (10 * aa)))⟩:wAF)])] qJ:=AP
 exact Cy _ _ ⟨fP,cq,cC,jh,ll,mG,mH,mI,mJ,mK,mL,mM,mN,mO,mQ,gA,rfl,mR,gB,mS,mT,pk,(AQ.pick [0,1,3,4,5,6,7,2] _ (by decide) rfl)⟩
 exact ZL Z Z Z Z (e6.ldB (j:=0) Z Z gB zF (v:=jV (w64 ((w64 (50 * O)) + (w64 (10 * aa))))) Z) (Cx _ _ ⟨fP,cq,cC,mG,mH,mI,mJ,mK,mL,mM,mN,mO,mP,mQ,gA,mR,gB,Z,mS,mT,pk,e6⟩)
 refine oR Z (zM Z aS zP Z Zd) (oL Z (bh.ldB (j:=4) Z Z Z yT (v:=.slice bm aP.length bt) Z) (oL Z (bh.ldBA (j:=0) Z Z Z Zr zo (vs:=af) Z Z) (oM Z aU (oR Z (zM Z Z ZU Z zC) (oR Z (zM Z Z ZU Z zC) (zq ?_ ?_))))))
 refine zr (pv:=[(0,.agg af.toArray)]) (zs:=B7) (cs:=af) Z Z Z Z Z (wAE Z wAL) zy zo ZF Z Z Z Z Z bh ?_
 intro qK bq AS
 let cr:Res:=.row (some ⟨bq,0,none⟩) 1 37 2 (hH wAA [(⟨w64 (50 * O),w64 ((w64 (50 * O)) + (w64 (10 * aa)))⟩:wAF)])
 have bw:sW w U an [cr,.blk ac 37 af,ap,be,ah,aE,B1,B8] qK:=AS
 refine zq ?_ ?_
 refine Zn (j:=3) (enc:=wAA) (xs:=aP) (ys:=[(⟨w64 (50 * O),w64 ((w64 (50 * O)) + (w64 (10 * aa)))⟩:wAF)]) (zs:=ag) rfl rfl rfl rfl rfl yX wFk rfl rfl rfl rfl rfl rfl bw rfl rfl rfl (bw.srcR (j:=0) rfl (by decide) (wAC (f:=wAA) (sz:=2) (fun _=>rfl) [(⟨w64 (50 * O),w64 ((w64 (50 * O)) + (w64 (10 * aa)))⟩:wAF)])) (fun _=>rfl) (fun _=>rfl) cc rfl ?_
 intro a7 bb qL AT
 let d5:Res:=.row a7 bb 37 2 (hH wAA ag)
 have bx:sW w U an [cr,.blk ac 37 af,ap,d5,ah,aE,B1,B8] qL:=AT
 refine oR Z (zM Z aS zP Z Zd) (zq ?_ ?_)
 refine ZL Z Z Z Z (bx.ldB (j:=1) Z Z Z zF (v:=jV (w64 ((w64 (50 * O)) + (w64 (10 * aa))))) Z) (oR Z (zV Z Z Z) (zq ?_ ?_))
 exact ZL rfl rfl rfl rfl (bx.ldB (j:=1) rfl rfl rfl zF (v:=jV (w64 (50 * O))) rfl) (oP _ _ ⟨an,(some ⟨bq,0,none⟩),1,a7,bb,aR,aZ,a6,aS,aU,rfl,aV,aW,rfl,rfl,rfl,rfl,rfl,rfl,rfl,rfl,rfl,rfl,rfl,(zL _),(bx.pick [1,2,4,5,6,7,0,3] _ (by decide) rfl)⟩)
 refine za (j:=5) (vs:=[.slice a7 ag.length bb]) Z Z Z Z bx Z Z Z Z Zd (zA Z) Z Z Z ?_
 intro qM wU
 have wV:sW w U an [cr,.blk ac 37 af,ap,d5,ah,.blk ab 45 [.slice none 0 0,.slice a7 ag.length bb,.slice (some ⟨aF,0,none⟩) ([(⟨(⟨0,0⟩:wAF),0⟩:wAO)].length) 1,.slice none 0 0],B1,B8] qM:=wU
 exact oO _ _ ⟨an,a7,bb,(some ⟨bq,0,none⟩),1,aR,aZ,a6,aS,aU,rfl,aV,aW,rfl,rfl,rfl,rfl,rfl,rfl,rfl,rfl,rfl,rfl,(zL _),(wV.pick [1,2,3,4,5,6,7,0] _ (by decide) rfl)⟩
 refine zq ?_ ?_
 refine ZL Z Z Z Z (bx.ldB (j:=1) Z Z Z zF (v:=jV (w64 (50 * O))) Z) (zq ?_ ?_)
 exact ZL rfl rfl rfl rfl (bx.ldB (j:=1) rfl rfl rfl zF (v:=jV (w64 ((w64 (50 * O)) + (w64 (10 * aa))))) rfl) (oS _ _ ⟨an,(some ⟨bq,0,none⟩),1,a7,bb,aR,aZ,a6,aS,aU,rfl,aV,aW,rfl,rfl,rfl,rfl,rfl,rfl,rfl,rfl,rfl,rfl,(zL _),(bx.pick [1,2,4,5,6,7,0,3] _ (by decide) rfl)⟩)
 refine za (j:=5) (vs:=[.slice a7 ag.length bb]) Z Z Z Z bx Z Z Z Z Zd (zA Z) Z Z Z ?_
 intro pU wW
 have wX:sW w U an [cr,.blk ac 37 af,ap,d5,ah,.blk ab 45 [.slice none 0 0,.slice a7 ag.length bb,.slice (some ⟨aF,0,none⟩) ([(⟨(⟨0,0⟩:wAF),0⟩:wAO)].length) 1,.slice none 0 0],B1,B8] pU:=wW
 exact it _ _ ⟨an,a7,bb,(some ⟨bq,0,none⟩),1,aR,aZ,a6,aS,aU,rfl,aV,aW,rfl,rfl,rfl,rfl,rfl,rfl,rfl,rfl,rfl,(zL _),(wX.pick [1,2,3,4,5,6,7,0] _ (by decide) rfl)⟩
 refine za (j:=5) (vs:=[.slice a7 ag.length bb]) Z Z Z Z bx Z Z Z Z Zd (zA Z) Z Z Z ?_
 intro pV wY
 have dD:sW w U an [cr,.blk ac 37 af,ap,d5,ah,.blk ab 45 [.slice none 0 0,.slice a7 ag.length bb,.slice (some ⟨aF,0,none⟩) ([(⟨(⟨0,0⟩:wAF),0⟩:wAO)].length) 1,.slice none 0 0],B1,B8] pV:=wY
 refine zq ?_ ?_
 exact ZL rfl rfl rfl rfl (dD.ldB (j:=1) rfl rfl rfl zF (v:=jV (w64 ((w64 (50 * O)) + (w64 (10 * aa))))) rfl) (ze rfl rfl rfl rfl (fun _=>zV rfl rfl rfl) (ZL rfl rfl rfl rfl (dD.ldB (j:=1) rfl rfl rfl zF (v:=jV (w64 (50 * O))) rfl) (oK _ _ ⟨an,a7,bb,(some ⟨bq,0,none⟩),1,aR,aZ,a6,aS,aU,rfl,aV,aW,rfl,rfl,rfl,rfl,rfl,rfl,rfl,rfl,rfl,rfl,rfl,(zL _),(dD.pick [1,2,3,4,5,6,7,0] _ (by decide) rfl)⟩)))
 exact ZL rfl rfl rfl rfl (dD.ldB (j:=1) rfl rfl rfl zF (v:=jV (w64 (50 * O))) rfl) (it _ _ ⟨an,a7,bb,(some ⟨bq,0,none⟩),1,aR,aZ,a6,aS,aU,rfl,aV,aW,rfl,rfl,rfl,rfl,rfl,rfl,rfl,rfl,rfl,(zL _),(dD.pick [1,2,3,4,5,6,7,0] _ (by decide) rfl)⟩)
 refine zq ?_ ?_
 refine ZL Z Z Z Z (bw.ldB (j:=1) Z Z Z zF (v:=jV (w64 ((w64 (50 * O)) + (w64 (10 * aa))))) Z) (oR Z (zV Z Z Z) (zq ?_ ?_))
 refine Zn (j:=3) (enc:=wAA) (xs:=aP) (ys:=[(⟨w64 (50 * O),w64 ((w64 (50 * O)) + (w64 (10 * aa)))⟩:wAF)]) (zs:=ag) rfl rfl rfl rfl rfl yX wFk rfl rfl rfl rfl rfl rfl bw rfl rfl rfl (bw.srcR (j:=0) rfl (by decide) (wAC (f:=wAA) (sz:=2) (fun _=>rfl) [(⟨w64 (50 * O),w64 ((w64 (50 * O)) + (w64 (10 * aa)))⟩:wAF)])) (fun _=>rfl) (fun _=>rfl) cc rfl ?_
 intro iT jT pW wZ
 have w5:sW w U an [cr,.blk ac 37 af,ap,.row iT jT 37 2 (hH wAA ag),ah,aE,B1,B8] pW:=wZ
 exact oV _ _ ⟨an,(some ⟨bq,0,none⟩),1,iT,jT,aR,aZ,a6,aS,aU,rfl,aV,aW,rfl,rfl,rfl,rfl,rfl,rfl,rfl,rfl,rfl,(zL _),(w5.pick [1,2,4,5,6,7,0,3] _ (by decide) rfl)⟩
 exact ZL rfl rfl rfl rfl (bw.ldB (j:=1) rfl rfl rfl zF (v:=jV (w64 (50 * O))) rfl) (oU _ _ ⟨an,(some ⟨bq,0,none⟩),1,aR,aZ,a6,aS,aU,rfl,aV,aW,rfl,rfl,rfl,rfl,rfl,rfl,rfl,rfl,rfl,rfl,(zL _),(bw.pick [1,2,3,4,5,6,7,0] _ (by decide) rfl)⟩)
 exact ZL rfl rfl rfl rfl (bw.ldB (j:=1) rfl rfl rfl zF (v:=jV (w64 (50 * O))) rfl) (oW _ _ ⟨an,(some ⟨bq,0,none⟩),1,aR,aZ,a6,aS,aU,rfl,aV,aW,rfl,rfl,rfl,rfl,rfl,rfl,rfl,rfl,(zL _),(bw.pick [1,2,3,4,5,6,7,0] _ (by decide) rfl)⟩)
 refine zq ?_ ?_
 refine ZL Z Z Z Z (bh.ldB (j:=0) Z Z Z zF (v:=jV (w64 ((w64 (50 * O)) + (w64 (10 * aa))))) Z) (oR Z (zV Z Z Z) (zq ?_ ?_))
 refine zr (pv:=[(0,.agg af.toArray)]) (zs:=B7) (cs:=af) Z Z Z Z Z (wAE Z wAL) zy zo ZF Z Z Z Z Z bh ?_
 intro pX fV w6
 let ji:Res:=.row (some ⟨fV,0,none⟩) 1 37 2 (hH wAA [(⟨w64 (50 * O),w64 ((w64 (50 * O)) + (w64 (10 * aa)))⟩:wAF)])
 have eW:sW w U an [ji,.blk ac 37 af,ap,be,ah,aE,B1,B8] pX:=w6
 refine zq ?_ ?_
 refine Zn (j:=3) (enc:=wAA) (xs:=aP) (ys:=[(⟨w64 (50 * O),w64 ((w64 (50 * O)) + (w64 (10 * aa)))⟩:wAF)]) (zs:=ag) rfl rfl rfl rfl rfl yX wFk rfl rfl rfl rfl rfl rfl eW rfl rfl rfl (eW.srcR (j:=0) rfl (by decide) (wAC (f:=wAA) (sz:=2) (fun _=>rfl) [(⟨w64 (50 * O),w64 ((w64 (50 * O)) + (w64 (10 * aa)))⟩:wAF)])) (fun _=>rfl) (fun _=>rfl) cc rfl ?_
 intro iU jU pY w7
 have w9:sW w U an [ji,.blk ac 37 af,ap,.row iU jU 37 2 (hH wAA ag),ah,aE,B1,B8] pY:=w7
 exact oV _ _ ⟨an,(some ⟨fV,0,none⟩),1,iU,jU,aR,aZ,a6,aS,aU,rfl,aV,aW,rfl,rfl,rfl,rfl,rfl,rfl,rfl,rfl,rfl,(zL _),(w9.pick [1,2,4,5,6,7,0,3] _ (by decide) rfl)⟩
 exact ZL rfl rfl rfl rfl (eW.ldB (j:=1) rfl rfl rfl zF (v:=jV (w64 (50 * O))) rfl) (oU _ _ ⟨an,(some ⟨fV,0,none⟩),1,aR,aZ,a6,aS,aU,rfl,aV,aW,rfl,rfl,rfl,rfl,rfl,rfl,rfl,rfl,rfl,rfl,(zL _),(eW.pick [1,2,3,4,5,6,7,0] _ (by decide) rfl)⟩)
 refine ZL Z Z Z Z (bh.ldB (j:=0) Z Z Z zF (v:=jV (w64 (50 * O))) Z) (oR Z (ZV Z Z Z) (zr (pv:=[(0,.agg af.toArray)]) (zs:=B7) (cs:=af) Z Z Z Z Z (wAE Z wAL) zy zo ZF Z Z Z Z Z bh ?_))
 intro pZ jQ xa
 have xb:sW w U an [.row (some ⟨jQ,0,none⟩) 1 37 2 (hH wAA [(⟨w64 (50 * O),w64 ((w64 (50 * O)) + (w64 (10 * aa)))⟩:wAF)]),.blk ac 37 af,ap,be,ah,aE,B1,B8] pZ:=xa
 exact oQ _ _ ⟨an,(some ⟨jQ,0,none⟩),1,aR,aZ,a6,aS,aU,rfl,aV,aW,rfl,rfl,rfl,rfl,rfl,rfl,rfl,rfl,rfl,rfl,rfl,(zL _),(xb.pick [1,2,3,4,5,6,7,0] _ (by decide) rfl)⟩
 refine ZL Z Z Z Z (bh.ldB (j:=0) Z Z Z zF (v:=jV (w64 (50 * O))) Z) (zq ?_ ?_)
 refine zr (pv:=[(0,.agg af.toArray)]) (zs:=B7) (cs:=af) Z Z Z Z Z (wAE Z wAL) zy zo ZF Z Z Z Z Z bh ?_
 intro p5 jR xc
 have xd:sW w U an [.row (some ⟨jR,0,none⟩) 1 37 2 (hH wAA [(⟨w64 (50 * O),w64 ((w64 (50 * O)) + (w64 (10 * aa)))⟩:wAF)]),.blk ac 37 af,ap,be,ah,aE,B1,B8] p5:=xc
 exact oW _ _ ⟨an,(some ⟨jR,0,none⟩),1,aR,aZ,a6,aS,aU,rfl,aV,aW,rfl,rfl,rfl,rfl,rfl,rfl,rfl,rfl,(zL _),(xd.pick [1,2,3,4,5,6,7,0] _ (by decide) rfl)⟩
 refine ZL Z Z Z Z (bh.ldB (j:=0) Z Z Z zF (v:=jV (w64 ((w64 (50 * O)) + (w64 (10 * aa))))) Z) (oR Z (zV Z Z Z) (oR Z (ZV Z Z Z) (zr (pv:=[(0,.agg af.toArray)]) (zs:=B7) (cs:=af) Z Z Z Z Z (wAE Z wAL) zy zo ZF Z Z Z Z Z bh ?_)))
 intro p6 jS xe
 have xf:sW w U an [.row (some ⟨jS,0,none⟩) 1 37 2 (hH wAA [(⟨w64 (50 * O),w64 ((w64 (50 * O)) + (w64 (10 * aa)))⟩:wAF)]),.blk ac 37 af,ap,be,ah,aE,B1,B8] p6:=xe
 exact oQ _ _ ⟨an,(some ⟨jS,0,none⟩),1,aR,aZ,a6,aS,aU,rfl,aV,aW,rfl,rfl,rfl,rfl,rfl,rfl,rfl,rfl,rfl,rfl,rfl,(zL _),(xf.pick [1,2,3,4,5,6,7,0] _ (by decide) rfl)⟩
 rintro FB Dy ⟨jw,pB,qR,bk,br,vm,Ee,rd,lp,lq,re,rf,CA,m9,EX⟩
 have qS:Hid (¬ ((↑((aM:Int) - 0).toNat:Int) < aM)):=zK (wAd)
 refine sR fL1 Z (oR Z (zT Z vm rf) (eN (zJ (cF Z qS (ZQ (zg (zg (ZJ (zI (sR fL4 Z (oR Z (zM Z lq zP Z Zd) (oL Z (m9.ldB (j:=3) Z Z Z yT (v:=.slice bk aq.length br) Z) (oR Z (zx Z Z zy) (oA Z Z (eN (sR fL1 Z (oA Z Z (eN (zJ (sR fL3 Z (oM Z lp (oR Z (zx Z Z yS) (oM Z Z (eN (zY ?_)))))))))))))))))))))))))
 have q:=bnd ow
 obtain ⟨⟨bA,C8,C9,Da,aL⟩,AX,oh⟩:=q
 try dsimp only at oh
 have q:=wBE AX
 obtain ⟨ig,AY⟩:=q
 replace ig:=zK ig
 let av:Res:=.blk au 80 [.slice pB De.length qR,jV Df,.int .u32 Dg]
 let bf:Res:=.row bk br 37 2 (hH wAA aq)
 refine CK.forN' (fun aT (cg,dH,iH,iI,cJ) σ_ w_=>∃ (U_:PHeap) (cm:Option Addr) (cy:Nat) (cM:Option Addr) (di:Nat) (cN:Option Addr) (dk:Nat),σ_ 107=jV (↑aT:Int)/\σ_ 8=.pointer (some ⟨ay,0,none⟩)/\σ_ 11=.slice az am.length aG/\σ_ 13=.pointer (some ⟨ab,0,none⟩)/\σ_ 14=jV dR/\σ_ 17=jV (↑aq.length:Int)/\σ_ 18=.slice cN cJ.length dk/\σ_ 105=.slice az am.length aG/\σ_ 106=jV (↑am.length:Int)/\PHeap.Le jw U_/\sW w U U_ [av,.row cm cy 3 1 (hH KL.encI cg),bf,ah,.blk ab 45 [.slice cm cg.length cy,.slice bk aq.length br,.slice (some ⟨aF,0,none⟩) ([(⟨(⟨0,0⟩:wAF),0⟩:wAO)].length) 1,.slice none 0 0],.blk ay 80 [.slice cM dH.length di,jV iH,.int .u32 iI],B8,.row cN dk 3 1 (hH KL.encI cJ)] w_/\Sl U_ 1 cM di dH.length (hH KL.encB8 dH)) AY ?_ ?_ ?_
 have xg:=m9.nilrow 3 1
 have xh:=xg.nilrow 3 1
 have vw:=wz.le CO
 have vx:=vw.le CI
 have vy:=vx.le o7
 have vz:=vy.le o8
 have vA:=vz.le o9
 have vB:=vA.le CM
 have vC:=vB.le CA
 exact ⟨jw,none,0,jb,lc,none,0,rfl,rd,lp,lq,re,rfl,rfl,rfl,rfl,(zL _),(xh.pick [2,1,3,4,5,6,7,0] _ (by decide) rfl),vC⟩
 rintro aT ⟨cg,dH,iH,iI,cJ⟩ Ft FC Dz g7 ⟨cx,cm,cy,cM,di,cN,dk,gE,rh,ri,eJ,rj,rn,ro,lu,lv,CB,gP,vD⟩ oD
 try dsimp only at oD
 have jX:Hid ((↑aT:Int) < (↑am.length:Int)):=zK (wAx g7)
 replace g7:=zK g7
 have Bm:Hid (w64 ((↑aT:Int) + 1)=(↑(aT + 1):Int)):=zK (by have h1:=ig.out;have h2:=jX.out;rw [wAW] <;> omega)
 refine sR fL1 Z (oR Z (zT Z gE lv) (eN (zJ (cT Z jX (kN (zJ (zY (sR gEv Z (bnK oD fun _ gH Bq=>?_)))))))))
 obtain ⟨D0,m5⟩:=gP.rowSome (j:=6) rfl (by rw [wAC (f:=wBG) (sz:=3) (fun _=>rfl) am];have hz:=wAR gH;omega)
 refine oR Z (Zf Z lu m5 gE yS Tryz.sizeOf47 (wAR gH)) ?_
 have Be:=wAt (xs:=am) (wAR gH)
 let bg:List Value:=[jV ((gd am aT).Bib),jV ((gd am aT).Time),jV ((gd am aT).Gate)]
 refine ZD rfl rfl rfl rfl (gP.ldRA (j:=6) rfl m5 rfl rfl Tryz.isAgg47 Tryz.sizeOf47 (vs:=bg) (wDy (sz:=3) (fun _=>rfl) _ _ _ Be (by first | omega | rfl | simp) rfl) rfl) rfl (zX (cs:=B9) rfl rfl rfl rfl rfl Tryz.zeroValue47 rfl gP ?_)
 intro DA bp xi
 refine za (j:=0) (vs:=bg) Z Z Z Z xi Z Z Z Z Tryz.sizeOf47 (zA Z) Z Z Z ?_
 intro p7 xj
 let fB:Res:=.blk ab 45 [.slice cm cg.length cy,.slice bk aq.length br,.slice (some ⟨aF,0,none⟩) ([(⟨(⟨0,0⟩:wAF),0⟩:wAO)].length) 1,.slice none 0 0]
 let bv:Res:=.row cN dk 3 1 (hH KL.encI cJ)
 let d6:Res:=.blk ay 80 [.slice cM dH.length di,jV iH,.int .u32 iI]
 let jj:Res:=.row cm cy 3 1 (hH KL.encI cg)
 have gQ:sW w U cx [.blk bp 47 bg,av,jj,bf,ah,fB,d6,B8,bv] p7:=xj
 refine eN (sR (wDu (.fx 4 (.fx 5 (.fl 6 (.fx 7 .nil .stop)) .stop) .stop)) Z (oR Z (zM Z eJ zP Z ZC) (oL Z (gQ.ldB (j:=5) Z Z Z ZH (v:=.slice cm cg.length cy) Z) (oR Z (zM Z Z Tryz.runUnderlying47 Z zC) (oL Z (gQ.ldB (j:=0) Z Z Z zF (v:=jV ((gd am aT).Time)) Z) (zr (pv:=[(0,jV ((gd am aT).Time))]) (zs:=[jV 0]) (cs:=[jV ((gd am aT).Time)]) Z Z Z Z Z (wAE Z wAL) zD zC zt Z Z Z Z Z gQ ?_))))))
 intro p9 qN xk
 let fC:Res:=.row (some ⟨qN,0,none⟩) 1 3 1 (hH KL.encI [(gd am aT).Time])
 have n2:sW w U cx [fC,.blk bp 47 bg,av,jj,bf,ah,fB,d6,B8,bv] p9:=xk
 refine bnK Bq fun fc vE Br=>Zn (j:=3) (enc:=KL.encI) (xs:=cg) (ys:=[(gd am aT).Time]) (zs:=fc) rfl rfl rfl rfl rfl yW wGs rfl rfl rfl rfl rfl rfl n2 rfl rfl rfl (n2.srcR (j:=0) rfl (by decide) (wAC (f:=KL.encI) (sz:=1) (fun _=>rfl) [(gd am aT).Time])) (fun _=>rfl) (fun _=>rfl) vE rfl ?_
 intro dS eo qa xl
 let bD:Res:=.row dS eo 3 1 (hH KL.encI fc)
 have xm:sW w U cx [fC,.blk bp 47 bg,av,bD,bf,ah,fB,d6,B8,bv] qa:=xl
 refine oR Z (zM Z eJ zP Z ZC) (za (j:=6) (vs:=[.slice dS fc.length eo]) Z Z Z Z xm Z Z Z Z ZC (zA Z) Z Z Z ?_)
 intro qb xn
 let bR:Res:=.blk ab 45 [.slice dS fc.length eo,.slice bk aq.length br,.slice (some ⟨aF,0,none⟩) ([(⟨(⟨0,0⟩:wAF),0⟩:wAO)].length) 1,.slice none 0 0]
 have gR:sW w U cx [fC,.blk bp 47 bg,av,bD,bf,ah,bR,d6,B8,bv] qb:=xn
 refine eN (sR fL3 Z (oR Z (zM Z Z Tryz.runUnderlying47 Z zC) (oL Z (gR.ldB (j:=1) Z Z Z zF (v:=jV ((gd am aT).Time)) Z) (oA Z Z (eN (zJ (sR fL4 Z (oR Z (zM Z eJ zP Z Zd) (oL Z (gR.ldB (j:=6) Z Z Z yT (v:=.slice bk aq.length br) Z) (oR Z (zx Z Z zy) (oM Z Z (eN (zY ?_)))))))))))))
 have q:=bnd Br
 obtain ⟨⟨Db,Dc,Dd,dP⟩,AZ,oj⟩:=q
 try dsimp only at oj
 have q:=wBE AZ
 obtain ⟨ii,A3⟩:=q
 replace ii:=zK ii
 refine CK.forN' (fun bi (cK,fd,ff,pm) σ_ w_=>∃ (U_:PHeap) (cO:Option Addr) (dl:Nat),σ_ 123=jV (↑bi:Int)/\σ_ 8=.pointer (some ⟨ay,0,none⟩)/\σ_ 11=.slice az am.length aG/\σ_ 13=.pointer (some ⟨ab,0,none⟩)/\σ_ 14=jV dR/\σ_ 17=jV (↑aq.length:Int)/\σ_ 18=.slice cN cJ.length dk/\σ_ 21=jV pm/\σ_ 105=.slice az am.length aG/\σ_ 106=jV (↑am.length:Int)/\σ_ 107=jV (↑aT:Int)/\σ_ 121=.slice bk aq.length br/\σ_ 122=jV (↑aq.length:Int)/\PHeap.Le cx U_/\sW w U U_ [.blk bp 47 bg,av,bD,bf,ah,bR,.blk ay 80 [.slice cO cK.length dl,jV fd,.int .u32 ff],B8,bv] w_/\Sl U_ 1 cO dl cK.length (hH KL.encB8 cK)) A3 ?_ ?_ ?_
 exact ⟨cx,cM,di,rfl,rh,ri,eJ,rj,rn,ro,rfl,lu,lv,gE,rfl,rfl,(zL _),(gR.pick [1,2,3,4,5,6,7,8,9] _ (by decide) rfl),vD⟩
 rintro bi ⟨cK,fd,ff,pm⟩ Fu FD DB g8 ⟨fI,cO,dl,gF,lw,rp,rq,rv,rx,ry,rz,rA,rB,rC,lx,ly,CD,gS,vG⟩ oE
 try dsimp only at oE
 have j0:Hid ((↑bi:Int) < (↑aq.length:Int)):=zK (wAx g8)
 replace g8:=zK g8
 have Bn:Hid (w64 ((↑bi:Int) + 1)=(↑(bi + 1):Int)):=zK (by have h1:=ii.out;have h2:=j0.out;rw [wAW] <;> omega)
 refine sR fL1 Z (oR Z (zT Z gF ly) (eN (zJ (cT Z j0 (kN (zJ (zY (sR gEv Z (bnK oE fun _ gI Bs=>?_)))))))))
 obtain ⟨D1,m6⟩:=gS.rowSome (j:=3) rfl (by rw [wAC (f:=wAA) (sz:=2) (fun _=>rfl) aq];have hz:=wAR gI;omega)
 refine oR Z (Zf Z lx m6 gF zy zo (wAR gI)) ?_
 have Bf:=wAt (xs:=aq) (wAR gI)
 let de:List Value:=[jV ((gd aq bi).Lo),jV ((gd aq bi).Hi)]
 refine ZD rfl rfl rfl rfl (gS.ldRA (j:=3) rfl m6 rfl rfl Zr zo (vs:=de) (wDy (sz:=2) (fun _=>rfl) _ _ _ Bf (by first | omega | rfl | simp) rfl) rfl) rfl (zX (cs:=B7) rfl rfl rfl rfl rfl ZF rfl gS ?_)
 intro DC fW xq
 refine za (j:=0) (vs:=de) Z Z Z Z xq Z Z Z Z zo (zA Z) Z Z Z ?_
 intro fQ xr
 let jl:Res:=.blk ay 80 [.slice cO cK.length dl,jV fd,.int .u32 ff]
 have gT:sW w U fI [.blk fW 37 de,.blk bp 47 bg,av,bD,bf,ah,bR,jl,B8,bv] fQ:=xr
 refine eN (rR (wHN (.fx 6 (.fl 7 (.fl 8 .nil)) .stop)) Z (oM Z rz (oM Z lw (oR Z (zM Z Z ZU Z zC) (oL Z (gT.ldB (j:=0) Z Z Z zF (v:=jV ((gd aq bi).Lo)) Z) (oR Z (zM Z Z ZU Z zC) (oL Z (gT.ldB (j:=0) Z Z Z zF (v:=jV ((gd aq bi).Hi)) Z) ?_)))))))
 have q:=bnd Bs
 obtain ⟨⟨Fq,iJ⟩,vH,ol⟩:=q
 try dsimp only at ol
 have xu:sW w U fI [jl,.blk fW 37 de,.blk bp 47 bg,av,bD,bf,ah,bR,B8,bv] fQ:=gT.pick [7,0,1,2,3,4,5,6,8,9] _ (by decide) rfl
 refine zG 1 Z Z Z Z (zH Z Z Tryz.call6 (zB Z (zB Z (zB Z zN))) Z) xu (fun hs=>wBd (⟨cK,fd,ff⟩:wAP) ay cO dl ((gd aq bi).Lo) ((gd aq bi).Hi) fQ fI hs vG vH) (.inl Z) ?_
 rintro jx Di E9 qd CE xv ⟨iX,j3,rfl,rfl,vI⟩
 have xw:sW w U jx [.blk ay 80 [.slice iX iJ.bytes.length j3,jV iJ.next,.int .u32 iJ.state],.blk fW 37 de,.blk bp 47 bg,av,bD,bf,ah,bR,B8,bv] qd:=xv
 refine oR Z (zV Z Z Z) (oA Z Z (zc (zk (zI (rR fL2 Z (oR Z (ZI (zV Z gF Z) (congrArg (jV) Bn.out)) (oM Z Z (zc ?_))))))))
 cases ol
 exact zI ⟨rfl,⟨jx,iX,j3,rfl,lw,rp,rq,rv,rx,ry,rfl,rA,rB,rC,lx,ly,(CD.trans CE),(xw.pick [2,3,4,5,6,7,0,8,9] _ (by decide) rfl),vI⟩⟩
 rintro FE DD ⟨fJ,iY,j4,vn,rD,rE,rF,rG,rH,rI,rJ,rK,rL,rM,Ef,rN,CF,xx,vK⟩
 have qT:Hid (¬ ((↑(((↑aq.length:Int):Int) - 0).toNat:Int) < (↑aq.length:Int))):=zK (wAd)
 refine sR fL1 Z (oR Z (zT Z vn rN) (eN (zJ (cF Z qT (ZQ (zg (zg (ZJ (zI (rR (.fl 0 (.fl 1 (.fx 2 (.fx 3 (.fl 4 .nil) .stop) .stop))) Z (oM Z rI (oM Z rJ (zr (pv:=[(0,jV dP)]) (zs:=[jV 0]) (cs:=[jV dP]) Z Z Z Z Z (wAE Z wAL) zD zC zt Z Z Z Z Z xx ?_)))))))))))))
 intro qe qP xz
 let jm:Res:=.blk ay 80 [.slice iY Db.length j4,jV Dc,.int .u32 Dd]
 let jo:Res:=.row (some ⟨qP,0,none⟩) 1 3 1 (hH KL.encI [dP])
 have n5:sW w U fJ [jo,.blk bp 47 bg,av,bD,bf,ah,bR,jm,B8,bv] qe:=xz
 refine bnK oj fun po vL Bu=>Zn (j:=9) (enc:=KL.encI) (xs:=cJ) (ys:=[dP]) (zs:=po) rfl rfl rfl rfl rfl yW wGs rfl rfl rfl rfl rfl rfl n5 rfl rfl rfl (n5.srcR (j:=0) rfl (by decide) (wAC (f:=KL.encI) (sz:=1) (fun _=>rfl) [dP])) (fun _=>rfl) (fun _=>rfl) vL rfl ?_
 intro iZ j5 qf xA
 have xB:sW w U fJ [jo,.blk bp 47 bg,av,bD,bf,ah,bR,jm,B8,.row iZ j5 3 1 (hH KL.encI po)] qf:=xA
 refine oA Z Z (zc (zk (zI (rR fL2 Z (oR Z (ZI (zV Z rM Z) (congrArg (jV) Bm.out)) (oM Z Z (zc ?_)))))))
 cases Bu
 exact zI ⟨rfl,⟨fJ,dS,eo,iY,j4,iZ,j5,rfl,rD,rE,rF,rG,rH,rfl,rK,rL,(CB.trans CF),(xB.pick [2,3,4,5,6,7,8,9] _ (by decide) rfl),vK⟩⟩
 rintro FF ej ⟨Dw,bK,bU,pC,qU,cP,dm,vo,Eg,lA,gg,rO,lB,lC,Eh,rP,EZ,n6,EY⟩
 have qV:Hid (¬ ((↑(((↑am.length:Int):Int) - 0).toNat:Int) < (↑am.length:Int))):=zK (wAd)
 refine sR fL1 Z (oR Z (zT Z vo rP) (eN (zJ (cF Z qV (ZQ (zg (zg (ZJ (zI (sR (.fl 0 (.fl 1 (.fx 2 (wMt (.nil)) .stop))) Z ?_))))))))))
 let aH:List Value:=[.slice bK bA.length bU,.slice bk aq.length br,.slice (some ⟨aF,0,none⟩) ([(⟨(⟨0,0⟩:wAF),0⟩:wAO)].length) 1,.slice none 0 0]
 refine oL Z (n6.ldBA (j:=4) Z Z gg zm zf (vs:=aH) Z Z) (oM Z lB ?_)
 have q:=n6.freezeR (k:=1) (n:=bA.length) rfl (wAC (f:=KL.encI) (sz:=1) (fun _=>rfl) bA) (by decide)
 obtain ⟨pF,E0,Co,xE⟩:=q
 let aI:Res:=.blk ay 80 [.slice pC C8.length qU,jV C9,.int .u32 Da]
 let aJ:Res:=.row cP dm 3 1 (hH KL.encI aL)
 have xF:sW w U pF [av,bf,ah,.blk ab 45 aH,aI,B8,aJ] ej:=xE
 have q:=xF.freezeR (k:=1) (n:=aq.length) rfl (wAC (f:=wAA) (sz:=2) (fun _=>rfl) aq) (by decide)
 obtain ⟨pG,CG,Cp,xG⟩:=q
 have xH:sW w U pG [av,ah,.blk ab 45 aH,aI,B8,aJ] ej:=xG
 have q:=xH.freezeR (k:=1) (n:=[(⟨(⟨0,0⟩:wAF),0⟩:wAO)].length) rfl (wAC (f:=wAG) (sz:=3) (fun _=>rfl) [(⟨(⟨0,0⟩:wAF),0⟩:wAO)]) (by decide)
 obtain ⟨jy,oZ,oC,xI⟩:=q
 have xJ:sW w U jy [av,.blk ab 45 aH,aI,B8,aJ] ej:=xI
 have vN:=Co.le CG
 have mU:=vN.le oZ
 have mV:=Cp.le oZ
 have q:=bnd oh
 obtain ⟨⟨bj,C1⟩,vO,om⟩:=q
 try dsimp only at om
 refine zG 0 rfl rfl rfl rfl (zH rfl rfl Tryz.call10 (zB rfl (zB rfl zN)) rfl) xJ (fun hs=>wEh (⟨bA,aq,[(⟨(⟨0,0⟩:wAF),0⟩:wAO)],[]⟩:wAD) bK bU bk br (some ⟨aF,0,none⟩) 1 none 0 (↑aq.length:Int) ej jy hs mU mV oC (by first | exact Sl.nil _ _ _ _ | exact SlR.nil) vO) (.inr rfl) ?_
 rintro d8 Dj Fa jM iu xK ⟨cQ,dn,rfl,rfl⟩
 let aQ:Res:=.row cQ dn 37 2 (hH wAA bj)
 have eX:sW w U d8 [aQ,av,.blk ab 45 aH,aI,B8,aJ] jM:=xK
 refine oM Z Z (oR Z (zZ Z Z (v:=.slice cQ bj.length dn) Z) (oR Z (zZ Z Z (v:=jV C1) Z) (oA Z Z (oA Z Z (eN (zJ (sR fL9 Z (oM Z Z (oR Z (Zb Z Z Z) (oM Z Z (ifc om ?_ ?_)))))))))))
 intro a8 Bv
 refine zU Z Z Z (zO Z Z (ZA (fun h=>h a8.out))) Z Z (ze Z Z Z (zO Z Z (ZA (fun h=>h a8.out))) (fun _=>zx Z Z zy) (zU Z Z Z (zO Z Z (ZA (fun h=>h a8.out))) Z lA (ze Z Z Z (zO Z Z (ZA (fun h=>h a8.out))) (fun _=>zx Z Z yS) (ze Z Z Z (zO Z Z (ZA (fun h=>h a8.out))) (fun _=>Zb Z Z Z) (oR Z (zd Z (ZA (fun h=>h a8.out)) Z) (eN (ifc Bv ?_ ?_)))))))
 intro fY Bw
 refine zj (ZA (fun h=>h fY.out)) (kN (sR (.fl 0 (.fx 1 gEp .stop)) Z (oL Z (eX.ldBA (j:=2) Z Z gg zm zf (vs:=aH) Z Z) ?_)))
 have gJ:=mU.le iu
 have vP:=mV.le iu
 have vQ:=oC.le iu
 refine bnK Bw fun ax vR Bx=>zG 0 rfl rfl rfl rfl (zH rfl rfl Tryz.call11 (zB rfl zN) rfl) eX (fun hs=>wFL (⟨bA,aq,[(⟨(⟨0,0⟩:wAF),0⟩:wAO)],[]⟩:wAD) bK bU bk br (some ⟨aF,0,none⟩) 1 none 0 jM d8 hs gJ vP vQ (by first | exact Sl.nil _ _ _ _ | exact SlR.nil) vR) (.inr rfl) ?_
 rintro d9 Dk Fb qi o0 xL ⟨bL,bV,bM,bW,bN,bX,fm,fZ,rfl,rfl⟩
 let bF:Res:=.row bN bX 39 3 (hH wAG ax.Clocks)
 let bS:Res:=.row bM bW 37 2 (hH wAA ax.Splits)
 let ct:Res:=.row bL bV 3 1 (hH KL.encI ax.Starts)
 let jp:Res:=.row fm fZ 52 4 (hH wAB ax.Readings)
 have xM:sW w U d9 [ct,bS,bF,jp,aQ,av,.blk ab 45 aH,aI,B8,aJ] qi:=xL
 refine zX (cs:=fz) Z Z Z Z Z yY Z xM ?_
 intro DE aY xN
 let jq:List Value:=[.slice bL ax.Starts.length bV,.slice bM ax.Splits.length bW,.slice bN ax.Clocks.length bX,.slice fm ax.Readings.length fZ]
 refine za (j:=0) (vs:=jq) Z Z Z Z xN Z Z Z Z zf (zA Z) Z Z Z ?_
 intro qj xO
 have xP:sW w U d9 [.blk aY 45 jq,ct,bS,bF,jp,aQ,av,.blk ab 45 aH,aI,B8,aJ] qj:=xO
 refine eN (zJ (sR fL3 Z (oM Z lC (oR Z (zx Z Z zD) (oM Z Z (eN (zY (bnK Bx fun dQ A4 By=>?_))))))))
 have q:=wBE A4
 obtain ⟨ij,A5⟩:=q
 replace ij:=zK ij
 refine CK.forN' (fun aX ci σ_ w_=>∃ (U_:PHeap) (cn:Option Addr) (cz:Nat),σ_ 160=jV (↑aX:Int)/\σ_ 11=.slice az am.length aG/\σ_ 13=.pointer (some ⟨ab,0,none⟩)/\σ_ 14=jV dR/\σ_ 17=jV (↑aq.length:Int)/\σ_ 18=.slice cP aL.length dm/\σ_ 24=.slice cQ bj.length dn/\σ_ 25=.pointer (some ⟨aY,0,none⟩)/\σ_ 158=.slice cP aL.length dm/\σ_ 159=jV (↑aL.length:Int)/\PHeap.Le d9 U_/\sW w U U_ [ct,bS,bF,.row cn cz 52 4 (hH wAB ci),.blk aY 45 [.slice bL ax.Starts.length bV,.slice bM ax.Splits.length bW,.slice bN ax.Clocks.length bX,.slice cn ci.length cz],av,.blk ab 45 aH,aI,B8,aJ,aQ] w_) A5 ?_ ?_ ?_
 exact ⟨d9,fm,fZ,rfl,lA,gg,rO,lB,lC,rfl,rfl,rfl,rfl,(zL _),(xP.pick [1,2,3,4,0,6,7,8,9,10,5] _ (by decide) rfl)⟩
 rintro aX ci Fv FH DF g9 ⟨ef,cn,cz,eT,rQ,rS,rT,lD,rV,rW,gh,lE,lF,CH,eY⟩ Cv
 have j7:Hid ((↑aX:Int) < (↑aL.length:Int)):=zK (wAx g9)
 replace g9:=zK g9
 have Bo:Hid (w64 ((↑aX:Int) + 1)=(↑(aX + 1):Int)):=zK (by have h1:=ij.out;have h2:=j7.out;rw [wAW] <;> omega)
 refine sR fL1 Z (oR Z (zT Z eT lF) (eN (zJ (cT Z j7 (kN (zJ (zY (sR fL5 Z (oM Z eT (bnK Cv fun _ gL Bz=>?_))))))))))
 obtain ⟨D5,m7⟩:=eY.rowSome (j:=9) rfl (by rw [wAC (f:=KL.encI) (sz:=1) (fun _=>rfl) aL];have hz:=wAR gL;omega)
 refine oR Z (Zf Z lE m7 eT zD zC (wAR gL)) ?_
 have Bg:=wAt (xs:=aL) (wAR gL)
 refine ZD rfl rfl rfl rfl (eY.ldR (j:=9) rfl m7 rfl rfl zF (wAT (sz:=1) (fun _=>rfl) _ _ 0 _ Bg (by first | omega | rfl | simp) rfl)) rfl (Zy rfl rfl rfl rfl rfl rfl (Zy rfl rfl rfl rfl rfl rfl (eN (rR (wHN (.fx 6 (.fx 7 (.fl 8 (.fx 9 .nil .stop)) .stop) .stop)) rfl (ze rfl rfl rfl rfl (fun _=>zM rfl gh zP rfl Zk) (ZD rfl rfl rfl rfl (eY.ldB (j:=4) rfl rfl rfl yF (v:=.slice cn ci.length cz) rfl) rfl (zU rfl rfl rfl rfl rfl rfl (zU rfl rfl rfl rfl rfl lD (zU rfl rfl rfl rfl rfl rfl ?_)))))))))
 let fE:List Value:=[jV (↑aX:Int),jV (↑aq.length:Int),jV 0,jV (gd aL aX)]
 let jr:List Value:=[jV 0,jV 0,jV 0,jV 0]
 refine oR Z (zl (pv:=[(0,jV (↑aX:Int)),(1,jV (↑aq.length:Int)),(3,jV (gd aL aX))]) (z:=jr) (cs:=fE) Z (wAE Z (wAE Z (wAE Z wAL))) yP wGO Z Z) (zr (pv:=[(0,.agg fE.toArray)]) (zs:=jr) (cs:=fE) Z Z Z Z Z (wAE Z wAL) ZR Zj yP Z Z Z Z Z eY ?_)
 intro qm qQ xR
 let fG:Res:=.row (some ⟨qQ,0,none⟩) 1 52 4 (hH wAB [(⟨(↑aX:Int),(↑aq.length:Int),0,(gd aL aX)⟩:wAJ)])
 let jt:Res:=.blk aY 45 [.slice bL ax.Starts.length bV,.slice bM ax.Splits.length bW,.slice bN ax.Clocks.length bX,.slice cn ci.length cz]
 have n7:sW w U ef [fG,ct,bS,bF,.row cn cz 52 4 (hH wAB ci),jt,av,.blk ab 45 aH,aI,B8,aJ,aQ] qm:=xR
 refine bnK Bz fun fg vS BA=>Zn (j:=4) (enc:=wAB) (xs:=ci) (ys:=[(⟨(↑aX:Int),(↑aq.length:Int),0,(gd aL aX)⟩:wAJ)]) (zs:=fg) rfl rfl rfl rfl rfl Tryz.underlying43 wJS rfl rfl rfl rfl rfl rfl n7 rfl rfl rfl (n7.srcR (j:=0) rfl (by decide) (wAC (f:=wAB) (sz:=4) (fun _=>rfl) [(⟨(↑aX:Int),(↑aq.length:Int),0,(gd aL aX)⟩:wAJ)])) (fun _=>rfl) (fun _=>rfl) vS rfl ?_
 intro dT ez qn xS
 let ju:Res:=.row dT ez 52 4 (hH wAB fg)
 have xT:sW w U ef [fG,ct,bS,bF,ju,jt,av,.blk ab 45 aH,aI,B8,aJ,aQ] qn:=xS
 refine oR Z (zM Z gh zP Z Zk) (za (j:=5) (vs:=[.slice dT fg.length ez]) Z Z Z Z xT Z Z Z Z Zk (zA Z) Z Z Z ?_)
 intro qo xU
 have xV:sW w U ef [fG,ct,bS,bF,ju,.blk aY 45 [.slice bL ax.Starts.length bV,.slice bM ax.Splits.length bW,.slice bN ax.Clocks.length bX,.slice dT fg.length ez],av,.blk ab 45 aH,aI,B8,aJ,aQ] qo:=xU
 refine zc (zk (zI (rR fL2 Z (oR Z (ZI (zV Z eT Z) (congrArg (jV) Bo.out)) (oM Z Z (zc ?_))))))
 cases BA
 exact zI ⟨rfl,⟨ef,dT,ez,rfl,rQ,rS,rT,lD,rV,rW,gh,lE,lF,CH,(xV.pick [1,2,3,4,5,6,7,8,9,10,11] _ (by decide) rfl)⟩⟩
 rintro FI dh ⟨Dx,fq,f4,vq,gi,rX,rY,rZ,r6,r7,r8,Ei,r9,o3,n8⟩
 have qW:Hid (¬ ((↑(((↑aL.length:Int):Int) - 0).toNat:Int) < (↑aL.length:Int))):=zK (wAd)
 refine sR fL1 Z (oR Z (zT Z vq r9) (eN (zJ (cF Z qW (ZQ (zg (zg (ZJ (zI (sR (.fl 0 (.fl 1 (.fx 2 (wMt (.nil)) .stop))) Z ?_))))))))))
 let bn:List Value:=[.slice bL ax.Starts.length bV,.slice bM ax.Splits.length bW,.slice bN ax.Clocks.length bX,.slice fq dQ.length f4]
 refine oL Z (n8.ldBA (j:=4) Z Z r8 zm zf (vs:=bn) Z Z) (oM Z rZ ?_)
 have q:=n8.freezeR (k:=0) (n:=ax.Starts.length) rfl (wAC (f:=KL.encI) (sz:=1) (fun _=>rfl) ax.Starts) (by decide)
 obtain ⟨pH,o5,Cq,xW⟩:=q
 let fH:Res:=.row fq f4 52 4 (hH wAB dQ)
 have xX:sW w U pH [bS,bF,fH,.blk aY 45 bn,av,.blk ab 45 aH,aI,B8,aJ,aQ] dh:=xW
 have q:=xX.freezeR (k:=0) (n:=ax.Splits.length) rfl (wAC (f:=wAA) (sz:=2) (fun _=>rfl) ax.Splits) (by decide)
 obtain ⟨pI,iv,Cr,xY⟩:=q
 have xZ:sW w U pI [bF,fH,.blk aY 45 bn,av,.blk ab 45 aH,aI,B8,aJ,aQ] dh:=xY
 have q:=xZ.freezeR (k:=0) (n:=ax.Clocks.length) rfl (wAC (f:=wAG) (sz:=3) (fun _=>rfl) ax.Clocks) (by decide)
 obtain ⟨pJ,e8,Cs,x8⟩:=q
 have yq:sW w U pJ [fH,.blk aY 45 bn,av,.blk ab 45 aH,aI,B8,aJ,aQ] dh:=x8
 have q:=yq.freezeR (k:=0) (n:=dQ.length) rfl (wAC (f:=wAB) (sz:=4) (fun _=>rfl) dQ) (by decide)
 obtain ⟨jz,dL,Ct,yr⟩:=q
 have yt:sW w U jz [.blk aY 45 bn,av,.blk ab 45 aH,aI,B8,aJ,aQ] dh:=yr
 have vT:=Cq.le iv
 have vU:=vT.le e8
 have vV:=vU.le dL
 have vW:=Cr.le e8
 have vX:=vW.le dL
 have vY:=Cs.le dL
 have q:=bnd By
 obtain ⟨⟨bz,C2⟩,vZ,oo⟩:=q
 try dsimp only at oo
 refine zG 0 Z Z Z Z (zH Z Z Tryz.call10 (zB Z (zB Z zN)) Z) yt (fun hs=>wEh (⟨ax.Starts,ax.Splits,ax.Clocks,dQ⟩:wAD) bL bV bM bW bN bX fq f4 (↑aq.length:Int) dh jz hs vV vX vY Ct vZ) (.inr Z) ?_
 rintro dg Dl Fc qp o6 yu ⟨dU,eA,rfl,rfl⟩
 let df:Res:=.row dU eA 37 2 (hH wAA bz)
 have gU:sW w U dg [df,.blk aY 45 bn,av,.blk ab 45 aH,aI,B8,aJ,aQ] qp:=yu
 refine oM Z Z (oR Z (zZ Z Z (v:=.slice dU bz.length eA) Z) (oR Z (zZ Z Z (v:=jV C2) Z) (oA Z Z (oA Z Z (eN (zJ (sR fL9 Z (oM Z Z (oR Z (Zb Z Z Z) (oM Z Z (ifc oo ?_ ?_)))))))))))
 intro a9 BB
 refine zU Z Z Z (zO Z Z (ZA (fun h=>h a9.out))) Z Z (ze Z Z Z (zO Z Z (ZA (fun h=>h a9.out))) (fun _=>zx Z Z zy) (zU Z Z Z (zO Z Z (ZA (fun h=>h a9.out))) Z gi (ze Z Z Z (zO Z Z (ZA (fun h=>h a9.out))) (fun _=>zx Z Z yS) (ze Z Z Z (zO Z Z (ZA (fun h=>h a9.out))) (fun _=>Zb Z Z Z) (oR Z (zd Z (ZA (fun h=>h a9.out)) Z) (eN (ifc BB ?_ ?_)))))))
 intro f5 dF
 refine zj (ZA (fun h=>h f5.out)) (kN (zJ (sR fL3 Z (oM Z gi (oR Z (zx Z Z yS) (oM Z Z (eN (zY ?_))))))))
 have q:=wBs dF
 obtain ⟨E7,dE⟩:=q
 have q:=wBr dE
 obtain ⟨ik,A6⟩:=q
 replace ik:=zK ik
 refine yQ (fun bc _ σ_ w_=>∃ (U_:PHeap),σ_ 192=jV (↑bc:Int)/\σ_ 11=.slice az am.length aG/\σ_ 13=.pointer (some ⟨ab,0,none⟩)/\σ_ 14=jV dR/\σ_ 18=.slice cP aL.length dm/\σ_ 24=.slice cQ bj.length dn/\σ_ 28=.slice dU bz.length eA/\σ_ 191=jV (↑am.length:Int)/\PHeap.Le dg U_/\sW w U U_ [.blk aY 45 bn,av,.blk ab 45 aH,aI,B8,aJ,aQ,df] w_) A6 ?_ ?_ ?_
 exact ⟨dg,rfl,gi,rX,rY,r6,r7,rfl,rfl,(zL _),(gU.pick [1,2,3,4,5,6,7,0] _ (by decide) rfl)⟩
 rintro bc ⟨⟩ Fw FJ DG ib ⟨jA,gG,lG,sa,sb,sc,sd,se,lH,iw,yv⟩ oG gY
 try dsimp only at oG
 have j9:Hid ((↑bc:Int) < (↑am.length:Int)):=zK (wAx ib)
 replace ib:=zK ib
 have Bp:Hid (w64 ((↑bc:Int) + 1)=(↑(bc + 1):Int)):=zK (by have h1:=ik.out;have h2:=j9.out;rw [wAW] <;> omega)
 refine sR fL1 Z (oR Z (zT Z gG lH) (eN (zJ (cT Z j9 (kN (zJ (zY (sR fL2 Z (oM Z gG (oA Z Z (eN (sR fL2 Z (oA Z Z (oA Z Z (eN (zJ (sR fL3 Z (oM Z lG (oR Z (zx Z Z yS) (oM Z Z (eN (zY ?_))))))))))))))))))))))
 have q:=bnd oG
 obtain ⟨⟨cj,FA⟩,A8,oq⟩:=q
 try dsimp only at oq
 have q:=wBE A8
 obtain ⟨il,A9⟩:=q
 replace il:=zK il
 refine CK.forN' (fun dG (pp,pq) σ_ w_=>∃ (U_:PHeap),σ_ 197=jV (↑dG:Int)/\σ_ 11=.slice az am.length aG/\σ_ 13=.pointer (some ⟨ab,0,none⟩)/\σ_ 14=jV dR/\σ_ 18=.slice cP aL.length dm/\σ_ 24=.slice cQ bj.length dn/\σ_ 28=.slice dU bz.length eA/\σ_ 29=jV (↑bc:Int)/\σ_ 30=jV pp/\σ_ 31=jV pq/\σ_ 191=jV (↑am.length:Int)/\σ_ 192=jV (↑bc:Int)/\σ_ 196=jV (↑am.length:Int)/\PHeap.Le jA U_/\sW w U U_ [.blk aY 45 bn,av,.blk ab 45 aH,aI,B8,aJ,aQ,df] w_) A9 ?_ ?_ ?_
 exact ⟨jA,Z,lG,sa,sb,sc,sd,se,Z,Z,Z,lH,gG,Z,(zL _),yv⟩
 rintro dG ⟨pp,pq⟩ Fx FK jN ic ⟨eg,cG,eL,bI,cD,cE,eM,eO,cb,gj,eQ,eR,eS,dB,cL,yw⟩ oH
 try dsimp only at oH
 have k9:Hid ((↑dG:Int) < (↑am.length:Int)):=zK (wAx ic)
 replace ic:=zK ic
 have e7:Hid (w64 ((↑dG:Int) + 1)=(↑(dG + 1):Int)):=zK (by have h1:=il.out;have h2:=k9.out;rw [wAW] <;> omega)
 refine sR fL1 rfl (ze rfl rfl rfl rfl (fun _=>zT rfl cG dB) (eN (zJ (cT Z k9 (kN (zJ (zY (sR fL2 rfl (zU rfl rfl rfl rfl rfl cG (Zy rfl rfl rfl rfl rfl rfl (eN (zJ (zJ (ZB zw [3,3,3,1,3,3,3,1,3] fL9 (by kernel_rfl) ?_))))))))))))))
 have cH:=yw.drew
 generalize hw_W1675:({ jN with drawn:=jN.drawn + 1 }:World)=en at cH ⊢
 refine oM Z cE (oM Z Z (bnK oH fun _ gM BC=>?_))
 obtain ⟨D6,eU⟩:=cH.rowSome (j:=5) rfl (by rw [wAC (f:=KL.encI) (sz:=1) (fun _=>rfl) aL];have hz:=wAR gM;omega)
 refine oR Z (Zf Z Z eU Z zD zC (wAR gM)) ?_
 have Bh:=wAt (xs:=aL) (wAR gM)
 refine ZD rfl rfl rfl rfl (cH.ldR (j:=5) rfl eU rfl rfl zF (wAT (sz:=1) (fun _=>rfl) _ _ 0 _ Bh (by first | omega | rfl | simp) rfl)) rfl (zU rfl rfl rfl rfl rfl cE (zU rfl rfl rfl rfl rfl cb (bnK BC fun _ mW BD=>ze rfl rfl rfl rfl (fun _=>Zf rfl rfl eU rfl zD zC (wAR mW)) ?_)))
 have Bi:=wAt (xs:=aL) (wAR mW)
 refine ZD rfl rfl rfl rfl (cH.ldR (j:=5) rfl eU rfl rfl zF (wAT (sz:=1) (fun _=>rfl) _ _ 0 _ Bi (by first | omega | rfl | simp) rfl)) rfl (ze rfl rfl rfl rfl (fun _=>zT rfl rfl rfl) (eN (ifc BD ?_ ?_)))
 intro f6 BE
 refine cT Z f6 (rR fL3 rfl (zU rfl rfl rfl rfl rfl gj (ze rfl rfl rfl rfl (fun _=>zV rfl rfl rfl) (Zy rfl rfl rfl rfl rfl rfl (eN (zJ (ZB zw [3,1,3,3,1,3,1,3,3,1,3,3,3] fL13 (by kernel_rfl) ?_)))))))
 have cd:=cH.drew
 generalize hw_W1687:({ en with drawn:=en.drawn + 1 }:World)=DH at cd ⊢
 refine oR Z (zM Z bI zP Z ZC) (oL Z (cd.ldB (j:=2) Z Z Z ZH (v:=.slice bK bA.length bU) Z) (oM Z cb (bnK BE fun C3 mX BF=>?_)))
 have v4:=gJ.le o0
 have v5:=v4.le o3
 have v9:=v5.le o5
 have wa:=v9.le iv
 have wb:=wa.le e8
 have wc:=wb.le dL
 have wd:=wc.le o6
 have we:=wd.le iw
 have mY:=we.le cL
 have q:=mY.el (fun _=>rfl) (wAc mX)
 obtain ⟨D7,E3,wL,wP⟩:=q
 refine oR Z (Zf Z Z wL Z zD zC (wCG mX)) (oL Z (cd.ldC (f:=0) wP (v:=jV C3) Z Z zF Z) (oR Z (zM Z bI zP Z ZC) (oL Z (cd.ldB (j:=2) Z Z Z ZH (v:=.slice bK bA.length bU) Z) (oM Z Z (bnK BF fun C4 mZ BG=>?_)))))
 have q:=mY.el (fun _=>rfl) (wAc mZ)
 obtain ⟨D8,E4,wM,wQ⟩:=q
 refine oR Z (Zf Z Z wM Z zD zC (wCG mZ)) (oL Z (cd.ldC (f:=0) wQ (v:=jV C4) Z Z zF Z) (oM Z cD (oR Z (zV Z Z Z) (oR Z (ye Z Z Z) (eN (ifc BG ?_ ?_))))))
 intro f7 BH
 refine cT Z f7 (rR fL3 Z (oM Z eQ (oR Z (zV Z Z Z) (oA Z Z (zc (zk (zI (rR fL2 Z (oR Z (ZI (zV Z cG Z) (congrArg (jV) e7.out)) (oM Z Z (zc ?_)))))))))))
 cases BH
 exact zI ⟨Z,⟨eg,Z,eL,bI,cD,cE,eM,eO,cb,Z,Z,eR,eS,dB,cL,cd⟩⟩
 intro f7 BI
 refine cF Z f7 (ZS (zk (zI (rR fL2 Z (oR Z (ZI (zV Z cG Z) (congrArg (jV) e7.out)) (oM Z Z (zc ?_)))))))
 cases BI
 exact zI ⟨Z,⟨eg,Z,eL,bI,cD,cE,eM,eO,cb,Z,eQ,eR,eS,dB,cL,cd⟩⟩
 intro f6 BJ
 refine cF Z f6 (kN (zJ (ZB zw [3,1,3,3,1,3,1,3,3,1,3,3,3] fL13 (by kernel_rfl) ?_)))
 have cf:=cH.drew
 generalize hw_W1720:({ en with drawn:=en.drawn + 1 }:World)=DI at cf ⊢
 refine oR Z (zM Z bI zP Z ZC) (oL Z (cf.ldB (j:=2) Z Z Z ZH (v:=.slice bK bA.length bU) Z) (oM Z cb (bnK BJ fun C5 m2 BK=>?_)))
 have wg:=gJ.le o0
 have wh:=wg.le o3
 have wi:=wh.le o5
 have wj:=wi.le iv
 have wk:=wj.le e8
 have wl:=wk.le dL
 have wn:=wl.le o6
 have wo:=wn.le iw
 have m3:=wo.le cL
 have q:=m3.el (fun _=>rfl) (wAc m2)
 obtain ⟨D9,E5,wN,wR⟩:=q
 refine oR Z (Zf Z Z wN Z zD zC (wCG m2)) (oL Z (cf.ldC (f:=0) wR (v:=jV C5) Z Z zF Z) (oR Z (zM Z bI zP Z ZC) (oL Z (cf.ldB (j:=2) Z Z Z ZH (v:=.slice bK bA.length bU) Z) (oM Z Z (bnK BK fun C6 m4 BL=>?_)))))
 have q:=m3.el (fun _=>rfl) (wAc m4)
 obtain ⟨Ea,E6,wO,wS⟩:=q
 refine oR Z (Zf Z Z wO Z zD zC (wCG m4)) (oL Z (cf.ldC (f:=0) wS (v:=jV C6) Z Z zF Z) (oM Z cD (oR Z (zV Z Z Z) (oR Z (ye Z Z Z) (eN (ifc BL ?_ ?_))))))
 intro f8 BM
 refine cT Z f8 (rR fL3 Z (oM Z eQ (oR Z (zV Z Z Z) (oA Z Z (zc (zk (zI (rR fL2 Z (oR Z (ZI (zV Z cG Z) (congrArg (jV) e7.out)) (oM Z Z (zc ?_)))))))))))
 cases BM
 exact zI ⟨Z,⟨eg,Z,eL,bI,cD,cE,eM,eO,cb,gj,Z,eR,eS,dB,cL,cf⟩⟩
 intro f8 BN
 refine cF Z f8 (ZS (zk (zI (rR fL2 Z (oR Z (ZI (zV Z cG Z) (congrArg (jV) e7.out)) (oM Z Z (zc ?_)))))))
 cases BN
 exact zI ⟨Z,⟨eg,Z,eL,bI,cD,cE,eM,eO,cb,gj,eQ,eR,eS,dB,cL,cf⟩⟩
 rintro FL qq ⟨jB,vr,sj,sk,sl,sn,gk,lK,gm,gp,so,sq,sr,ss,CJ,cI⟩
 have qY:Hid (¬ ((↑(((↑am.length:Int):Int) - 0).toNat:Int) < (↑am.length:Int))):=zK (wAd)
 refine sR fL1 Z (oR Z (zT Z vr ss) (eN (zJ (cF Z qY (ZQ (zg (zg (ZJ (zI (sR (wLF (.fx 14 (wMw (.nil)) .stop)) Z (oM Z lK (oM Z gm (bnK oq fun _ gN BP=>?_)))))))))))))
 obtain ⟨Eb,m8⟩:=cI.rowSome (j:=7) rfl (by rw [wAC (f:=wAA) (sz:=2) (fun _=>rfl) bz];have hz:=wAR gN;omega)
 refine oR Z (Zf Z Z m8 Z zy zo (wAR gN)) ?_
 have Bj:=wAt (xs:=bz) (wAR gN)
 refine ZD rfl rfl rfl rfl (cI.ldRA (j:=7) rfl m8 rfl rfl Zr zo (vs:=[jV ((gd bz bc).Lo),jV ((gd bz bc).Hi)]) (wDy (sz:=2) (fun _=>rfl) _ _ _ Bj (by first | omega | rfl | simp) rfl) rfl) rfl (zU rfl rfl rfl rfl rfl gp (zU rfl rfl rfl rfl rfl gp (ze rfl rfl rfl rfl (fun _=>zl (pv:=[(0,jV cj),(1,jV cj)]) (z:=B7) (cs:=[jV cj,jV cj]) rfl (wAE rfl (wAE rfl wAL)) ZF wCI rfl rfl) (ze rfl rfl rfl rfl (fun _=>ZI (Runs.neS (enc:=wAA) (a:=(gd bz bc)) (b:=(⟨cj,cj⟩:wAF)) rfl rfl rfl wKX wKW) (congrArg Value.bool (decide_not).symm)) (zU rfl rfl rfl rfl rfl rfl (ifc BP ?_ ?_))))))
 intro aN BQ
 refine zU Z Z Z (zO Z Z (ZA (fun h=>h aN.out))) Z gp (zU Z Z Z (zO Z Z (ZA (fun h=>h aN.out))) Z gk (zU Z Z Z (zO Z Z (ZA (fun h=>h aN.out))) Z gm (bnK BQ fun _ dC BR=>?_)))
 obtain ⟨Ec,eV⟩:=cI.rowSome (j:=6) rfl (by rw [wAC (f:=wAA) (sz:=2) (fun _=>rfl) bj];have hz:=wAR dC;omega)
 refine ze Z Z Z (zO Z Z (ZA (fun h=>h aN.out))) (fun _=>Zf Z Z eV Z zy zo (wAR dC)) ?_
 have Bk:=wAt (xs:=bj) (wAR dC)
 refine ZD rfl rfl rfl (zO rfl rfl (ZA (fun h=>h aN.out))) (cI.ldRA (j:=6) rfl eV rfl rfl Zr zo (vs:=[jV ((gd bj bc).Lo),jV ((gd bj bc).Hi)]) (wDy (sz:=2) (fun _=>rfl) _ _ _ Bk (by first | omega | rfl | simp) rfl) rfl) rfl (bnK BR fun Fr wq BS=>zG 0 rfl rfl rfl (zO rfl rfl (ZA (fun h=>h aN.out))) (zH rfl rfl Tryz.call12 (zB rfl (zB rfl zN)) rfl) cI (fun hs=>wEz cj (gd bj bc) qq jB hs wq) (.inr rfl) ?_)
 rintro eh Dm Fd qr CL y4 ⟨rfl,rfl⟩
 have eZ:sW w U eh [.blk aY 45 bn,av,.blk ab 45 aH,aI,B8,aJ,aQ,df] qr:=y4
 refine ze Z Z Z (zO Z Z (ZA (fun h=>h aN.out))) (fun _=>ZY Z Z) (oR Z (zd Z (ZA (fun h=>h aN.out)) Z) (oM Z Z (ifc BS ?_ ?_)))
 intro aO BT
 refine zU Z Z Z (zO Z Z (nC aO.out)) Z gk (zU Z Z Z (zO Z Z (nC aO.out)) Z gm (ze Z Z Z (zO Z Z (nC aO.out)) (fun _=>Zf Z Z eV Z zy zo (wAR dC)) (ze Z Z Z (zO Z Z (nC aO.out)) (fun _=>zM Z Z ZU Z zC) ?_)))
 have Bl:=wAt (xs:=bj) (wAR dC)
 refine ZD rfl rfl rfl (zO rfl rfl (nC aO.out)) (eZ.ldR (j:=6) rfl eV rfl rfl zF (wAT (sz:=2) (fun _=>rfl) _ _ 0 _ Bl (by first | omega | rfl | simp) rfl)) rfl (zU rfl rfl rfl (zO rfl rfl (nC aO.out)) rfl so (ze rfl rfl rfl (zO rfl rfl (nC aO.out)) (fun _=>Zb rfl rfl rfl) (ze rfl rfl rfl rfl (fun _=>zd rfl (nC aO.out) rfl) (eN (ifc BT ?_ ?_)))))
 intro f9 BU
 refine zj (ZA (fun h=>h f9.out)) (ZS (zk (zI (rR fL2 Z (oR Z (ZI (zV Z sr Z) (congrArg (jV) Bp.out)) (oM Z Z (zc ?_)))))))
 have q:=hJ BU
 obtain rfl:=q
 exact zI ⟨Z,_,Z,⟨eh,Z,sj,sk,sl,sn,gk,lK,sq,((iw.trans CJ).trans CL),eZ⟩⟩
 intro f9 BV
 refine cT Z f9 (sR fL1 Z (oA Z Z (eN (zR (zn (zW ?_))))))
 have q:=wAY BV
 obtain ⟨CY,BW,q5⟩:=q
 have q:=wBo dF dE (gY CY q5)
 obtain rfl:=q
 refine zW (zn (zW ?_))
 have hE:=hJ BW;first | subst r | cases hE
 exact ⟨rfl,_,(ZG rfl),eh,_,(eZ.pick [] _ (by decide) rfl),rfl,rfl⟩
 intro aO BX
 refine ZT Z Z Z (zS Z Z (nF (aO.out)) Z) (ZT Z Z Z (zS Z Z (nF (aO.out)) Z) (ZT Z Z Z (zS Z Z (nF (aO.out)) Z) (ZT Z Z Z (zS Z Z (nF (aO.out)) Z) (ZT Z Z Z (zS Z Z (nF (aO.out)) Z) (ZT Z Z Z (zS Z Z (nF (aO.out)) Z) (ZT Z Z Z (zS Z Z (nF (aO.out)) Z) (oR Z (zQ Z (nF (aO.out)) Z) (eN (ZK Z (sR fL1 Z (oA Z Z (eN (zR (zn (zW ?_)))))))))))))))
 have q:=wAY BX
 obtain ⟨CZ,BY,q6⟩:=q
 have q:=wBo dF dE (gY CZ q6)
 obtain rfl:=q
 refine zW (zn (zW ?_))
 have hE:=hJ BY;first | subst r | cases hE
 exact ⟨rfl,_,(ZG rfl),eh,_,(eZ.pick [] _ (by decide) rfl),rfl,rfl⟩
 intro aN BZ
 refine oT Z aN (oT Z aN (oT Z aN (oT Z aN (oT Z aN (zz Z Z Z (zS Z Z (Za aN.out) Z) (oT Z aN (oR Z (zQ Z (Za aN.out) Z) (oM Z Z (oN Z (oN Z (oN Z (oN Z (oN Z (oN Z (oN Z (oR Z (zQ Z Z Z) (eN (ZK Z (sR fL1 Z (oA Z Z (eN (zR (zn (zW ?_))))))))))))))))))))))))
 have q:=wAY BZ
 obtain ⟨C0,Ca,q7⟩:=q
 have q:=wBo dF dE (gY C0 q7)
 obtain rfl:=q
 refine zW (zn (zW ?_))
 have hE:=hJ Ca;first | subst r | cases hE
 exact ⟨rfl,_,(ZG rfl),jB,_,(cI.pick [] _ (by decide) rfl),rfl,rfl⟩
 rintro ⟨⟩ FM qs ⟨pN,vt,Ej,Ek,El,Em,En,Eo,su,E1,y5⟩ AW
 have ot:=wCk dF dE AW
 try dsimp only at ot
 have qZ:Hid (¬ ((↑(((↑am.length:Int):Int) - 0).toNat:Int) < (↑am.length:Int))):=zK (wAd)
 refine sR fL1 Z (oR Z (zT Z vt su) (eN (zJ (cF Z qZ (ZQ (zg (zg (ZJ (zI (sR (.fx 0 (.fl 1 .nil) .stop) Z (bnK ot fun Fs ws Cb=>zG 0 Z Z Z Z (zH Z Z Tryz.call13 zN Z) y5 (fun hs=>wFM qs pN hs ws) (.inr Z) ?_)))))))))))
 rintro jC Do Ff qt E2 y7 ⟨rfl,rfl⟩
 have y8:sW w U jC [.blk aY 45 bn,av,.blk ab 45 aH,aI,B8,aJ,aQ,df] qt:=y7
 refine oA Z Z (eN (zR ?_))
 have hE:=hJ Cb;first | subst r | cases hE
 exact ⟨rfl,_,(ZG rfl),jC,_,(y8.pick [] _ (by decide) rfl),rfl,rfl⟩
 intro f5 Cc
 refine cT Z f5 (sR fL1 Z (oA Z Z (eN (zR (zW ?_)))))
 have hE:=hJ Cc;first | subst r | cases hE
 exact ⟨rfl,_,(ZG rfl),dg,_,(gU.pick [] _ (by decide) rfl),rfl,rfl⟩
 intro a9 Cd
 refine oT Z a9 (oT Z a9 (oT Z a9 (oT Z a9 (oT Z a9 (oR Z (zQ Z (Za a9.out) Z) (eN (ZK Z (sR fL1 Z (oA Z Z (eN (zR (zW ?_))))))))))))
 have hE:=hJ Cd;first | subst r | cases hE
 exact ⟨rfl,_,(ZG rfl),dg,_,(gU.pick [] _ (by decide) rfl),rfl,rfl⟩
 intro fY Ce
 refine cT Z fY (sR fL1 Z (oA Z Z (eN (zR (zW ?_)))))
 have hE:=hJ Ce;first | subst r | cases hE
 exact ⟨rfl,_,(ZG rfl),d8,_,(eX.pick [] _ (by decide) rfl),rfl,rfl⟩
 intro a8 Cf
 refine oT Z a8 (oT Z a8 (oT Z a8 (oT Z a8 (oT Z a8 (oR Z (zQ Z (Za a8.out) Z) (eN (ZK Z (sR fL1 Z (oA Z Z (eN (zR (zW ?_))))))))))))
 have hE:=hJ Cf;first | subst r | cases hE
 exact ⟨rfl,_,(ZG rfl),d8,_,(eX.pick [] _ (by decide) rfl),rfl,rfl⟩
 intro ga Cg
 refine cT Z ga (sR fL1 Z (oA Z Z (eN (zR (zW ?_)))))
 have hE:=hJ Cg;first | subst r | cases hE
 exact ⟨rfl,_,(ZG rfl),bT,_,(gV.pick [] _ (by decide) rfl),rfl,rfl⟩
 intro ba Ch
 refine oT Z ba (oT Z ba (oT Z ba (oT Z ba (oT Z ba (oR Z (zQ Z (Za ba.out) Z) (eN (ZK Z (sR fL1 Z (oA Z Z (eN (zR (zW ?_))))))))))))
 have hE:=hJ Ch;first | subst r | cases hE
 exact ⟨rfl,_,(ZG rfl),bT,_,(gV.pick [] _ (by decide) rfl),rfl,rfl⟩
end Go.Proofs.YtkghaiefcjgfkaaGreat
