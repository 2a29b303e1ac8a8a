import Derived.Test.YtglpalgiipahjaaGreatR8
import Derived.Test.YtglpalgiipahjaaGreatR7
import Derived.Test.YtglpalgiipahjaaGreatR9
set_option linter.all false
open Option.some renaming inj->nA
open List renaming flatMap->nB,set->nD,getElem_cons_succ->nG,getElem_cons_zero->nH,getElem_toArray->nI,length_set->nJ
open Go.Value renaming bool->nE
open Int renaming toNat_natCast->nK
open Bool renaming eq_false_iff->nL
namespace Go.Proofs.YtglpalgiipahjaaGreat
open Go.KL
def gBz:Sch:=.fx 3 (.fl 4 .nil) .stop
def gCa:Sch:=.fx 2 (.fx 3 .nil .stop) .stop
def gCb:Sch:=.fx 5 (.fx 6 (.fl 7 .nil) .stop) .stop
def gCc:Sch:=.fl 0 (.fl 1 gCa)
set_option maxHeartbeats 4000000
theorem wEh (p0:wAB) (am:Nat) (aZ:Option Addr) (ba:Nat) (p1:Int) (w:World) (φ:PHeap) (hS:St0 w φ [.blk am 192 [.slice aZ p0.bytes.length ba,jV p0.next,.int .u32 p0.state]]) (cI:Sl φ 1 aZ ba p0.bytes.length (nB KL.encB8 p0.bytes)) {r:(List Int) × wAB} (hm:wBB p0 p1=some r):Gv Tryz.prog 42 [.pointer (some ⟨am,0,none⟩),jV p1] w (wCM w [.blk am 192 [.slice aZ p0.bytes.length ba,jV p0.next,.int .u32 p0.state]] φ (fun φ_ L_ v=>∃ (A0:Option Addr) (c0:Nat) (bv:Option Addr) (bD:Nat),v=.slice A0 r.1.length c0/\L_=[.row A0 c0 3 1 (nB KL.encI r.1),.blk am 192 [.slice bv r.2.bytes.length bD,jV r.2.next,.int .u32 r.2.state]]/\Sl φ_ 1 bv bD r.2.bytes.length (nB KL.encB8 r.2.bytes))):=by
 unfold wBB at hm
 refine Gv.of Tryz.func42 Z Tryz.ntmps42 Tryz.results42 Z (sR fL1 Z (oA Z Z (eN (sR fL1 Z (oA Z Z (eN (zG (sR fL3 Z (oM Z Z (oR Z (Runs.max Z Z Z) (oM Z Z (eN (zR (bnK hm fun dg cK cW=>?_))))))))))))))
 have q:=wBU cK
 obtain ⟨bl,cL⟩:=q
 replace bl:=zH bl
 let B0:Res:=.blk am 192 [.slice aZ p0.bytes.length ba,jV p0.next,.int .u32 p0.state]
 refine CK.forN' (fun ak aX σ_ w_=>∃ (φ_:PHeap) (bb:Option Addr) (bd:Nat),σ_ 11=jV (↑ak:Int)/\σ_ 0=.pointer (some ⟨am,0,none⟩)/\σ_ 5=.slice bb aX.length bd/\σ_ 10=jV (max 0 p1)/\PHeap.Le φ φ_/\SW w [B0] φ φ_ [B0,.row bb bd 3 1 (nB KL.encI aX)] w_) cL ?_ ?_ ?_
 have cA:=hS.nilrow 3 1
 exact ⟨φ,none,0,rfl,rfl,rfl,rfl,(zS _),(cA.pick [1,0] _ (by decide) rfl)⟩
 rintro ak aX dv dx dp bk ⟨br,bb,bd,bj,bY,bZ,bF,db,cC⟩ cY
 have bB:Hid ((↑ak:Int) < (max 0 p1)):=zH (wBI bk)
 replace bk:=zH bk
 have cQ:Hid (w64 ((↑ak:Int) + 1)=(↑(ak + 1):Int)):=zH (by have h1:=bl.out;have h2:=bB.out;rw [wAU] <;> omega)
 refine sR fL1 Z (oR Z (zU Z bj bF) (eN (zG (cT Z bB (kN (zG (zR (sR fL2 Z (oM Z bj (oA Z Z (eN (rR (.fl 0 (.fl 1 (.fx 2 gBz .stop))) Z (oM Z bZ (oM Z Z (ZF (pv:=[(0,jV (↑ak:Int))]) (zs:=[jV 0]) (cs:=[jV (↑ak:Int)]) Z Z Z Z Z (wAN Z wAa) zB zF Zs Z Z Z Z Z cC ?_)))))))))))))))
 intro bT bV cD
 let B1:Res:=.row (some ⟨bV,0,none⟩) 1 3 1 (nB KL.encI [(↑ak:Int)])
 have bJ:SW w [B0] φ br [B1,B0,.row bb bd 3 1 (nB KL.encI aX)] bT:=cD
 refine bnK cY fun bN cq cX=>Zu (j:=2) (enc:=KL.encI) (xs:=aX) (ys:=[(↑ak:Int)]) (zs:=bN) rfl rfl rfl rfl rfl Zr wFU rfl rfl rfl rfl rfl rfl bJ rfl rfl rfl (bJ.srcR (j:=0) rfl (by decide) (wAK (f:=KL.encI) (sz:=1) (fun _=>rfl) [(↑ak:Int)])) (fun _=>rfl) (fun _=>rfl) cq rfl ?_
 intro bu bC bU cE
 have cG:SW w [B0] φ br [B1,B0,.row bu bC 3 1 (nB KL.encI bN)] bU:=cE
 refine oA Z Z (zn (ze (zI (rR fL2 Z (oR Z (ZC (zY Z bj Z) (congrArg (jV) cQ.out)) (oM Z Z (zn ?_)))))))
 cases cX
 exact zI ⟨rfl,⟨br,bu,bC,rfl,bY,rfl,bF,db,(cG.pick [1,2] _ (by decide) rfl)⟩⟩
 rintro dy dq ⟨bP,ae,ah,cg,b5,bG,cd,de,cH⟩
 have bW:Hid (¬ ((↑((max 0 p1:Int) - 0).toNat:Int) < (max 0 p1))):=zH (wAp)
 refine sR fL1 Z (oR Z (zU Z cg cd) (eN (zG (cF Z bW (ZJ (zX (zX (ZB (zI (zG (sR fL4 Z (oM Z bG (oR Z (zd Z Z zB) (oR Z (Zo Z Z Z) (oA Z Z (eN (zR (CK.iter (fun (aY,bp,bq,aa,ab) σ_ w_=>∃ (φ_:PHeap) (az:Option Addr) (aU:Nat),σ_ 0=.pointer (some ⟨am,0,none⟩)/\σ_ 5=.slice ae aa.length ah/\σ_ 7=jV ab/\PHeap.Le bP φ_/\SW w [B0] φ φ_ [.blk am 192 [.slice az aY.length aU,jV bp,.int .u32 bq],.row ae ah 3 1 (nB KL.encI aa)] w_/\Sl φ_ 1 az aU aY.length (nB KL.encB8 aY)/\aa.length=dg.length) cW ?_ ?_))))))))))))))))))
 have ci:=cI.le de
 exact ⟨bP,aZ,ba,b5,bG,Z,(zS _),cH,ci,Z⟩
 rintro ⟨aY,bp,bq,aa,ab⟩ du dw bQ ⟨bO,az,aU,bE,av,aV,cZ,bI,bH,cj⟩ bm cJ
 try dsimp only at bm
 refine zG (sR fL2 Z (oM Z aV (oR Z (yB Z Z Z) (eN ?_))))
 by_cases ap:0 < ab
 have bK:=bm;rw [if_pos ap] at bK;replace ap:=zH ap
 refine cT Z ap (kN (zG (zR (sR (wDy gBz) Z (oM Z bE (oM Z aV (oR Z (zY Z Z Z) ?_)))))))
 have q:=bnd bK
 obtain ⟨⟨x120,bn⟩,cm,bL⟩:=q
 try dsimp only at bL
 refine zM 1 Z Z Z Z (zL Z Z yE (zC Z (zC Z zQ)) Z) bI (fun hs=>wAV (⟨aY,bp,bq⟩:wAB) am az aU (w64 (ab + 1)) bQ bO hs bH cm) (.inl Z) ?_
 rintro bg dh dt bi da cr ⟨bt,bA,rfl,rfl,cp⟩
 let B2:Res:=.blk am 192 [.slice bt bn.bytes.length bA,jV bn.next,.int .u32 bn.state]
 have ct:SW w [B0] φ bg [B2,.row ae ah 3 1 (nB KL.encI aa)] bi:=cr
 refine OKS.ra rfl rfl rfl rfl rfl rfl (eN (Zb ZT [3,3,3,3,3,3,3,1,3,3,3,1,3,0,3,0] (wSS (.fx 13 (.fl 14 (.fx 15 .nil .stop)) .stop)) (by kernel_rfl) ?_))
 have aW:=ct.drew
 generalize hw_W135:({ bi with drawn:=bi.drawn + 1 }:World)=dm at aW ⊢
 refine oM Z av (oM Z aV (oM Z av (oM Z Z (oM Z av (oM Z Z (bnK bL fun _ be cR=>?_))))))
 obtain ⟨dr,aq⟩:=aW.rowSome (j:=1) rfl (by rw [wAK (f:=KL.encI) (sz:=1) (fun _=>rfl) aa];have hz:=wAq be;omega)
 refine oR Z (Zj Z Z aq Z zB zF (wEW be) (wEX be)) ?_
 have cM:=wCH (xs:=aa) (wAq be)
 refine ZM rfl rfl rfl rfl (aW.ldR (j:=1) rfl aq rfl rfl zK (wAo (sz:=1) (fun _=>rfl) _ _ 0 _ cM (by first | omega | rfl | simp) rfl)) rfl (zf rfl rfl rfl rfl rfl av (zf rfl rfl rfl rfl rfl aV (bnK cR fun _ au cS=>zj rfl rfl rfl rfl (fun _=>Zj rfl rfl aq rfl zB zF (wEW au) (wEX au)) ?_)))
 have cN:=wCH (xs:=aa) (wAq au)
 refine ZM rfl rfl rfl rfl (aW.ldR (j:=1) rfl aq rfl rfl zK (wAo (sz:=1) (fun _=>rfl) _ _ 0 _ cN (by first | omega | rfl | simp) rfl)) rfl (zj rfl rfl rfl rfl (fun _=>Zj rfl rfl aq rfl zB zF (wEW au) (wEX au)) ?_)
 have cO:=wCH (xs:=aa) (wAq au)
 refine OKS.stR (j:=1) (vs:=[jV (gd aa x120.toNat)]) (cs':=nB KL.encI (nD aa ab.toNat (gd aa x120.toNat))) rfl rfl rfl rfl aW rfl aq rfl rfl rfl zF (by rw [wAK (f:=KL.encI) (sz:=1) (fun _=>rfl)];have hz:=wAq au;show _ + 1 <= _;first | omega | (simp only [nK];omega) | (simp only [nI,nG,nH];omega)) rfl (wHA (sz:=1) (fo:=0) (fun _=>rfl) _ _ _ _ cO (by first | omega | (simp only [nK];omega) | (simp only [nI,nG,nH];omega)) (zA rfl) rfl) rfl ?_
 intro bR cu
 have cw:SW w [B0] φ bg [B2,.row ae ah 3 1 (nB KL.encI (nD aa ab.toNat (gd aa x120.toNat)))] bR:=cu
 refine bnK cS fun _ bf cU=>zj rfl rfl rfl rfl (fun _=>Zj rfl (Eq.trans (b:=(.slice ae aa.length ah:Value)) (c:=(.slice ae ((nD aa ab.toNat (gd aa x120.toNat)).length) ah:Value)) rfl (by simp only [nJ])) aq rfl zB zF (wEW bf) (wEX bf)) ?_
 have cP:=wCH (xs:=(nD aa ab.toNat (gd aa x120.toNat))) (wAq bf)
 refine OKS.stR (j:=1) (vs:=[jV (gd aa ab.toNat)]) (cs':=nB KL.encI (nD (nD aa ab.toNat (gd aa x120.toNat)) x120.toNat (gd aa ab.toNat))) rfl rfl rfl rfl cw rfl aq rfl rfl rfl zF (by rw [wAK (f:=KL.encI) (sz:=1) (fun _=>rfl)];have hz:=wAq bf;show _ + 1 <= _;first | omega | (simp only [nK];omega) | (simp only [nI,nG,nH];omega)) rfl (wHA (sz:=1) (fo:=0) (fun _=>rfl) _ _ _ _ cP (by first | omega | (simp only [nK];omega) | (simp only [nI,nG,nH];omega)) (zA rfl) rfl) rfl ?_
 intro bS cy
 have cz:SW w [B0] φ bg [B2,.row ae ah 3 1 (nB KL.encI (nD (nD aa ab.toNat (gd aa x120.toNat)) x120.toNat (gd aa ab.toNat)))] bS:=cy
 refine zn (ze (zI (rR fL3 Z (oM Z aV (oR Z (Zo Z Z Z) (oA Z Z (zn ?_)))))))
 obtain rfl:=nA cU
 exact zI ⟨rfl,_,rfl,⟨bg,bt,bA,bE,(Eq.trans (b:=(.slice ae ((nD aa ab.toNat (gd aa x120.toNat)).length) ah:Value)) (c:=(.slice ae ((nD (nD aa ab.toNat (gd aa x120.toNat)) x120.toNat (gd aa ab.toNat)).length) ah:Value)) (Eq.trans (b:=(.slice ae aa.length ah:Value)) (c:=(.slice ae ((nD aa ab.toNat (gd aa x120.toNat)).length) ah:Value)) av (by simp only [nJ])) (by simp only [nJ])),rfl,(cZ.trans da),cz,cp,((nJ.trans nJ).trans cj)⟩⟩
 have bM:=bm;rw [if_neg ap] at bM;replace ap:=zH ap
 refine cF Z ap (ZJ (zX ?_))
 have q:=wAW bM
 obtain ⟨df,cV,bX⟩:=q
 obtain rfl:=cJ df bX
 refine zX (ZB (zI (sR fL2 Z (oM Z av (oA Z Z (eN (zP ?_)))))))
 cases cV
 exact ⟨rfl,_,(zw rfl),bO,_,(bI.pick [1,0] _ (by decide) rfl),ae,ah,az,aU,rfl,rfl,bH⟩
theorem wDq (p0:List wAA) (aU:Option Addr) (aW:Nat) (p1:List wAA) (aV:Option Addr) (aX:Nat) (w:World) (φ:PHeap) (hS:St0 w φ []) (bz:Sl φ 3 aU aW p0.length (nB wAE p0)) (bA:Sl φ 3 aV aX p1.length (nB wAE p1)) {r:Bool} (hm:wAw p0 p1=some r):Gv Tryz.prog 43 [.slice aU p0.length aW,.slice aV p1.length aX] w (wCM w [] φ (fun φ_ L_ v=>v=.bool r/\L_=[])):=by
 unfold wAw at hm
 refine Gv.of Tryz.func43 Z Tryz.ntmps43 Tryz.results43 Z (sR fL1 Z (oA Z Z (eN (zG (sR fL5 Z (oM Z Z (oR Z (zd Z Z ZA) (oM Z Z (oR Z (zd Z Z ZA) (oR Z (Zq Z Z Z) (eN ?_)))))))))))
 by_cases c1:(↑p0.length:Int)=(↑p1.length:Int)
 have aj:=hm;rw [if_pos c1] at aj;replace c1:=zH c1
 refine zu (ZI (fun h=>h c1.out)) (kN (zG (sR fL3 Z (oM Z Z (oR Z (zd Z Z ZA) (oM Z Z (eN (zR ?_))))))))
 have q:=wCc aj
 obtain ⟨r5,au⟩:=q
 have q:=wCj au
 obtain ⟨aw,bD⟩:=q
 replace aw:=zH aw
 refine yG (fun k4 _ σ_ w_=>∃ (φ_:PHeap),σ_ 13=jV (↑k4:Int)/\σ_ 0=.slice aU p0.length aW/\σ_ 1=.slice aV p1.length aX/\σ_ 12=jV (↑p0.length:Int)/\PHeap.Le φ φ_/\sW w φ φ_ [] w_) bD ?_ ?_ ?_
 exact ⟨φ,Z,Z,Z,Z,(zS _),hS⟩
 rintro k4 ⟨⟩ bW bY aY av ⟨bj,aq,ba,bb,bd,az,bv⟩ bi bB
 try dsimp only at bi
 have aZ:Hid ((↑k4:Int) < (↑p0.length:Int)):=zH (wBI av)
 replace av:=zH av
 have bE:Hid (w64 ((↑k4:Int) + 1)=(↑(k4 + 1):Int)):=zH (by have h1:=aw.out;have h2:=aZ.out;rw [wAU] <;> omega)
 refine sR fL1 rfl (zj rfl rfl rfl rfl (fun _=>zU rfl aq bd) (eN (zG (cT Z aZ (kN (zG (zR (sR fL2 rfl (zf rfl rfl rfl rfl rfl aq (OKS.ra rfl rfl rfl rfl rfl rfl (eN (zG (Zb ZT [3,3,3,1,3,3,3,1,3] fL9 (by kernel_rfl) ?_)))))))))))))
 have ah:=bv.drew
 generalize hw_W25:({ aY with drawn:=aY.drawn + 1 }:World)=bM at ah ⊢
 refine oM Z ba (oM Z Z (bnK bi fun ak be bF=>?_))
 have bp:=bz.le az
 have q:=bp.el (fun _=>rfl) (wAZ be)
 obtain ⟨bO,bT,br,bt⟩:=q
 refine oR Z (ZH Z Z br Z ZA ZV (wBT be)) (oL Z (ah.ldCA (f:=0) bt Z Z Tryz.isAgg59 ZV (us:=[jV ak.Bib,jV ak.Place,jV ak.Time]) Z Z) (oM Z bb (oM Z Z (bnK bF fun am bf bG=>?_))))
 have bq:=bA.le az
 have q:=bq.el (fun _=>rfl) (wAZ bf)
 obtain ⟨bP,bU,bs,bu⟩:=q
 refine oR Z (ZH Z Z bs Z ZA ZV (wBT bf)) (oL Z (ah.ldCA (f:=0) bu Z Z Tryz.isAgg59 ZV (us:=[jV am.Bib,jV am.Place,jV am.Time]) Z Z) (oR Z (ZC (Runs.neS (enc:=wAE) (a:=ak) (b:=am) Z Z Z eqT59 eqG59) (congrArg nE (decide_not).symm)) (eN (ifc bG ?_ ?_))))
 intro ap bH
 refine zu (ZI (fun h=>h ap.out)) (Zf (ze (zI (rR fL2 Z (oR Z (ZC (zY Z aq Z) (congrArg (jV) bE.out)) (oM Z Z (zn ?_)))))))
 obtain rfl:=nA bH
 exact zI ⟨Z,_,Z,⟨bj,Z,ba,bb,bd,az,ah⟩⟩
 intro ap bI
 refine cT Z ap (sR fL1 Z (oA Z Z (eN (zP (zg (zN ?_))))))
 have q:=wAW bI
 obtain ⟨bK,bJ,bl⟩:=q
 obtain rfl:=wBQ aj au (bB bK bl)
 refine zN (zg (zN ?_))
 have hE:=nA bJ;first | subst r | cases hE
 exact ⟨Z,_,(zw Z),bj,_,ah,Z,Z⟩
 rintro ⟨⟩ bX bN ⟨bL,bn,bQ,bR,bm,bS,bw⟩ bC
 have bg:=wDL aj au bC
 try dsimp only at bg
 have bk:Hid (¬ ((↑(((↑p0.length:Int):Int) - 0).toNat:Int) < (↑p0.length:Int))):=zH (wAp)
 refine sR fL1 Z (oR Z (zU Z bn bm) (eN (zG (cF Z bk (ZJ (zX (zX (ZB (zI (sR fL1 Z (oA Z Z (eN (zP ?_)))))))))))))
 have hE:=nA bg;first | subst r | cases hE
 exact ⟨Z,_,(zw Z),bL,_,bw,Z,Z⟩
 have bh:=hm;rw [if_neg c1] at bh;replace c1:=zH c1
 refine cT Z c1 (sR fL1 Z (oA Z Z (eN (zP (zN ?_)))))
 have hE:=nA bh;first | subst r | cases hE
 exact ⟨Z,_,(zw Z),φ,_,hS,Z,Z⟩
theorem wFp (w:World) (φ:PHeap) (hS:St0 w φ []) {r:Bool} (hm:wDM=some r):Gv Tryz.prog 12 [] w (wCM w [] φ (fun φ_ L_ v=>v=.bool r/\L_=[])):=by
 cases hm
 refine (xr12 w).mono ?_
 rintro v w' ⟨rfl,k⟩
 exact ⟨φ,[],hS.grow k,Z,Z⟩
theorem wEU (p0:List Int) (iZ:Option Addr) (i9:Nat) (p1:List Int) (i6:Option Addr) (ja:Nat) (w:World) (φ:PHeap) (hS:St0 w φ []) (wM:Sl φ 1 iZ i9 p0.length (nB KL.encB8 p0)) (wN:Sl φ 1 i6 ja p1.length (nB KL.encB8 p1)) {r:Bool} (hm:wBo p0 p1=some r):Gv Tryz.prog 6 [.slice iZ p0.length i9,.slice i6 p1.length ja] w (wCM w [] φ (fun φ_ L_ v=>v=.bool r/\L_=[])):=by
 unfold wBo at hm
 refine Gv.of Tryz.func6 Z Tryz.ntmps6 Tryz.results6 Z (sR fL1 Z (oA Z Z (eN (sR (.fl 0 (.fx 1 (.fx 2 (.fx 3 (.fx 4 .nil .stop) .stop) .stop) .stop)) Z (oM Z Z (bnK hm fun x1 h2 xR=>zM 0 Z Z Z Z (zL Z Z Tryz.call24 (zC Z zQ) Z) hS (fun hs=>wFV p0 iZ i9 w φ hs wM h2) (.inr Z) ?_))))))
 rintro mK L5 v6 W7 BL wK ⟨fL,jr,jM,rfl,rfl,sI⟩
 have vO:sW w φ mK [.blk fL 192 [.slice jr x1.bytes.length jM,jV x1.next,.int .u32 x1.state]] W7:=wK
 have q:=bnd xR
 obtain ⟨⟨aw,x17⟩,sN,lY⟩:=q
 try dsimp only at lY
 refine zM 1 Z Z Z Z (zL Z Z Tryz.call23 (zC Z (zC Z (zC Z zQ))) Z) vO (fun hs=>wGP x1 fL jr jM 8 4 W7 mK hs sI sN) (.inl Z) ?_
 rintro jm CQ D7 mZ BH vZ ⟨cK,cM,bf,bg,oB,mR,oG,rfl,rfl,tg,DD⟩
 let B0:Res:=.blk fL 192 [.slice mR x17.bytes.length oG,jV x17.next,.int .u32 x17.state]
 let B1:Res:=.row cK cM 3 1 (nB KL.encI aw.Rules.Classes)
 let B2:Res:=.row bf bg 73 3 oB
 have wj:sW w φ jm [B1,B2,B0] mZ:=vZ
 let B3:List Value:=[.slice none 0 0,jV 0,jV 0,jV 0,jV 0,jV 0,jV 0,.slice none 0 0]
 refine ZD (cs:=B3) Z Z Z Z Z yA Z wj ?_
 intro C7 aa wk
 let B4:List Value:=[.slice cK aw.Rules.Classes.length cM,jV aw.Rules.Each,jV aw.Rules.Laps,jV aw.Rules.Spare,jV aw.Rules.Loop,jV aw.Rules.Unused,jV aw.Start,.slice bf aw.Teams.length bg]
 refine zx (j:=0) (vs:=B4) Z Z Z Z wk Z Z Z Z ZN (zA Z) Z Z Z ?_
 intro jE wl
 have wn:sW w φ jm [.blk aa 27 B4,B1,B2,B0] jE:=wl
 refine eN (sR (.fl 0 (.fx 1 (.fl 2 .nil) .stop)) Z (oM Z Z ?_))
 have tI:=wN.le BL
 have tL:=tI.le BH
 refine bnK lY fun e8 tS yu=>zM 0 Z Z Z Z (zL Z Z Tryz.call24 (zC Z zQ) Z) wn (fun hs=>wFV p1 i6 ja jE jm hs tL tS) (.inr Z) ?_
 rintro CD CW Ef dW BI wq ⟨bC,jt,jP,rfl,rfl,tX⟩
 let B5:Res:=.blk bC 192 [.slice jt e8.bytes.length jP,jV e8.next,.int .u32 e8.state]
 have lQ:sW w φ CD [B5,.blk aa 27 B4,B1,B2,B0] dW:=wq
 refine oA Z Z (eN (sR (.fl 0 (.fx 1 (wIz (.nil)) .stop)) Z (oL Z (lQ.ldBA (j:=1) Z Z Z Zt ZN (vs:=B4) Z Z) ?_)))
 have q:=lQ.freezeR (k:=2) (n:=aw.Rules.Classes.length) rfl (wAK (f:=KL.encI) (sz:=1) (fun _=>rfl) aw.Rules.Classes) (by decide)
 obtain ⟨CE,mn,Bt,wz⟩:=q
 have wA:sW w φ CE [B5,.blk aa 27 B4,B2,B0] dW:=wz
 have t7:=tg.le BI
 have t8:=t7.le mn
 have q:=wA.freezeRR (R:=wFr) (k:=2) rfl t8 rfl (by decide)
 obtain ⟨mM,mo,mc,wD⟩:=q
 have wE:sW w φ mM [B5,.blk aa 27 B4,B0] dW:=wD
 have lx:=Bt.le mo
 have q:=bnd yu
 obtain ⟨⟨aj,mC⟩,ul,l7⟩:=q
 try dsimp only at l7
 refine zM 0 Z Z Z Z (zL Z Z Tryz.call20 (zC Z zQ) Z) wE (fun hs=>wFf aw cK cM bf bg dW mM hs lx mc ul) (.inr Z) ?_
 rintro mO CY Ek jJ iX wJ ⟨aU,aV,rfl,rfl⟩
 let B6:Res:=.row aU aV 59 3 (nB wAE aj)
 have lS:sW w φ mO [B6,B5,.blk aa 27 B4,B0] jJ:=wJ
 refine oM Z Z (oR Z (ZX Z Z (v:=.slice aU aj.length aV) Z) (oR Z (ZX Z Z (v:=jV mC) Z) (oA Z Z (oA Z Z (eN (sR (.fl 0 (.fx 1 (wRp gCb) .stop)) Z (oL Z (lS.ldBA (j:=2) Z Z Z Zt ZN (vs:=B4) Z Z) ?_)))))))
 have ly:=lx.le iX
 have lz:=mc.le iX
 have q:=bnd l7
 obtain ⟨⟨x91,x92⟩,uB,l8⟩:=q
 try dsimp only at l8
 refine zM 0 Z Z Z Z (zL Z Z Tryz.call25 (zC Z zQ) Z) lS (fun hs=>wLK aw cK cM bf bg jJ mO hs ly lz uB) (.inr Z) ?_
 rintro jp CZ Et n5 iY vh ⟨dR,dY,ct,cy,ou,rfl,rfl,r7⟩
 let B7:Res:=.row dR dY 3 1 (nB KL.encI x91.Bibs)
 let B8:Res:=.row ct cy 22 1 ou
 have vr:sW w φ jp [B7,B8,B6,B5,.blk aa 27 B4,B0] n5:=vh
 refine oM Z Z (oR Z (ZX Z Z (v:=.agg #[jV x91.Laps,.slice dR x91.Bibs.length dY,.slice ct x91.Times.length cy]) Z) (oR Z (ZX Z Z (v:=jV x92) Z) ?_))
 let B9:List Value:=[jV 0,.slice none 0 0,.slice none 0 0]
 refine ZD (cs:=B9) Z Z Z Z Z yK Z vr ?_
 intro C1 ae vu
 let ai:List Value:=[jV x91.Laps,.slice dR x91.Bibs.length dY,.slice ct x91.Times.length cy]
 refine zx (j:=0) (vs:=ai) Z Z Z Z vu Z Z Z Z ZS (zA Z) Z Z Z ?_
 intro jA vw
 have lF:sW w φ jp [.blk ae 66 ai,B7,B8,B6,B5,.blk aa 27 B4,B0] jA:=vw
 refine oA Z Z (eN (sR (.fl 0 (.fx 1 (wIz (.nil)) .stop)) Z (oL Z (lF.ldBA (j:=5) Z Z Z Zt ZN (vs:=B4) Z Z) ?_)))
 have lj:=ly.le iY
 have ij:=lz.le iY
 have q:=bnd l8
 obtain ⟨⟨bp,x120⟩,sn,lW⟩:=q
 try dsimp only at lW
 refine zM 0 Z Z Z Z (zL Z Z Tryz.call15 (zC Z zQ) Z) lF (fun hs=>wMQ aw cK cM bf bg jA jp hs lj ij sn) (.inr Z) ?_
 rintro de CO D5 dU dD vN ⟨bA,bD,rfl,rfl⟩
 let dg:Res:=.row bA bD 45 4 (nB wAS bp)
 have bQ:sW w φ de [dg,.blk ae 66 ai,B7,B8,B6,B5,.blk aa 27 B4,B0] dU:=vN
 refine oM Z Z (oR Z (ZX Z Z (v:=.slice bA bp.length bD) Z) (oR Z (ZX Z Z (v:=jV x120) Z) (oA Z Z (oA Z Z (eN (zG (zG (yH fun cq bX=>?_))))))))
 have d7:cq 5=.pointer (some ⟨aa,0,none⟩):=(bX 5).trans rfl
 have pD:cq 6=.pointer (some ⟨bC,0,none⟩):=(bX 6).trans rfl
 have jX:cq 7=.slice aU aj.length aV:=(bX 7).trans rfl
 have pE:cq 8=jV mC:=(bX 8).trans rfl
 have ge:cq 9=.pointer (some ⟨ae,0,none⟩):=(bX 9).trans rfl
 have pF:cq 10=jV x92:=(bX 10).trans rfl
 have pG:cq 11=.slice bA bp.length bD:=(bX 11).trans rfl
 have pH:cq 12=jV x120:=(bX 12).trans rfl
 clear bX
 refine rR fL27 Z (oM Z pE (oR Z (Zq Z Z Z) (oM Z Z (ifc lW ?_ ?_))))
 intro cz xD
 refine zf Z Z Z (zO Z Z (ZI (fun h=>h cz.out))) Z pF (zj Z Z Z (zO Z Z (ZI (fun h=>h cz.out))) (fun _=>Zq Z Z Z) (oR Z (zk Z (ZI (fun h=>h cz.out)) Z) (oM Z Z (ifc xD ?_ ?_))))
 intro cA xE
 refine zf Z Z Z (zO Z Z (ZI (fun h=>h cA.out))) Z pH (zj Z Z Z (zO Z Z (ZI (fun h=>h cA.out))) (fun _=>Zq Z Z Z) (oR Z (zk Z (ZI (fun h=>h cA.out)) Z) (oM Z Z (ifc xE ?_ ?_))))
 intro bh xF
 refine zf Z Z Z (zO Z Z (ZI (fun h=>h bh.out))) Z jX (zj Z Z Z (zO Z Z (ZI (fun h=>h bh.out))) (fun _=>zd Z Z ZA) (zj Z Z Z (zO Z Z (ZI (fun h=>h bh.out))) (fun _=>zD Z d7 zV Z ZL) (ZM Z Z Z (zO Z Z (ZI (fun h=>h bh.out))) (bQ.ldB (j:=6) Z Z Z Zh (v:=.slice bf aw.Teams.length bg) Z) Z (zj Z Z Z (zO Z Z (ZI (fun h=>h bh.out))) (fun _=>zd Z Z zt) (zj Z Z Z (zO Z Z (ZI (fun h=>h bh.out))) (fun _=>Zq Z Z Z) (oR Z (zk Z (ZI (fun h=>h bh.out)) Z) (oM Z Z (ifc xF ?_ ?_))))))))
 intro ba xG
 refine zj Z Z Z (zO Z Z (ZI (fun h=>h ba.out))) (fun _=>zD Z ge zo Z Zn) (ZM Z Z Z (zO Z Z (ZI (fun h=>h ba.out))) (bQ.ldB (j:=1) Z Z Z Zv (v:=.slice ct x91.Times.length cy) Z) Z (zj Z Z Z (zO Z Z (ZI (fun h=>h ba.out))) (fun _=>zd Z Z ZO) (zj Z Z Z (zO Z Z (ZI (fun h=>h ba.out))) (fun _=>zD Z d7 zV Z ZL) (ZM Z Z Z (zO Z Z (ZI (fun h=>h ba.out))) (bQ.ldB (j:=6) Z Z Z Zh (v:=.slice bf aw.Teams.length bg) Z) Z (zj Z Z Z (zO Z Z (ZI (fun h=>h ba.out))) (fun _=>zd Z Z zt) (zj Z Z Z (zO Z Z (ZI (fun h=>h ba.out))) (fun _=>Zq Z Z Z) (oR Z (zk Z (ZI (fun h=>h ba.out)) Z) (eN (ifc xG ?_ ?_)))))))))
 intro fQ xH
 refine zu (ZI (fun h=>h fQ.out)) (kN (sR (.fl 0 (.fx 1 (wIz (.nil)) .stop)) Z (oL Z (bQ.ldBA (j:=1) Z Z ge Zz ZS (vs:=ai) Z Z) ?_)))
 have q:=bQ.freezeR (k:=2) (n:=x91.Bibs.length) rfl (wAK (f:=KL.encI) (sz:=1) (fun _=>rfl) x91.Bibs) (by decide)
 obtain ⟨CA,dE,Br,vP⟩:=q
 have vQ:sW w φ CA [dg,.blk ae 66 ai,B8,B6,B5,.blk aa 27 B4,B0] dU:=vP
 have sJ:=r7.le dD
 have sK:=sJ.le dE
 have q:=vQ.freezeRR (R:=wGO) (k:=2) rfl sK rfl (by decide)
 obtain ⟨mI,dF,iV,vR⟩:=q
 have vS:sW w φ mI [dg,.blk ae 66 ai,B6,B5,.blk aa 27 B4,B0] dU:=vR
 have sL:=Br.le dF
 have q:=bnd xH
 obtain ⟨⟨x166,x167⟩,sM,lX⟩:=q
 try dsimp only at lX
 refine zM 0 Z Z Z Z (zL Z Z Tryz.call35 (zC Z zQ) Z) vS (fun hs=>wFe x91 dR dY ct cy dU mI hs sL iV sM) (.inr Z) ?_
 rintro jl CP D6 fH cY vU ⟨bN,bP,rfl,rfl⟩
 let aW:Res:=.row bN bP 3 1 (nB KL.encI x166)
 have eQ:sW w φ jl [aW,dg,.blk ae 66 ai,B6,B5,.blk aa 27 B4,B0] fH:=vU
 refine oM Z Z (oR Z (ZX Z Z (v:=.slice bN x166.length bP) Z) (oR Z (ZX Z Z (v:=jV x167) Z) (oA Z Z (oA Z Z (eN (zG (sR fL10 Z (oM Z Z (oR Z (Zq Z Z Z) (oM Z Z (ifc lX ?_ ?_)))))))))))
 intro bi xI
 refine zf Z Z Z (zO Z Z (ZI (fun h=>h bi.out))) Z Z (zj Z Z Z (zO Z Z (ZI (fun h=>h bi.out))) (fun _=>zd Z Z zB) (zj Z Z Z (zO Z Z (ZI (fun h=>h bi.out))) (fun _=>zD Z d7 zV Z ZL) (ZM Z Z Z (zO Z Z (ZI (fun h=>h bi.out))) (eQ.ldB (j:=5) Z Z Z Zh (v:=.slice bf aw.Teams.length bg) Z) Z (zj Z Z Z (zO Z Z (ZI (fun h=>h bi.out))) (fun _=>zd Z Z zt) (zj Z Z Z (zO Z Z (ZI (fun h=>h bi.out))) (fun _=>Zq Z Z Z) (oR Z (zk Z (ZI (fun h=>h bi.out)) Z) (eN (ifc xI ?_ ?_))))))))
 intro fR bt
 refine zu (ZI (fun h=>h fR.out)) (kN (sR fL1 Z (oA Z Z (eN (zG (zG (yH fun cI cj=>?_)))))))
 have pI:cI 5=.pointer (some ⟨aa,0,none⟩):=(cj 5).trans d7
 have pJ:cI 6=.pointer (some ⟨bC,0,none⟩):=(cj 6).trans pD
 have jY:cI 7=.slice aU aj.length aV:=(cj 7).trans jX
 have pK:cI 9=.pointer (some ⟨ae,0,none⟩):=(cj 9).trans ge
 have pL:cI 11=.slice bA bp.length bD:=(cj 11).trans pG
 have pM:cI 13=.slice bN x166.length bP:=(cj 13).trans rfl
 have pN:cI 14=jV (-1):=(cj 14).trans rfl
 clear cj
 refine rR fL3 Z (oM Z jY (oR Z (zd Z Z ZA) (oM Z Z (eN (zR ?_)))))
 have q:=eQ.freezeR (k:=3) (n:=aj.length) rfl (wAK (f:=wAE) (sz:=3) (fun _=>rfl) aj) (by decide)
 obtain ⟨CB,cZ,mb,vV⟩:=q
 have vW:sW w φ CB [aW,dg,.blk ae 66 ai,B5,.blk aa 27 B4,B0] fH:=vV
 have q:=vW.freezeR (k:=1) (n:=bp.length) rfl (wAK (f:=wAS) (sz:=4) (fun _=>rfl) bp) (by decide)
 obtain ⟨jo,cm,Bs,vX⟩:=q
 have vY:sW w φ jo [aW,.blk ae 66 ai,B5,.blk aa 27 B4,B0] fH:=vX
 have q:=wCc bt
 obtain ⟨DT,bs⟩:=q
 have q:=wCj bs
 obtain ⟨iO,wZ⟩:=q
 replace iO:=zH iO
 refine yG (fun be bL σ_ w_=>∃ (φ_:PHeap),σ_ 98=jV (↑be:Int)/\σ_ 5=.pointer (some ⟨aa,0,none⟩)/\σ_ 6=.pointer (some ⟨bC,0,none⟩)/\σ_ 7=.slice aU aj.length aV/\σ_ 9=.pointer (some ⟨ae,0,none⟩)/\σ_ 11=.slice bA bp.length bD/\σ_ 13=.slice bN x166.length bP/\σ_ 14=jV bL/\σ_ 96=.slice aU aj.length aV/\σ_ 97=jV (↑aj.length:Int)/\PHeap.Le jo φ_/\sW w φ φ_ [.blk ae 66 ai,B5,.blk aa 27 B4,B0,aW] w_) wZ ?_ ?_ ?_
 exact ⟨jo,rfl,pI,pJ,jY,pK,pL,pM,pN,rfl,rfl,(zS _),(vY.pick [1,2,3,4,0] _ (by decide) rfl)⟩
 rintro be bL EG EP C3 iJ ⟨mJ,dx,gf,jZ,gg,d8,gh,j4,j5,gi,gj,da,lJ⟩ bu bJ
 have jN:Hid ((↑be:Int) < (↑aj.length:Int)):=zH (wBI iJ)
 replace iJ:=zH iJ
 have xf:Hid (w64 ((↑be:Int) + 1)=(↑(be + 1):Int)):=zH (by have h1:=iO.out;have h2:=jN.out;rw [wAU] <;> omega)
 refine sR fL1 Z (oR Z (zU Z dx gj) (eN (zG (cT Z jN (kN ?_)))))
 have q:=wCc bu
 obtain ⟨Cf,bv⟩:=q
 refine CK.cut (fun σ_ w_=>∃ (jg:Int),Cf=.inl jg/\∃ (φ_:PHeap),σ_ 5=.pointer (some ⟨aa,0,none⟩)/\σ_ 6=.pointer (some ⟨bC,0,none⟩)/\σ_ 7=.slice aU aj.length aV/\σ_ 9=.pointer (some ⟨ae,0,none⟩)/\σ_ 11=.slice bA bp.length bD/\σ_ 13=.slice bN x166.length bP/\σ_ 14=jV jg/\σ_ 96=.slice aU aj.length aV/\σ_ 97=jV (↑aj.length:Int)/\σ_ 98=jV (↑be:Int)/\PHeap.Le mJ φ_/\sW w φ φ_ [.blk ae 66 ai,B5,.blk aa 27 B4,B0,aW] w_) ?_ ?_
 refine zR (sR (wDy (.fx 3 (.fl 4 (.fx 5 .nil .stop)) .stop)) Z (oM Z dx (bnK bv fun x240 lm xJ=>?_)))
 have sO:=mb.le cm
 have ln:=sO.le da
 have q:=ln.el (fun _=>rfl) (wAZ lm)
 obtain ⟨Dk,DN,uL,uZ⟩:=q
 refine oR Z (ZH Z gi uL dx ZA ZV (wBT lm)) (oL Z (lJ.ldCA (f:=0) uZ Z Z Tryz.isAgg59 ZV (us:=[jV x240.Bib,jV x240.Place,jV x240.Time]) Z Z) ?_)
 let fw:List Value:=[jV 0,jV 0,jV 0]
 refine ZD (cs:=fw) Z Z Z Z Z yL Z lJ ?_
 intro C4 aY wa
 refine oA Z Z ?_
 let fy:List Value:=[jV x240.Bib,jV x240.Place,jV x240.Time]
 refine zx (j:=0) (vs:=fy) Z Z Z Z wa Z Z Z Z ZV (zA Z) Z Z Z ?_
 intro fJ wb
 have lK:sW w φ mJ [.blk aY 59 fy,.blk ae 66 ai,B5,.blk aa 27 B4,B0,aW] fJ:=wb
 refine eN (sR (wDy gBz) Z (oR Z (zD Z gf zV Z ZL) (oL Z (lK.ldB (j:=3) Z Z Z Zh (v:=.slice bf aw.Teams.length bg) Z) ?_)))
 have q:=lK.freeze (k:=0) rfl
 obtain ⟨fc,bK,cR,wc⟩:=q
 replace cR:=Cl.of cR
 have wd:sW w φ fc [.blk ae 66 ai,B5,.blk aa 27 B4,B0,aW] fJ:=wc
 replace cR:Cl fc aY 0 fy:=cR
 refine oR Z (yc Z zQ (zC Z zQ)) ?_
 have sP:=ij.le dD
 have sQ:=sP.le dE
 have sS:=sQ.le dF
 have sT:=sS.le cY
 have sU:=sT.le cZ
 have sV:=sU.le cm
 have sX:=sV.le da
 have ik:=sX.le bK
 have vd:FnOK Tryz.prog fc (.func (.func 37) #[] #[.pointer (some ⟨aY,0,none⟩)]) wLG wLH (fun x=>wAf x x240):=⟨37,[],[.pointer (some ⟨aY,0,none⟩)],rfl,Tryz.call37,fun dO w1 x y vs le hs ha hm=>by obtain ⟨pA_0_1,pc_0_1,pA_0_2,pc_0_2,rfl,hq0_0,hq0_1⟩:=ha;exact wEC x pA_0_1 pc_0_1 pA_0_2 pc_0_2 x240 aY w1 dO hs hq0_0 hq0_1 (cR.le le) hm⟩
 refine bnK xJ fun bY sY xK=>zM 0 Z Z Z Z (zL Z Z Tryz.call36 (zC Z (zC Z zQ)) Z) wd (fun hs=>wBv aw.Teams bf bg (fun x=>wAf x x240) (.func (.func 37) #[] #[.pointer (some ⟨aY,0,none⟩)]) fJ fc hs ik vd sY) (.inr Z) ?_
 rintro fd CR D8 jC bw we ⟨rfl,rfl⟩
 have lL:sW w φ fd [.blk ae 66 ai,B5,.blk aa 27 B4,B0,aW] jC:=we
 refine oA Z Z (eN (zG (sR (wRo (.fx 7 (.fl 8 .nil) .stop)) Z (oM Z Z (oR Z (zU Z Z Z) (oM Z Z (ifc xK ?_ ?_)))))))
 intro bq xL
 refine oT Z bq (oT Z bq (oT Z bq (oT Z bq (yW Z Z Z (zr Z Z (Zk bq.out) Z) (oR Z (zh Z (Zk bq.out) Z) (eN (ZG Z (sR fL1 Z (oA Z Z (eN (zP (zN (zg ?_)))))))))))))
 have q:=wAW xL
 obtain ⟨D9,xM,oP⟩:=q
 obtain rfl:=wBQ bu bv oP
 refine zN ?_
 have q:=wAW xM
 obtain ⟨Cg,xN,oU⟩:=q
 obtain rfl:=wBQ bt bs (bJ Cg oU)
 refine zN (zg (zN ?_))
 have hE:=nA xN;first | subst r | cases hE
 exact ⟨rfl,_,(zw rfl),fd,_,(lL.pick [] _ (by decide) rfl),rfl,rfl⟩
 intro bq xO
 refine zf Z Z Z (wF Z bq) Z gg (zf Z Z Z (wF Z bq) Z Z (bnK xO fun mu sZ xP=>?_))
 have s5:=ln.le bK
 have eM:=s5.le bw
 have q:=Sl.cutM (sz:=3) (f:=wAE) eM (fun _=>rfl) sZ
 obtain ⟨jd,wO,wP,wQ,Be⟩:=q
 refine zj (v:=.slice (if aV=(0:Int).toNat then aU else Option.map (·.add ((0:Int).toNat * 3)) aU) mu.length (aV - (0:Int).toNat)) rfl rfl rfl (zO rfl rfl (ZI bq.out)) (fun _=>ZC (Runs.slc (sz:=3) (a:=0) (b:=(↑be:Int)) rfl rfl (.inr ⟨rfl,rfl⟩) (.inl ⟨_,rfl,rfl⟩) ZA ZV wO wP wQ (eM).cap) (by rw [Be])) ?_
 generalize hA_A293:(if aV=(0:Int).toNat then aU else Option.map (·.add ((0:Int).toNat * 3)) aU)=mQ at jd ⊢
 generalize hc_c294:aV - (0:Int).toNat=oz at jd ⊢
 refine rU Z (wF Z bq) (yc Z zQ (zC Z zQ)) ?_
 have lq:=cR.le bw
 have ve:FnOK Tryz.prog fd (.func (.func 39) #[] #[.pointer (some ⟨aY,0,none⟩)]) wTW wTX (fun x=>wAg x x240):=⟨39,[],[.pointer (some ⟨aY,0,none⟩)],rfl,Tryz.call39,fun dO w1 x y vs le hs ha hm=>by obtain rfl:=ha;exact wED x x240 aY w1 dO hs (lq.le le) hm⟩
 refine bnK xP fun x305 s6 xS=>zM 0 Z Z Z (wF Z bq) (zL Z Z Tryz.call38 (zC Z (zC Z zQ)) Z) lL (fun hs=>wCn mu mQ oz (fun x=>wAg x x240) (.func (.func 39) #[] #[.pointer (some ⟨aY,0,none⟩)]) jC fd hs jd ve s6) (.inr Z) ?_
 rintro fe CT Ea jD bm wg ⟨rfl,rfl⟩
 have lM:sW w φ fe [.blk ae 66 ai,B5,.blk aa 27 B4,B0,aW] jD:=wg
 refine oR Z (zk Z (ZI bq.out) Z) (eN (ifc xS ?_ ?_))
 intro fS xT
 refine ZG (congrArg nE fS.out) (sR fL1 Z (oA Z Z (eN (zP (zN (zg ?_))))))
 have q:=wAW xT
 obtain ⟨Eb,xU,oW⟩:=q
 obtain rfl:=wBQ bu bv oW
 refine zN ?_
 have q:=wAW xU
 obtain ⟨Ch,xV,oX⟩:=q
 obtain rfl:=wBQ bt bs (bJ Ch oX)
 refine zN (zg (zN ?_))
 have hE:=nA xV;first | subst r | cases hE
 exact ⟨rfl,_,(zw rfl),fe,_,(lM.pick [] _ (by decide) rfl),rfl,rfl⟩
 intro fS xW
 refine zu (congrArg nE (nL.2 fS.out)) (kN (sR (.fl 0 (.fl 1 (.fx 2 (.fl 3 .nil) .stop))) Z (oM Z gh (oR Z (yc Z zQ (zC Z zQ)) ?_))))
 have s7:=Bs.le da
 have s8:=s7.le bK
 have s9:=s8.le bw
 have tc:=s9.le bm
 have eP:=lq.le bm
 have vg:FnOK Tryz.prog fe (.func (.func 41) #[] #[.pointer (some ⟨aY,0,none⟩)]) wTY wTZ (fun x=>wAh x x240):=⟨41,[],[.pointer (some ⟨aY,0,none⟩)],rfl,Tryz.call41,fun dO w1 x y vs le hs ha hm=>by obtain rfl:=ha;exact wEE x x240 aY w1 dO hs (eP.le le) hm⟩
 refine bnK xW fun Cv tf xX=>zM 0 Z Z Z Z (zL Z Z Tryz.call40 (zC Z (zC Z zQ)) Z) lM (fun hs=>wDD bp bA bD (fun x=>wAh x x240) (.func (.func 41) #[] #[.pointer (some ⟨aY,0,none⟩)]) jD fe hs tc vg tf) (.inr Z) ?_
 rintro dQ CU Ec fK bk wh ⟨rfl,rfl⟩
 have wi:sW w φ dQ [.blk ae 66 ai,B5,.blk aa 27 B4,B0,aW] fK:=wh
 refine oA Z Z (eN (bnK xX fun fM md xY=>CK.cut (fun σ_ w_=>∃ (φ_:PHeap),σ_ 5=.pointer (some ⟨aa,0,none⟩)/\σ_ 6=.pointer (some ⟨bC,0,none⟩)/\σ_ 7=.slice aU aj.length aV/\σ_ 9=.pointer (some ⟨ae,0,none⟩)/\σ_ 11=.slice bA bp.length bD/\σ_ 13=.slice bN x166.length bP/\σ_ 14=jV bL/\σ_ 15=jV (↑be:Int)/\σ_ 16=.pointer (some ⟨aY,0,none⟩)/\σ_ 17=jV bY/\σ_ 19=.bool fM/\σ_ 96=.slice aU aj.length aV/\σ_ 97=jV (↑aj.length:Int)/\σ_ 98=jV (↑be:Int)/\PHeap.Le dQ φ_/\sW w φ φ_ [.blk ae 66 ai,B5,.blk aa 27 B4,B0,aW] w_) ?_ ?_))
 refine Zb ZT [3,3,3,3,1,3,3,1,3,3,1,3,3,3] fL14 (by kernel_rfl) ?_
 have cS:=wi.drew
 generalize hw_W345:({ fK with drawn:=fK.drawn + 1 }:World)=C5 at cS ⊢
 refine oM Z Z (oR Z (ZW Z Z) (oM Z Z ?_))
 by_cases az:Cv=true
 have lZ:=md;rw [if_pos az] at lZ;replace az:=zH az
 refine zJ Z Z Z (zr Z Z (nC az.out) Z) (zJ Z Z Z (zr Z Z (nC az.out) Z) (zJ Z Z Z (zr Z Z (nC az.out) Z) (zJ Z Z Z (zr Z Z (nC az.out) Z) (zJ Z Z Z (zr Z Z (nC az.out) Z) (zJ Z Z Z (zr Z Z (nC az.out) Z) (zJ Z Z Z (zr Z Z (nC az.out) Z) (zJ Z Z Z (zr Z Z (nC az.out) Z) (zJ Z Z Z (zr Z Z (nC az.out) Z) (oR Z (zk Z (nC az.out) Z) (oA Z Z (zn ?_)))))))))))
 cases lZ
 exact zI ⟨Z,⟨dQ,gf,jZ,gg,d8,gh,j4,j5,Z,Z,Z,Z,gi,gj,dx,(zS _),cS⟩⟩
 have l3:=md;rw [if_neg az] at l3;replace az:=zH az
 refine zj Z Z Z (zO Z Z (nF (az.out))) (fun _=>zD Z d8 zo Z Zn) (ZM Z Z Z (zO Z Z (nF (az.out))) (cS.ldB (j:=0) Z Z Z Zv (v:=.slice ct x91.Times.length cy) Z) Z (zf Z Z Z (zO Z Z (nF (az.out))) Z Z (bnK l3 fun mw il xZ=>?_)))
 have th:=iV.le cY
 have tj:=th.le cZ
 have tl:=tj.le cm
 have tp:=tl.le da
 have tq:=tp.le bK
 have tr:=tq.le bw
 have tu:=tr.le bm
 have tv:=tu.le bk
 have q:=tv.el (wAZ il)
 obtain ⟨n9,BO,Ev,uM,iv,Bh⟩:=q
 obtain ⟨mp,mr,rfl,DE⟩:=Bh
 replace iv:Cl dQ n9 (BO + bY.toNat * 1) [.slice mp mw.length mr]:=iv
 refine zj Z Z Z (zO Z Z (nF (az.out))) (fun _=>Zj Z Z uM Z ZO zW (wDO il) (wDV il)) (ZM Z Z Z (zO Z Z (nF (az.out))) (cS.ldC (f:=0) iv (v:=.slice mp mw.length mr) Z Z zm Z) Z (zj Z Z Z (zO Z Z (nF (az.out))) (fun _=>zd Z Z zB) (zj Z Z Z (zO Z Z (nF (az.out))) (fun _=>zD Z d8 zo Z zF) (ZM Z Z Z (zO Z Z (nF (az.out))) (cS.ldB (j:=0) Z Z Z zK (v:=jV x91.Laps) Z) Z (zj Z Z Z (zO Z Z (nF (az.out))) (fun _=>yQ Z Z Z) (oR Z (zh Z (nF (az.out)) Z) (oA Z Z (zn ?_))))))))
 obtain rfl:=nA xZ
 exact zI ⟨Z,⟨dQ,gf,jZ,gg,d8,gh,j4,j5,Z,Z,Z,Z,gi,gj,dx,(zS _),cS⟩⟩
 rintro EQ C6 ⟨ff,gm,gq,gu,gv,gw,gx,gy,gz,dt,gA,du,gB,gC,gD,bn,dB⟩
 refine zG (bnK xY fun oa me x8=>CK.cut (fun σ_ w_=>∃ (φ_:PHeap),σ_ 5=.pointer (some ⟨aa,0,none⟩)/\σ_ 6=.pointer (some ⟨bC,0,none⟩)/\σ_ 7=.slice aU aj.length aV/\σ_ 9=.pointer (some ⟨ae,0,none⟩)/\σ_ 11=.slice bA bp.length bD/\σ_ 13=.slice bN x166.length bP/\σ_ 14=jV bL/\σ_ 15=jV (↑be:Int)/\σ_ 16=.pointer (some ⟨aY,0,none⟩)/\σ_ 17=jV bY/\σ_ 19=.bool fM/\σ_ 96=.slice aU aj.length aV/\σ_ 97=jV (↑aj.length:Int)/\σ_ 98=jV (↑be:Int)/\σ_ 145=.bool oa/\PHeap.Le ff φ_/\sW w φ φ_ [.blk ae 66 ai,B5,.blk aa 27 B4,B0,aW] w_) ?_ ?_)
 refine rR fL14 Z (oM Z du (oR Z (zD Z dt zq Z zF) ?_))
 have tw:=eP.le bk
 have ls:=tw.le bn
 refine oL Z (dB.ldC (f:=1) ls (v:=jV x240.Place) Z Z zK Z) (oR Z (yB Z Z Z) (oR Z (Runs.neB Z Z Z Tryz.runUnderlying4) (oM Z Z ?_)))
 by_cases aZ:(fM == (decide (0 < x240.Place)))=true
 have l4:=me;rw [if_pos aZ] at l4;replace aZ:=zH aZ
 refine zf Z Z Z (zO Z Z (nC aZ.out)) Z du (zj Z Z Z (zO Z Z (nC aZ.out)) (fun _=>ZW Z Z) (zf Z Z Z (zO Z Z (nC aZ.out)) Z Z (ifc l4 ?_ ?_)))
 intro bV yg
 refine zJ Z Z Z (zr Z Z (nC bV.out) Z) (zJ Z Z Z (zr Z Z (nC bV.out) Z) (zJ Z Z Z (zr Z Z (nC bV.out) Z) (zj Z Z Z (zO Z Z (nC aZ.out)) (fun _=>zk Z (nC bV.out) Z) (oR Z (zk Z (nC aZ.out) Z) (zn ?_)))))
 cases yg
 exact zI ⟨Z,⟨ff,gm,gq,gu,gv,gw,gx,gy,gz,dt,gA,du,gB,gC,gD,Z,(zS _),dB⟩⟩
 intro bV yh
 refine zj Z Z Z (zO Z Z (nF (bV.out))) (fun _=>zD Z dt zq Z zF) (ZM Z Z Z (zO Z Z (nF (bV.out))) (dB.ldC (f:=2) ls (v:=jV x240.Time) Z Z zK Z) Z (zj Z Z Z (zO Z Z (nF (bV.out))) (fun _=>Zq Z Z Z) (zj Z Z Z (zO Z Z (nC aZ.out)) (fun _=>zh Z (nF (bV.out)) Z) (oR Z (zk Z (nC aZ.out) Z) (zn ?_)))))
 obtain rfl:=nA yh
 exact zI ⟨Z,⟨ff,gm,gq,gu,gv,gw,gx,gy,gz,dt,gA,du,gB,gC,gD,Z,(zS _),dB⟩⟩
 have l5:=me;rw [if_neg aZ] at l5;replace aZ:=zH aZ
 refine zJ Z Z Z (zr Z Z (nF (aZ.out)) Z) (zJ Z Z Z (zr Z Z (nF (aZ.out)) Z) (zJ Z Z Z (zr Z Z (nF (aZ.out)) Z) (zJ Z Z Z (wAC Z Z Z) (zJ Z Z Z (wAC Z Z Z) (zJ Z Z Z (wAC Z Z Z) (zJ Z Z Z (zr Z Z (nF (aZ.out)) Z) (oR Z (zh Z (nF (aZ.out)) Z) (zn ?_))))))))
 cases l5
 exact zI ⟨Z,⟨ff,gm,gq,gu,gv,gw,gx,gy,gz,dt,gA,du,gB,gC,gD,Z,(zS _),dB⟩⟩
 rintro ER dV ⟨bF,cC,d9,ef,cN,eh,b5,dv,pO,pP,cd,pQ,eu,eC,eD,j6,bz,iE⟩
 refine ifc x8 ?_ ?_
 intro fT yk
 refine ZG (j6.trans (congrArg nE fT.out)) (sR fL1 Z (oA Z Z (eN (zP (zN (zg ?_))))))
 have q:=wAW yk
 obtain ⟨Ed,ym,oY⟩:=q
 obtain rfl:=wBQ bu bv oY
 refine zN ?_
 have q:=wAW ym
 obtain ⟨Ci,yo,o0⟩:=q
 obtain rfl:=wBQ bt bs (bJ Ci o0)
 refine zN (zg (zN ?_))
 have hE:=nA yo;first | subst r | cases hE
 exact ⟨rfl,_,(zw rfl),bF,_,(iE.pick [] _ (by decide) rfl),rfl,rfl⟩
 intro fT yp
 refine zu (j6.trans (congrArg nE (nL.2 fT.out))) (kN (zG (sR fL2 Z (oM Z pQ (oR Z (ZW Z Z) (eN (ifc yp ?_ ?_)))))))
 intro fU yq
 refine zu (nC fU.out) (kN (zG (Zb ZT [3,1,3,3,1,3,1,3,3,1,3] fL11 (by kernel_rfl) ?_)))
 have ci:=iE.drew
 generalize hw_W437:({ dV with drawn:=dV.drawn + 1 }:World)=C8 at ci ⊢
 refine oR Z (zD Z cN zo Z Zn) (oL Z (ci.ldB (j:=0) Z Z Z Zv (v:=.slice ct x91.Times.length cy) Z) (oM Z cd (bnK yq fun my im yr=>?_)))
 have tz:=iV.le cY
 have tA:=tz.le cZ
 have tB:=tA.le cm
 have tC:=tB.le da
 have tD:=tC.le bK
 have tE:=tD.le bw
 have tF:=tE.le bm
 have tG:=tF.le bk
 have tH:=tG.le bn
 have tJ:=tH.le bz
 have q:=tJ.el (wAZ im)
 obtain ⟨oc,BP,Ew,uN,iw,Bi⟩:=q
 obtain ⟨mq,ms,rfl,tK⟩:=Bi
 replace iw:Cl bF oc (BP + bY.toNat * 1) [.slice mq my.length ms]:=iw
 refine oR Z (Zj Z Z uN Z ZO zW (wDO im) (wDV im)) (oL Z (ci.ldC (f:=0) iw (v:=.slice mq my.length ms) Z Z zm Z) (oR Z (zD Z cN zo Z zF) (oL Z (ci.ldB (j:=0) Z Z Z zK (v:=jV x91.Laps) Z) (oR Z (Zo Z Z Z) (bnK yr fun Cw io yt=>?_)))))
 have q:=tK.el (fun _=>rfl) (wAZ io)
 obtain ⟨Dl,DO,uP,u7⟩:=q
 refine oR Z (Zj Z Z uP Z zB zF (wDO io) (wDV io)) (oL Z (ci.ldC (f:=0) u7 (v:=jV Cw) Z Z zK Z) (oA Z Z (eN (zG (sR fL8 Z (oR Z (zD Z cC zV Z ZL) (oL Z (ci.ldB (j:=2) Z Z Z Zh (v:=.slice bf aw.Teams.length bg) Z) (oM Z cd (bnK yt fun bM ip iT=>?_)))))))))
 have tM:=ik.le bw
 have tO:=tM.le bm
 have tP:=tO.le bk
 have tQ:=tP.le bn
 have tR:=tQ.le bz
 have q:=tR.el (wAZ ip)
 obtain ⟨od,BQ,Ey,uQ,iy,Bj⟩:=q
 obtain ⟨BV,Ca,eV,eY,rfl,DF,tT⟩:=Bj
 replace iy:Cl bF od (BQ + bY.toNat * 3) [jV bM.Bib,.slice BV bM.Classes.length Ca,.slice eV bM.Legs.length eY]:=iy
 refine oR Z (Zj Z Z uQ Z zt zy (wDO ip) (wDV ip)) (oR Z (zD Z Z zZ Z Ze) (oL Z (ci.ldC (f:=2) iy (v:=.slice eV bM.Legs.length eY) Z Z yD Z) (oR Z (zd Z Z ZP) (oM Z Z (eN (zR ?_))))))
 have q:=wCc iT
 obtain ⟨DU,iF⟩:=q
 have q:=wCj iF
 obtain ⟨iP,w5⟩:=q
 replace iP:=zH iP
 refine yG (fun cE mz σ_ w_=>∃ (φ_:PHeap),σ_ 205=jV (↑cE:Int)/\σ_ 5=.pointer (some ⟨aa,0,none⟩)/\σ_ 6=.pointer (some ⟨bC,0,none⟩)/\σ_ 7=.slice aU aj.length aV/\σ_ 9=.pointer (some ⟨ae,0,none⟩)/\σ_ 11=.slice bA bp.length bD/\σ_ 13=.slice bN x166.length bP/\σ_ 14=jV bL/\σ_ 15=jV (↑be:Int)/\σ_ 16=.pointer (some ⟨aY,0,none⟩)/\σ_ 20=jV mz/\σ_ 96=.slice aU aj.length aV/\σ_ 97=jV (↑aj.length:Int)/\σ_ 98=jV (↑be:Int)/\σ_ 203=.slice eV bM.Legs.length eY/\σ_ 204=jV (↑bM.Legs.length:Int)/\PHeap.Le bF φ_/\sW w φ φ_ [.blk ae 66 ai,B5,.blk aa 27 B4,B0,aW] w_) w5 ?_ ?_ ?_
 exact ⟨bF,Z,cC,d9,ef,cN,eh,b5,dv,pO,pP,Z,eu,eC,eD,Z,Z,(zS _),ci⟩
 rintro cE mz EH ES C9 iK ⟨fg,ic,pR,pS,pT,pU,pV,pW,pX,pY,pZ,p6,p7,p8,p9,j7,j8,mj,lN⟩ Bv wR
 have jO:Hid ((↑cE:Int) < (↑bM.Legs.length:Int)):=zH (wBI iK)
 replace iK:=zH iK
 have xg:Hid (w64 ((↑cE:Int) + 1)=(↑(cE + 1):Int)):=zH (by have h1:=iP.out;have h2:=jO.out;rw [wAU] <;> omega)
 refine sR fL1 Z (oR Z (zU Z ic j8) (eN (zG (cT Z jO (kN (zG (zR (sR gCc Z (bnK Bv fun bl lu iU=>?_)))))))))
 have tU:=tT.le mj
 have q:=tU.el (wAZ lu)
 obtain ⟨oe,BR,Ez,uR,iz,Bk⟩:=q
 obtain ⟨i7,jb,dK,dL,rfl,DG,tV⟩:=Bk
 replace iz:Cl fg oe (BR + cE * 3) [jV bl.Skier,.slice i7 bl.Loops.length jb,.slice dK bl.Bouts.length dL]:=iz
 refine oR Z (ZH Z j7 uR ic ZP ZK (wBT lu)) (oL Z (lN.ldCA (f:=0) iz Z Z yI ZK (us:=[jV bl.Skier,.slice i7 bl.Loops.length jb,.slice dK bl.Bouts.length dL]) Z Z) (ZD (cs:=B9) Z Z Z Z Z Zc Z lN ?_))
 intro Da dX wo
 let dh:List Value:=[jV bl.Skier,.slice i7 bl.Loops.length jb,.slice dK bl.Bouts.length dL]
 refine zx (j:=0) (vs:=dh) Z Z Z Z wo Z Z Z Z ZK (zA Z) Z Z Z ?_
 intro m4 wp
 have lO:sW w φ fg [.blk dX 76 dh,.blk ae 66 ai,B5,.blk aa 27 B4,B0,aW] m4:=wp
 refine eN (sR fL4 Z (oR Z (zD Z Z zz Z Zx) (oL Z (lO.ldB (j:=0) Z Z Z yR (v:=.slice dK bl.Bouts.length dL) Z) (oR Z (zd Z Z Zg) (oM Z Z (eN (zR ?_)))))))
 have q:=wCc iU
 obtain ⟨DV,iG⟩:=q
 have q:=wCj iG
 obtain ⟨iQ,w6⟩:=q
 replace iQ:=zH iQ
 refine yG (fun cW mA σ_ w_=>∃ (φ_:PHeap),σ_ 212=jV (↑cW:Int)/\σ_ 5=.pointer (some ⟨aa,0,none⟩)/\σ_ 6=.pointer (some ⟨bC,0,none⟩)/\σ_ 7=.slice aU aj.length aV/\σ_ 9=.pointer (some ⟨ae,0,none⟩)/\σ_ 11=.slice bA bp.length bD/\σ_ 13=.slice bN x166.length bP/\σ_ 14=jV bL/\σ_ 15=jV (↑be:Int)/\σ_ 16=.pointer (some ⟨aY,0,none⟩)/\σ_ 20=jV mA/\σ_ 96=.slice aU aj.length aV/\σ_ 97=jV (↑aj.length:Int)/\σ_ 98=jV (↑be:Int)/\σ_ 203=.slice eV bM.Legs.length eY/\σ_ 204=jV (↑bM.Legs.length:Int)/\σ_ 205=jV (↑cE:Int)/\σ_ 210=.slice dK bl.Bouts.length dL/\σ_ 211=jV (↑bl.Bouts.length:Int)/\PHeap.Le fg φ_/\sW w φ φ_ [.blk dX 76 dh,.blk ae 66 ai,B5,.blk aa 27 B4,B0,aW] w_) w6 ?_ ?_ ?_
 exact ⟨fg,Z,pR,pS,pT,pU,pV,pW,pX,pY,pZ,p6,p7,p8,p9,j7,j8,ic,Z,Z,(zS _),lO⟩
 rintro cW mA EI ET m5 iL ⟨mL,ie,j9,qa,qb,qc,qd,qe,qf,qg,qh,qi,qj,qk,ql,qm,qn,qo,k9,lc,ml,lP⟩ Bw wS
 have jQ:Hid ((↑cW:Int) < (↑bl.Bouts.length:Int)):=zH (wBI iL)
 replace iL:=zH iL
 have xh:Hid (w64 ((↑cW:Int) + 1)=(↑(cW + 1):Int)):=zH (by have h1:=iQ.out;have h2:=jQ.out;rw [wAU] <;> omega)
 refine sR fL1 Z (oR Z (zU Z ie lc) (eN (zG (cT Z jQ (kN (zG (zR (sR fL3 Z (bnK Bw fun jh lv yw=>?_)))))))))
 have tW:=tV.le ml
 have q:=tW.el (wAZ lv)
 obtain ⟨og,BS,EA,uS,iA,Bl⟩:=q
 obtain ⟨i8,jc,rfl,tY⟩:=Bl
 replace iA:Cl mL og (BS + cW * 1) [.slice i8 jh.length jc]:=iA
 refine oR Z (ZH Z k9 uS ie Zg yC (wBT lv)) (oL Z (lP.ldC (f:=0) iA (v:=.slice i8 jh.length jc) Z Z yS Z) (oA Z Z (eN (sR (.fl 0 (.fx 1 (wRp gCb) .stop)) Z (oM Z Z ?_)))))
 have q:=bnd yw
 obtain ⟨⟨cH,Cx⟩,tZ,l6⟩:=q
 try dsimp only at l6
 refine zM 0 Z Z Z Z (zL Z Z Tryz.call27 (zC Z zQ) Z) lP (fun hs=>wEc jh i8 jc m5 mL hs tY tZ) (.inr Z) ?_
 rintro fh CX Eh m6 BJ wt ⟨rfl,rfl⟩
 have wu:sW w φ fh [.blk dX 76 dh,.blk ae 66 ai,B5,.blk aa 27 B4,B0,aW] m6:=wt
 refine oM Z Z (oR Z (ZX Z Z (v:=.agg #[jV cH.Spares,jV cH.Loops,jV cH.Unused]) Z) (oR Z (ZX Z Z (v:=jV Cx) Z) (ZD (cs:=fw) Z Z Z Z Z Zw Z wu ?_)))
 intro Db oh wv
 let ju:List Value:=[jV cH.Spares,jV cH.Loops,jV cH.Unused]
 refine zx (j:=0) (vs:=ju) Z Z Z Z wv Z Z Z Z Zp (zA Z) Z Z Z ?_
 intro m7 ww
 have eR:sW w φ fh [.blk oh 79 ju,.blk dX 76 dh,.blk ae 66 ai,B5,.blk aa 27 B4,B0,aW] m7:=ww
 refine oA Z Z (eN (zG (sR fL2 Z (oM Z Z (oR Z (Zq Z Z Z) (eN (ifc l6 ?_ ?_)))))))
 intro fV yy
 refine zu (ZI (fun h=>h fV.out)) (kN (rR fL9 Z (oM Z qi (oR Z (zD Z Z Tryz.runUnderlying79 Z zF) (oL Z (eR.ldB (j:=0) Z Z Z zK (v:=jV cH.Unused) Z) (oR Z (zD Z j9 zV Z ZY) (oR Z (zD Z Z ZE Z zF) (oL Z (eR.ldB (j:=4) Z Z Z zK (v:=jV aw.Rules.Unused) Z) (oR Z (Runs.mulw Z Z Z) (oR Z (zY Z Z Z) (oA Z Z (zn (ze (zI (rR fL2 Z (oR Z (ZC (zY Z ie Z) (congrArg (jV) xh.out)) (oM Z Z (zn ?_))))))))))))))))))
 obtain rfl:=nA yy
 exact zI ⟨rfl,_,rfl,⟨fh,rfl,j9,qa,qb,qc,qd,qe,qf,qg,qh,rfl,qj,qk,ql,qm,qn,qo,k9,lc,(ml.trans BJ),(eR.pick [1,2,3,4,5,6] _ (by decide) rfl)⟩⟩
 intro fV yz
 refine cT Z fV (sR fL1 Z (oA Z Z (eN (zP (zN (zg (zN ?_)))))))
 have q:=wAW yz
 obtain ⟨Cj,z6,o3⟩:=q
 obtain rfl:=wBQ iU iG (wS Cj o3)
 refine zN (zg (zg (zN ?_)))
 have q:=wAW z6
 obtain ⟨Ck,z7,o5⟩:=q
 obtain rfl:=wBQ iT iF (wR Ck o5)
 refine zN (zg (zN (zg ?_)))
 have q:=wAW z7
 obtain ⟨Ei,z8,o6⟩:=q
 obtain rfl:=wBQ bu bv o6
 refine zN ?_
 have q:=wAW z8
 obtain ⟨Cm,Aa,o7⟩:=q
 obtain rfl:=wBQ bt bs (bJ Cm o7)
 refine zN (zg (zN ?_))
 have hE:=nA Aa;first | subst r | cases hE
 exact ⟨rfl,_,(zw rfl),fh,_,(eR.pick [] _ (by decide) rfl),rfl,rfl⟩
 rintro EK EU Dc ⟨CF,rx,qp,qq,qr,qt,qu,qv,qw,qx,qy,qz,qA,qB,qC,qD,qE,qF,Dt,qG,BK,wy⟩ wU
 have Ab:=wDL iU iG wU
 have oH:Hid (¬ ((↑(((↑bl.Bouts.length:Int):Int) - 0).toNat:Int) < (↑bl.Bouts.length:Int))):=zH (wAp)
 refine sR fL1 Z (oR Z (zU Z rx qG) (eN (zG (cF Z oH (ZJ (zX (zX (ZB (ze (zI (rR fL2 Z (oR Z (ZC (zY Z qF Z) (congrArg (jV) xg.out)) (oM Z Z (zn ?_))))))))))))))
 obtain rfl:=nA Ab
 exact zI ⟨rfl,_,rfl,⟨CF,rfl,qp,qq,qr,qt,qu,qv,qw,qx,qy,qz,qA,qB,qC,qD,qE,(mj.trans BK),(wy.pick [1,2,3,4,5] _ (by decide) rfl)⟩⟩
 rintro Cy EV Dd ⟨mN,ry,qH,qI,lh,qJ,qK,qL,qM,qN,qO,qP,qQ,qR,qS,Du,qT,cG,wC⟩ wV
 have Ac:=wDL iT iF wV
 have oI:Hid (¬ ((↑(((↑bM.Legs.length:Int):Int) - 0).toNat:Int) < (↑bM.Legs.length:Int))):=zH (wAp)
 refine sR fL1 Z (oR Z (zU Z ry qT) (eN (zG (cF Z oI (ZJ (zX (zX (ZB (zI (sR fL1 Z (oA Z Z (eN (zG (sR fL3 Z (oM Z lh (oR Z (zd Z Z ZA) (oM Z Z (eN (zR (bnK Ac fun EL w7 Ad=>?_))))))))))))))))))))
 have q:=wBU w7
 obtain ⟨iR,w8⟩:=q
 replace iR:=zH iR
 refine CK.forN' (fun dC mB σ_ w_=>∃ (φ_:PHeap),σ_ 235=jV (↑dC:Int)/\σ_ 5=.pointer (some ⟨aa,0,none⟩)/\σ_ 6=.pointer (some ⟨bC,0,none⟩)/\σ_ 7=.slice aU aj.length aV/\σ_ 9=.pointer (some ⟨ae,0,none⟩)/\σ_ 11=.slice bA bp.length bD/\σ_ 13=.slice bN x166.length bP/\σ_ 14=jV bL/\σ_ 15=jV (↑be:Int)/\σ_ 16=.pointer (some ⟨aY,0,none⟩)/\σ_ 20=jV Cy/\σ_ 27=jV mB/\σ_ 96=.slice aU aj.length aV/\σ_ 97=jV (↑aj.length:Int)/\σ_ 98=jV (↑be:Int)/\σ_ 233=.slice aU aj.length aV/\σ_ 234=jV (↑aj.length:Int)/\PHeap.Le mN φ_/\sW w φ φ_ [.blk ae 66 ai,B5,.blk aa 27 B4,B0,aW] w_) w8 ?_ ?_ ?_
 exact ⟨mN,Z,qH,qI,lh,qJ,qK,qL,qM,qN,qO,qP,Z,qQ,qR,qS,Z,Z,(zS _),wC⟩
 rintro dC mB EJ EW De iM ⟨fj,dy,gE,gF,gG,gH,gI,gJ,gK,gL,eG,gM,gN,gO,gP,gQ,eH,eI,dG,lR⟩ Bx
 have jR:Hid ((↑dC:Int) < (↑aj.length:Int)):=zH (wBI iM)
 replace iM:=zH iM
 have iH:Hid (w64 ((↑dC:Int) + 1)=(↑(dC + 1):Int)):=zH (by have h1:=iR.out;have h2:=jR.out;rw [wAU] <;> omega)
 refine sR fL1 Z (oR Z (zU Z dy eI) (eN (zG (cT Z jR (kN (zG (zR (sR gCc Z (bnK Bx fun cp lw Ae=>?_)))))))))
 have ua:=eM.le bm
 have ub:=ua.le bk
 have uc:=ub.le bn
 have ud:=uc.le bz
 have ue:=ud.le cG
 have uf:=ue.le dG
 have q:=uf.el (fun _=>rfl) (wAZ lw)
 obtain ⟨Dm,DP,uT,u9⟩:=q
 refine oR Z (ZH Z eH uT dy ZA ZV (wBT lw)) (oL Z (lR.ldCA (f:=0) u9 Z Z Tryz.isAgg59 ZV (us:=[jV cp.Bib,jV cp.Place,jV cp.Time]) Z Z) (ZD (cs:=fw) Z Z Z Z Z yL Z lR ?_))
 intro Df oj wG
 let jv:List Value:=[jV cp.Bib,jV cp.Place,jV cp.Time]
 refine zx (j:=0) (vs:=jv) Z Z Z Z wG Z Z Z Z ZV (zA Z) Z Z Z ?_
 intro m8 wH
 have cU:sW w φ fj [.blk oj 59 jv,.blk ae 66 ai,B5,.blk aa 27 B4,B0,aW] m8:=wH
 refine eN (sR fL10 Z (oR Z (zD Z Z zq Z zF) (oL Z (cU.ldB (j:=0) Z Z Z zK (v:=jV cp.Place) Z) (oR Z (yB Z Z Z) (oM Z Z (ifc Ae ?_ ?_))))))
 intro br Af
 refine rU Z (wT Z br) (zD Z Z zq Z zF) (ZM Z Z Z (wT Z br) (cU.ldB (j:=0) Z Z Z zK (v:=jV cp.Time) Z) Z (rU Z (wT Z br) (zD Z eG zq Z zF) ?_))
 have ug:=eP.le bk
 have uh:=ug.le bn
 have ui:=uh.le bz
 have uj:=ui.le cG
 have uk:=uj.le dG
 refine ZM Z Z Z (wT Z br) (cU.ldC (f:=2) uk (v:=jV x240.Time) Z Z zK Z) Z (rU Z (wT Z br) (zU Z Z Z) (oR Z (zh Z (Zk br.out) Z) (eN (ifc Af ?_ ?_))))
 intro fW Ag
 refine cT Z fW (rR fL3 Z (oM Z gN (oR Z (zY Z Z Z) (oA Z Z (zn (ze (zI (rR fL2 Z (oR Z (ZC (zY Z dy Z) (congrArg (jV) iH.out)) (oM Z Z (zn ?_)))))))))))
 cases Ag
 exact zI ⟨rfl,⟨fj,rfl,gE,gF,gG,gH,gI,gJ,gK,gL,eG,gM,rfl,gO,gP,gQ,eH,eI,dG,(cU.pick [1,2,3,4,5] _ (by decide) rfl)⟩⟩
 intro fW Ah
 refine cF Z fW (Zf (ze (zI (rR fL2 Z (oR Z (ZC (zY Z dy Z) (congrArg (jV) iH.out)) (oM Z Z (zn ?_)))))))
 cases Ah
 exact zI ⟨rfl,⟨fj,rfl,gE,gF,gG,gH,gI,gJ,gK,gL,eG,gM,gN,gO,gP,gQ,eH,eI,dG,(cU.pick [1,2,3,4,5] _ (by decide) rfl)⟩⟩
 intro br Ai
 refine oF Z br (oF Z br (oF Z br (oF Z br (oF Z br (oR Z (zk Z (ZI br.out) Z) (eN (zu Z (Zf (ze (zI (rR fL2 Z (oR Z (ZC (zY Z dy Z) (congrArg (jV) iH.out)) (oM Z Z (zn ?_))))))))))))))
 cases Ai
 exact zI ⟨rfl,⟨fj,rfl,gE,gF,gG,gH,gI,gJ,gK,gL,eG,gM,gN,gO,gP,gQ,eH,eI,dG,(cU.pick [1,2,3,4,5] _ (by decide) rfl)⟩⟩
 rintro EX jH ⟨cr,rC,gR,gS,cO,gT,gU,gW,eJ,eK,dw,qU,qV,gX,gZ,g8,Dv,qW,dH,wI⟩
 have oK:Hid (¬ ((↑(((↑aj.length:Int):Int) - 0).toNat:Int) < (↑aj.length:Int))):=zH (wAp)
 refine sR fL1 rfl (zj rfl rfl rfl rfl (fun _=>zU rfl rC qW) (eN (zG (cF Z oK (ZJ (zX (zX (ZB (zI (zG (Zb ZT [3,3,3,3,3,1,3,3,3,3,3,1,3,3,3,3,3,3,3,3,3,3,3,1,3,1,3,3,3,3,3,3,3,1,3,1,3,3,3,3,3,3,3,1,3,1,3,3,3,3,3] fL51 (by kernel_rfl) ?_)))))))))))
 have bd:=wI.drew
 generalize hw_W790:({ jH with drawn:=jH.drawn + 1 }:World)=Dg at bd ⊢
 refine oM Z eJ (oR Z (yb Z Z Z) (oM Z Z (ifc Ad ?_ ?_)))
 intro bH Aj
 refine oT Z bH (oT Z bH (oT Z bH (oT Z bH (oR Z (zh Z (Zk bH.out) Z) (oM Z Z (oN Z (oN Z (oN Z (oN Z (oR Z (zh Z Z Z) (oM Z Z (oN Z (oN Z (oN Z (zJ Z Z Z (wAC Z Z Z) (zJ Z Z Z (wAC Z Z Z) (zJ Z Z Z (wAC Z Z Z) (zJ Z Z Z (wAC Z Z Z) (zJ Z Z Z (wAC Z Z Z) (zJ Z Z Z (wAC Z Z Z) (zJ Z Z Z (wAC Z Z Z) (zJ Z Z Z (wAC Z Z Z) (zJ Z Z Z (wAC Z Z Z) (zJ Z Z Z (wAC Z Z Z) (zJ Z Z Z (wAC Z Z Z) (zJ Z Z Z (wAC Z Z Z) (zJ Z Z Z (wAC Z Z Z) (zJ Z Z Z (wAC Z Z Z) (zJ Z Z Z (wAC Z Z Z) (zJ Z Z Z (wAC Z Z Z) (zJ Z Z Z (wAC Z Z Z) (zJ Z Z Z (wAC Z Z Z) (zJ Z Z Z (wAC Z Z Z) (zJ Z Z Z (wAC Z Z Z) (zJ Z Z Z (wAC Z Z Z) (zJ Z Z Z (wAC Z Z Z) (zJ Z Z Z (wAC Z Z Z) (zJ Z Z Z (wAC Z Z Z) (zJ Z Z Z (wAC Z Z Z) (zJ Z Z Z (wAC Z Z Z) (zJ Z Z Z (wAC Z Z Z) (zJ Z Z Z (wAC Z Z Z) (zJ Z Z Z (wAC Z Z Z) (zJ Z Z Z (wAC Z Z Z) (zJ Z Z Z (wAC Z Z Z) (oN Z (oR Z (zh Z Z Z) (eN (ZG Z (zG (yH fun EY Bz=>?_)))))))))))))))))))))))))))))))))))))))))))))))))))
 clear Bz
 refine rR fL1 Z (oA Z Z (eN (zP (zg ?_))))
 have q:=wAW Aj
 obtain ⟨Ej,Ak,o8⟩:=q
 obtain rfl:=wBQ bu bv o8
 refine zN ?_
 have q:=wAW Ak
 obtain ⟨Cn,Al,o9⟩:=q
 obtain rfl:=wBQ bt bs (bJ Cn o9)
 refine zN (zg (zN ?_))
 have hE:=nA Al;first | subst r | cases hE
 exact ⟨rfl,_,(zw rfl),cr,_,(bd.pick [] _ (by decide) rfl),rfl,rfl⟩
 intro bH Am
 refine zf Z Z Z (wF Z bH) Z qU (rU Z (wF Z bH) (zD Z dw zq Z zF) ?_)
 have um:=eP.le bk
 have uo:=um.le bn
 have up:=uo.le bz
 have uq:=up.le cG
 have dz:=uq.le dH
 refine ZM Z Z Z (wF Z bH) (bd.ldC (f:=2) dz (v:=jV x240.Time) Z Z zK Z) Z (rU Z (wF Z bH) (Zq Z Z Z) (oR Z (zk Z (ZI bH.out) Z) (oM Z Z (ifc Am ?_ ?_))))
 intro bI An
 refine zf Z Z Z (zO Z Z (ZI (fun h=>h bI.out))) Z qV (zj Z Z Z (zO Z Z (ZI (fun h=>h bI.out))) (fun _=>zD Z dw zq Z zF) (ZM Z Z Z (zO Z Z (ZI (fun h=>h bI.out))) (bd.ldC (f:=1) dz (v:=jV x240.Place) Z Z zK Z) Z (zj Z Z Z (zO Z Z (ZI (fun h=>h bI.out))) (fun _=>Zq Z Z Z) (oR Z (zk Z (ZI (fun h=>h bI.out)) Z) (oM Z Z (ifc An ?_ ?_))))))
 intro bb Ao
 refine zf Z Z Z (zO Z Z (ZI (fun h=>h bb.out))) Z eK (zj Z Z Z (zO Z Z (ZI (fun h=>h bb.out))) (fun _=>yB Z Z Z) (zf Z Z Z (zO Z Z (ZI (fun h=>h bb.out))) Z Z (ifc Ao ?_ ?_)))
 intro am Ap
 refine zf Z Z Z (wT Z am) Z cO (zf Z Z Z (wT Z am) Z eK (rU Z (wT Z am) (Zo Z Z Z) (bnK Ap fun ji bW Aq=>?_)))
 have ur:=eM.le bm
 have ut:=ur.le bk
 have uu:=ut.le bn
 have uv:=uu.le bz
 have uw:=uv.le cG
 have iq:=uw.le dH
 have q:=iq.el (fun _=>rfl) (wAZ bW)
 obtain ⟨Dn,DQ,uU,va⟩:=q
 refine rU Z (wT Z am) (Zj Z Z uU Z ZA ZV (wDO bW) (wDV bW)) (rU Z (wT Z am) (zD Z Z zq Z zF) (ZM Z Z Z (wT Z am) (bd.ldC (f:=2) va (v:=jV ji.Time) Z Z zK Z) Z (rU Z (wT Z am) (zD Z dw zq Z zF) (ZM Z Z Z (wT Z am) (bd.ldC (f:=2) dz (v:=jV x240.Time) Z Z zK Z) Z (rU Z (wT Z am) (yB Z Z Z) (zf Z Z Z (wT Z am) Z Z (ifc Aq ?_ ?_)))))))
 intro au Ar
 refine oT Z au (oT Z au (oT Z au (oT Z au (oT Z au (oT Z au (oT Z au (oT Z au (oT Z au (oT Z au (zJ Z Z Z (wAC Z Z Z) (zJ Z Z Z (wAC Z Z Z) (zJ Z Z Z (wAC Z Z Z) (zJ Z Z Z (wAC Z Z Z) (zJ Z Z Z (wAC Z Z Z) (zJ Z Z Z (wAC Z Z Z) (zJ Z Z Z (wAC Z Z Z) (zJ Z Z Z (wAC Z Z Z) (zJ Z Z Z (wAC Z Z Z) (oT Z au (rU Z (wT Z am) (zh Z (Zk au.out) Z) (zj Z Z Z (zO Z Z (ZI (fun h=>h bb.out))) (fun _=>zh Z (Zk am.out) Z) (oR Z (zk Z (ZI (fun h=>h bb.out)) Z) (eN (ZG Z (zG (yH fun EZ BA=>?_))))))))))))))))))))))))))
 clear BA
 refine rR fL1 Z (oA Z Z (eN (zP (zg ?_))))
 have q:=wAW Ar
 obtain ⟨Em,As,pa⟩:=q
 obtain rfl:=wBQ bu bv pa
 refine zN ?_
 have q:=wAW As
 obtain ⟨Co,Au,pb⟩:=q
 obtain rfl:=wBQ bt bs (bJ Co pb)
 refine zN (zg (zN ?_))
 have hE:=nA Au;first | subst r | cases hE
 exact ⟨rfl,_,(zw rfl),cr,_,(bd.pick [] _ (by decide) rfl),rfl,rfl⟩
 intro au Av
 refine zf Z Z Z (wF Z au) Z cO (zf Z Z Z (wF Z au) Z eK (rU Z (wF Z au) (Zo Z Z Z) ?_))
 have q:=iq.el (fun _=>rfl) (wAZ bW)
 obtain ⟨Do,DR,uV,vb⟩:=q
 refine rU Z (wF Z au) (Zj Z Z uV Z ZA ZV (wDO bW) (wDV bW)) (rU Z (wF Z au) (zD Z Z zq Z zF) (ZM Z Z Z (wF Z au) (bd.ldC (f:=2) vb (v:=jV ji.Time) Z Z zK Z) Z (rU Z (wF Z au) (zD Z dw zq Z zF) (ZM Z Z Z (wF Z au) (bd.ldC (f:=2) dz (v:=jV x240.Time) Z Z zK Z) Z (rU Z (wF Z au) (yQ Z Z Z) (zf Z Z Z (wF Z au) Z Z (ifc Av ?_ ?_)))))))
 intro aX Aw
 refine zf Z Z Z (wT Z aX) Z cO (zf Z Z Z (wT Z aX) Z eK (rU Z (wT Z aX) (Zo Z Z Z) ?_))
 have q:=iq.el (fun _=>rfl) (wAZ bW)
 obtain ⟨Dp,DS,uW,vc⟩:=q
 refine rU Z (wT Z aX) (Zj Z Z uW Z ZA ZV (wDO bW) (wDV bW)) (rU Z (wT Z aX) (zD Z Z zq Z zF) (ZM Z Z Z (wT Z aX) (bd.ldC (f:=0) vc (v:=jV ji.Bib) Z Z zK Z) Z (rU Z (wT Z aX) (zD Z dw zq Z zF) (ZM Z Z Z (wT Z aX) (bd.ldC (f:=0) dz (v:=jV x240.Bib) Z Z zK Z) Z (rU Z (wT Z aX) (yb Z Z Z) (rU Z (wF Z au) (zh Z (Zk aX.out) Z) (rU Z (wT Z am) (zk Z (ZI au.out) Z) (zj Z Z Z (zO Z Z (ZI (fun h=>h bb.out))) (fun _=>zh Z (Zk am.out) Z) (oR Z (zk Z (ZI (fun h=>h bb.out)) Z) (eN (ifc Aw ?_ ?_)))))))))))
 intro fY Ax
 refine cT Z fY (zG (yH fun E1 BB=>?_))
 clear BB
 refine rR fL1 Z (oA Z Z (eN (zP (zg ?_))))
 have q:=wAW Ax
 obtain ⟨En,Ay,pe⟩:=q
 obtain rfl:=wBQ bu bv pe
 refine zN ?_
 have q:=wAW Ay
 obtain ⟨Cp,Az,pf⟩:=q
 obtain rfl:=wBQ bt bs (bJ Cp pf)
 refine zN (zg (zN ?_))
 have hE:=nA Az;first | subst r | cases hE
 exact ⟨rfl,_,(zw rfl),cr,_,(bd.pick [] _ (by decide) rfl),rfl,rfl⟩
 intro fY AA
 exact cF Z fY (Zf (ze (zI ⟨Z,bL,(nA AA).symm,⟨cr,gR,gS,cO,gT,gU,gW,eJ,gX,gZ,g8,(((((((bK.trans bw).trans bm).trans bk).trans bn).trans bz).trans cG).trans dH),bd⟩⟩)))
 intro aX AD
 exact oF Z aX (oF Z aX (oF Z aX (oF Z aX (oF Z aX (oF Z aX (oF Z aX (oF Z aX (oF Z aX (rU Z (wF Z au) (zk Z (ZI aX.out) Z) (rU Z (wT Z am) (zk Z (ZI au.out) Z) (zj Z Z Z (zO Z Z (ZI (fun h=>h bb.out))) (fun _=>zh Z (Zk am.out) Z) (oR Z (zk Z (ZI (fun h=>h bb.out)) Z) (eN (zu Z (Zf (ze (zI ⟨Z,bL,(nA AD).symm,⟨cr,gR,gS,cO,gT,gU,gW,eJ,gX,gZ,g8,(((((((bK.trans bw).trans bm).trans bk).trans bn).trans bz).trans cG).trans dH),bd⟩⟩)))))))))))))))))
 intro am AE
 exact oF Z am (oF Z am (oF Z am (oF Z am (oF Z am (oF Z am (oF Z am (oF Z am (oF Z am (oF Z am (zJ Z Z Z (wAC Z Z Z) (zJ Z Z Z (wAC Z Z Z) (zJ Z Z Z (wAC Z Z Z) (zJ Z Z Z (wAC Z Z Z) (zJ Z Z Z (wAC Z Z Z) (zJ Z Z Z (wAC Z Z Z) (zJ Z Z Z (wAC Z Z Z) (zJ Z Z Z (wAC Z Z Z) (zJ Z Z Z (wAC Z Z Z) (zJ Z Z Z (wAC Z Z Z) (zJ Z Z Z (wAC Z Z Z) (zJ Z Z Z (wAC Z Z Z) (zJ Z Z Z (wAC Z Z Z) (zJ Z Z Z (wAC Z Z Z) (zJ Z Z Z (wAC Z Z Z) (zJ Z Z Z (wAC Z Z Z) (zJ Z Z Z (wAC Z Z Z) (zJ Z Z Z (wAC Z Z Z) (zJ Z Z Z (wAC Z Z Z) (zJ Z Z Z (wAC Z Z Z) (oF Z am (zj Z Z Z (zO Z Z (ZI (fun h=>h bb.out))) (fun _=>zk Z (ZI am.out) Z) (oR Z (zk Z (ZI (fun h=>h bb.out)) Z) (eN (zu Z (Zf (ze (zI ⟨Z,bL,(nA AE).symm,⟨cr,gR,gS,cO,gT,gU,gW,eJ,gX,gZ,g8,(((((((bK.trans bw).trans bm).trans bk).trans bn).trans bz).trans cG).trans dH),bd⟩⟩)))))))))))))))))))))))))))))))))))))
 intro bb AG
 refine oT Z bb (oT Z bb (oT Z bb (zJ Z Z Z (wAC Z Z Z) (zJ Z Z Z (wAC Z Z Z) (zJ Z Z Z (wAC Z Z Z) (zJ Z Z Z (wAC Z Z Z) (zJ Z Z Z (wAC Z Z Z) (zJ Z Z Z (wAC Z Z Z) (zJ Z Z Z (wAC Z Z Z) (zJ Z Z Z (wAC Z Z Z) (zJ Z Z Z (wAC Z Z Z) (zJ Z Z Z (wAC Z Z Z) (zJ Z Z Z (wAC Z Z Z) (zJ Z Z Z (wAC Z Z Z) (zJ Z Z Z (wAC Z Z Z) (zJ Z Z Z (wAC Z Z Z) (zJ Z Z Z (wAC Z Z Z) (zJ Z Z Z (wAC Z Z Z) (zJ Z Z Z (wAC Z Z Z) (zJ Z Z Z (wAC Z Z Z) (zJ Z Z Z (wAC Z Z Z) (zJ Z Z Z (wAC Z Z Z) (zJ Z Z Z (wAC Z Z Z) (zJ Z Z Z (wAC Z Z Z) (zJ Z Z Z (wAC Z Z Z) (zJ Z Z Z (wAC Z Z Z) (zJ Z Z Z (wAC Z Z Z) (zJ Z Z Z (wAC Z Z Z) (zJ Z Z Z (wAC Z Z Z) (zJ Z Z Z (wAC Z Z Z) (zJ Z Z Z (wAC Z Z Z) (zJ Z Z Z (wAC Z Z Z) (zJ Z Z Z (wAC Z Z Z) (oT Z bb (oR Z (zh Z (Zk bb.out) Z) (eN (ZG Z (zG (yH fun E2 BC=>?_)))))))))))))))))))))))))))))))))))))))
 clear BC
 refine rR fL1 Z (oA Z Z (eN (zP (zg ?_))))
 have q:=wAW AG
 obtain ⟨Eo,AI,pg⟩:=q
 obtain rfl:=wBQ bu bv pg
 refine zN ?_
 have q:=wAW AI
 obtain ⟨Cq,AJ,ph⟩:=q
 obtain rfl:=wBQ bt bs (bJ Cq ph)
 refine zN (zg (zN ?_))
 have hE:=nA AJ;first | subst r | cases hE
 exact ⟨rfl,_,(zw rfl),cr,_,(bd.pick [] _ (by decide) rfl),rfl,rfl⟩
 intro bI AL
 refine oT Z bI (oT Z bI (oT Z bI (oT Z bI (oR Z (zh Z (Zk bI.out) Z) (oM Z Z (oN Z (oN Z (oN Z (zJ Z Z Z (wAC Z Z Z) (zJ Z Z Z (wAC Z Z Z) (zJ Z Z Z (wAC Z Z Z) (zJ Z Z Z (wAC Z Z Z) (zJ Z Z Z (wAC Z Z Z) (zJ Z Z Z (wAC Z Z Z) (zJ Z Z Z (wAC Z Z Z) (zJ Z Z Z (wAC Z Z Z) (zJ Z Z Z (wAC Z Z Z) (zJ Z Z Z (wAC Z Z Z) (zJ Z Z Z (wAC Z Z Z) (zJ Z Z Z (wAC Z Z Z) (zJ Z Z Z (wAC Z Z Z) (zJ Z Z Z (wAC Z Z Z) (zJ Z Z Z (wAC Z Z Z) (zJ Z Z Z (wAC Z Z Z) (zJ Z Z Z (wAC Z Z Z) (zJ Z Z Z (wAC Z Z Z) (zJ Z Z Z (wAC Z Z Z) (zJ Z Z Z (wAC Z Z Z) (zJ Z Z Z (wAC Z Z Z) (zJ Z Z Z (wAC Z Z Z) (zJ Z Z Z (wAC Z Z Z) (zJ Z Z Z (wAC Z Z Z) (zJ Z Z Z (wAC Z Z Z) (zJ Z Z Z (wAC Z Z Z) (zJ Z Z Z (wAC Z Z Z) (zJ Z Z Z (wAC Z Z Z) (zJ Z Z Z (wAC Z Z Z) (zJ Z Z Z (wAC Z Z Z) (zJ Z Z Z (wAC Z Z Z) (oN Z (oR Z (zh Z Z Z) (eN (ZG Z (zG (yH fun E3 BD=>?_)))))))))))))))))))))))))))))))))))))))))))))
 clear BD
 refine rR fL1 Z (oA Z Z (eN (zP (zg ?_))))
 have q:=wAW AL
 obtain ⟨Ep,AM,pi⟩:=q
 obtain rfl:=wBQ bu bv pi
 refine zN ?_
 have q:=wAW AM
 obtain ⟨Cr,AN,pj⟩:=q
 obtain rfl:=wBQ bt bs (bJ Cr pj)
 refine zN (zg (zN ?_))
 have hE:=nA AN;first | subst r | cases hE
 exact ⟨rfl,_,(zw rfl),cr,_,(bd.pick [] _ (by decide) rfl),rfl,rfl⟩
 intro fU AP
 refine ZG (nF (fU.out)) (zG (zG (Zb ZT [3,3,3,3,3,3,1,3,3,3,1,3,3,3,3,3,1,3,3,3,1,3,3,3,1,3,3,3,1,3,1,3,3,3,1,3,3,3,3] fL39 (by kernel_rfl) ?_)))
 have bj:=iE.drew
 generalize hw_W883:({ dV with drawn:=dV.drawn + 1 }:World)=Dh at bj ⊢
 refine oM Z dv (oR Z (yb Z Z Z) (oM Z Z (ifc AP ?_ ?_)))
 intro ap AQ
 refine zf Z Z Z (wT Z ap) Z b5 (zf Z Z Z (wT Z ap) Z cd (bnK AQ fun _ cD AS=>?_))
 obtain ⟨Dq,cg⟩:=bj.rowSome (j:=4) rfl (by rw [wAK (f:=KL.encI) (sz:=1) (fun _=>rfl) x166];have hz:=wAq cD;omega)
 refine rU Z (wT Z ap) (Zj Z Z cg Z zB zF (wEW cD) (wEX cD)) ?_
 have xa:=wCH (xs:=x166) (wAq cD)
 refine ZM rfl rfl rfl (zO rfl rfl (Zk ap.out)) (bj.ldR (j:=4) rfl cg rfl rfl zK (wAo (sz:=1) (fun _=>rfl) _ _ 0 _ xa (by first | omega | rfl | simp) rfl)) rfl (zf rfl rfl rfl (zO rfl rfl (Zk ap.out)) rfl b5 (zf rfl rfl rfl (zO rfl rfl (Zk ap.out)) rfl dv (bnK AS fun _ cQ AT=>zj rfl rfl rfl (zO rfl rfl (Zk ap.out)) (fun _=>Zj rfl rfl cg rfl zB zF (wEW cQ) (wEX cQ)) ?_)))
 have xb:=wCH (xs:=x166) (wAq cQ)
 refine ZM rfl rfl rfl (zO rfl rfl (Zk ap.out)) (bj.ldR (j:=4) rfl cg rfl rfl zK (wAo (sz:=1) (fun _=>rfl) _ _ 0 _ xb (by first | omega | rfl | simp) rfl)) rfl (zj rfl rfl rfl (zO rfl rfl (Zk ap.out)) (fun _=>yB rfl rfl rfl) (zf rfl rfl rfl (zO rfl rfl (Zk ap.out)) rfl rfl (ifc AT ?_ ?_)))
 intro av AU
 refine oT Z av (oT Z av (oT Z av (oT Z av (oT Z av (oT Z av (oT Z av (oT Z av (oT Z av (oT Z av (zJ Z Z Z (wAC Z Z Z) (zJ Z Z Z (wAC Z Z Z) (zJ Z Z Z (wAC Z Z Z) (zJ Z Z Z (wAC Z Z Z) (zJ Z Z Z (wAC Z Z Z) (zJ Z Z Z (wAC Z Z Z) (zJ Z Z Z (wAC Z Z Z) (zJ Z Z Z (wAC Z Z Z) (zJ Z Z Z (wAC Z Z Z) (zJ Z Z Z (wAC Z Z Z) (zJ Z Z Z (wAC Z Z Z) (zJ Z Z Z (wAC Z Z Z) (zJ Z Z Z (wAC Z Z Z) (oT Z av (rU Z (wT Z ap) (zh Z (Zk av.out) Z) (oR Z (zh Z (Zk ap.out) Z) (eN (ZG Z (sR fL1 Z (oA Z Z (eN (zP (zN (zN (zg ?_))))))))))))))))))))))))))))))))))
 have q:=wAW AU
 obtain ⟨Er,AW,pm⟩:=q
 obtain rfl:=wBQ bu bv pm
 refine zN ?_
 have q:=wAW AW
 obtain ⟨Cs,AX,pn⟩:=q
 obtain rfl:=wBQ bt bs (bJ Cs pn)
 refine zN (zg (zN ?_))
 have hE:=nA AX;first | subst r | cases hE
 exact ⟨rfl,_,(zw rfl),bF,_,(bj.pick [] _ (by decide) rfl),rfl,rfl⟩
 intro av AY
 refine zf Z Z Z (wF Z av) Z b5 (zf Z Z Z (wF Z av) Z cd (rU Z (wF Z av) (Zj Z Z cg Z zB zF (wEW cD) (wEX cD)) ?_))
 have xc:=wCH (xs:=x166) (wAq cD)
 refine ZM rfl rfl rfl (zO rfl rfl (ZI av.out)) (bj.ldR (j:=4) rfl cg rfl rfl zK (wAo (sz:=1) (fun _=>rfl) _ _ 0 _ xc (by first | omega | rfl | simp) rfl)) rfl (zf rfl rfl rfl (zO rfl rfl (ZI av.out)) rfl b5 (zf rfl rfl rfl (zO rfl rfl (ZI av.out)) rfl dv (zj rfl rfl rfl (zO rfl rfl (ZI av.out)) (fun _=>Zj rfl rfl cg rfl zB zF (wEW cQ) (wEX cQ)) ?_)))
 have xd:=wCH (xs:=x166) (wAq cQ)
 refine ZM rfl rfl rfl (zO rfl rfl (ZI av.out)) (bj.ldR (j:=4) rfl cg rfl rfl zK (wAo (sz:=1) (fun _=>rfl) _ _ 0 _ xd (by first | omega | rfl | simp) rfl)) rfl (zj rfl rfl rfl (zO rfl rfl (ZI av.out)) (fun _=>yQ rfl rfl rfl) (zf rfl rfl rfl (zO rfl rfl (ZI av.out)) rfl rfl (ifc AY ?_ ?_)))
 intro aq AZ
 refine rU Z (wT Z aq) (zD Z cC zV Z ZL) (ZM Z Z Z (wT Z aq) (bj.ldB (j:=2) Z Z Z Zh (v:=.slice bf aw.Teams.length bg) Z) Z (zf Z Z Z (wT Z aq) Z cd (bnK AZ fun e9 ir A3=>?_)))
 have ux:=ik.le bw
 have uy:=ux.le bm
 have uz:=uy.le bk
 have uA:=uz.le bn
 have lA:=uA.le bz
 have q:=lA.el (wAZ ir)
 obtain ⟨om,BT,EB,uX,iB,Bm⟩:=q
 obtain ⟨BW,Cb,BX,Cc,rfl,DH,DI⟩:=Bm
 replace iB:Cl bF om (BT + bY.toNat * 3) [jV e9.Bib,.slice BW e9.Classes.length Cb,.slice BX e9.Legs.length Cc]:=iB
 refine rU Z (wT Z aq) (Zj Z Z uX Z zt zy (wDO ir) (wDV ir)) (rU Z (wT Z aq) (zD Z Z zZ Z zF) (ZM Z Z Z (wT Z aq) (bj.ldC (f:=0) iB (v:=jV e9.Bib) Z Z zK Z) Z (rU Z (wT Z aq) (zD Z cC zV Z ZL) (ZM Z Z Z (wT Z aq) (bj.ldB (j:=2) Z Z Z Zh (v:=.slice bf aw.Teams.length bg) Z) Z (zf Z Z Z (wT Z aq) Z dv (bnK A3 fun fb it A4=>?_))))))
 have q:=lA.el (wAZ it)
 obtain ⟨oq,BU,EC,uY,iC,Bn⟩:=q
 obtain ⟨BY,Cd,BZ,Ce,rfl,DJ,DK⟩:=Bn
 replace iC:Cl bF oq (BU + bL.toNat * 3) [jV fb.Bib,.slice BY fb.Classes.length Cd,.slice BZ fb.Legs.length Ce]:=iC
 refine rU Z (wT Z aq) (Zj Z Z uY Z zt zy (wDO it) (wDV it)) (rU Z (wT Z aq) (zD Z Z zZ Z zF) (ZM Z Z Z (wT Z aq) (bj.ldC (f:=0) iC (v:=jV fb.Bib) Z Z zK Z) Z (rU Z (wT Z aq) (zU Z Z Z) (rU Z (wF Z av) (zh Z (Zk aq.out) Z) (rU Z (wT Z ap) (zk Z (ZI av.out) Z) (oR Z (zh Z (Zk ap.out) Z) (eN (ifc A4 ?_ ?_))))))))
 intro fZ A5
 refine cT Z fZ (sR fL1 Z (oA Z Z (eN (zP (zN (zN (zg ?_)))))))
 have q:=wAW A5
 obtain ⟨Es,A6,po⟩:=q
 obtain rfl:=wBQ bu bv po
 refine zN ?_
 have q:=wAW A6
 obtain ⟨Ct,A8,pp⟩:=q
 obtain rfl:=wBQ bt bs (bJ Ct pp)
 refine zN (zg (zN ?_))
 have hE:=nA A8;first | subst r | cases hE
 exact ⟨rfl,_,(zw rfl),bF,_,(bj.pick [] _ (by decide) rfl),rfl,rfl⟩
 intro fZ A9
 exact cF Z fZ (kN (sR fL2 Z (oM Z cd (oA Z Z (eN (ZJ (zX (ZB (zI ⟨Z,bY,(nA A9).symm,⟨bF,cC,d9,ef,cN,eh,b5,Z,eu,eC,eD,(((((bK.trans bw).trans bm).trans bk).trans bn).trans bz),bj⟩⟩)))))))))
 intro aq Ba
 exact oF Z aq (oF Z aq (oF Z aq (oF Z aq (oF Z aq (oF Z aq (oF Z aq (oF Z aq (oF Z aq (oF Z aq (oF Z aq (oF Z aq (oF Z aq (rU Z (wF Z av) (zk Z (ZI aq.out) Z) (rU Z (wT Z ap) (zk Z (ZI av.out) Z) (oR Z (zh Z (Zk ap.out) Z) (eN (zu Z (kN (sR fL2 Z (oM Z cd (oA Z Z (eN (ZJ (zX (ZB (zI ⟨Z,bY,(nA Ba).symm,⟨bF,cC,d9,ef,cN,eh,b5,Z,eu,eC,eD,(((((bK.trans bw).trans bm).trans bk).trans bn).trans bz),bj⟩⟩))))))))))))))))))))))))))
 intro ap Bb
 exact oF Z ap (oF Z ap (oF Z ap (oF Z ap (oF Z ap (oF Z ap (oF Z ap (oF Z ap (oF Z ap (oF Z ap (zJ Z Z Z (wAC Z Z Z) (zJ Z Z Z (wAC Z Z Z) (zJ Z Z Z (wAC Z Z Z) (zJ Z Z Z (wAC Z Z Z) (zJ Z Z Z (wAC Z Z Z) (zJ Z Z Z (wAC Z Z Z) (zJ Z Z Z (wAC Z Z Z) (zJ Z Z Z (wAC Z Z Z) (zJ Z Z Z (wAC Z Z Z) (zJ Z Z Z (wAC Z Z Z) (zJ Z Z Z (wAC Z Z Z) (zJ Z Z Z (wAC Z Z Z) (zJ Z Z Z (wAC Z Z Z) (zJ Z Z Z (wAC Z Z Z) (zJ Z Z Z (wAC Z Z Z) (zJ Z Z Z (wAC Z Z Z) (zJ Z Z Z (wAC Z Z Z) (zJ Z Z Z (wAC Z Z Z) (zJ Z Z Z (wAC Z Z Z) (zJ Z Z Z (wAC Z Z Z) (zJ Z Z Z (wAC Z Z Z) (zJ Z Z Z (wAC Z Z Z) (zJ Z Z Z (wAC Z Z Z) (zJ Z Z Z (wAC Z Z Z) (oF Z ap (oR Z (zk Z (ZI ap.out) Z) (eN (zu Z (kN (sR fL2 Z (oM Z cd (oA Z Z (eN (ZJ (zX (ZB (zI ⟨Z,bY,(nA Bb).symm,⟨bF,cC,d9,ef,cN,eh,b5,Z,eu,eC,eD,(((((bK.trans bw).trans bm).trans bk).trans bn).trans bz),bj⟩⟩))))))))))))))))))))))))))))))))))))))))))))))
 rintro E4 Di ⟨jg,pq,⟨CG,qX,qY,qZ,rc,re,ri,rj,rk,rn,ro,BM,wL⟩⟩
 have Bc:=wDL bu bv pq
 refine rR fL2 Z (oR Z (ZC (zY Z ro Z) (congrArg (jV) xf.out)) (oM Z Z (zn ?_)))
 obtain rfl:=nA Bc
 exact zI ⟨Z,_,Z,⟨CG,Z,qX,qY,qZ,rc,re,ri,rj,rk,rn,(da.trans BM),wL⟩⟩
 rintro EM E5 m9 ⟨CH,rD,g9,rp,rq,Dw,Dx,Dy,Dz,DA,rt,eS,lT⟩ wW
 have Bd:=wDL bt bs wW
 have oO:Hid (¬ ((↑(((↑aj.length:Int):Int) - 0).toNat:Int) < (↑aj.length:Int))):=zH (wAp)
 refine sR fL1 Z (oR Z (zU Z rD rt) (eN (zG (cF Z oO (ZJ (zX (zX (ZB (zI (sR (.fl 0 (.fx 1 gCa .stop)) Z (oL Z (lT.ldBA (j:=2) Z Z g9 Zt ZN (vs:=B4) Z Z) ?_)))))))))))
 have uC:=lj.le dD
 have uD:=uC.le dE
 have uE:=uD.le dF
 have uF:=uE.le cY
 have uG:=uF.le cZ
 have uH:=uG.le cm
 have uJ:=uH.le eS
 have rE:=ij.le dD
 have rF:=rE.le dE
 have rG:=rF.le dF
 have rH:=rG.le cY
 have rI:=rH.le cZ
 have rJ:=rI.le cm
 have li:=rJ.le eS
 refine bnK Bd fun ab rK xi=>zM 0 Z Z Z Z (zL Z Z Tryz.call13 (zC Z zQ) Z) lT (fun hs=>wFo aw cK cM bf bg m9 CH hs uJ li rK) (.inr Z) ?_
 rintro dP CI DW mS iW vi ⟨bS,bT,jq,jK,ot,rfl,rfl,DB⟩
 let bZ:Res:=.row bS bT 3 1 (nB KL.encI ab.Rules.Classes)
 let dm:Res:=.row jq jK 73 3 ot
 have vj:sW w φ dP [bZ,dm,.blk ae 66 ai,B5,.blk aa 27 B4,B0,aW] mS:=vi
 refine ZD (cs:=B3) Z Z Z Z Z yA Z vj ?_
 intro C0 bB vk
 let jw:List Value:=[.slice bS ab.Rules.Classes.length bT,jV ab.Rules.Each,jV ab.Rules.Laps,jV ab.Rules.Spare,jV ab.Rules.Loop,jV ab.Rules.Unused,jV ab.Start,.slice jq ab.Teams.length jK]
 refine zx (j:=0) (vs:=jw) Z Z Z Z vk Z Z Z Z ZN (zA Z) Z Z Z ?_
 intro mT vl
 have vm:sW w φ dP [.blk bB 27 jw,bZ,dm,.blk ae 66 ai,B5,.blk aa 27 B4,B0,aW] mT:=vl
 refine eN (sR (.fl 0 (.fx 1 .nil .stop)) Z (oR Z (zD Z Z zV Z ZL) (zx (j:=0) (vs:=[.slice none 0 0]) Z Z Z Z vm Z Z Z Z ZL (zA Z) Z Z Z ?_)))
 intro fD vn
 let fz:Res:=.blk bB 27 [.slice bS ab.Rules.Classes.length bT,jV ab.Rules.Each,jV ab.Rules.Laps,jV ab.Rules.Spare,jV ab.Rules.Loop,jV ab.Rules.Unused,jV ab.Start,.slice none 0 0]
 have lD:sW w φ dP [fz,bZ,dm,.blk ae 66 ai,B5,.blk aa 27 B4,B0,aW] fD:=vn
 refine eN (zG (sR (wHQ (.fx 4 (.fl 5 (.fl 6 .nil)) .stop)) Z (oM Z rp (oR Z (zD Z g9 zV Z ZL) (oL Z (lD.ldB (j:=5) Z Z Z Zh (v:=.slice bf aw.Teams.length bg) Z) (oR Z (zd Z Z zt) ?_))))))
 have rL:=tX.le mn
 have rM:=rL.le mo
 have rN:=rM.le iX
 have rP:=rN.le iY
 have rQ:=rP.le dD
 have rS:=rQ.le dE
 have rT:=rS.le dF
 have rV:=rT.le cY
 have rW:=rV.le cZ
 have rX:=rW.le cm
 have rY:=rX.le eS
 have rZ:=rY.le iW
 have q:=bnd xi
 obtain ⟨⟨bR,je⟩,r6,lU⟩:=q
 try dsimp only at lU
 have vo:sW w φ dP [B5,fz,bZ,dm,.blk ae 66 ai,.blk aa 27 B4,B0,aW] fD:=lD.pick [4,0,1,2,3,5,6,7] _ (by decide) rfl
 refine zM 1 Z Z Z Z (zL Z Z Tryz.call42 (zC Z (zC Z zQ)) Z) vo (fun hs=>wEh e8 bC jt jP (↑aw.Teams.length:Int) fD dP hs rZ r6) (.inl Z) ?_
 rintro jj CJ DX mU mf vp ⟨fm,fN,mP,ow,rfl,rfl,DC⟩
 let bG:Res:=.blk bC 192 [.slice mP je.bytes.length ow,jV je.next,.int .u32 je.state]
 let bO:Res:=.row fm fN 3 1 (nB KL.encI bR)
 have vq:sW w φ jj [bO,bG,fz,bZ,dm,.blk ae 66 ai,.blk aa 27 B4,B0,aW] mU:=vp
 refine oR Z (zd Z Z zB) (oM Z Z (eN (zR (bnK lU fun mD wX xj=>?_))))
 have q:=wBU wX
 obtain ⟨iN,wY⟩:=q
 replace iN:=zH iN
 refine CK.forN' (fun cV cX σ_ w_=>∃ (φ_:PHeap) (cJ:Option Addr) (cL:Nat) (dZ:List Value),σ_ 313=jV (↑cV:Int)/\σ_ 5=.pointer (some ⟨aa,0,none⟩)/\σ_ 7=.slice aU aj.length aV/\σ_ 30=.pointer (some ⟨bB,0,none⟩)/\σ_ 311=.slice fm bR.length fN/\σ_ 312=jV (↑bR.length:Int)/\PHeap.Le jj φ_/\sW w φ φ_ [bG,.row bS bT 3 1 (nB KL.encI ab.Rules.Classes),.row cJ cL 73 3 dZ,.blk bB 27 [.slice bS ab.Rules.Classes.length bT,jV ab.Rules.Each,jV ab.Rules.Laps,jV ab.Rules.Spare,jV ab.Rules.Loop,jV ab.Rules.Unused,jV ab.Start,.slice cJ cX.length cL],.blk ae 66 ai,.blk aa 27 B4,B0,.row fm fN 3 1 (nB KL.encI bR)] w_/\RlL φ_ wFr cX dZ) wY ?_ ?_ ?_
 have vt:=vq.nilrow 73 3
 exact ⟨jj,none,0,[],rfl,g9,rq,rfl,rfl,rfl,(zS _),(vt.pick [2,4,0,3,6,7,8,1] _ (by decide) rfl),RlL.nil⟩
 rintro cV cX EF EN jz iI ⟨db,cJ,cL,dZ,ib,jS,pu,gc,jU,jW,mg,iD,r8⟩ Bu
 have jL:Hid ((↑cV:Int) < (↑bR.length:Int)):=zH (wBI iI)
 replace iI:=zH iI
 have xe:Hid (w64 ((↑cV:Int) + 1)=(↑(cV + 1):Int)):=zH (by have h1:=iN.out;have h2:=jL.out;rw [wAU] <;> omega)
 refine sR fL1 Z (oR Z (zU Z ib jW) (eN (zG (cT Z jL (kN (zG (zR (sR fL3 Z (bnK Bu fun _ ig xk=>?_)))))))))
 obtain ⟨Dj,lB⟩:=iD.rowSome (j:=7) rfl (by rw [wAK (f:=KL.encI) (sz:=1) (fun _=>rfl) bR];have hz:=wAq ig;omega)
 refine oR Z (ZH Z jU lB ib zB zF (wAq ig)) ?_
 have w9:=wCH (xs:=bR) (wAq ig)
 refine ZM rfl rfl rfl rfl (iD.ldR (j:=7) rfl lB rfl rfl zK (wAo (sz:=1) (fun _=>rfl) _ _ 0 _ w9 (by first | omega | rfl | simp) rfl)) rfl (OKS.ra rfl rfl rfl rfl rfl rfl (eN (Zb ZT [3,1,3,1,3,3,1,2,0,3,0] (wRo (.fx 7 (.fx 8 (.fl 9 (.fx 10 .nil .stop)) .stop) .stop)) (by kernel_rfl) ?_)))
 have dA:=iD.drew
 generalize hw_W1118:({ jz with drawn:=jz.drawn + 1 }:World)=C2 at dA ⊢
 refine oR Z (zD Z gc zV Z ZL) (oL Z (dA.ldB (j:=3) Z Z Z Zh (v:=.slice cJ cX.length cL) Z) (oR Z (zD Z jS zV Z ZL) (oL Z (dA.ldB (j:=5) Z Z Z Zh (v:=.slice bf aw.Teams.length bg) Z) (oM Z Z (bnK xk fun bE ii xl=>?_)))))
 have r9:=li.le iW
 have sb:=r9.le mf
 have sc:=sb.le mg
 have q:=sc.el (wAZ ii)
 obtain ⟨n7,BN,Eu,uK,iu,Bf⟩:=q
 obtain ⟨eT,eW,eU,eX,rfl,sd,se⟩:=Bf
 replace iu:Cl db n7 (BN + (gd bR cV).toNat * 3) [jV bE.Bib,.slice eT bE.Classes.length eW,.slice eU bE.Legs.length eX]:=iu
 refine oR Z (Zj Z Z uK Z zt zy (wDO ii) (wDV ii)) (oL Z (dA.ldCA (f:=0) iu Z Z Zy zy (us:=[jV bE.Bib,.slice eT bE.Classes.length eW,.slice eU bE.Legs.length eX]) Z Z) ?_)
 let dp:List Value:=[jV bE.Bib,.slice eT bE.Classes.length eW,.slice eU bE.Legs.length eX]
 refine ZF (pv:=[(0,.agg dp.toArray)]) (zs:=B9) (cs:=dp) Z Z Z Z Z (wAN Z wAa) zt zy Zi Z Z Z Z Z dA ?_
 intro mV n8 vv
 have ma:RlL db wFr [bE] dp:=(RlL.cons (R:=wFr) (x:=bE) (vs:=dp) ⟨eT,eW,eU,eX,rfl,sd,se⟩ RlL.nil)
 let jx:Res:=.blk bB 27 [.slice bS ab.Rules.Classes.length bT,jV ab.Rules.Each,jV ab.Rules.Laps,jV ab.Rules.Spare,jV ab.Rules.Loop,jV ab.Rules.Unused,jV ab.Start,.slice cJ cX.length cL]
 let fA:Res:=.row (some ⟨n8,0,none⟩) 1 73 3 dp
 have lE:sW w φ db [fA,bG,bZ,.row cJ cL 73 3 dZ,jx,.blk ae 66 ai,.blk aa 27 B4,B0,bO] mV:=vv
 refine bnK xl fun jf sf xm=>yF (R:=wFr) (j:=3) (xs:=cX) (ys:=[bE]) (zs:=jf) rfl rfl rfl rfl rfl Tryz.underlying25 wNH rfl rfl rfl rfl rfl rfl rfl lE rfl rfl rfl r8 ma (lE.srcR (j:=0) rfl (by decide) (RlL.len ma)) sf rfl ?_
 intro df dq gb mW vx Bg
 have vy:sW w φ db [fA,bG,bZ,.row df dq 73 3 gb,jx,.blk ae 66 ai,.blk aa 27 B4,B0,bO] mW:=vx
 refine oR Z (zD Z gc zV Z ZL) (zx (j:=4) (vs:=[.slice df jf.length dq]) Z Z Z Z vy Z Z Z Z ZL (zA Z) Z Z Z ?_)
 intro mX vz
 have vA:sW w φ db [fA,bG,bZ,.row df dq 73 3 gb,.blk bB 27 [.slice bS ab.Rules.Classes.length bT,jV ab.Rules.Each,jV ab.Rules.Laps,jV ab.Rules.Spare,jV ab.Rules.Loop,jV ab.Rules.Unused,jV ab.Start,.slice df jf.length dq],.blk ae 66 ai,.blk aa 27 B4,B0,bO] mX:=vz
 refine zn (ze (zI (rR fL2 Z (oR Z (ZC (zY Z ib Z) (congrArg (jV) xe.out)) (oM Z Z (zn ?_))))))
 cases xm
 exact zI ⟨rfl,⟨db,df,dq,gb,rfl,jS,pu,gc,jU,jW,mg,(vA.pick [1,2,3,4,5,6,7,8] _ (by decide) rfl),Bg⟩⟩
 rintro EO fE ⟨E6,fq,fO,ox,ru,Dr,py,pz,Ds,pC,BE,lG,sg⟩
 have oy:Hid (¬ ((↑(((↑bR.length:Int):Int) - 0).toNat:Int) < (↑bR.length:Int))):=zH (wAp)
 refine sR fL1 Z (oR Z (zU Z ru pC) (eN (zG (cF Z oy (ZJ (zX (zX (ZB (zI (sR (.fl 0 (.fx 1 (wIz (.nil)) .stop)) Z ?_))))))))))
 let cu:List Value:=[.slice bS ab.Rules.Classes.length bT,jV ab.Rules.Each,jV ab.Rules.Laps,jV ab.Rules.Spare,jV ab.Rules.Loop,jV ab.Rules.Unused,jV ab.Start,.slice fq mD.length fO]
 refine oL Z (lG.ldBA (j:=3) Z Z pz Zt ZN (vs:=cu) Z Z) ?_
 have q:=lG.freezeR (k:=1) (n:=ab.Rules.Classes.length) rfl (wAK (f:=KL.encI) (sz:=1) (fun _=>rfl) ab.Rules.Classes) (by decide)
 obtain ⟨Cz,mh,Bo,vB⟩:=q
 have vC:sW w φ Cz [bG,.row fq fO 73 3 ox,.blk bB 27 cu,.blk ae 66 ai,.blk aa 27 B4,B0,bO] fE:=vB
 have sh:=sg.le mh
 have q:=vC.freezeRR (R:=wFr) (k:=1) rfl sh rfl (by decide)
 obtain ⟨mE,mi,Bp,vD⟩:=q
 have vE:sW w φ mE [bG,.blk bB 27 cu,.blk ae 66 ai,.blk aa 27 B4,B0,bO] fE:=vD
 have sj:=Bo.le mi
 have q:=bnd xj
 obtain ⟨⟨dN,Cu⟩,sm,lV⟩:=q
 try dsimp only at lV
 refine zM 0 Z Z Z Z (zL Z Z Tryz.call20 (zC Z zQ) Z) vE (fun hs=>wFf (⟨ab.Rules,ab.Start,mD⟩:wAL) bS bT fq fO fE mE hs sj Bp sm) (.inr Z) ?_
 rintro mF CL DY fG BF vG ⟨ft,fP,rfl,rfl⟩
 have lH:sW w φ mF [.row ft fP 59 3 (nB wAE dN),bG,.blk bB 27 cu,.blk ae 66 ai,.blk aa 27 B4,B0,bO] fG:=vG
 refine oM Z Z (oR Z (ZX Z Z (v:=.slice ft dN.length fP) Z) (oR Z (ZX Z Z (v:=jV Cu) Z) (oA Z Z (oA Z Z (eN (sR (wKd (.fx 5 (.fl 6 (.fl 7 (.fx 8 (.fl 9 (.fl 10 .nil)) .stop))) .stop)) Z (oM Z Z (oR Z (yQ Z Z Z) (oM Z Z (ifc lV ?_ ?_))))))))))
 intro bU xn
 refine zf Z Z Z (wT Z bU) Z Z (zf Z Z Z (wT Z bU) Z py ?_)
 have q:=lH.freezeR (k:=0) (n:=dN.length) rfl (wAK (f:=wAE) (sz:=3) (fun _=>rfl) dN) (by decide)
 obtain ⟨mG,BG,Bq,vH⟩:=q
 have vJ:sW w φ mG [bG,.blk bB 27 cu,.blk ae 66 ai,.blk aa 27 B4,B0,bO] fG:=vH
 have sq:=mb.le cm
 have su:=sq.le eS
 have sv:=su.le iW
 have sw:=sv.le mf
 have sA:=sw.le BE
 have sC:=sA.le mh
 have sD:=sC.le mi
 have sE:=sD.le BF
 have sF:=sE.le BG
 refine bnK xn fun ED sG xo=>zM 0 Z Z Z (wT Z bU) (zL Z Z Tryz.call43 (zC Z (zC Z zQ)) Z) vJ (fun hs=>wDq dN ft fP aj aU aV fG mG hs Bq sF sG) (.inr Z) ?_
 rintro jk CM DZ jB DL vK ⟨rfl,rfl⟩
 have lI:sW w φ jk [bG,.blk bB 27 cu,.blk ae 66 ai,.blk aa 27 B4,B0,bO] jB:=vK
 refine oR Z (zh Z (Zk bU.out) Z) (oM Z Z (ifc xo ?_ ?_))
 intro dr xp
 refine bnK xp fun EE sH xq=>zM 0 Z Z Z (zO Z Z (congrArg nE dr.out)) (zL Z Z Tryz.call12 zQ Z) lI (fun hs=>wFp jB jk hs sH) (.inr Z) ?_
 rintro mH CN D0 mY DM vL ⟨rfl,rfl⟩
 have vM:sW w φ mH [bG,.blk bB 27 cu,.blk ae 66 ai,.blk aa 27 B4,B0,bO] mY:=vL
 refine oR Z (zh Z (congrArg nE dr.out) Z) (oA Z Z (eN (zP ?_)))
 have hE:=nA xq;first | subst r | cases hE
 exact ⟨rfl,_,(zw rfl),mH,_,(vM.pick [] _ (by decide) rfl),rfl,rfl⟩
 intro dr xr
 refine yW Z Z Z (zr Z Z (congrArg nE (nL.2 dr.out)) Z) (oR Z (zk Z (congrArg nE (nL.2 dr.out)) Z) (oA Z Z (eN (zP ?_))))
 have hE:=nA xr;first | subst r | cases hE
 exact ⟨rfl,_,(zw rfl),jk,_,(lI.pick [] _ (by decide) rfl),rfl,rfl⟩
 intro bU xt
 refine oF Z bU (oF Z bU (yW Z Z Z (zr Z Z (ZI bU.out) Z) (oR Z (zk Z (ZI bU.out) Z) (oM Z Z (yW Z Z Z (zr Z Z Z Z) (oR Z (zk Z Z Z) (oA Z Z (eN (zP ?_)))))))))
 have hE:=nA xt;first | subst r | cases hE
 exact ⟨rfl,_,(zw rfl),mF,_,(lH.pick [] _ (by decide) rfl),rfl,rfl⟩
 intro fR xu
 refine cT Z fR (sR fL1 Z (oA Z Z (eN (zP (zN ?_)))))
 have hE:=nA xu;first | subst r | cases hE
 exact ⟨rfl,_,(zw rfl),jl,_,(eQ.pick [] _ (by decide) rfl),rfl,rfl⟩
 intro bi xw
 refine oT Z bi (oT Z bi (oT Z bi (oT Z bi (oT Z bi (oT Z bi (oR Z (zh Z (Zk bi.out) Z) (eN (ZG Z (sR fL1 Z (oA Z Z (eN (zP (zN ?_)))))))))))))
 have hE:=nA xw;first | subst r | cases hE
 exact ⟨rfl,_,(zw rfl),jl,_,(eQ.pick [] _ (by decide) rfl),rfl,rfl⟩
 intro fQ xx
 refine cT Z fQ (sR fL1 Z (oA Z Z (eN (zP (zN ?_)))))
 have hE:=nA xx;first | subst r | cases hE
 exact ⟨rfl,_,(zw rfl),de,_,(bQ.pick [] _ (by decide) rfl),rfl,rfl⟩
 intro ba xz
 refine oT Z ba (oT Z ba (oT Z ba (oT Z ba (oT Z ba (oT Z ba (oT Z ba (oR Z (zh Z (Zk ba.out) Z) (eN (ZG Z (sR fL1 Z (oA Z Z (eN (zP (zN ?_))))))))))))))
 have hE:=nA xz;first | subst r | cases hE
 exact ⟨rfl,_,(zw rfl),de,_,(bQ.pick [] _ (by decide) rfl),rfl,rfl⟩
 intro bh xA
 refine oT Z bh (oT Z bh (oT Z bh (oT Z bh (oT Z bh (oT Z bh (oR Z (zh Z (Zk bh.out) Z) (oM Z Z (oN Z (oN Z (oN Z (oN Z (oN Z (oN Z (oN Z (oR Z (zh Z Z Z) (eN (ZG Z (sR fL1 Z (oA Z Z (eN (zP (zN ?_))))))))))))))))))))))
 have hE:=nA xA;first | subst r | cases hE
 exact ⟨rfl,_,(zw rfl),de,_,(bQ.pick [] _ (by decide) rfl),rfl,rfl⟩
 intro cA xB
 refine oT Z cA (oT Z cA (oR Z (zh Z (Zk cA.out) Z) (oM Z Z (oN Z (oN Z (oN Z (oN Z (oN Z (oN Z (oR Z (zh Z Z Z) (oM Z Z (oN Z (oN Z (oN Z (oN Z (oN Z (oN Z (oN Z (oR Z (zh Z Z Z) (eN (ZG Z (sR fL1 Z (oA Z Z (eN (zP (zN ?_))))))))))))))))))))))))))
 have hE:=nA xB;first | subst r | cases hE
 exact ⟨rfl,_,(zw rfl),de,_,(bQ.pick [] _ (by decide) rfl),rfl,rfl⟩
 intro cz xC
 refine oT Z cz (oT Z cz (oR Z (zh Z (Zk cz.out) Z) (oM Z Z (oN Z (oN Z (oR Z (zh Z Z Z) (oM Z Z (oN Z (oN Z (oN Z (oN Z (oN Z (oN Z (oR Z (zh Z Z Z) (oM Z Z (oN Z (oN Z (oN Z (oN Z (oN Z (oN Z (oN Z (oR Z (zh Z Z Z) (eN (ZG Z (sR fL1 Z (oA Z Z (eN (zP (zN ?_))))))))))))))))))))))))))))))
 have hE:=nA xC;first | subst r | cases hE
 exact ⟨rfl,_,(zw rfl),de,_,(bQ.pick [] _ (by decide) rfl),rfl,rfl⟩
end Go.Proofs.YtglpalgiipahjaaGreat
