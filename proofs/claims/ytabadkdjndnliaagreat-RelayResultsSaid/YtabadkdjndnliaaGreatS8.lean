import Derived.Test.YtabadkdjndnliaaGreatS7
import Derived.Test.YtabadkdjndnliaaGreatS6
set_option linter.all false
open List renaming flatMap->nA,set->nH,length_set->nI,getElem_cons_succ->nK,getElem_cons_zero->nL,getElem_toArray->nM,length_append->nO,length_cons->nP,length_nil->nQ,replicate->nR
open Option.some renaming inj->nD
open Go.Value renaming bool->nE
open Bool renaming eq_false_iff->nG
open Int renaming toNat_natCast->nJ
open Eq renaming trans->nN
namespace Go.Proofs.YtabadkdjndnliaaGreat
open Go.KL
def gBq:Sch:=.fx 0 (.fx 1 .nil .stop) .stop
def gBr:Sch:=.fx 1 (.fl 2 .nil) .stop
def gBs:Sch:=.fx 2 (.fl 3 .nil) .stop
def gBt:Sch:=.fx 0 (.fl 1 .nil) .stop
def gBu:Sch:=.fl 0 (.fx 1 .nil .stop)
def gBv:Sch:=.fx 3 (.fl 4 .nil) .stop
def gBw:Sch:=.fx 11 (.fx 12 .nil .stop) .stop
def gBx:Sch:=.fx 10 (.fx 12 .nil .stop) .stop
def gBy:Sch:=.fx 2 (.fx 3 .nil .stop) .stop
def gBz:Sch:=.fx 8 (.fl 9 .nil) .stop
def gCa:Sch:=.fx 5 (.fx 6 .nil .stop) .stop
def gCb:Sch:=.fx 0 (.fx 6 .nil .stop) .stop
def gCc:Sch:=.fl 0 gBr
def gCd:Sch:=.fx 0 gBr .stop
def gCe:Sch:=.fx 10 (.fx 11 (.fl 12 .nil) .stop) .stop
def gCf:Sch:=.fx 0 (.fl 1 (.fl 2 .nil)) .stop
def gCg:Sch:=.fx 3 (.fl 4 (.fx 5 .nil .stop)) .stop
def gCh:Sch:=.fx 4 (.fx 5 (.fl 6 .nil) .stop) .stop
def gCi:Sch:=.fx 1 (.fl 2 (.fl 3 .nil)) .stop
def gCj:Sch:=.fx 4 gCa .stop
def gCk:Sch:=.fx 2 gCa .stop
def gCl:Sch:=.fl 0 (.fl 1 gBs)
def gCm:Sch:=.fx 8 (.fl 9 gBx) .stop
def gCn:Sch:=.fx 4 (.fl 9 gBx) .stop
def gCo:Sch:=.fl 0 (.fl 1 gBy)
def gCp:Sch:=.fl 0 (.fx 1 gBy .stop)
def gCq:Sch:=.fx 0 gCa (.fx 5 gCb .stop)
def gCr:Sch:=.fx 4 (.fx 9 gCe .stop) .stop
def gCs:Sch:=.fl 9 (.fx 10 gBw (.fx 11 gBx .stop))
def gCt:Sch:=.fl 0 (.fl 1 (.fx 2 (.fl 3 (.fl 4 .nil)) .stop))
def gCu:Sch:=.fl 0 (.fx 1 (.fl 2 (.fx 3 (.fx 4 .nil .stop) .stop)) .stop)
set_option maxHeartbeats 4000000
theorem wGe (p0:List Int) (p1:Int) (w:World) (U:PHeap) (hS:St0 w U [])  {r:(List Int)} (hm:wCt p0 p1=some r):Gv Tryz.prog 323 [.slice none 0 0,jV p1] w (wBp w [] U (fun U_ L_ v=>∃ (A0:Option Addr) (c0:Nat),v=.slice A0 r.length c0/\L_=[.row A0 c0 3 1 (nA KL.encI r)])):=by
 unfold wCt at hm
 refine Gv.of Tryz.func323 Z Tryz.ntmps323 Tryz.results323 Z (sR fL1 Z (oA Z Z (eN (zG (sR fL2 Z (oM Z Z (oR Z (zV Z Z Z) (eN ?_))))))))
 by_cases c1:p1 < 0
 have aq:=hm;rw [if_pos c1] at aq;replace c1:=zI c1
 refine cT Z c1 (rR gBq Z ?_)
 cases aq
 have au:=hm;rw [if_neg c1] at au;replace c1:=zI c1
 refine cF Z c1 (kN (zG (sR fL8 rfl (zh rfl rfl rfl rfl rfl rfl (zh rfl rfl rfl rfl rfl rfl (zf rfl rfl rfl rfl (fun _=>Runs.capn rfl rfl zA) (zh rfl rfl rfl rfl rfl rfl (zf rfl rfl rfl rfl (fun _=>zW rfl rfl zA) (zf rfl rfl rfl rfl (fun _=>zz (yA rfl rfl rfl) (congrArg (jV) (show w64 (0 - 0)=0 by decide))) (zf rfl rfl rfl rfl (fun _=>yA rfl rfl rfl) (yw rfl rfl rfl rfl rfl rfl (eN (sR fL2 rfl (zh rfl rfl rfl rfl rfl rfl (zf rfl rfl rfl rfl (fun _=>yP rfl rfl rfl) (eN (ifc au ?_ ?_)))))))))))))))))
 intro c4 a8
 refine cT Z c4 (rR (wGD (.fx 5 (wST (.nil)) .stop)) rfl (zh rfl rfl rfl rfl rfl rfl (zh rfl rfl rfl rfl rfl rfl (zf rfl rfl rfl rfl (fun _=>Runs.capn rfl rfl zA) (zf rfl rfl rfl rfl (fun _=>zz (Runs.slc (sz:=1) (a:=0) (b:=0) rfl rfl (.inr ⟨rfl,rfl⟩) (.inl ⟨_,rfl,rfl⟩) zA zC (by decide) (by decide) (by decide) (Nat.le_refl _)) rfl) (zh rfl rfl rfl rfl rfl rfl (bnK a8 fun x6 h7 bb=>OKS.appendZ (enc:=KL.encI) (z:=(0:Int)) (xs:=x6) rfl rfl rfl rfl rfl Zy Tryz.underlying3 wFN rfl rfl rfl rfl rfl hS rfl rfl h7 rfl ?_)))))))
 intro W9 ag ah aw
 have ap:sW w U U [.row ag ah 3 1 (nA KL.encI x6)] W9:=aw
 refine oM Z Z (oR Z (zW Z Z zA) ?_)
 have bd:=ap.rowCap (j:=0) rfl (by decide) (wAC (f:=KL.encI) (sz:=1) (fun _=>rfl) x6)
 refine zf (v:=.slice ag 0 ah) Z Z Z Z (fun _=>zz (Runs.slc (sz:=1) (a:=0) (b:=0) Z Z (.inr ⟨Z,Z⟩) (.inl ⟨_,Z,Z⟩) zA zC (Int.le_refl _) (Int.le_refl _) (Int.natCast_nonneg _) bd) slc0) ?_
 have ax:=ap.cutRowM (enc:=KL.encI) (k:=0) (b:=0) rfl
 have ay:sW w U U [.row ag ah 3 1 (nA KL.encI ([]:List Int))] W9:=ax
 refine oA Z Z (eN (sR fL2 Z (oM Z Z (oA Z Z (eN (zS ?_))))))
 cases bb
 exact ⟨Z,_,(zw Z),U,_,ay,ag,ah,Z,Z⟩
 intro c4 a7
 refine cF Z c4 (kN (sR fL2 Z (oM Z Z (oA Z Z (eN (zS ?_))))))
 have az:=hS.nilrow 3 1
 cases a7
 exact ⟨Z,_,(zw Z),U,_,az,none,0,Z,Z⟩
theorem wGJ (p0:List (List Int)) (ai:Option Addr) (aj:Nat) (w:World) (U:PHeap) (hS:St0 w U []) (bx:SlR U wDe ai aj p0) {r:(List Int)} (hm:wCV p0=some r):Gv Tryz.prog 263 [.slice ai p0.length aj] w (wBp w [] U (fun U_ L_ v=>∃ (A0:Option Addr) (c0:Nat),v=.slice A0 r.length c0/\L_=[.row A0 c0 3 1 (nA KL.encI r)])):=by
 unfold wCV at hm
 refine Gv.of Tryz.func263 Z Tryz.ntmps263 Tryz.results263 Z (sR fL1 Z (oA Z Z (eN (sR fL1 Z (oA Z Z (eN (zG (sR fL3 Z (oM Z Z (oR Z (zW Z Z zm) (oM Z Z (eN (zR (bnK hm fun c9 cD cO=>?_))))))))))))))
 have q:=wAw cD
 obtain ⟨a8,cB⟩:=q
 replace a8:=zI a8
 refine CK.forN' (fun k7 x6 σ_ w_=>∃ (U_:PHeap),σ_ 11=jV (↑k7:Int)/\σ_ 0=.slice ai p0.length aj/\σ_ 3=jV x6/\σ_ 9=.slice ai p0.length aj/\σ_ 10=jV (↑p0.length:Int)/\PHeap.Le U U_/\sW w U U_ [] w_) cB ?_ ?_ ?_
 exact ⟨U,Z,Z,Z,Z,Z,(zN _),hS⟩
 rintro k7 x6 dt dw df az ⟨bh,au,bX,bY,bs,bt,bA,bw⟩ cS
 have bn:Hid ((↑k7:Int) < (↑p0.length:Int)):=zI (wAo az)
 replace az:=zI az
 have cH:Hid (w64 ((↑k7:Int) + 1)=(↑(k7 + 1):Int)):=zI (by have h1:=a8.out;have h2:=bn.out;rw [wAQ] <;> omega)
 refine sR fL1 Z (oR Z (zV Z au bt) (eN (zG (cT Z bn (kN (zG (zR (sR fL3 Z (bnK cS fun bH bv cK=>?_)))))))))
 have co:=bx.le bA
 have q:=co.el (wAK bv)
 obtain ⟨bQ,cY,dr,ct,ax,cR⟩:=q
 obtain ⟨bD,bF,rfl,dm⟩:=cR
 replace ax:Cl bh bQ (cY + k7 * 1) [.slice bD bH.length bF]:=ax
 refine oR Z (ZC Z bs ct au zm zT (wAg bv)) (oL Z (bw.ldC (f:=0) ax (v:=.slice bD bH.length bF) Z Z ze Z) (oA Z Z (eN (sR fL5 Z (oM Z bY (oM Z Z (oR Z (zW Z Z zA) (oR Z (zY Z Z Z) (oA Z Z (eN (sR fL2 Z (oM Z Z (oR Z (zV Z Z Z) (eN (ifc cK ?_ ?_)))))))))))))))
 intro ap cL
 refine cT Z ap (rR gBq Z ?_)
 cases cL
 intro ap cM
 refine cF Z ap (ZO (zd (zF (rR fL2 Z (oR Z (zz (zY Z au Z) (congrArg (jV) cH.out)) (oM Z Z (zg ?_)))))))
 cases cM
 exact zF ⟨Z,⟨bh,Z,bX,Z,bs,bt,bA,bw⟩⟩
 rintro dy bN ⟨bL,cd,bZ,b4,di,ca,cV,cy⟩
 have bT:Hid (¬ ((↑(((↑p0.length:Int):Int) - 0).toNat:Int) < (↑p0.length:Int))):=zI (wAc)
 refine sR fL1 Z (oR Z (zV Z cd ca) (eN (zG (cF Z bT (ZD (zb (zb (zr (zF (sR gCc Z (oM Z b4 (bnK cO fun cZ cp cN=>zP 0 Z Z Z Z (zQ Z Z Tryz.call323 (zH Z (zH Z zZ)) Z) cy (fun hs=>wGe [] c9 bN bL hs cp) (.inr Z) ?_))))))))))))
 rintro an dd dp bO cW cz ⟨bg,bo,rfl,rfl⟩
 have cA:sW w U an [.row bg bo 3 1 (nA KL.encI cZ)] bO:=cz
 refine oA Z Z (eN (zG (sR fL3 Z (oM Z bZ (oR Z (zW Z Z zm) (oM Z Z (eN (zR (bnK cN fun dv cC cP=>?_)))))))))
 have q:=wAw cC
 obtain ⟨bb,cE⟩:=q
 replace bb:=zI bb
 refine CK.forN' (fun ah ak σ_ w_=>∃ (U_:PHeap) (am:Option Addr) (aq:Nat),σ_ 27=jV (↑ah:Int)/\σ_ 6=.slice am ak.length aq/\σ_ 25=.slice ai p0.length aj/\σ_ 26=jV (↑p0.length:Int)/\PHeap.Le an U_/\sW w U U_ [.row am aq 3 1 (nA KL.encI ak)] w_) cE ?_ ?_ ?_
 exact ⟨an,bg,bo,Z,Z,Z,Z,(zN _),cA⟩
 rintro ah ak du dz dg a7 ⟨ao,am,aq,av,bU,bp,br,bz,ay⟩ cU
 have bj:Hid ((↑ah:Int) < (↑p0.length:Int)):=zI (wAo a7)
 replace a7:=zI a7
 have cG:Hid (w64 ((↑ah:Int) + 1)=(↑(ah + 1):Int)):=zI (by have h1:=bb.out;have h2:=bj.out;rw [wAQ] <;> omega)
 refine sR fL1 Z (oR Z (zV Z av br) (eN (zG (cT Z bj (kN (zG (zR (sR fL3 Z (bnK cU fun bd bu cI=>?_)))))))))
 have cg:=bx.le cV
 have ch:=cg.le cW
 have ci:=ch.le bz
 have q:=ci.el (wAK bu)
 obtain ⟨bP,cX,dq,cr,aw,cQ⟩:=q
 obtain ⟨bC,bE,rfl,cj⟩:=cQ
 replace aw:Cl ao bP (cX + ah * 1) [.slice bC bd.length bE]:=aw
 refine oR Z (ZC Z bp cr av zm zT (wAg bu)) (oL Z (ay.ldC (f:=0) aw (v:=.slice bC bd.length bE) Z Z ze Z) (oA Z Z (eN (rR gCl Z (oM Z bU (oM Z Z (bnK cI fun bG cm cJ=>yE (j:=0) (enc:=KL.encI) (xs:=ak) (ys:=bd) (zs:=bG) Z Z Z Z Z Zy wFN Z Z Z Z Z Z ay Z Z Z (ay.srcS cj) (fun _=>Z) (fun _=>Z) cm Z ?_)))))))
 intro bf bm bM cu
 have cw:sW w U ao [.row bf bm 3 1 (nA KL.encI bG)] bM:=cu
 refine oA Z Z (zg (zd (zF (rR fL2 Z (oR Z (zz (zY Z av Z) (congrArg (jV) cG.out)) (oM Z Z (zg ?_)))))))
 cases cJ
 exact zF ⟨Z,⟨ao,bf,bm,Z,Z,bp,br,bz,cw⟩⟩
 rintro dx de ⟨bK,bJ,bR,cc,bV,dh,bW,dn,cx⟩
 have bS:Hid (¬ ((↑(((↑p0.length:Int):Int) - 0).toNat:Int) < (↑p0.length:Int))):=zI (wAc)
 refine sR fL1 Z (oR Z (zV Z cc bW) (eN (zG (cF Z bS (ZD (zb (zb (zr (zF (sR fL2 Z (oM Z bV (oA Z Z (eN (zS ?_))))))))))))))
 have hE:=nD cP;first | subst r | cases hE
 exact ⟨Z,_,(zw Z),bK,_,cx,bJ,bR,Z,Z⟩
theorem wGf (p0:List Int) (ag:Option Addr) (ah:Nat) (w:World) (U:PHeap) (hS:St ⟨w,[.row ag ah 3 1 (nA KL.encI p0)],U⟩ U [.row ag ah 3 1 (nA KL.encI p0)] w) {r:List Int} (hm:wDY p0=some r):Gv Tryz.prog 264 [.slice ag p0.length ah] w (wBp w [.row ag ah 3 1 (nA KL.encI p0)] U (fun U_ L_ v=>v=.tuple #[]/\L_=[.row ag ah 3 1 (nA KL.encI r)]/\r.length=p0.length)) :=
 wOt (fun b o c zs w h1 h2 h3=>Go.Proofs.Tryz.slices_Sort_int b o c zs w h1 h2 h3) (fun p c w=>Go.Proofs.Tryz.slices_Sort_int_none p c w) hS hm
theorem wFw (p0:List Int) (ag:Option Addr) (ah:Nat) (w:World) (U:PHeap) (hS:St ⟨w,[.row ag ah 3 1 (nA KL.encI p0)],U⟩ U [.row ag ah 3 1 (nA KL.encI p0)] w) {r:List Int} (hm:wCx p0=some r):Gv Tryz.prog 266 [.slice ag p0.length ah] w (wBp w [.row ag ah 3 1 (nA KL.encI p0)] U (fun U_ L_ v=>∃ (A0:Option Addr) (c0:Nat),v=.slice A0 r.length c0/\L_=[.row A0 c0 3 1 (nA KL.encI r)])) :=
 wLg (fun b o c zs w h1 h2 h3=>Go.Proofs.Tryz.slices_Compact_int b o c zs w h1 h2 h3) (fun p c w=>Go.Proofs.Tryz.slices_Compact_int_empty p c w) hS hm
theorem wFi {S E:Type} (PY:S->PHeap->List Res->Prop) (PE:E->PHeap->List Res->Prop) (f:S->Int->Option (S ⊕ E)) (y:Nat) (s0:S) (p1:List Int) (bf:Nat) (ak:Option Addr) (am:Nat) (w:World) (L:List Res) (U:PHeap) (hS:St ⟨w,L,U⟩ U L w) (hP:PY s0 U L) (hY:YOK Tryz.prog y wGy PY PE f U) (bC:Cl U bf 0 [.slice ak p1.length am]) (bD:Sl U 1 ak am p1.length (nA KL.encI p1)) {r:S ⊕ E} (hm:wBR f s0 p1=some r):Gv Tryz.prog 325 [.func (.yield y) #[] #[],.pointer (some ⟨bf,0,none⟩)] w (ItS w L U PY PE r):=by
 unfold wBR at hm
 refine Gv.of Tryz.func325 Z Tryz.ntmps325 Tryz.results325 Z (sR fL3 Z (oL Z (hS.ldC (f:=0) bC (v:=.slice ak p1.length am) Z Z ze Z) (oR Z (zW Z Z zA) (oM Z Z (eN (zR ?_))))))
 have q:=wBQ hm
 obtain ⟨cc,aq⟩:=q
 have q:=wBP aq
 obtain ⟨av,bG⟩:=q
 replace av:=zI av
 refine yF (fun ag bh σ_ w_=>∃ (U_:PHeap) (an:List Res),σ_ 7=jV (↑ag:Int)/\σ_ 0=.func (.yield y) #[] #[]/\σ_ 5=.slice ak p1.length am/\σ_ 6=jV (↑p1.length:Int)/\PHeap.Le U U_/\St ⟨w,L,U⟩ U_ an w_/\PY bh U_ an) bG ?_ ?_ ?_
 exact ⟨U,L,Z,Z,Z,Z,(zN _),hS,hP⟩
 rintro ag bh cd ch bU au ⟨bT,an,ap,az,a7,a8,aw,bd,br⟩ bN bE
 have ay:Hid ((↑ag:Int) < (↑p1.length:Int)):=zI (wAo au)
 replace au:=zI au
 have bH:Hid (w64 ((↑ag:Int) + 1)=(↑(ag + 1):Int)):=zI (by have h1:=av.out;have h2:=ay.out;rw [wAQ] <;> omega)
 refine sR fL1 Z (oR Z (zV Z ap a8) (eN (zG (cT Z ay (kN (zG (zR (sR fL3 Z (bnK bN fun bi bb bI=>?_)))))))))
 have bs:=bD.le aw
 have q:=bs.el (fun _=>rfl) (wAK bb)
 obtain ⟨bW,ca,bv,bw⟩:=q
 refine oR Z (ZC Z a7 bv ap zA zC (wAg bb)) (oL Z (bd.ldC (f:=0) bw (v:=jV bi) Z Z zM Z) (oA Z Z (eN (sR gCl Z (oM Z az (oM Z Z (bnK bI fun bR bt aj=>OKS.yieldT 0 (a:=bi) Z Z Z Z Z Z (zH Z zZ) bd hY aw br Z bt Z ?_)))))))
 rintro ah ao bX ax bO be ai
 rcases bR with bP | bP
 try dsimp only at aj ai
 obtain ⟨rfl,bL⟩:=ai
 have bx:St ⟨w,L,U⟩ ah ao ax:=be
 refine oR Z (Za Z Z) (eN (zn Z (ZO (zd (zF (rR fL2 Z (oR Z (zz (zY Z ap Z) (congrArg (jV) bH.out)) (oM Z Z (zg ?_)))))))))
 have q:=nD aj
 obtain rfl:=q
 exact zF ⟨Z,_,Z,⟨ah,ao,Z,az,a7,a8,(aw.trans bO),bx,bL⟩⟩
 try dsimp only at aj ai
 obtain ⟨rfl,bM⟩:=ai
 have bz:St ⟨w,L,U⟩ ah ao ax:=be
 refine oR Z (Za Z Z) (eN (ZA Z (zS (zU (zK ?_)))))
 have q:=wAM aj
 obtain ⟨bQ,bJ,bn⟩:=q
 have q:=wBI hm aq (bE bQ bn)
 obtain rfl:=q
 refine zK (zU ?_)
 cases bJ
 exact ⟨Z,_,(wOp),ah,_,bz,bM⟩
 rintro cg ci bV ⟨bj,bS,bp,bY,bZ,bo,b4,bA,bu⟩ bF
 have bK:=wCg hm aq bF
 have bm:Hid (¬ ((↑(((↑p1.length:Int):Int) - 0).toNat:Int) < (↑p1.length:Int))):=zI (wAc)
 refine sR fL1 Z (oR Z (zV Z bp bo) (eN (zG (cF Z bm (ZD (zb (zb (zr ?_))))))))
 cases bK
 exact ⟨Z,_,(wOp),bj,_,bA,bu⟩
theorem wGK (p0:List Int) (ah:Option Addr) (ai:Nat) (w:World) (U:PHeap) (hS:St0 w U []) (au:Sl U 1 ah ai p0.length (nA KL.encI p0)) {r:Unit} (hm:wDK p0=some r):Gv Tryz.prog 265 [.slice ah p0.length ai] w (wBp w [] U (fun U_ L_ v=>∃ (b0:Nat),v=.func (.func 325) #[] #[.pointer (some ⟨b0,0,none⟩)]/\L_=[]/\Cl U_ b0 0 [.slice ah p0.length ai])):=by
 unfold wDK at hm
 refine Gv.of Tryz.func265 rfl Tryz.ntmps265 Tryz.results265 rfl (sR gBt rfl (ZX (cs:=[.slice ah p0.length ai]) rfl rfl rfl rfl rfl rfl (by rfl) hS ?_))
 intro W1 b2 ao
 have q:=ao.freeze (k:=0) rfl
 obtain ⟨U5,av,ag,ap⟩:=q
 replace ag:=Cl.of ag
 have aq:sW w U U5 [] W1:=ap
 replace ag:Cl U5 b2 0 [.slice ah p0.length ai]:=ag
 refine oA Z Z (eN (sR fL2 Z (oR Z (YN Z zZ (zH Z zZ)) (oA Z Z (eN (zS ?_))))))
 cases hm
 exact ⟨Z,_,(zw Z),U5,_,aq,b2,Z,Z,ag⟩
theorem wHn (p0:wAF) (au:Option Addr) (av:Nat) (ak:Option Addr) (am:Nat) (w:World) (U:PHeap) (hS:St0 w U []) (bT:Sl U 1 au av p0.Bibs.length (nA KL.encI p0.Bibs)) (bK:SlR U wDe ak am p0.Times) {r:(List Int)} (hm:wCy p0=some r):Gv Tryz.prog 188 [.agg #[jV p0.Laps,.slice au p0.Bibs.length av,.slice ak p0.Times.length am]] w (wBp w [] U (fun U_ L_ v=>∃ (b0:Nat) (A0:Option Addr) (c0:Nat),v=.func (.func 325) #[] #[.pointer (some ⟨b0,0,none⟩)]/\L_=[]/\Cl U_ b0 0 [.slice A0 r.length c0]/\Sl U_ 1 A0 c0 r.length (nA KL.encI r))):=by
 unfold wCy at hm
 refine Gv.of Tryz.func188 Z Tryz.ntmps188 Tryz.results188 Z (sR gBt Z ?_)
 let B0:List Value:=[jV p0.Laps,.slice au p0.Bibs.length av,.slice ak p0.Times.length am]
 refine ZX (cs:=B0) rfl rfl rfl rfl rfl rfl (by rfl) hS ?_
 intro W1 b2 bh
 refine oA Z Z (eN (sR gCl Z (oR Z (zD Z Z Zb Z ZV) (oL Z (bh.ldB (j:=0) Z Z Z Zj (v:=.slice ak p0.Times.length am) Z) (bnK hm fun x5 h6 bN=>zP 0 Z Z Z Z (zQ Z Z Tryz.call263 (zH Z zZ) Z) bh (fun hs=>wGJ p0.Times ak am W1 U hs bK h6) (.inr Z) ?_)))))
 rintro U8 L9 bY bd bU bz ⟨ag,ai,rfl,rfl⟩
 have bA:sW w U U8 [.row ag ai 3 1 (nA KL.encI x5),.blk b2 66 B0] bd:=bz
 refine oA Z Z (eN (sR gBu Z (oM Z Z (bnK bN fun aw br bL=>zP 1 Z Z Z Z (zQ Z Z Tryz.call264 (zH Z zZ) Z) bA (fun hs=>wGf x5 ag ai bd U8 hs br) (.inl Z) ?_))))
 rintro az bP bZ be bV bC ⟨rfl,rfl,bs⟩
 have bD:sW w U az [.row ag ai 3 1 (nA KL.encI aw),.blk b2 66 B0] be:=bC
 refine eN (sR (.fl 0 (.fx 1 gBs .stop)) rfl (zh rfl rfl rfl rfl rfl (nN (b:=(.slice ag x5.length ai:Value)) (c:=(.slice ag aw.length ai:Value)) rfl (by rw [bs])) (bnK bL fun an bt bM=>zP 1 rfl rfl rfl rfl (zQ rfl rfl Tryz.call266 (zH rfl zZ) rfl) bD (fun hs=>wFw aw ag ai be az hs bt) (.inl rfl) ?_)))
 rintro bm bQ b4 ap bW bE ⟨ao,aq,rfl,rfl⟩
 have bF:sW w U bm [.row ao aq 3 1 (nA KL.encI an),.blk b2 66 B0] ap:=bE
 have q:=bF.freezeR (k:=0) (n:=an.length) rfl (wAC (f:=KL.encI) (sz:=1) (fun _=>rfl) an) (by decide)
 obtain ⟨a7,bX,bj,bG⟩:=q
 have bH:sW w U a7 [.blk b2 66 B0] ap:=bG
 have q:=bnd bM
 obtain ⟨⟨⟩,bu,bi⟩:=q
 try dsimp only at bi
 refine zP 0 Z Z Z Z (zQ Z Z Tryz.call265 (zH Z zZ) Z) bH (fun hs=>wGK an ao aq ap a7 hs bj bu) (.inr Z) ?_
 rintro a8 bR ca bo bO bI ⟨bp,rfl,rfl,bv⟩
 have bJ:sW w U a8 [.blk b2 66 B0] bo:=bI
 refine oA Z Z (eN (zS ?_))
 have bw:=bj.le bO
 have hE:=nD bi;first | subst r | cases hE
 exact ⟨rfl,_,(zw rfl),a8,_,(bJ.pick [] _ (by decide) rfl),bp,ao,aq,rfl,rfl,bv,bw⟩
theorem wFQ (p0:wAL) (bh:Nat) (bj:Option Addr) (bm:Nat) (bv:Option Addr) (bx:Nat) (bb:Option Addr) (bd:Nat) (bw:Option Addr) (bz:Nat) (p1:Int) (p2:Int) (p3:Int) (w:World) (U:PHeap) (hS:St0 w U []) (bJ:Cl U bh 0 [jV p0.Race.Laps,.slice bj p0.Race.Bibs.length bm,.slice bv p0.Race.Times.length bx,.slice bb p0.done.length bd,.slice bw p0.out.length bz]) (cQ:Sl U 1 bj bm p0.Race.Bibs.length (nA KL.encI p0.Race.Bibs)) (cR:SlR U wDe bv bx p0.Race.Times) (cS:Sl U 1 bb bd p0.done.length (nA KL.encI p0.done)) (cU:Sl U 1 bw bz p0.out.length (nA KL.encT p0.out)) {r:Int} (hm:wBa p0 p1 p2 p3=some r):Gv Tryz.prog 190 [.pointer (some ⟨bh,0,none⟩),jV p1,jV p2,jV p3] w (wBp w [] U (fun U_ L_ v=>v=jV r/\L_=[])):=by
 unfold wBa at hm
 refine Gv.of Tryz.func190 Z Tryz.ntmps190 Tryz.results190 Z (sR fL1 Z (oA Z Z (eN (sR fL1 Z (oA Z Z (eN (zG (sR fL6 Z (oM Z Z (oR Z (yC Z Z) (oR Z (zD Z Z Zp Z zT) (oL Z (hS.ldC (f:=3) bJ (v:=.slice bb p0.done.length bd) Z Z ze Z) (oR Z (zW Z Z zA) (oM Z Z (eN (zR (bnK hm fun eh cW dr=>?_)))))))))))))))))
 have q:=wAw cW
 obtain ⟨bu,cV⟩:=q
 replace bu:=zI bu
 refine CK.forN' (fun k7 x6 σ_ w_=>∃ (U_:PHeap),σ_ 17=jV (↑k7:Int)/\σ_ 0=.pointer (some ⟨bh,0,none⟩)/\σ_ 2=jV p2/\σ_ 3=jV p3/\σ_ 9=jV x6/\σ_ 15=.slice bb p0.done.length bd/\σ_ 16=jV (↑p0.done.length:Int)/\PHeap.Le U U_/\sW w U U_ [] w_) cV ?_ ?_ ?_
 exact ⟨U,Z,Z,Z,Z,Z,Z,Z,(zN _),hS⟩
 rintro k7 x6 d9 ep bA bt ⟨au,ao,an,ay,az,av,a7,a8,be,bI⟩ dy
 have bC:Hid ((↑k7:Int) < (↑p0.done.length:Int)):=zI (wAo bt)
 replace bt:=zI bt
 have cX:Hid (w64 ((↑k7:Int) + 1)=(↑(k7 + 1):Int)):=zI (by have h1:=bu.out;have h2:=bC.out;rw [wAQ] <;> omega)
 refine sR fL1 Z (oR Z (zV Z ao a8) (eN (zG (cT Z bC (kN (bnK dy fun dD dz df=>CK.cut (fun σ_ w_=>∃ (U_:PHeap),σ_ 0=.pointer (some ⟨bh,0,none⟩)/\σ_ 2=jV p2/\σ_ 3=jV p3/\σ_ 9=jV dD/\σ_ 15=.slice bb p0.done.length bd/\σ_ 16=jV (↑p0.done.length:Int)/\σ_ 17=jV (↑k7:Int)/\PHeap.Le au U_/\sW w U U_ [] w_) ?_ ?_))))))
 refine zR (sR fL5 Z (oM Z ao (bnK dz fun dE bD dg=>?_)))
 have cy:=cS.le be
 have q:=cy.el (fun _=>rfl) (wAK bD)
 obtain ⟨dN,dZ,cE,cL⟩:=q
 refine zf rfl rfl rfl rfl (fun _=>ZC rfl a7 cE ao zA zC (wAg bD)) (zy rfl rfl rfl rfl (bI.ldC (f:=0) cL (v:=jV dE) rfl rfl zM rfl) rfl (yw rfl rfl rfl rfl rfl rfl (yw rfl rfl rfl rfl rfl rfl (eN (zG (ZY ZQ [3,3,3,1,3,3,1,3,3,3,3,3,3,3,3,3,3,3,3,1,3,3,1,3,3,3,1,3,3,3,3,3,3,3,3,3,3,3,1,3,3,1,3,3,3,3,1,3,3,1,3,3,3] fL53 (by kernel_rfl) ?_))))))
 have ai:=bI.drew
 generalize hw_W44:({ bA with drawn:=bA.drawn + 1 }:World)=dK at ai ⊢
 refine oM Z an (oR Z (yC Z Z) (oR Z (zD Z Z Zp Z Zv) ?_))
 have bi:=bJ.le be
 refine oL Z (ai.ldC (f:=4) bi (v:=.slice bw p0.out.length bz) Z Z yb Z) (oM Z Z (bnK dg fun dF bE dh=>?_))
 have cz:=cU.le be
 have q:=cz.el (fun _=>rfl) (wAK bE)
 obtain ⟨dO,d6,cG,cM⟩:=q
 refine oR Z (ZC Z Z cG Z zq Zn (wAg bE)) (oL Z (ai.ldC (f:=0) cM (v:=.bool dF) Z Z yh Z) (oR Z (Za Z Z) (oM Z Z (ifc dh ?_ ?_))))
 intro ak di
 refine zc Z Z Z (zO Z Z (nC ak.out) Z) (zc Z Z Z (zO Z Z (nC ak.out) Z) (zc Z Z Z (zO Z Z (nC ak.out) Z) (zc Z Z Z (zO Z Z (nC ak.out) Z) (oR Z (za Z (nC ak.out) Z) (oM Z Z (oN Z (oN Z (oN Z (oN Z (oN Z (oN Z (oN Z (oN Z (oN Z (oN Z (oN Z (oN Z (oN Z (oN Z (oR Z (za Z Z Z) (oM Z Z (oN Z (oN Z (oN Z (zc Z Z Z (wAP Z Z Z) (zc Z Z Z (wAP Z Z Z) (zc Z Z Z (wAP Z Z Z) (zc Z Z Z (wAP Z Z Z) (zc Z Z Z (wAP Z Z Z) (zc Z Z Z (wAP Z Z Z) (zc Z Z Z (wAP Z Z Z) (zc Z Z Z (wAP Z Z Z) (zc Z Z Z (wAP Z Z Z) (zc Z Z Z (wAP Z Z Z) (zc Z Z Z (wAP Z Z Z) (zc Z Z Z (wAP Z Z Z) (zc Z Z Z (wAP Z Z Z) (zc Z Z Z (wAP Z Z Z) (zc Z Z Z (wAP Z Z Z) (zc Z Z Z (wAP Z Z Z) (zc Z Z Z (wAP Z Z Z) (oN Z (oR Z (za Z Z Z) (eN (zn Z (ZO (zd ?_)))))))))))))))))))))))))))))))))))))))))))))))
 cases di
 exact zF ⟨Z,⟨au,an,ay,az,av,a7,a8,ao,(zN _),ai⟩⟩
 intro ak dm
 refine zh Z Z Z (zL Z Z (nF (ak.out))) Z Z (zh Z Z Z (zL Z Z (nF (ak.out))) Z ay (zf Z Z Z (zL Z Z (nF (ak.out))) (fun _=>zY Z Z Z) (zf Z Z Z (zL Z Z (nF (ak.out))) (fun _=>YM Z Z Z) (oR Z (zX Z (nF (ak.out)) Z) (oM Z Z (ifc dm ?_ ?_))))))
 intro ag dn
 refine zh Z Z Z (wT Z ag) Z an (rU Z (wT Z ag) (yC Z Z) (rU Z (wT Z ag) (zD Z Z Zp Z yN) (rU Z (wT Z ag) (zD Z Z Zb Z ZV) (zy Z Z Z (wT Z ag) (ai.ldC (f:=2) bi (v:=.slice bv p0.Race.Times.length bx) Z Z Zj Z) Z (zh Z Z Z (wT Z ag) Z Z (bnK dn fun bN bF dp=>?_))))))
 have cA:=cR.le be
 have q:=cA.el (wAK bF)
 obtain ⟨bQ,dB,d8,cH,bs,dx⟩:=q
 obtain ⟨bL,bM,rfl,cB⟩:=dx
 replace bs:Cl au bQ (dB + k7 * 1) [.slice bL bN.length bM]:=bs
 refine rU Z (wT Z ag) (ZC Z Z cH Z zm zT (wAg bF)) (zy Z Z Z (wT Z ag) (ai.ldC (f:=0) bs (v:=.slice bL bN.length bM) Z Z ze Z) Z (zh Z Z Z (wT Z ag) Z Z (rU Z (wT Z ag) (yA Z Z Z) (bnK dp fun dG br dq=>?_))))
 have q:=cB.el (fun _=>rfl) (wAK br)
 obtain ⟨dP,d7,cI,cN⟩:=q
 refine rU Z (wT Z ag) (zx Z Z cI Z zA zC (wAi br) (wAj br)) (zy Z Z Z (wT Z ag) (ai.ldC (f:=0) cN (v:=jV dG) Z Z zM Z) Z (zh Z Z Z (wT Z ag) Z az (rU Z (wT Z ag) (yJ Z Z Z) (oR Z (zX Z (Zl ag.out) Z) (oM Z Z (ifc dq ?_ ?_))))))
 intro aj dt
 refine zh Z Z Z (wT Z aj) Z av (rU Z (wT Z aj) (zV Z Z Z) (zh Z Z Z (wT Z aj) Z Z (ifc dt ?_ ?_)))
 intro af du
 refine oT Z af (oT Z af (oT Z af (oT Z af (oT Z af (oT Z af (oT Z af (oT Z af (oT Z af (oT Z af (oT Z af (oT Z af (oT Z af (oT Z af (oT Z af (oT Z af (oT Z af (rU Z (wT Z aj) (zX Z (Zl af.out) Z) (oR Z (zX Z (Zl aj.out) Z) (eN (ZA Z (yu fun ax aq=>?_)))))))))))))))))))))
 have cm:ax 0=.pointer (some ⟨bh,0,none⟩):=(aq 0).trans an
 have co:ax 2=jV p2:=(aq 2).trans ay
 have cp:ax 3=jV p3:=(aq 3).trans az
 have dV:ax 9=jV x6:=(aq 9).trans av
 have cr:ax 10=jV (↑k7:Int):=(aq 10).trans rfl
 have ct:ax 15=.slice bb p0.done.length bd:=(aq 15).trans a7
 have cu:ax 16=jV (↑p0.done.length:Int):=(aq 16).trans a8
 have cw:ax 17=jV (↑k7:Int):=(aq 17).trans ao
 clear aq
 refine rR fL2 Z (oM Z cr (oA Z Z (zg (zd ?_))))
 cases du
 exact zF ⟨Z,⟨au,cm,co,cp,Z,ct,cu,cw,(zN _),ai⟩⟩
 intro af dv
 refine zh Z Z Z (wF Z af) Z an (rU Z (wF Z af) (yC Z Z) (rU Z (wF Z af) (zD Z Z Zp Z yN) (rU Z (wF Z af) (zD Z Z Zb Z zT) (zy Z Z Z (wF Z af) (ai.ldC (f:=1) bi (v:=.slice bj p0.Race.Bibs.length bm) Z Z ze Z) Z (zh Z Z Z (wF Z af) Z Z (bnK dv fun dH bG dw=>?_))))))
 have bH:=cQ.le be
 have q:=bH.el (fun _=>rfl) (wAK bG)
 obtain ⟨dL,dX,cC,cJ⟩:=q
 refine rU Z (wF Z af) (ZC Z Z cC Z zA zC (wAg bG)) (zy Z Z Z (wF Z af) (ai.ldC (f:=0) cJ (v:=jV dH) Z Z zM Z) Z (zh Z Z Z (wF Z af) Z an (rU Z (wF Z af) (yC Z Z) (rU Z (wF Z af) (zD Z Z Zp Z yN) (rU Z (wF Z af) (zD Z Z Zb Z zT) (zy Z Z Z (wF Z af) (ai.ldC (f:=1) bi (v:=.slice bj p0.Race.Bibs.length bm) Z Z ze Z) Z (zh Z Z Z (wF Z af) Z av (bnK dw fun dC bp cY=>?_))))))))
 have q:=bH.el (fun _=>rfl) (wAK bp)
 obtain ⟨dM,dY,cD,cK⟩:=q
 refine rU Z (wF Z af) (zx Z Z cD Z zA zC (wAi bp) (wAj bp)) (zy Z Z Z (wF Z af) (ai.ldC (f:=0) cK (v:=jV dC) Z Z zM Z) Z (rU Z (wF Z af) (zV Z Z Z) (rU Z (wT Z aj) (za Z (zo af.out) Z) (oR Z (zX Z (Zl aj.out) Z) (eN (ifc cY ?_ ?_))))))
 intro bo cZ
 refine cT Z bo (yu fun aw ap=>?_)
 have bS:aw 0=.pointer (some ⟨bh,0,none⟩):=(ap 0).trans an
 have bT:aw 2=jV p2:=(ap 2).trans ay
 have bU:aw 3=jV p3:=(ap 3).trans az
 have dQ:aw 9=jV x6:=(ap 9).trans av
 have bV:aw 10=jV (↑k7:Int):=(ap 10).trans rfl
 have bW:aw 15=.slice bb p0.done.length bd:=(ap 15).trans a7
 have bX:aw 16=jV (↑p0.done.length:Int):=(ap 16).trans a8
 have bY:aw 17=jV (↑k7:Int):=(ap 17).trans ao
 clear ap
 refine rR fL2 Z (oM Z bV (oA Z Z (zg (zd ?_))))
 cases cZ
 exact zF ⟨Z,⟨au,bS,bT,bU,Z,bW,bX,bY,(zN _),ai⟩⟩
 intro bo c9
 refine cF Z bo (ZO (zd ?_))
 cases c9
 exact zF ⟨Z,⟨au,an,ay,az,av,a7,a8,ao,(zN _),ai⟩⟩
 intro aj dd
 refine oF Z aj (oF Z aj (oF Z aj (zc Z Z Z (wAP Z Z Z) (zc Z Z Z (wAP Z Z Z) (zc Z Z Z (wAP Z Z Z) (zc Z Z Z (wAP Z Z Z) (zc Z Z Z (wAP Z Z Z) (zc Z Z Z (wAP Z Z Z) (zc Z Z Z (wAP Z Z Z) (zc Z Z Z (wAP Z Z Z) (zc Z Z Z (wAP Z Z Z) (zc Z Z Z (wAP Z Z Z) (zc Z Z Z (wAP Z Z Z) (zc Z Z Z (wAP Z Z Z) (zc Z Z Z (wAP Z Z Z) (zc Z Z Z (wAP Z Z Z) (zc Z Z Z (wAP Z Z Z) (zc Z Z Z (wAP Z Z Z) (zc Z Z Z (wAP Z Z Z) (oF Z aj (oR Z (za Z (zo aj.out) Z) (eN (zn Z (ZO (zd ?_)))))))))))))))))))))))))
 cases dd
 exact zF ⟨Z,⟨au,an,ay,az,av,a7,a8,ao,(zN _),ai⟩⟩
 intro ag de
 refine oF Z ag (oF Z ag (oF Z ag (oF Z ag (oF Z ag (oF Z ag (oF Z ag (oF Z ag (oF Z ag (oF Z ag (oF Z ag (oF Z ag (oF Z ag (oF Z ag (oR Z (za Z (zo ag.out) Z) (oM Z Z (oN Z (oN Z (oN Z (zc Z Z Z (wAP Z Z Z) (zc Z Z Z (wAP Z Z Z) (zc Z Z Z (wAP Z Z Z) (zc Z Z Z (wAP Z Z Z) (zc Z Z Z (wAP Z Z Z) (zc Z Z Z (wAP Z Z Z) (zc Z Z Z (wAP Z Z Z) (zc Z Z Z (wAP Z Z Z) (zc Z Z Z (wAP Z Z Z) (zc Z Z Z (wAP Z Z Z) (zc Z Z Z (wAP Z Z Z) (zc Z Z Z (wAP Z Z Z) (zc Z Z Z (wAP Z Z Z) (zc Z Z Z (wAP Z Z Z) (zc Z Z Z (wAP Z Z Z) (zc Z Z Z (wAP Z Z Z) (zc Z Z Z (wAP Z Z Z) (oN Z (oR Z (za Z Z Z) (eN (zn Z (ZO (zd ?_)))))))))))))))))))))))))))))))))))))))))
 cases de
 exact zF ⟨Z,⟨au,an,ay,az,av,a7,a8,ao,(zN _),ai⟩⟩
 rintro eu dI ⟨bO,bZ,b4,ca,cc,cd,cg,ch,dA,cO⟩
 refine rR fL2 Z (oR Z (zz (zY Z ch Z) (congrArg (jV) cX.out)) (oM Z Z (zg ?_)))
 cases df
 exact zF ⟨Z,⟨bO,Z,bZ,b4,ca,cc,cd,cg,(be.trans dA),cO⟩⟩
 rintro eA dJ ⟨bP,cx,dR,dS,dT,ci,dU,cj,dW,cP⟩
 have bR:Hid (¬ ((↑(((↑p0.done.length:Int):Int) - 0).toNat:Int) < (↑p0.done.length:Int))):=zI (wAc)
 refine sR fL1 Z (oR Z (zV Z cx cj) (eN (zG (cF Z bR (ZD (zb (zb (zr (zF (sR fL2 Z (oM Z ci (oA Z Z (eN (zS ?_))))))))))))))
 have hE:=nD dr;first | subst r | cases hE
 exact ⟨Z,_,(zw Z),bP,_,cP,Z,Z⟩
theorem wGg (p0:wAL) (ah:Nat) (bb:Option Addr) (bd:Nat) (ay:Option Addr) (az:Nat) (ai:Option Addr) (aj:Nat) (av:Option Addr) (aw:Nat) (p1:Int) (w:World) (U:PHeap) (hS:St0 w U [.blk ah 327 [jV p0.Race.Laps,.slice bb p0.Race.Bibs.length bd,.slice ay p0.Race.Times.length az,.slice ai p0.done.length aj,.slice av p0.out.length aw],.row ai aj 3 1 (nA KL.encI p0.done),.row av aw 4 1 (nA KL.encT p0.out)]) (cQ:Sl U 1 bb bd p0.Race.Bibs.length (nA KL.encI p0.Race.Bibs)) (b4:SlR U wDe ay az p0.Race.Times) {r:(List Int) × wAL} (hm:wBb p0 p1=some r):Gv Tryz.prog 189 [.pointer (some ⟨ah,0,none⟩),jV p1] w (wBp w [.blk ah 327 [jV p0.Race.Laps,.slice bb p0.Race.Bibs.length bd,.slice ay p0.Race.Times.length az,.slice ai p0.done.length aj,.slice av p0.out.length aw],.row ai aj 3 1 (nA KL.encI p0.done),.row av aw 4 1 (nA KL.encT p0.out)] U (fun U_ L_ v=>∃ (A0:Option Addr) (c0:Nat) (co:Option Addr) (cC:Nat) (cp:Option Addr) (cD:Nat) (cr:Option Addr) (cE:Nat) (ct:Option Addr) (cG:Nat),v=.slice A0 r.1.length c0/\L_=[.row A0 c0 3 1 (nA KL.encI r.1),.row cr cE 3 1 (nA KL.encI r.2.done),.row ct cG 4 1 (nA KL.encT r.2.out),.blk ah 327 [jV r.2.Race.Laps,.slice co r.2.Race.Bibs.length cC,.slice cp r.2.Race.Times.length cD,.slice cr r.2.done.length cE,.slice ct r.2.out.length cG]]/\Sl U_ 1 co cC r.2.Race.Bibs.length (nA KL.encI r.2.Race.Bibs)/\SlR U_ wDe cp cD r.2.Race.Times)):=by
 unfold wBb at hm
 refine Gv.of Tryz.func189 Z Tryz.ntmps189 Tryz.results189 Z (sR fL1 Z (oA Z Z (eN (zG (sR fL7 Z (oM Z Z (oR Z (yC Z Z) (oR Z (zD Z Z Zp Z yN) (oR Z (zD Z Z Zb Z ZV) (oL Z (hS.ldB (j:=0) Z Z Z Zj (v:=.slice ay p0.Race.Times.length az) Z) (oR Z (zW Z Z zm) (oM Z Z (eN (zR (bnK hm fun ax fc ft=>?_)))))))))))))))
 have q:=wAw fc
 obtain ⟨ch,ff⟩:=q
 replace ch:=zI ch
 let B0:Res:=.blk ah 327 [jV p0.Race.Laps,.slice bb p0.Race.Bibs.length bd,.slice ay p0.Race.Times.length az,.slice ai p0.done.length aj,.slice av p0.out.length aw]
 let B1:Res:=.row av aw 4 1 (nA KL.encT p0.out)
 let B2:Res:=.row ai aj 3 1 (nA KL.encI p0.done)
 refine CK.forN' (fun ao l9 σ_ w_=>∃ (U_:PHeap),σ_ 17=jV (↑ao:Int)/\σ_ 0=.pointer (some ⟨ah,0,none⟩)/\σ_ 1=jV p1/\σ_ 15=.slice ay p0.Race.Times.length az/\σ_ 16=jV (↑p0.Race.Times.length:Int)/\PHeap.Le U U_/\SW w [B0,B2,B1] U U_ [.row ai aj 3 1 (nA KL.encI l9),B1,.blk ah 327 [jV p0.Race.Laps,.slice bb p0.Race.Bibs.length bd,.slice ay p0.Race.Times.length az,.slice ai l9.length aj,.slice av p0.out.length aw]] w_/\l9.length=p0.done.length) ff ?_ ?_ ?_
 exact ⟨U,rfl,rfl,rfl,rfl,rfl,(zN _),(hS.pick [1,2,0] _ (by decide) rfl),rfl⟩
 rintro ao l9 gA gE f9 cd ⟨bh,bi,bp,bx,bz,bA,bF,au,bM⟩ fU
 have cB:Hid ((↑ao:Int) < (↑p0.Race.Times.length:Int)):=zI (wAo cd)
 replace cd:=zI cd
 have bN:Hid (w64 ((↑ao:Int) + 1)=(↑(ao + 1):Int)):=zI (by have h1:=ch.out;have h2:=cB.out;rw [wAQ] <;> omega)
 refine sR fL1 Z (oR Z (zV Z bi bA) (eN (zG (cT Z cB (kN (zG (zR (sR fL5 Z (oM Z bi (bnK fU fun cY cJ fG=>?_))))))))))
 have dZ:=b4.le bF
 have q:=dZ.el (wAK cJ)
 obtain ⟨dq,fZ,gx,d7,bZ,fQ⟩:=q
 obtain ⟨cV,cW,rfl,d6⟩:=fQ
 replace bZ:Cl bh dq (fZ + ao * 1) [.slice cV cY.length cW]:=bZ
 refine oR Z (ZC Z bz d7 bi zm zT (wAg cJ)) (oL Z (au.ldC (f:=0) bZ (v:=.slice cV cY.length cW) Z Z ze Z) (oA Z Z (oA Z Z (eN (sR fL8 Z (oM Z bp (oR Z (yC Z Z) (oR Z (zD Z Z Zp Z zT) (oL Z (au.ldB (j:=2) Z Z Z ze (v:=.slice ai l9.length aj) Z) (oM Z Z (bnK fG fun _ bg fH=>?_)))))))))))
 obtain ⟨gg,bs⟩:=au.rowSome (j:=0) rfl (by rw [wAC (f:=KL.encI) (sz:=1) (fun _=>rfl) l9];have hz:=wAY bg;omega)
 refine oR Z (ZC Z Z bs Z zA zC (wAY bg)) ?_
 have fj:=wBO (xs:=l9) (wAY bg)
 refine zy rfl rfl rfl rfl (au.ldR (j:=0) rfl bs rfl rfl zM (wAZ (sz:=1) (fun _=>rfl) _ _ 0 _ fj (by first | omega | rfl | simp) rfl)) rfl (yw rfl rfl rfl rfl rfl rfl (eN (sR fL22 rfl (zh rfl rfl rfl rfl rfl bp (zf rfl rfl rfl rfl (fun _=>yC rfl rfl) (zf rfl rfl rfl rfl (fun _=>zD rfl rfl Zp rfl Zv) (zy rfl rfl rfl rfl (au.ldB (j:=2) rfl rfl rfl yb (v:=.slice av p0.out.length aw) rfl) rfl (zh rfl rfl rfl rfl rfl rfl (bnK fH fun _ bX fI=>?_)))))))))
 obtain ⟨gh,cM⟩:=au.rowSome (j:=1) rfl (by rw [wAC (f:=KL.encT) (sz:=1) (fun _=>rfl) p0.out];have hz:=wAY bX;omega)
 refine oR Z (ZC Z Z cM Z zq Zn (wAY bX)) ?_
 have fk:=wBO (xs:=p0.out) (wAY bX)
 refine zy rfl rfl rfl rfl (au.ldR (j:=1) rfl cM rfl rfl yh (wAZ (sz:=1) (fun _=>rfl) _ _ 0 _ fk (by first | omega | rfl | simp) rfl)) rfl (zf rfl rfl rfl rfl (fun _=>Za rfl rfl) (zh rfl rfl rfl rfl rfl rfl (ifc fI ?_ ?_)))
 intro a8 fJ
 refine zc Z Z Z (zO Z Z (nC a8.out) Z) (zc Z Z Z (zO Z Z (nC a8.out) Z) (zc Z Z Z (zO Z Z (nC a8.out) Z) (zc Z Z Z (zO Z Z (nC a8.out) Z) (oR Z (za Z (nC a8.out) Z) (oM Z Z (oN Z (oN Z (oN Z (oN Z (oN Z (oN Z (oR Z (za Z Z Z) (eN (zn Z (ZO (zd (zF (rR fL2 Z (oR Z (zz (zY Z bi Z) (congrArg (jV) bN.out)) (oM Z Z (zg ?_)))))))))))))))))))))
 cases fJ
 exact zF ⟨Z,⟨bh,Z,bp,bx,bz,bA,bF,au,bM⟩⟩
 intro a8 fK
 refine zh Z Z Z (zL Z Z (nF (a8.out))) Z Z (zh Z Z Z (zL Z Z (nF (a8.out))) Z Z (zf Z Z Z (zL Z Z (nF (a8.out))) (fun _=>zW Z Z zA) (zf Z Z Z (zL Z Z (nF (a8.out))) (fun _=>zV Z Z Z) (oR Z (zX Z (nF (a8.out)) Z) (oM Z Z (ifc fK ?_ ?_))))))
 intro an fL
 refine zh Z Z Z (wT Z an) Z Z (zh Z Z Z (wT Z an) Z Z (bnK fL fun f7 bY fM=>?_))
 have q:=d6.el (fun _=>rfl) (wAK bY)
 obtain ⟨gi,gv,d8,d9⟩:=q
 refine rU Z (wT Z an) (zx Z Z d8 Z zA zC (wAi bY) (wAj bY)) (zy Z Z Z (wT Z an) (au.ldC (f:=0) d9 (v:=jV f7) Z Z zM Z) Z (zh Z Z Z (wT Z an) Z bx (rU Z (wT Z an) (yJ Z Z Z) (oR Z (zX Z (Zl an.out) Z) (eN (ifc fM ?_ ?_))))))
 intro bT fN
 refine cT Z bT (yu fun bu bm=>?_)
 have cH:bu 0=.pointer (some ⟨ah,0,none⟩):=(bm 0).trans bp
 have dy:bu 1=jV p1:=(bm 1).trans bx
 have dz:bu 5=jV (↑ao:Int):=(bm 5).trans rfl
 have dA:bu 15=.slice ay p0.Race.Times.length az:=(bm 15).trans bz
 have dB:bu 16=jV (↑p0.Race.Times.length:Int):=(bm 16).trans bA
 have dC:bu 17=jV (↑ao:Int):=(bm 17).trans bi
 clear bm
 refine rR (wML (.fx 9 .nil .stop)) Z (oM Z cH (oR Z (yC Z Z) (oR Z (zD Z Z Zp Z zT) (oL Z (au.ldB (j:=2) Z Z Z ze (v:=.slice ai l9.length aj) Z) (oM Z dz (oR Z (ZC Z Z bs Z zA zC (wAY bg)) ?_))))))
 have fm:=wBO (xs:=l9) (wAY bg)
 refine zy rfl rfl rfl rfl (au.ldR (j:=0) rfl bs rfl rfl zM (wAZ (sz:=1) (fun _=>rfl) _ _ 0 _ fm (by first | omega | rfl | simp) rfl)) rfl (zf rfl rfl rfl rfl (fun _=>zY rfl rfl rfl) (zf rfl rfl rfl rfl (fun _=>ZC rfl rfl bs rfl zA zC (wAY bg)) ?_))
 have fq:=wBO (xs:=l9) (wAY bg)
 refine OKS.stR (j:=0) (vs:=[jV (w64 ((gd l9 ao) + 1))]) (cs':=nA KL.encI (nH l9 ao (w64 ((gd l9 ao) + 1)))) rfl rfl rfl rfl au rfl bs rfl rfl rfl zC (by rw [wAC (f:=KL.encI) (sz:=1) (fun _=>rfl)];have hz:=wAY bg;show _ + 1 <= _;first | omega | (simp only [nJ];omega) | (simp only [nM,nK,nL];omega)) rfl (wES (sz:=1) (fo:=0) (fun _=>rfl) _ _ _ _ fq (by first | omega | (simp only [nJ];omega) | (simp only [nM,nK,nL];omega)) (zJ rfl) rfl) rfl ?_
 intro cx eX
 let B3:Res:=.row ai aj 3 1 (nA KL.encI (nH l9 ao (w64 ((gd l9 ao) + 1))))
 have eY:SW w [B0,B2,B1] U bh [B3,B1,.blk ah 327 [jV p0.Race.Laps,.slice bb p0.Race.Bibs.length bd,.slice ay p0.Race.Times.length az,.slice ai l9.length aj,.slice av p0.out.length aw]] cx:=eX
 have eZ:SW w [B0,B2,B1] U bh [B3,B1,.blk ah 327 [jV p0.Race.Laps,.slice bb p0.Race.Bibs.length bd,.slice ay p0.Race.Times.length az,.slice ai ((nH l9 ao (w64 ((gd l9 ao) + 1))).length) aj,.slice av p0.out.length aw]] cx:=by simpa only [B0,B1,B2,B3,nI] using eY
 refine zg (zd (zF (rR fL2 Z (oR Z (zz (zY Z dC Z) (congrArg (jV) bN.out)) (oM Z Z (zg ?_))))))
 cases fN
 exact zF ⟨Z,⟨bh,Z,cH,dy,dA,dB,bF,eZ,(nI.trans bM)⟩⟩
 intro bT fO
 refine cF Z bT (ZO (zd (zF (rR fL2 Z (oR Z (zz (zY Z bi Z) (congrArg (jV) bN.out)) (oM Z Z (zg ?_)))))))
 cases fO
 exact zF ⟨Z,⟨bh,Z,bp,bx,bz,bA,bF,au,bM⟩⟩
 intro an fP
 refine oF Z an (oF Z an (oF Z an (oF Z an (oF Z an (oF Z an (oR Z (za Z (zo an.out) Z) (eN (zn Z (ZO (zd (zF (rR fL2 Z (oR Z (zz (zY Z bi Z) (congrArg (jV) bN.out)) (oM Z Z (zg ?_)))))))))))))))
 cases fP
 exact zF ⟨Z,⟨bh,Z,bp,bx,bz,bA,bF,au,bM⟩⟩
 rintro gH gc ⟨cw,dF,cI,dD,gj,dv,bP,cP,gu⟩
 have dr:Hid (¬ ((↑(((↑p0.Race.Times.length:Int):Int) - 0).toNat:Int) < (↑p0.Race.Times.length:Int))):=zI (wAc)
 refine sR fL1 Z (oR Z (zV Z dF dv) (eN (zG (cF Z dr (ZD (zb (zb (zr (zF (sR fL1 Z (oA Z Z (eN (zG (sR fL6 Z (oM Z cI (oR Z (yC Z Z) (oR Z (zD Z Z Zp Z zT) (oL Z (cP.ldB (j:=2) Z Z Z ze (v:=.slice ai ax.length aj) Z) (oR Z (zW Z Z zA) (oM Z Z (eN (zR (bnK ft fun gC fd fu=>?_)))))))))))))))))))))))
 have q:=wAw fd
 obtain ⟨cg,fe⟩:=q
 replace cg:=zI cg
 let B4:List Value:=[jV p0.Race.Laps,.slice bb p0.Race.Bibs.length bd,.slice ay p0.Race.Times.length az,.slice ai ax.length aj,.slice av p0.out.length aw]
 let B5:Res:=.row ai aj 3 1 (nA KL.encI ax)
 refine CK.forN' (fun a7 bD σ_ w_=>∃ (U_:PHeap) (bn:Option Addr) (bo:Nat),σ_ 66=jV (↑a7:Int)/\σ_ 0=.pointer (some ⟨ah,0,none⟩)/\σ_ 1=jV p1/\σ_ 8=.slice bn bD.length bo/\σ_ 64=.slice ai ax.length aj/\σ_ 65=jV (↑ax.length:Int)/\PHeap.Le cw U_/\SW w [B0,B2,B1] U U_ [B5,B1,.blk ah 327 B4,.row bn bo 3 1 (nA KL.encI bD)] w_) fe ?_ ?_ ?_
 have eh:=cP.nilrow 3 1
 exact ⟨cw,none,0,rfl,cI,dD,rfl,rfl,rfl,(zN _),(eh.pick [1,2,3,0] _ (by decide) rfl)⟩
 rintro a7 bD gz gD bH cc ⟨c9,bn,bo,br,bw,bJ,bU,bK,bL,bE,bj⟩ fT
 have cz:Hid ((↑a7:Int) < (↑ax.length:Int)):=zI (wAo cc)
 replace cc:=zI cc
 have ca:Hid (w64 ((↑a7:Int) + 1)=(↑(a7 + 1):Int)):=zI (by have h1:=cg.out;have h2:=cz.out;rw [wAQ] <;> omega)
 refine sR fL1 Z (oR Z (zV Z br bL) (eN (zG (cT Z cz (kN (zG (zR (sR fL5 Z (oM Z br (bnK fT fun _ bV fw=>?_))))))))))
 obtain ⟨ge,cK⟩:=bj.rowSome (j:=0) rfl (by rw [wAC (f:=KL.encI) (sz:=1) (fun _=>rfl) ax];have hz:=wAY bV;omega)
 refine oR Z (ZC Z bK cK br zA zC (wAY bV)) ?_
 have fg:=wBO (xs:=ax) (wAY bV)
 refine zy rfl rfl rfl rfl (bj.ldR (j:=0) rfl cK rfl rfl zM (wAZ (sz:=1) (fun _=>rfl) _ _ 0 _ fg (by first | omega | rfl | simp) rfl)) rfl (yw rfl rfl rfl rfl rfl rfl (yw rfl rfl rfl rfl rfl rfl (eN (sR (wQC (.fx 13 (.fl 14 (.fl 15 .nil)) .stop)) rfl (zh rfl rfl rfl rfl rfl bw (zf rfl rfl rfl rfl (fun _=>yC rfl rfl) (zf rfl rfl rfl rfl (fun _=>zD rfl rfl Zp rfl Zv) (zy rfl rfl rfl rfl (bj.ldB (j:=2) rfl rfl rfl yb (v:=.slice av p0.out.length aw) rfl) rfl (zh rfl rfl rfl rfl rfl rfl (bnK fw fun _ bW fy=>?_))))))))))
 obtain ⟨gf,cL⟩:=bj.rowSome (j:=1) rfl (by rw [wAC (f:=KL.encT) (sz:=1) (fun _=>rfl) p0.out];have hz:=wAY bW;omega)
 refine oR Z (ZC Z Z cL Z zq Zn (wAY bW)) ?_
 have fh:=wBO (xs:=p0.out) (wAY bW)
 refine zy rfl rfl rfl rfl (bj.ldR (j:=1) rfl cL rfl rfl yh (wAZ (sz:=1) (fun _=>rfl) _ _ 0 _ fh (by first | omega | rfl | simp) rfl)) rfl (zf rfl rfl rfl rfl (fun _=>Za rfl rfl) (zh rfl rfl rfl rfl rfl rfl (ifc fy ?_ ?_)))
 intro am fz
 refine zc Z Z Z (zO Z Z (nC am.out) Z) (zc Z Z Z (zO Z Z (nC am.out) Z) (zc Z Z Z (zO Z Z (nC am.out) Z) (zc Z Z Z (zO Z Z (nC am.out) Z) (ZI Z Z Z (zO Z Z (nC am.out) Z) (zc Z Z Z (zO Z Z (nC am.out) Z) (oR Z (za Z (nC am.out) Z) (eN (zn Z (ZO (zd (zF (rR fL2 Z (oR Z (zz (zY Z br Z) (congrArg (jV) ca.out)) (oM Z Z (zg ?_)))))))))))))))
 cases fz
 exact zF ⟨Z,⟨c9,bn,bo,Z,bw,bJ,bU,bK,bL,bE,bj⟩⟩
 intro am fA
 refine zh Z Z Z (zL Z Z (nF (am.out))) Z bw (zh Z Z Z (zL Z Z (nF (am.out))) Z Z (zh Z Z Z (zL Z Z (nF (am.out))) Z Z (zh Z Z Z (zL Z Z (nF (am.out))) Z bJ ?_)))
 have q:=bj.freezeT (k:=0) (n:=ax.length) rfl (wAC (f:=KL.encI) (sz:=1) (fun _=>rfl) ax) (by decide)
 obtain ⟨dd,cR,fR,ep,f0⟩:=q
 let B6:Res:=.row bn bo 3 1 (nA KL.encI bD)
 have eu:SW w [B0,B2,B1] U dd [B1,.blk ah 327 B4,B6] bH:=ep
 have q:=eu.freezeT (k:=0) (n:=p0.out.length) rfl (wAC (f:=KL.encT) (sz:=1) (fun _=>rfl) p0.out) (by decide)
 obtain ⟨de,ci,fS,eA,f4⟩:=q
 have eB:SW w [B0,B2,B1] U de [.blk ah 327 B4,B6] bH:=eA
 have q:=eB.freezeTB (k:=0) rfl
 obtain ⟨bR,bO,bC,eC,f5⟩:=q
 replace bC:=Cl.of bC
 have eD:SW w [B0,B2,B1] U bR [B6] bH:=eC
 replace bC:Cl bR ah 0 B4:=bC
 have dG:=cQ.le bP
 have dH:=dG.le bE
 have dI:=dH.le cR
 have dJ:=dI.le ci
 have dK:=dJ.le bO
 have dL:=b4.le bP
 have dM:=dL.le bE
 have dN:=dM.le cR
 have dO:=dN.le ci
 have dP:=dO.le bO
 have dQ:=fR.le ci
 have dR:=dQ.le bO
 have dS:=fS.le bO
 refine bnK fA fun gy dT fB=>zP 0 rfl rfl rfl (zL rfl rfl (nF (am.out))) (zQ rfl rfl Tryz.call190 (zH rfl (zH rfl (zH rfl (zH rfl zZ)))) rfl) eD (fun hs=>wFQ (⟨p0.Race,ax,p0.out⟩:wAL) ah bb bd ay az ai aj av aw (↑a7:Int) (gd ax a7) p1 bH bR hs bC dK dP dR dS dT) (.inr rfl) ?_
 rintro df f8 gw bI fV eG ⟨rfl,rfl⟩
 have eH:SW w [B0,B2,B1] U df [B6] bI:=eG
 have q:=f5 _ _ _ fV eH
 obtain ⟨dg,fW,eI⟩:=q
 have eJ:SW w [B0,B2,B1] U dg [.blk ah 327 B4,B6] bI:=eI
 have q:=f4 _ _ _ fW eJ
 obtain ⟨dh,fY,eK⟩:=q
 have eM:SW w [B0,B2,B1] U dh [B1,.blk ah 327 B4,B6] bI:=eK
 have q:=f0 _ _ _ fY eM
 obtain ⟨bv,cS,eP⟩:=q
 have cN:SW w [B0,B2,B1] U bv [B5,B1,.blk ah 327 B4,B6] bI:=eP
 refine zf Z Z Z (zL Z Z (nF (am.out))) (fun _=>YM Z Z Z) (oR Z (zX Z (nF (am.out)) Z) (eN (ifc fB ?_ ?_)))
 intro bS fC
 refine cT Z bS (rR (.fl 0 (.fl 1 (.fx 2 gBv .stop))) Z (oM Z bU (oM Z Z (zk (pv:=[(0,jV (↑a7:Int))]) (zs:=[jV 0]) (cs:=[jV (↑a7:Int)]) Z Z Z Z Z (wAA Z wAO) zA zC ZM Z Z Z Z Z cN ?_))))
 intro dm dp eQ
 let B7:Res:=.row (some ⟨dp,0,none⟩) 1 3 1 (nA KL.encI [(↑a7:Int)])
 have cO:SW w [B0,B2,B1] U bv [B7,B5,B1,.blk ah 327 B4,B6] dm:=eQ
 refine bnK fC fun cX dU fD=>yE (j:=4) (enc:=KL.encI) (xs:=bD) (ys:=[(↑a7:Int)]) (zs:=cX) rfl rfl rfl rfl rfl Zy wFN rfl rfl rfl rfl rfl rfl cO rfl rfl rfl (cO.srcR (j:=0) rfl (by decide) (wAC (f:=KL.encI) (sz:=1) (fun _=>rfl) [(↑a7:Int)])) (fun _=>rfl) (fun _=>rfl) dU rfl ?_
 intro cm cA dn eS
 have eV:SW w [B0,B2,B1] U bv [B7,B5,B1,.blk ah 327 B4,.row cm cA 3 1 (nA KL.encI cX)] dn:=eS
 refine oA Z Z (zg (zd (zF (rR fL2 Z (oR Z (zz (zY Z br Z) (congrArg (jV) ca.out)) (oM Z Z (zg ?_)))))))
 cases fD
 exact zF ⟨rfl,⟨bv,cm,cA,rfl,bw,bJ,rfl,bK,bL,(bE.trans cS),(eV.pick [1,2,3,4] _ (by decide) rfl)⟩⟩
 intro bS fE
 refine cF Z bS (ZO (zd (zF (rR fL2 Z (oR Z (zz (zY Z br Z) (congrArg (jV) ca.out)) (oM Z Z (zg ?_)))))))
 cases fE
 exact zF ⟨Z,⟨bv,bn,bo,Z,bw,bJ,bU,bK,bL,(bE.trans cS),cN⟩⟩
 rintro gG gb ⟨di,cZ,dt,dE,gm,gq,dw,gr,dx,cU,eW⟩
 have du:Hid (¬ ((↑(((↑ax.length:Int):Int) - 0).toNat:Int) < (↑ax.length:Int))):=zI (wAc)
 refine sR fL1 Z (oR Z (zV Z dE dx) (eN (zG (cF Z du (ZD (zb (zb (zr (zF (sR fL2 Z (oM Z dw (oA Z Z (eN (zS ?_))))))))))))))
 have dV:=cQ.le bP
 have dW:=dV.le cU
 have dX:=b4.le bP
 have dY:=dX.le cU
 cases fu
 exact ⟨rfl,_,(zw rfl),di,_,(eW.pick [3,0,1,2] _ (by decide) rfl),cZ,dt,bb,bd,ay,az,ai,aj,av,aw,rfl,rfl,dW,dY⟩
set_option maxHeartbeats 4000000
theorem wEN (p0:List wAG) (ag:Option Addr) (ah:Nat) (p1:((wAG × wAG)->Option Int)) (ai:Value) (w:World) (U:PHeap) (hS:St ⟨w,[.row ag ah 45 4 (nA wAb p0)],U⟩ U [.row ag ah 45 4 (nA wAb p0)] w) (ak:FnOK Tryz.prog U ai wRj wRk p1) (am:∃ g cb,ai=.func (.func g) #[] cb) {r:List wAG} (hm:wBG p0 p1=some r):Gv Tryz.prog 191 [.slice ag p0.length ah,ai] w (wBp w [.row ag ah 45 4 (nA wAb p0)] U (fun U_ L_ v=>v=.tuple #[]/\L_=[.row ag ah 45 4 (nA wAb r)]/\r.length=p0.length)) :=
 wKm (sz:=4) (fun _=>rfl) (fun x v h=>List.all_eq_true.1 (show (wAb x).all (·.oneCell')=true from rfl) v h) (fun _ _ _=>rfl) (fun _ _ _ _ h=>h.1) (fun enc a1 a2 cf b g cb k1 k2 k3 d w h1 h2 h3 h4 h5 h6=>Go.Proofs.Tryz.slices_SortFunc_total_f191 4 Tryz.isAgg45 Tryz.sizeOf45 enc a1 a2 cf b g cb k1 k2 k3 d w h1 h2 h3 h4 h5 h6) (fun p c v w=>Go.Proofs.Tryz.slices_SortFunc_none_f191 (α:=Int) p c v w) hS ak (by decide) am hm
theorem wGh (p0:Int) (w:World) (U:PHeap) (hS:St0 w U [])  {r:Bool} (hm:wDl p0=some r):Gv Tryz.prog 177 [jV p0] w (wBp w [] U (fun U_ L_ v=>v=.bool r/\L_=[])):=by
 unfold wDl at hm
 refine Gv.of Tryz.func177 Z Tryz.ntmps177 Tryz.results177 Z (sR fL1 Z (oA Z Z (eN (sR fL4 Z (oM Z Z (oM Z Z (oR Z (ZU Z Z Z) (oA Z Z (eN (zS ?_))))))))))
 first | (obtain rfl:=nD hm) | cases hm
 exact ⟨Z,_,(zw Z),U,_,hS,Z,Z⟩
theorem wDN (p0:Int) (p1:Int) (w:World) (U:PHeap) (hS:St0 w U [])  {r:Int} (hm:wAy p0 p1=some r):Gv Tryz.prog 97 [jV p0,jV p1] w (wBp w [] U (fun U_ L_ v=>v=jV r/\L_=[])):=by
 unfold wAy at hm
 refine Gv.of Tryz.func97 Z Tryz.ntmps97 Tryz.results97 Z (sR fL1 Z (oA Z Z (eN (sR gCc Z (oM Z Z (bnK hm fun x1 h2 bh=>zP 0 Z Z Z Z (zQ Z Z Tryz.call177 (zH Z zZ) Z) hS (fun hs=>wGh p0 w U hs h2) (.inr Z) ?_))))))
 rintro U4 L5 v6 W7 bs az ⟨rfl,rfl⟩
 have ax:sW w U U4 [] W7:=az
 refine oA Z Z (eN (sR gCc Z (oM Z Z (bnK bh fun bw av a7=>zP 0 Z Z Z Z (zQ Z Z Tryz.call177 (zH Z zZ) Z) ax (fun hs=>wGh p1 W7 U4 hs av) (.inr Z) ?_))))
 rintro af bo bt au br ay ⟨rfl,rfl⟩
 have ag:sW w U af [] au:=ay
 refine oA Z Z (eN (zG (sR fL1 Z (oM Z Z (eN (ifc a7 ?_ ?_))))))
 intro ah a8
 refine ZA (congrArg nE ah.out) (zG (sR fL1 Z (oM Z Z (eN (ifc a8 ?_ ?_)))))
 intro ai bb
 refine ZA (congrArg nE ai.out) (sR fL1 Z (oA Z Z (eN (zS (zK (zK ?_))))))
 cases bb
 exact ⟨Z,_,(zw Z),af,_,ag,Z,Z⟩
 intro ai bd
 refine zn (congrArg nE (nG.2 ai.out)) (kN (sR fL1 Z (oA Z Z (eN (zS (zK ?_))))))
 cases bd
 exact ⟨Z,_,(zw Z),af,_,ag,Z,Z⟩
 intro ah be
 refine zn (congrArg nE (nG.2 ah.out)) (kN (zG (sR fL1 Z (oM Z Z (eN (ifc be ?_ ?_))))))
 intro aj bf
 refine ZA (congrArg nE aj.out) (sR fL1 Z (oA Z Z (eN (zS (zK ?_)))))
 cases bf
 exact ⟨Z,_,(zw Z),af,_,ag,Z,Z⟩
 intro aj bg
 refine zn (congrArg nE (nG.2 aj.out)) (kN (zG (sR fL3 Z (oM Z Z (oM Z Z (oR Z (zV Z Z Z) (eN (ifc bg ?_ ?_))))))))
 intro ak bi
 refine cT Z ak (sR fL1 Z (oA Z Z (eN (zS (zK ?_)))))
 cases bi
 exact ⟨Z,_,(zw Z),af,_,ag,Z,Z⟩
 intro ak bj
 refine cF Z ak (kN (zG (sR fL3 Z (oM Z Z (oM Z Z (oR Z (yP Z Z Z) (eN (ifc bj ?_ ?_))))))))
 intro am bm
 refine cT Z am (sR fL1 Z (oA Z Z (eN (zS (zK ?_)))))
 cases bm
 exact ⟨Z,_,(zw Z),af,_,ag,Z,Z⟩
 intro am bn
 refine cF Z am (kN (sR fL1 Z (oA Z Z (eN (zS ?_)))))
 cases bn
 exact ⟨Z,_,(zw Z),af,_,ag,Z,Z⟩
theorem wGi (p0:List Int) (an:Option Addr) (ao:Nat) (w:World) (U:PHeap) (hS:St0 w U []) (bn:Sl U 1 an ao p0.length (nA KL.encI p0)) {r:Int} (hm:wDZ p0=some r):Gv Tryz.prog 96 [.slice an p0.length ao] w (wBp w [] U (fun U_ L_ v=>v=jV r/\L_=[])):=by
 unfold wDZ at hm
 refine Gv.of Tryz.func96 Z Tryz.ntmps96 Tryz.results96 Z (sR fL1 Z (oA Z Z (eN (sR fL1 Z (oA Z Z (eN (zG (sR fL3 Z (oM Z Z (oR Z (zW Z Z zA) (oM Z Z (eN (zR ?_)))))))))))))
 have q:=wBQ hm
 obtain ⟨r3,aj⟩:=q
 have q:=wBP aj
 obtain ⟨am,br⟩:=q
 replace am:=zI am
 refine yF (fun k2 _ σ_ w_=>∃ (U_:PHeap),σ_ 8=jV (↑k2:Int)/\σ_ 3=jV 0/\σ_ 6=.slice an p0.length ao/\σ_ 7=jV (↑p0.length:Int)/\PHeap.Le U U_/\sW w U U_ [] w_) br ?_ ?_ ?_
 exact ⟨U,Z,Z,Z,Z,(zN _),hS⟩
 rintro k2 ⟨⟩ bI bK W8 ak ⟨ap,ah,au,av,aw,a7,ai⟩ az bo
 try dsimp only at az
 have aq:Hid ((↑k2:Int) < (↑p0.length:Int)):=zI (wAo ak)
 replace ak:=zI ak
 have bs:Hid (w64 ((↑k2:Int) + 1)=(↑(k2 + 1):Int)):=zI (by have h1:=am.out;have h2:=aq.out;rw [wAQ] <;> omega)
 refine sR fL1 Z (oR Z (zV Z ah aw) (eN (zG (cT Z aq (kN (zG (zR (sR fL3 Z (bnK az fun bz ax bt=>?_)))))))))
 have bh:=bn.le a7
 have q:=bh.el (fun _=>rfl) (wAK ax)
 obtain ⟨bD,bG,bi,bj⟩:=q
 refine oR Z (ZC Z av bi ah zA zC (wAg ax)) (oL Z (ai.ldC (f:=0) bj (v:=jV bz) Z Z zM Z) (oA Z Z (eN (sR fL3 Z (oM Z Z (oM Z au (oR Z (ZU Z Z Z) (eN (ifc bt ?_ ?_)))))))))
 intro ag bu
 refine zn (zo (fun h=>h ag.out)) (ZO (zd (zF (rR fL2 Z (oR Z (zz (zY Z ah Z) (congrArg (jV) bs.out)) (oM Z Z (zg ?_)))))))
 have q:=nD bu
 obtain rfl:=q
 exact zF ⟨Z,_,Z,⟨ap,Z,au,av,aw,a7,ai⟩⟩
 intro ag bv
 refine cT Z ag (sR fL2 Z (oM Z Z (oA Z Z (eN (zS (zU (zK ?_)))))))
 have q:=wAM bv
 obtain ⟨bx,bw,bd⟩:=q
 have q:=wBI hm aj (bo bx bd)
 obtain rfl:=q
 refine zK (zU (zK ?_))
 have hE:=nD bw;first | subst r | cases hE
 exact ⟨Z,_,(zw Z),ap,_,ai,Z,Z⟩
 rintro ⟨⟩ bJ bA ⟨a8,bg,be,bE,bf,bF,bm⟩ bp
 have ay:=wCg hm aj bp
 try dsimp only at ay
 have bb:Hid (¬ ((↑(((↑p0.length:Int):Int) - 0).toNat:Int) < (↑p0.length:Int))):=zI (wAc)
 refine sR fL1 Z (oR Z (zV Z bg bf) (eN (zG (cF Z bb (ZD (zb (zb (zr (zF (sR fL2 Z (oM Z be (oA Z Z (eN (zS ?_))))))))))))))
 cases ay
 exact ⟨Z,_,(zw Z),a8,_,bm,Z,Z⟩
theorem wKH (p0:wAG) (p1:wAG) (w:World) (U:PHeap) (hS:St0 w U [])  {r:Int} (hm:wBW p0 p1=some r):Gv Tryz.prog 192 [.agg #[jV p0.Bib,jV p0.Done,jV p0.Time,jV p0.By],.agg #[jV p1.Bib,jV p1.Done,jV p1.Time,jV p1.By]] w (wBp w [] U (fun U_ L_ v=>v=jV r/\L_=[])):=by
 unfold wBW at hm
 refine Gv.of Tryz.func192 Z Tryz.ntmps192 Tryz.results192 Z (sR gCd Z ?_)
 let B0:List Value:=[jV p0.Bib,jV p0.Done,jV p0.Time,jV p0.By]
 refine ZX (cs:=B0) rfl rfl rfl rfl rfl rfl (by rfl) hS ?_
 intro W1 b2 bj
 let B1:List Value:=[jV p1.Bib,jV p1.Done,jV p1.Time,jV p1.By]
 refine ZX (cs:=B1) rfl rfl rfl rfl rfl rfl (by rfl) bj ?_
 intro W5 b6 bu
 refine yw rfl rfl rfl rfl rfl rfl (eN (zG (ZY ZQ [3,1,3,1,2,3,1,3,1,2,2,2,3] (wHD (wSQ gCr)) (by kernel_rfl) ?_)))
 have aj:=bu.drew
 generalize hw_W10:({ W5 with drawn:=W5.drawn + 1 }:World)=a7 at aj ⊢
 refine oR Z (zD Z Z Tryz.runUnderlying45 Z zC) (oL Z (aj.ldB (j:=1) Z Z Z zM (v:=jV p0.Time) Z) (oR Z (zD Z Z Tryz.runUnderlying45 Z zC) (oL Z (aj.ldB (j:=0) Z Z Z zM (v:=jV p1.Time) Z) (oR Z (zD Z Z Tryz.runUnderlying45 Z zC) (oL Z (aj.ldB (j:=1) Z Z Z zM (v:=jV p0.Bib) Z) (oR Z (zD Z Z Tryz.runUnderlying45 Z zC) (oL Z (aj.ldB (j:=0) Z Z Z zM (v:=jV p1.Bib) Z) (bnK hm fun ak bd bv=>zP 0 Z Z Z Z (zQ Z Z Tryz.call97 (zH Z (zH Z zZ)) Z) aj (fun hs=>wDN p0.Time p1.Time a7 U hs bd) (.inr Z) ?_))))))))
 rintro aq bA bJ ax bF bg ⟨rfl,rfl⟩
 have bh:sW w U aq [.blk b6 45 B1,.blk b2 45 B0] ax:=bg
 refine bnK bv fun am be bw=>zP 0 Z Z Z Z (zQ Z Z Tryz.call97 (zH Z (zH Z zZ)) Z) bh (fun hs=>wDN p0.Bib p1.Bib ax aq hs be) (.inr Z) ?_
 rintro au bC bK a8 bG bi ⟨rfl,rfl⟩
 have bm:sW w U au [.blk b6 45 B1,.blk b2 45 B0] a8:=bi
 refine zk (pv:=[(0,jV ak),(1,jV am)]) (zs:=[jV 0,jV 0]) (cs:=[jV ak,jV am]) Z Z Z Z Z (wAA Z (wAA Z wAO)) zA zC ZM Z Z Z Z Z bm ?_
 intro ap az bn
 have bo:sW w U au [.row (some ⟨az,0,none⟩) 2 3 1 (nA KL.encI [ak,am]),.blk b6 45 B1,.blk b2 45 B0] ap:=bn
 have q:=bo.freezeR (k:=0) (n:=[ak,am].length) rfl (wAC (f:=KL.encI) (sz:=1) (fun _=>rfl) [ak,am]) (by decide)
 obtain ⟨av,bH,bz,bp⟩:=q
 have br:sW w U av [.blk b6 45 B1,.blk b2 45 B0] ap:=bp
 refine bnK bw fun bM bf bx=>zP 0 Z Z Z Z (zQ Z Z Tryz.call96 (zH Z zZ) Z) br (fun hs=>wGi [ak,am] (some ⟨az,0,none⟩) 2 ap av hs bz bf) (.inr Z) ?_
 rintro aw bD bL bb bI bs ⟨rfl,rfl⟩
 have bt:sW w U aw [.blk b6 45 B1,.blk b2 45 B0] bb:=bs
 refine oA Z Z (eN (zS ?_))
 have hE:=nD bx;first | subst r | cases hE
 exact ⟨rfl,_,(zw rfl),aw,_,(bt.pick [] _ (by decide) rfl),rfl,rfl⟩
theorem wJP (p0:wAF) (am:Option Addr) (an:Nat) (aw:Option Addr) (ax:Nat) (w:World) (U:PHeap) (hS:St0 w U []) (oE:Sl U 1 am an p0.Bibs.length (nA KL.encI p0.Bibs)) (oG:SlR U wDe aw ax p0.Times) {r:wAL × (List wAG)} (hm:wDh p0=some r):Gv Tryz.prog 106 [.agg #[jV p0.Laps,.slice am p0.Bibs.length an,.slice aw p0.Times.length ax]] w (wBp w [] U (fun U_ L_ v=>∃ (b0:Nat) (A0p01:Option Addr) (c0p01:Nat) (A0p02:Option Addr) (c0p02:Nat) (A0p1:Option Addr) (c0p1:Nat) (A0p2:Option Addr) (c0p2:Nat) (A1:Option Addr) (c1:Nat),v=.tuple #[.pointer (some ⟨b0,0,none⟩),.slice A1 r.2.length c1]/\L_=[.blk b0 327 [jV r.1.Race.Laps,.slice A0p01 r.1.Race.Bibs.length c0p01,.slice A0p02 r.1.Race.Times.length c0p02,.slice A0p1 r.1.done.length c0p1,.slice A0p2 r.1.out.length c0p2],.row A0p1 c0p1 3 1 (nA KL.encI r.1.done),.row A0p2 c0p2 4 1 (nA KL.encT r.1.out),.row A1 c1 45 4 (nA wAb r.2)]/\Sl U_ 1 A0p01 c0p01 r.1.Race.Bibs.length (nA KL.encI r.1.Race.Bibs)/\SlR U_ wDe A0p02 c0p02 r.1.Race.Times)):=by
 unfold wDh at hm
 refine Go.KX.Gv.ofM Tryz.func106 Z Tryz.ntmps106 Tryz.results106 (zJ Z) (sR gCf Z ?_)
 let B0:List Value:=[jV p0.Laps,.slice am p0.Bibs.length an,.slice aw p0.Times.length ax]
 refine ZX (cs:=B0) rfl rfl rfl rfl rfl rfl (by rfl) hS ?_
 intro W1 b2 m8
 refine oA Z Z (oA Z Z (eN ?_))
 have q:=bnd hm
 obtain ⟨⟨l9,cW⟩,pp,gR⟩:=q
 try dsimp only at gR
 refine CK.cut (fun σ_ w_=>∃ (U_:PHeap) (b6:Nat) (b8:Nat) (bK:Option Addr) (cc:Nat) (bQ:Option Addr) (ci:Nat),σ_ 1=.pointer (some ⟨b2,0,none⟩)/\σ_ 4=.pointer (some ⟨b6,0,none⟩)/\PHeap.Le U U_/\sW w U U_ [.blk b2 66 B0,.blk b6 237 [.pointer (some ⟨b8,0,none⟩)],.blk b8 327 [jV p0.Laps,.slice am p0.Bibs.length an,.slice aw p0.Times.length ax,.slice bK l9.length cc,.slice bQ cW.length ci],.row bK cc 3 1 (nA KL.encI l9),.row bQ ci 4 1 (nA KL.encT cW)] w_) ?_ ?_
 refine bnK pp fun ai dy pe=>bnK pe fun aj dz pg=>ZY ZQ [1,3,1,3,2,3,1,3,2,3,2,2,0] (wHD (fC5_7 (.fx 4 (.fx 8 gCs (.fx 11 gCm .stop)) (.fx 8 (.fx 4 gCs (.fx 11 gCn .stop)) (.fx 11 (.fx 4 gCm (.fx 8 gCn .stop)) .stop))))) (by kernel_rfl) ?_
 have bI:=m8.drew
 generalize hw_W48:({ W1 with drawn:=W1.drawn + 1 }:World)=qq at bI ⊢
 refine ye (s:=.nil) (M:=fun σ_ w_=>∃ (U_:PHeap) (dq:Nat) (cL:Nat) (bR:Option Addr) (cj:Nat) (bS:Option Addr) (cm:Nat),σ_ 1=.pointer (some ⟨b2,0,none⟩)/\σ_ 4=.pointer (some ⟨dq,0,none⟩)/\σ_ 12=.agg B0.toArray/\σ_ 13=.pointer (some ⟨b2,1,none⟩)/\σ_ 14=.slice am p0.Bibs.length an/\σ_ 15=jV (↑p0.Bibs.length:Int)/\σ_ 16=.slice bR ai.length cj/\σ_ 17=.pointer (some ⟨b2,1,none⟩)/\σ_ 18=.slice am p0.Bibs.length an/\σ_ 19=jV (↑p0.Bibs.length:Int)/\σ_ 20=.slice bS aj.length cm/\σ_ 21=.agg #[jV p0.Laps,.slice am p0.Bibs.length an,.slice aw p0.Times.length ax,.slice bR ai.length cj,.slice bS aj.length cm]/\σ_ 22=.pointer (some ⟨cL,0,none⟩)/\PHeap.Le U U_/\sW w U U_ [.blk b2 66 B0,.blk dq 237 [.pointer (some ⟨cL,0,none⟩)],.blk cL 327 [jV p0.Laps,.slice am p0.Bibs.length an,.slice aw p0.Times.length ax,.slice bR ai.length cj,.slice bS aj.length cm],.row bR cj 3 1 (nA KL.encI ai),.row bS cm 4 1 (nA KL.encT aj)] w_) ?_ fun pq=>?_
 rintro rk qc ⟨it,dq,cL,bR,cj,bS,cm,jd,je,qG,qH,qI,qJ,qK,qL,qM,qN,qO,qP,qQ,pE,mX⟩
 refine zg ?_
 have gD:=nD pg
 simp only [Prod.mk.injEq] at gD
 obtain ⟨mb,mc⟩:=gD
 subst mb
 subst mc
 exact zF ⟨Z,⟨it,dq,cL,bR,cj,bS,cm,jd,je,pE,mX⟩⟩
 refine ye (s:=.fx 12 .nil .stop) (M:=fun σ_ w_=>∃ (U_:PHeap) (cM:Nat) (br:Option Addr) (bz:Nat) (bs:Option Addr) (bA:Nat) (bZ:Nat),σ_ 1=.pointer (some ⟨b2,0,none⟩)/\σ_ 4=.pointer (some ⟨cM,0,none⟩)/\σ_ 12=.agg B0.toArray/\σ_ 13=.pointer (some ⟨b2,1,none⟩)/\σ_ 14=.slice am p0.Bibs.length an/\σ_ 15=jV (↑p0.Bibs.length:Int)/\σ_ 16=.slice br ai.length bz/\σ_ 17=.pointer (some ⟨b2,1,none⟩)/\σ_ 18=.slice am p0.Bibs.length an/\σ_ 19=jV (↑p0.Bibs.length:Int)/\σ_ 20=.slice bs aj.length bA/\σ_ 21=.agg #[jV p0.Laps,.slice am p0.Bibs.length an,.slice aw p0.Times.length ax,.slice br ai.length bz,.slice bs aj.length bA]/\σ_ 22=.pointer (some ⟨bZ,0,none⟩)/\PHeap.Le U U_/\sW w U U_ [.blk b2 66 B0,.blk cM 237 [.pointer none],.row br bz 3 1 (nA KL.encI ai),.row bs bA 4 1 (nA KL.encT aj),.blk bZ 327 [jV p0.Laps,.slice am p0.Bibs.length an,.slice aw p0.Times.length ax,.slice br ai.length bz,.slice bs aj.length bA]] w_) ?_ fun eY=>?_
 rintro rn qd ⟨fA,cM,br,bz,bs,bA,bZ,jf,f8,jg,jh,ji,jj,jk,jl,jm,jo,jp,jq,f9,pF,mY⟩
 let B1:List Value:=[.pointer (some ⟨bZ,0,none⟩)]
 refine ZK (j:=1) (vs:=B1) Z Z Z Z mY Z f8 f9 Z Tryz.sizeOf237 (zJ Z) Z Z Z ?_
 intro iD mZ
 have m3:sW w U fA [.blk b2 66 B0,.blk cM 237 B1,.row br bz 3 1 (nA KL.encI ai),.row bs bA 4 1 (nA KL.encT aj),.blk bZ 327 [jV p0.Laps,.slice am p0.Bibs.length an,.slice aw p0.Times.length ax,.slice br ai.length bz,.slice bs aj.length bA]] iD:=mZ
 exact pq _ _ ⟨fA,cM,bZ,br,bz,bs,bA,jf,f8,jg,jh,ji,jj,jk,jl,jm,jo,jp,jq,f9,pF,(m3.pick [0,1,4,2,3] _ (by decide) rfl)⟩
 refine ye (s:=gBx) (M:=fun σ_ w_=>∃ (U_:PHeap) (dr:Nat) (bT:Option Addr) (co:Nat) (bU:Option Addr) (cp:Nat),σ_ 1=.pointer (some ⟨b2,0,none⟩)/\σ_ 4=.pointer (some ⟨dr,0,none⟩)/\σ_ 12=.agg B0.toArray/\σ_ 13=.pointer (some ⟨b2,1,none⟩)/\σ_ 14=.slice am p0.Bibs.length an/\σ_ 15=jV (↑p0.Bibs.length:Int)/\σ_ 16=.slice bT ai.length co/\σ_ 17=.pointer (some ⟨b2,1,none⟩)/\σ_ 18=.slice am p0.Bibs.length an/\σ_ 19=jV (↑p0.Bibs.length:Int)/\σ_ 20=.slice bU aj.length cp/\σ_ 21=.agg #[jV p0.Laps,.slice am p0.Bibs.length an,.slice aw p0.Times.length ax,.slice bT ai.length co,.slice bU aj.length cp]/\PHeap.Le U U_/\sW w U U_ [.blk b2 66 B0,.blk dr 237 [.pointer none],.row bT co 3 1 (nA KL.encI ai),.row bU cp 4 1 (nA KL.encT aj)] w_) ?_ fun pt=>?_
 rintro ro qe ⟨iu,dr,bT,co,bU,cp,jr,jt,ju,jv,jw,jx,jy,jz,jA,jB,jC,gb,pG,m4⟩
 refine ZX (cs:=[jV p0.Laps,.slice am p0.Bibs.length an,.slice aw p0.Times.length ax,.slice bT ai.length co,.slice bU aj.length cp]) rfl rfl rfl rfl rfl gb (by rfl) m4 ?_
 intro qf iP m5
 exact eY _ _ ⟨iu,dr,bT,co,bU,cp,iP,jr,jt,ju,jv,jw,jx,jy,jz,jA,jB,jC,gb,rfl,pG,(m5.pick [1,2,3,4,0] _ (by decide) rfl)⟩
 refine ye (s:=gBw) (M:=fun σ_ w_=>∃ (U_:PHeap) (bV:Option Addr) (cr:Nat) (bW:Option Addr) (ct:Nat) (dt:Nat),σ_ 1=.pointer (some ⟨b2,0,none⟩)/\σ_ 12=.agg B0.toArray/\σ_ 13=.pointer (some ⟨b2,1,none⟩)/\σ_ 14=.slice am p0.Bibs.length an/\σ_ 15=jV (↑p0.Bibs.length:Int)/\σ_ 16=.slice bV ai.length cr/\σ_ 17=.pointer (some ⟨b2,1,none⟩)/\σ_ 18=.slice am p0.Bibs.length an/\σ_ 19=jV (↑p0.Bibs.length:Int)/\σ_ 20=.slice bW aj.length ct/\σ_ 21=.agg #[jV p0.Laps,.slice am p0.Bibs.length an,.slice aw p0.Times.length ax,.slice bV ai.length cr,.slice bW aj.length ct]/\σ_ 22=.pointer (some ⟨dt,0,none⟩)/\PHeap.Le U U_/\sW w U U_ [.blk b2 66 B0,.row bV cr 3 1 (nA KL.encI ai),.row bW ct 4 1 (nA KL.encT aj),.blk dt 327 [jV p0.Laps,.slice am p0.Bibs.length an,.slice aw p0.Times.length ax,.slice bV ai.length cr,.slice bW aj.length ct]] w_) ?_ fun pu=>?_
 rintro rp qg ⟨iv,bV,cr,bW,ct,dt,jD,jE,jF,jG,jH,jI,jJ,jK,jL,jM,jN,jO,pH,m6⟩
 refine ZB (cs:=[.pointer none]) Z Z Z Z Z Tryz.zeroValue237 Z m6 ?_
 intro qh iQ m7
 exact eY _ _ ⟨iv,iQ,bV,cr,bW,ct,dt,jD,rfl,jE,jF,jG,jH,jI,jJ,jK,jL,jM,jN,jO,pH,(m7.pick [1,0,2,3,4] _ (by decide) rfl)⟩
 refine ye (s:=.fl 9 gBx) (M:=fun σ_ w_=>∃ (U_:PHeap) (du:Nat) (bX:Option Addr) (cu:Nat) (bY:Option Addr) (cw:Nat),σ_ 1=.pointer (some ⟨b2,0,none⟩)/\σ_ 4=.pointer (some ⟨du,0,none⟩)/\σ_ 12=.agg B0.toArray/\σ_ 13=.pointer (some ⟨b2,1,none⟩)/\σ_ 14=.slice am p0.Bibs.length an/\σ_ 15=jV (↑p0.Bibs.length:Int)/\σ_ 16=.slice bX ai.length cu/\σ_ 17=.pointer (some ⟨b2,1,none⟩)/\σ_ 18=.slice am p0.Bibs.length an/\σ_ 19=jV (↑p0.Bibs.length:Int)/\σ_ 20=.slice bY aj.length cw/\PHeap.Le U U_/\sW w U U_ [.blk b2 66 B0,.blk du 237 [.pointer none],.row bX cu 3 1 (nA KL.encI ai),.row bY cw 4 1 (nA KL.encT aj)] w_) ?_ fun gS=>?_
 rintro rq qi ⟨iw,du,bX,cu,bY,cw,jP,jQ,gc,jR,jS,jT,ge,jU,jW,jX,gf,pI,m9⟩
 let B2:List Value:=[jV p0.Laps,.slice am p0.Bibs.length an,.slice aw p0.Times.length ax,.slice bX ai.length cu,.slice bY aj.length cw]
 refine zf rfl rfl rfl rfl (fun _=>ZT (pv:=[(0,.agg B0.toArray),(1,.slice bX ai.length cu),(2,.slice bY aj.length cw)]) (z:=[jV 0,.slice none 0 0,.slice none 0 0,.slice none 0 0,.slice none 0 0]) (cs:=B2) rfl (wAA gc (wAA ge (wAA gf wAO))) Tryz.zeroValue327 wKr rfl rfl) (ZX (cs:=B2) rfl rfl rfl rfl rfl rfl (by rfl) m9 ?_)
 intro qj iR n1
 exact eY _ _ ⟨iw,du,bX,cu,bY,cw,iR,jP,jQ,gc,jR,jS,jT,ge,jU,jW,jX,gf,rfl,rfl,pI,(n1.pick [1,2,3,4,0] _ (by decide) rfl)⟩
 refine ye (s:=gCn) (M:=fun σ_ w_=>∃ (U_:PHeap) (cN:Nat) (cE:Option Addr) (cR:Nat),σ_ 1=.pointer (some ⟨b2,0,none⟩)/\σ_ 4=.pointer (some ⟨cN,0,none⟩)/\σ_ 12=.agg B0.toArray/\σ_ 13=.pointer (some ⟨b2,1,none⟩)/\σ_ 14=.slice am p0.Bibs.length an/\σ_ 15=jV (↑p0.Bibs.length:Int)/\σ_ 17=.pointer (some ⟨b2,1,none⟩)/\σ_ 18=.slice am p0.Bibs.length an/\σ_ 19=jV (↑p0.Bibs.length:Int)/\σ_ 20=.slice cE aj.length cR/\PHeap.Le U U_/\sW w U U_ [.blk b2 66 B0,.blk cN 237 [.pointer none],.row cE cR 4 1 (nA KL.encT aj)] w_) ?_ fun gT=>?_
 rintro rt qk ⟨fB,cN,cE,cR,jY,jZ,j4,j5,j6,ep,j7,j8,j9,k6,pJ,n2⟩
 refine yq (enc:=KL.encI) (z:=(0:Int)) (v:=jV 0) Z Z Z Z Z (wDO zA) wFN Z Z Z Z ep ep dy n2 ?_
 intro iE fL n3
 have n4:sW w U fB [.row (some ⟨fL,0,none⟩) ai.length 3 1 (nA KL.encI ai),.blk b2 66 B0,.blk cN 237 [.pointer none],.row cE cR 4 1 (nA KL.encT aj)] iE:=n3
 exact gS _ _ ⟨fB,cN,(some ⟨fL,0,none⟩),ai.length,cE,cR,jY,jZ,j4,j5,j6,ep,rfl,j7,j8,j9,k6,pJ,(n4.pick [1,2,0,3] _ (by decide) rfl)⟩
 refine ye (s:=gCm) (M:=fun σ_ w_=>∃ (U_:PHeap) (cO:Nat) (cG:Option Addr) (cS:Nat),σ_ 1=.pointer (some ⟨b2,0,none⟩)/\σ_ 4=.pointer (some ⟨cO,0,none⟩)/\σ_ 12=.agg B0.toArray/\σ_ 13=.pointer (some ⟨b2,1,none⟩)/\σ_ 14=.slice am p0.Bibs.length an/\σ_ 15=jV (↑p0.Bibs.length:Int)/\σ_ 16=.slice cG ai.length cS/\σ_ 17=.pointer (some ⟨b2,1,none⟩)/\σ_ 18=.slice am p0.Bibs.length an/\σ_ 19=jV (↑p0.Bibs.length:Int)/\PHeap.Le U U_/\sW w U U_ [.blk b2 66 B0,.blk cO 237 [.pointer none],.row cG cS 3 1 (nA KL.encI ai)] w_) ?_ fun gU=>?_
 rintro ru ql ⟨fC,cO,cG,cS,k8,k9,lb,lc,lg,lh,li,lj,lk,eu,pK,n5⟩
 refine yq (enc:=KL.encT) (z:=false) (v:=.bool false) Z Z Z Z Z (wDO zq) wLk Z Z Z Z eu eu dz n5 ?_
 intro iF fM n7
 have n8:sW w U fC [.row (some ⟨fM,0,none⟩) aj.length 4 1 (nA KL.encT aj),.blk b2 66 B0,.blk cO 237 [.pointer none],.row cG cS 3 1 (nA KL.encI ai)] iF:=n7
 exact gS _ _ ⟨fC,cO,cG,cS,(some ⟨fM,0,none⟩),aj.length,k8,k9,lb,lc,lg,lh,li,lj,lk,eu,rfl,pK,(n8.pick [1,2,3,0] _ (by decide) rfl)⟩
 refine ye (s:=gCs) (M:=fun σ_ w_=>∃ (U_:PHeap) (bD:Option Addr) (bF:Nat) (bE:Option Addr) (bG:Nat),σ_ 1=.pointer (some ⟨b2,0,none⟩)/\σ_ 12=.agg B0.toArray/\σ_ 13=.pointer (some ⟨b2,1,none⟩)/\σ_ 14=.slice am p0.Bibs.length an/\σ_ 15=jV (↑p0.Bibs.length:Int)/\σ_ 16=.slice bD ai.length bF/\σ_ 17=.pointer (some ⟨b2,1,none⟩)/\σ_ 18=.slice am p0.Bibs.length an/\σ_ 19=jV (↑p0.Bibs.length:Int)/\σ_ 20=.slice bE aj.length bG/\PHeap.Le U U_/\sW w U U_ [.blk b2 66 B0,.row bD bF 3 1 (nA KL.encI ai),.row bE bG 4 1 (nA KL.encT aj)] w_) ?_ fun gV=>?_
 rintro rv qm ⟨fD,bD,bF,bE,bG,gg,eA,gh,gi,gj,eB,gm,gq,gr,eC,g8,gJ⟩
 let B3:List Value:=[jV p0.Laps,.slice am p0.Bibs.length an,.slice aw p0.Times.length ax,.slice bD ai.length bF,.slice bE aj.length bG]
 refine oR Z (ZT (pv:=[(0,.agg B0.toArray),(1,.slice bD ai.length bF),(2,.slice bE aj.length bG)]) (z:=[jV 0,.slice none 0 0,.slice none 0 0,.slice none 0 0,.slice none 0 0]) (cs:=B3) Z (wAA eA (wAA eB (wAA eC wAO))) Tryz.zeroValue327 wKr Z Z) (yU ?_ ?_)
 refine ZX (cs:=B3) rfl rfl rfl rfl rfl rfl (by rfl) gJ ?_
 intro qn iS n9
 exact pu _ _ ⟨fD,bD,bF,bE,bG,iS,gg,eA,gh,gi,gj,eB,gm,gq,gr,eC,rfl,rfl,g8,(n9.pick [1,2,3,0] _ (by decide) rfl)⟩
 refine ZB (cs:=[.pointer none]) Z Z Z Z Z Tryz.zeroValue237 Z gJ ?_
 intro qo iT od
 exact pt _ _ ⟨fD,iT,bD,bF,bE,bG,gg,rfl,eA,gh,gi,gj,eB,gm,gq,gr,eC,rfl,g8,(od.pick [1,0,2,3] _ (by decide) rfl)⟩
 refine oL Z (bI.ldBA (j:=0) Z Z Z YI yN (vs:=B0) Z Z) (oR Z (zD Z Z Zb Z zT) (oL Z (bI.ldB (j:=0) Z Z Z ze (v:=.slice am p0.Bibs.length an) Z) (oR Z (zW Z Z zA) (oR Z (zD Z Z Zb Z zT) (oL Z (bI.ldB (j:=0) Z Z Z ze (v:=.slice am p0.Bibs.length an) Z) (oR Z (zW Z Z zA) (yU ?_ ?_)))))))
 refine yq (enc:=KL.encI) (z:=(0:Int)) (v:=jV 0) Z Z Z Z Z (wDO zA) wFN Z Z Z Z Z Z dy bI ?_
 intro iG dY oe
 let B4:Res:=.row (some ⟨dY,0,none⟩) ai.length 3 1 (nA KL.encI ai)
 have gK:sW w U U [B4,.blk b2 66 B0] iG:=oe
 refine yU ?_ ?_
 refine yq (enc:=KL.encT) (z:=false) (v:=.bool false) Z Z Z Z Z (wDO zq) wLk Z Z Z Z Z Z dz gK ?_
 intro iH fN og
 have oh:sW w U U [.row (some ⟨fN,0,none⟩) aj.length 4 1 (nA KL.encT aj),B4,.blk b2 66 B0] iH:=og
 exact gV _ _ ⟨U,(some ⟨dY,0,none⟩),ai.length,(some ⟨fN,0,none⟩),aj.length,rfl,rfl,rfl,rfl,rfl,rfl,rfl,rfl,rfl,rfl,(zN _),(oh.pick [2,1,0] _ (by decide) rfl)⟩
 refine ZB (cs:=[.pointer none]) Z Z Z Z Z Tryz.zeroValue237 Z gK ?_
 intro qp iU oj
 exact gU _ _ ⟨U,iU,(some ⟨dY,0,none⟩),ai.length,rfl,rfl,rfl,rfl,rfl,rfl,rfl,rfl,rfl,rfl,(zN _),(oj.pick [2,0,1] _ (by decide) rfl)⟩
 refine yU ?_ ?_
 refine yq (enc:=KL.encT) (z:=false) (v:=.bool false) Z Z Z Z Z (wDO zq) wLk Z Z Z Z Z Z dz bI ?_
 intro iI dZ om
 let B5:Res:=.row (some ⟨dZ,0,none⟩) aj.length 4 1 (nA KL.encT aj)
 have gL:sW w U U [B5,.blk b2 66 B0] iI:=om
 refine yU ?_ ?_
 refine yq (enc:=KL.encI) (z:=(0:Int)) (v:=jV 0) Z Z Z Z Z (wDO zA) wFN Z Z Z Z Z Z dy gL ?_
 intro iJ fO oq
 have ot:sW w U U [.row (some ⟨fO,0,none⟩) ai.length 3 1 (nA KL.encI ai),B5,.blk b2 66 B0] iJ:=oq
 exact gV _ _ ⟨U,(some ⟨fO,0,none⟩),ai.length,(some ⟨dZ,0,none⟩),aj.length,rfl,rfl,rfl,rfl,rfl,rfl,rfl,rfl,rfl,rfl,(zN _),(ot.pick [2,0,1] _ (by decide) rfl)⟩
 refine ZB (cs:=[.pointer none]) Z Z Z Z Z Tryz.zeroValue237 Z gL ?_
 intro qr iV ou
 exact gT _ _ ⟨U,iV,(some ⟨dZ,0,none⟩),aj.length,rfl,rfl,rfl,rfl,rfl,rfl,rfl,rfl,rfl,rfl,(zN _),(ou.pick [2,0,1] _ (by decide) rfl)⟩
 refine ZB (cs:=[.pointer none]) Z Z Z Z Z Tryz.zeroValue237 Z bI ?_
 intro qs dv gM
 refine yU ?_ ?_
 refine yq (enc:=KL.encI) (z:=(0:Int)) (v:=jV 0) Z Z Z Z Z (wDO zA) wFN Z Z Z Z Z Z dy gM ?_
 intro iK fP ov
 have ow:sW w U U [.row (some ⟨fP,0,none⟩) ai.length 3 1 (nA KL.encI ai),.blk dv 237 [.pointer none],.blk b2 66 B0] iK:=ov
 exact gU _ _ ⟨U,dv,(some ⟨fP,0,none⟩),ai.length,rfl,rfl,rfl,rfl,rfl,rfl,rfl,rfl,rfl,rfl,(zN _),(ow.pick [2,1,0] _ (by decide) rfl)⟩
 refine yq (enc:=KL.encT) (z:=false) (v:=.bool false) Z Z Z Z Z (wDO zq) wLk Z Z Z Z Z Z dz gM ?_
 intro iL fQ ox
 have oy:sW w U U [.row (some ⟨fQ,0,none⟩) aj.length 4 1 (nA KL.encT aj),.blk dv 237 [.pointer none],.blk b2 66 B0] iL:=ox
 exact gT _ _ ⟨U,dv,(some ⟨fQ,0,none⟩),aj.length,rfl,rfl,rfl,rfl,rfl,rfl,rfl,rfl,rfl,rfl,(zN _),(oy.pick [2,1,0] _ (by decide) rfl)⟩
 rintro rx qt ⟨ix,b6,b8,bK,cc,bQ,ci,lm,lq,g9,oz⟩
 refine sR (.fx 0 .nil .stop) Z (ZB (cs:=[.slice none 0 0]) Z Z Z Z Z Tryz.zeroValue36 Z oz ?_)
 intro iM a8 gN
 refine eN (zG (sR gBu Z (oL Z (gN.ldBA (j:=1) Z Z lm YI yN (vs:=B0) Z Z) ?_)))
 have gx:=oE.le g9
 have gy:=oG.le g9
 refine bnK gR fun pQ l3 ph=>zP 0 Z Z Z Z (zQ Z Z Tryz.call188 (zH Z zZ) Z) gN (fun hs=>wHn p0 am an aw ax iM ix hs gx gy l3) (.inr Z) ?_
 rintro fE pZ q7 iN ib oB ⟨fR,ij,iY,rfl,rfl,l4,l5⟩
 let B6:Res:=.blk b6 237 [.pointer (some ⟨b8,0,none⟩)]
 have oC:sW w U fE [.blk a8 36 [.slice none 0 0],.blk b2 66 B0,B6,.blk b8 327 [jV p0.Laps,.slice am p0.Bibs.length an,.slice aw p0.Times.length ax,.slice bK l9.length cc,.slice bQ cW.length ci],.row bK cc 3 1 (nA KL.encI l9),.row bQ ci 4 1 (nA KL.encT cW)] iN:=oB
 refine eN (zR (yu fun dJ dC=>?_))
 have gu:dJ 4=.pointer (some ⟨b6,0,none⟩):=(dC 4).trans lq
 have eD:dJ 5=.pointer (some ⟨a8,0,none⟩):=(dC 5).trans rfl
 have ls:dJ 24=.func (.func 325) #[] #[.pointer (some ⟨fR,0,none⟩)]:=(dC 24).trans rfl
 clear dC
 have mi:=oC.nilrow 45 4
 have lw:=gx.le ib
 have lx:=gy.le ib
 refine bnK ph fun ic oY gP=>CK.rangeY (S:=(List wAG) × Int × (List Int) × (List (List Int)) × (List Int) × (List Bool)) (E:=Empty) (ar:=wGy) (PY:=(fun (s_:(List wAG) × Int × (List Int) × (List (List Int)) × (List Int) × (List Bool)) (U_:PHeap) (L_:List Res)=>match s_ with | (l1084,x1088,l1089,l1092,l1095,l1098)=>∃ (bL:Option Addr) (b4:Nat) (cC:Option Addr) (cP:Nat) (cD:Option Addr) (cQ:Nat) (bM:Option Addr) (ca:Nat) (bN:Option Addr) (cd:Nat),L_=[.row bL b4 45 4 (nA wAb l1084),.blk a8 36 [.slice bL l1084.length b4],.blk b2 66 B0,B6,.row bM ca 3 1 (nA KL.encI l1095),.row bN cd 4 1 (nA KL.encT l1098),.blk b8 327 [jV x1088,.slice cC l1089.length cP,.slice cD l1092.length cQ,.slice bM l1095.length ca,.slice bN l1098.length cd]]/\Sl U_ 1 cC cP l1089.length (nA KL.encI l1089)/\SlR U_ wDe cD cQ l1092)) (PE:=(fun (_:Empty) _ _=>False)) (exO:=Empty.elim) (s0:=([],p0.Laps,p0.Bibs,p0.Times,l9,cW)) (rr:=ic) ls Tryz.call325 (mi.pick [0,1,2,3,5,6,4] _ (by decide) rfl) (by decide) (fun _ _ _ h=>by obtain rfl:=h;rfl) (fun e=>nomatch e) ⟨none,0,am,an,aw,ax,bK,cc,bQ,ci,rfl,lw,lx⟩ (fun l w1 L1 PY' PE' mh me oD=>wFi PY' PE' _ l _ pQ fR ij iY w1 L1 fE mh me oD l4 l5 oY) ?_ ?_
 rintro av qZ qR ⟨l1084,x1088,l1089,l1092,l1095,l1098⟩ bi q8 qY dE pU pP pL au qT mj mg oH gO dG cz
 obtain ⟨bL,b4,cC,cP,cD,cQ,bM,ca,bN,cd,rfl,ly,lz⟩:=mg
 obtain rfl:=oH
 replace cz:∀ t,dG t=upd dJ 25 (jV bi) t:=cz
 have i2:dG 25=jV bi:=(cz 25).trans (wEQ _ _ _)
 have fY:dG 4=.pointer (some ⟨b6,0,none⟩):=(cz 4).trans ((wEA _ _ (by decide)).trans gu)
 have i4:dG 5=.pointer (some ⟨a8,0,none⟩):=(cz 5).trans ((wEA _ _ (by decide)).trans eD)
 clear cz
 let B7:Res:=.blk b8 327 [jV x1088,.slice cC l1089.length cP,.slice cD l1092.length cQ,.slice bM l1095.length ca,.slice bN l1098.length cd]
 let B8:Res:=.row bL b4 45 4 (nA wAb l1084)
 let B9:Res:=.blk a8 36 [.slice bL l1084.length b4]
 let dN:Res:=.row bM ca 3 1 (nA KL.encI l1095)
 let dO:Res:=.row bN cd 4 1 (nA KL.encT l1098)
 have ml:St au dE [.obj av pL,B8,B9,.blk b2 66 B0,B6,dN,dO,B7] pP:=mj
 try dsimp only at gO
 refine rR fL1 Z (oA Z i2 (zg ⟨Z,Z,_,_,ml,fun dX ay mm=>?_⟩))
 have gE:St au dE [.obj av ay,B8,B9,.blk b2 66 B0,B6,dN,dO,B7] dX:=mm
 refine zR (sR gCl Z (oL Z (gE.ldB (j:=4) Z Z fY YT (v:=.pointer (some ⟨b8,0,none⟩)) Z) (oM Z Z ?_)))
 have q:=bnd gO
 obtain ⟨⟨aq,ak⟩,lA,gQ⟩:=q
 try dsimp only at gQ
 have mn:St au dE [B7,dN,dO,.obj av ay,B8,B9,.blk b2 66 B0,B6] dX:=gE.pick [7,5,6,0,1,2,3,4] _ (by decide) rfl
 refine zP 3 Z Z Z Z (zQ Z Z Tryz.call189 (zH Z (zH Z zZ)) Z) mn (fun hs=>wGg (⟨(⟨x1088,l1089,l1092⟩:wAF),l1095,l1098⟩:wAL) b8 cC cP cD cQ bM ca bN cd bi dX dE hs ly lz lA) (.inl Z) ?_
 rintro dT pV q0 iy qU mp ⟨cY,dw,bo,bw,bO,cg,bj,bn,bf,bh,rfl,rfl,gv,gw⟩
 let bd:List Value:=[jV ak.Race.Laps,.slice bo ak.Race.Bibs.length bw,.slice bO ak.Race.Times.length cg,.slice bj ak.done.length bn,.slice bf ak.out.length bh]
 let az:Res:=.row cY dw 3 1 (nA KL.encI aq)
 let bg:Res:=.row bj bn 3 1 (nA KL.encI ak.done)
 let bt:Res:=.row bf bh 4 1 (nA KL.encT ak.out)
 have mq:St au dT [az,bg,bt,.blk b8 327 bd,.obj av ay,B8,B9,.blk b2 66 B0,B6] iy:=mp
 refine oA Z Z (eN (zG (sR fL3 Z (oM Z Z (oR Z (zW Z Z zA) (oM Z Z (eN (zR (bnK gQ fun ie oI oZ=>?_)))))))))
 have q:=wAw oI
 obtain ⟨eW,oJ⟩:=q
 replace eW:=zI eW
 refine CK.forN' (fun bb bJ σ_ w_=>∃ (U_:PHeap) (bP:Option Addr) (ch:Nat),σ_ 31=jV (↑bb:Int)/\σ_ 4=.pointer (some ⟨b6,0,none⟩)/\σ_ 5=.pointer (some ⟨a8,0,none⟩)/\σ_ 6=jV bi/\σ_ 7=.slice cY aq.length dw/\σ_ 29=.slice cY aq.length dw/\σ_ 30=jV (↑aq.length:Int)/\PHeap.Le dT U_/\St au U_ [bg,bt,.blk b8 327 bd,.obj av ay,.row bP ch 45 4 (nA wAb bJ),.blk a8 36 [.slice bP bJ.length ch],.blk b2 66 B0,B6,az] w_) oJ ?_ ?_ ?_
 exact ⟨dT,bL,b4,rfl,fY,i4,rfl,rfl,rfl,rfl,(zN _),(mq.pick [1,2,3,4,5,6,7,8,0] _ (by decide) rfl)⟩
 rintro bb bJ rd rg fH eS ⟨p6,bP,ch,eG,cx,d9,eh,i6,fZ,f0,eZ,eQ⟩ pm
 have fT:Hid ((↑bb:Int) < (↑aq.length:Int)):=zI (wAo eS)
 replace eS:=zI eS
 have oW:Hid (w64 ((↑bb:Int) + 1)=(↑(bb + 1):Int)):=zI (by have h1:=eW.out;have h2:=fT.out;rw [wAQ] <;> omega)
 refine sR fL1 Z (oR Z (zV Z eG f0) (eN (zG (cT Z fT (kN (zG (zR (sR fL3 Z (bnK pm fun _ eI o0=>?_)))))))))
 obtain ⟨qu,gz⟩:=eQ.rowSome (j:=8) rfl (by rw [wAC (f:=KL.encI) (sz:=1) (fun _=>rfl) aq];have hz:=wAY eI;omega)
 refine oR Z (ZC Z fZ gz eG zA zC (wAY eI)) ?_
 have oP:=wBO (xs:=aq) (wAY eI)
 refine zy rfl rfl rfl rfl (eQ.ldR (j:=8) rfl gz rfl rfl zM (wAZ (sz:=1) (fun _=>rfl) _ _ 0 _ oP (by first | omega | rfl | simp) rfl)) rfl (yw rfl rfl rfl rfl rfl rfl (eN (ZY ZQ [1,1,3,3,3,1,3,3,1,1,3,3,1,3,3,1,3,1,3,3,3,1,1,3,1,3,3,1,3,3,1,3,2,3,1,3,2,0,0] (wSL (.fx 32 (wRM (.fx 36 (.fx 37 (.fx 38 .nil .stop) .stop) .stop)) .stop)) (by kernel_rfl) ?_)))
 have a7:=eQ.drew
 generalize hw_W1224:({ fH with drawn:=fH.drawn + 1 }:World)=dm at a7 ⊢
 refine oL Z (a7.ldB (j:=5) Z Z d9 Tryz.isAgg36 (v:=.slice bP bJ.length ch) Z) (oL Z (a7.ldB (j:=7) Z Z cx YT (v:=.pointer (some ⟨b8,0,none⟩)) Z) (oR Z (yC Z Z) (oR Z (zD Z Z Zp Z yN) (oR Z (zD Z Z Zb Z zT) (oL Z (a7.ldB (j:=2) Z Z Z ze (v:=.slice bo ak.Race.Bibs.length bw) Z) (oM Z Z (bnK o0 fun cA eJ o3=>?_)))))))
 have eK:=gv.le eZ
 have q:=eK.el (fun _=>rfl) (wAK eJ)
 obtain ⟨qv,qW,l6,l8⟩:=q
 refine oR Z (zx Z Z l6 Z zA zC (wAi eJ) (wAj eJ)) (oL Z (a7.ldC (f:=0) l8 (v:=jV cA) Z Z zM Z) (oL Z (a7.ldB (j:=7) Z Z cx YT (v:=.pointer (some ⟨b8,0,none⟩)) Z) (oR Z (yC Z Z) (oR Z (zD Z Z Zp Z zT) (oL Z (a7.ldB (j:=2) Z Z Z ze (v:=.slice bj ak.done.length bn) Z) (oM Z Z (bnK o3 fun _ bH o5=>?_)))))))
 obtain ⟨qw,dA⟩:=a7.rowSome (j:=0) rfl (by rw [wAC (f:=KL.encI) (sz:=1) (fun _=>rfl) ak.done];have hz:=wAY bH;omega)
 refine oR Z (zx Z Z dA Z zA zC (wCQ bH) (wCR bH)) ?_
 have oQ:=wBO (xs:=ak.done) (wAY bH)
 refine zy rfl rfl rfl rfl (a7.ldR (j:=0) rfl dA rfl rfl zM (wAZ (sz:=1) (fun _=>rfl) _ _ 0 _ oQ (by first | omega | rfl | simp) rfl)) rfl (zh rfl rfl rfl rfl rfl eh (zy rfl rfl rfl rfl (a7.ldB (j:=7) rfl rfl cx YT (v:=.pointer (some ⟨b8,0,none⟩)) rfl) rfl (zf rfl rfl rfl rfl (fun _=>yC rfl rfl) (zf rfl rfl rfl rfl (fun _=>zD rfl rfl Zp rfl yN) (zf rfl rfl rfl rfl (fun _=>zD rfl rfl Zb rfl zT) (zy rfl rfl rfl rfl (a7.ldB (j:=2) rfl rfl rfl ze (v:=.slice bo ak.Race.Bibs.length bw) rfl) rfl (zy rfl rfl rfl rfl (a7.ldB (j:=7) rfl rfl cx YT (v:=.pointer (some ⟨b8,0,none⟩)) rfl) rfl (zh rfl rfl rfl rfl rfl rfl (zy rfl rfl rfl rfl (a7.ldB (j:=7) rfl rfl cx YT (v:=.pointer (some ⟨b8,0,none⟩)) rfl) rfl (zf rfl rfl rfl rfl (fun _=>yC rfl rfl) (zf rfl rfl rfl rfl (fun _=>zD rfl rfl Zp rfl zT) (zy rfl rfl rfl rfl (a7.ldB (j:=2) rfl rfl rfl ze (v:=.slice bj ak.done.length bn) rfl) rfl (zh rfl rfl rfl rfl rfl rfl (zf rfl rfl rfl rfl (fun _=>zx rfl rfl dA rfl zA zC (wCQ bH) (wCR bH)) ?_))))))))))))))
 have oS:=wBO (xs:=ak.done) (wAY bH)
 refine zy rfl rfl rfl rfl (a7.ldR (j:=0) rfl dA rfl rfl zM (wAZ (sz:=1) (fun _=>rfl) _ _ 0 _ oS (by first | omega | rfl | simp) rfl)) rfl (zh rfl rfl rfl rfl rfl eh ?_)
 have q:=a7.freezeT (k:=0) (n:=ak.done.length) rfl (wAC (f:=KL.encI) (sz:=1) (fun _=>rfl) ak.done) (by decide)
 obtain ⟨im,gW,pi,mr,pM⟩:=q
 let bu:Res:=.row bP ch 45 4 (nA wAb bJ)
 let bm:Res:=.blk a8 36 [.slice bP bJ.length ch]
 have ms:St au im [bt,.blk b8 327 bd,.obj av ay,bu,bm,.blk b2 66 B0,B6,az] dm:=mr
 have q:=ms.freezeT (k:=0) (n:=ak.out.length) rfl (wAC (f:=KL.encT) (sz:=1) (fun _=>rfl) ak.out) (by decide)
 obtain ⟨io,fc,pj,mw,pN⟩:=q
 have mx:St au io [.blk b8 327 bd,.obj av ay,bu,bm,.blk b2 66 B0,B6,az] dm:=mw
 have q:=mx.freezeTB (k:=0) rfl
 obtain ⟨dU,dD,cV,my,pO⟩:=q
 replace cV:=Cl.of cV
 have mz:St au dU [.obj av ay,bu,bm,.blk b2 66 B0,B6,az] dm:=my
 replace cV:Cl dU b8 0 bd:=cV
 have lB:=eK.le gW
 have lC:=lB.le fc
 have lD:=lC.le dD
 have lE:=gw.le eZ
 have lG:=lE.le gW
 have lH:=lG.le fc
 have lI:=lH.le dD
 have lJ:=pi.le fc
 have lK:=lJ.le dD
 have lL:=pj.le dD
 refine bnK o5 fun q9 lM o6=>zP 0 rfl rfl rfl rfl (zQ rfl rfl Tryz.call190 (zH rfl (zH rfl (zH rfl (zH rfl zZ)))) rfl) mz (fun hs=>wFQ ak b8 bo bw bO cg bj bn bf bh (gd aq bb) (gd ak.done (gd aq bb).toNat) bi dm dU hs cV lD lI lK lL lM) (.inr rfl) ?_
 rintro ip pW q5 dn py mA ⟨rfl,rfl⟩
 have mB:St au ip [.obj av ay,bu,bm,.blk b2 66 B0,B6,az] dn:=mA
 have q:=pO _ _ _ py mB
 obtain ⟨iq,pz,mC⟩:=q
 have mD:St au iq [.blk b8 327 bd,.obj av ay,bu,bm,.blk b2 66 B0,B6,az] dn:=mC
 have q:=pN _ _ _ pz mD
 obtain ⟨ir,pC,mE⟩:=q
 have mF:St au ir [bt,.blk b8 327 bd,.obj av ay,bu,bm,.blk b2 66 B0,B6,az] dn:=mE
 have q:=pM _ _ _ pC mF
 obtain ⟨cK,gY,mG⟩:=q
 have gG:St au cK [bg,bt,.blk b8 327 bd,.obj av ay,bu,bm,.blk b2 66 B0,B6,az] dn:=mG
 refine bnK o6 fun cB eM o7=>?_
 have lN:=eK.le gY
 have q:=lN.el (fun _=>rfl) (wAK eM)
 obtain ⟨qx,qX,l7,ma⟩:=q
 refine oR Z (zx Z Z l7 Z zA zC (wAi eM) (wAj eM)) (oL Z (gG.ldC (f:=0) ma (v:=jV cB) Z Z zM Z) ?_)
 let dP:List Value:=[jV cA,jV (gd ak.done (gd aq bb).toNat),jV bi,jV cB]
 let fk:List Value:=[jV 0,jV 0,jV 0,jV 0]
 refine oR Z (ZT (pv:=[(0,jV cA),(1,jV (gd ak.done (gd aq bb).toNat)),(2,jV bi),(3,jV cB)]) (z:=fk) (cs:=dP) Z (wAA Z (wAA Z (wAA Z (wAA Z wAO)))) Tryz.zeroValue45 wOz Z Z) (zk (pv:=[(0,.agg dP.toArray)]) (zs:=fk) (cs:=dP) Z Z Z Z Z (wAA Z wAO) YJ YX Tryz.zeroValue45 Z Z Z Z Z gG ?_)
 intro iz iO mH
 let dQ:Res:=.row (some ⟨iO,0,none⟩) 1 45 4 (nA wAb [(⟨cA,(gd ak.done (gd aq bb).toNat),bi,cB⟩:wAG)])
 have gH:St au cK [dQ,bg,bt,.blk b8 327 bd,.obj av ay,bu,bm,.blk b2 66 B0,B6,az] iz:=mH
 refine bnK o7 fun dH lO o8=>yE (j:=5) (enc:=wAb) (xs:=bJ) (ys:=[(⟨cA,(gd ak.done (gd aq bb).toNat),bi,cB⟩:wAG)]) (zs:=dH) rfl rfl rfl rfl rfl Tryz.underlying36 wRl rfl rfl rfl rfl rfl rfl gH rfl rfl rfl (gH.srcR (j:=0) rfl (by decide) (wAC (f:=wAb) (sz:=4) (fun _=>rfl) [(⟨cA,(gd ak.done (gd aq bb).toNat),bi,cB⟩:wAG)])) (fun _=>rfl) (fun _=>rfl) lO rfl ?_
 intro cZ dx iA mI
 let fq:Res:=.row cZ dx 45 4 (nA wAb dH)
 have mJ:St au cK [dQ,bg,bt,.blk b8 327 bd,.obj av ay,fq,bm,.blk b2 66 B0,B6,az] iA:=mI
 refine ZK (j:=6) (vs:=[.slice cZ dH.length dx]) Z Z Z Z mJ Z d9 Z Z Tryz.sizeOf36 (zJ Z) Z Z Z ?_
 intro iB mK
 have mL:St au cK [dQ,bg,bt,.blk b8 327 bd,.obj av ay,fq,.blk a8 36 [.slice cZ dH.length dx],.blk b2 66 B0,B6,az] iB:=mK
 refine zg (zd (zF (rR fL2 Z (oR Z (zz (zY Z eG Z) (congrArg (jV) oW.out)) (oM Z Z (zg ?_))))))
 cases o8
 exact zF ⟨rfl,⟨cK,cZ,dx,rfl,cx,d9,eh,i6,fZ,f0,(eZ.trans gY),(mL.pick [1,2,3,4,5,6,7,8,9] _ (by decide) rfl)⟩⟩
 rintro rh p8 ⟨fz,dK,d6,lu,i7,i8,qA,i9,qC,ja,gZ,mM⟩
 have iW:Hid (¬ ((↑(((↑aq.length:Int):Int) - 0).toNat:Int) < (↑aq.length:Int))):=zI (wAc)
 refine sR fL1 Z (oR Z (zV Z lu ja) (eN (zG (cF Z iW (ZD (zb (zb (zr (zF (sR fL3 Z (oM Z i9 (oR Z (zW Z Z zA) (oM Z Z (eN (zR (bnK oZ fun rf oK o9=>?_))))))))))))))))
 have q:=wAw oK
 obtain ⟨eX,oO⟩:=q
 replace eX:=zI eX
 let c9:Res:=.row dK d6 45 4 (nA wAb ie)
 let dd:Res:=.blk a8 36 [.slice dK ie.length d6]
 refine CK.forN' (fun bC be σ_ w_=>∃ (U_:PHeap),σ_ 76=jV (↑bC:Int)/\σ_ 4=.pointer (some ⟨b6,0,none⟩)/\σ_ 5=.pointer (some ⟨a8,0,none⟩)/\σ_ 74=.slice cY aq.length dw/\σ_ 75=jV (↑aq.length:Int)/\PHeap.Le fz U_/\St au U_ [bg,.row bf bh 4 1 (nA KL.encT be),.blk b8 327 [jV ak.Race.Laps,.slice bo ak.Race.Bibs.length bw,.slice bO ak.Race.Times.length cg,.slice bj ak.done.length bn,.slice bf be.length bh],.obj av ay,c9,dd,.blk b2 66 B0,B6,az] w_/\be.length=ak.out.length) oO ?_ ?_ ?_
 exact ⟨fz,Z,i7,i8,Z,Z,(zN _),mM,Z⟩
 rintro bC be re ri p9 eV ⟨dV,eH,f4,jb,f5,f7,pD,cy,lP⟩ pn
 have fU:Hid ((↑bC:Int) < (↑aq.length:Int)):=zI (wAo eV)
 replace eV:=zI eV
 have oX:Hid (w64 ((↑bC:Int) + 1)=(↑(bC + 1):Int)):=zI (by have h1:=eX.out;have h2:=fU.out;rw [wAQ] <;> omega)
 refine sR fL1 Z (oR Z (zV Z eH f7) (eN (zG (cT Z fU (kN (zG (zR (sR fL3 Z (bnK pn fun _ eP pa=>?_)))))))))
 obtain ⟨qy,gA⟩:=cy.rowSome (j:=8) rfl (by rw [wAC (f:=KL.encI) (sz:=1) (fun _=>rfl) aq];have hz:=wAY eP;omega)
 refine oR Z (ZC Z f5 gA eH zA zC (wAY eP)) ?_
 have oU:=wBO (xs:=aq) (wAY eP)
 refine zy rfl rfl rfl rfl (cy.ldR (j:=8) rfl gA rfl rfl zM (wAZ (sz:=1) (fun _=>rfl) _ _ 0 _ oU (by first | omega | rfl | simp) rfl)) rfl (yw rfl rfl rfl rfl rfl rfl (eN (rR (wIo (.fx 6 .nil .stop)) rfl (zy rfl rfl rfl rfl (cy.ldB (j:=7) rfl rfl f4 YT (v:=.pointer (some ⟨b8,0,none⟩)) rfl) rfl (zf rfl rfl rfl rfl (fun _=>yC rfl rfl) (zf rfl rfl rfl rfl (fun _=>zD rfl rfl Zp rfl Zv) (zy rfl rfl rfl rfl (cy.ldB (j:=2) rfl rfl rfl yb (v:=.slice bf be.length bh) rfl) rfl (zh rfl rfl rfl rfl rfl rfl (bnK pa fun _ cU pb=>?_)))))))))
 obtain ⟨qz,gC⟩:=cy.rowSome (j:=1) rfl (by rw [wAC (f:=KL.encT) (sz:=1) (fun _=>rfl) be];have hz:=wAY cU;omega)
 refine oR Z (zx Z Z gC Z zq Zn (wCQ cU) (wCR cU)) ?_
 have oV:=wBO (xs:=be) (wAY cU)
 refine OKS.stR (j:=1) (vs:=[.bool true]) (cs':=nA KL.encT (nH be (gd aq bC).toNat true)) rfl rfl rfl rfl cy rfl gC rfl rfl rfl Zn (by rw [wAC (f:=KL.encT) (sz:=1) (fun _=>rfl)];have hz:=wAY cU;show _ + 1 <= _;first | omega | (simp only [nJ];omega) | (simp only [nM,nK,nL];omega)) rfl (wES (sz:=1) (fo:=0) (fun _=>rfl) _ _ _ _ oV (by first | omega | (simp only [nJ];omega) | (simp only [nM,nK,nL];omega)) (zJ rfl) rfl) rfl ?_
 intro fI mN
 let dR:Res:=.row bf bh 4 1 (nA KL.encT (nH be (gd aq bC).toNat true))
 have mO:St au dV [bg,dR,.blk b8 327 [jV ak.Race.Laps,.slice bo ak.Race.Bibs.length bw,.slice bO ak.Race.Times.length cg,.slice bj ak.done.length bn,.slice bf be.length bh],.obj av ay,c9,dd,.blk b2 66 B0,B6,az] fI:=mN
 have mP:St au dV [bg,dR,.blk b8 327 [jV ak.Race.Laps,.slice bo ak.Race.Bibs.length bw,.slice bO ak.Race.Times.length cg,.slice bj ak.done.length bn,.slice bf ((nH be (gd aq bC).toNat true).length) bh],.obj av ay,c9,dd,.blk b2 66 B0,B6,az] fI:=by simpa only [B0,az,bg,c9,dd,dR,B6,nI] using mO
 refine zg (zd (zF (rR fL2 Z (oR Z (zz (zY Z eH Z) (congrArg (jV) oX.out)) (oM Z Z (zg ?_))))))
 cases pb
 exact zF ⟨Z,⟨dV,Z,f4,jb,f5,f7,pD,mP,(nI.trans lP)⟩⟩
 rintro rj qa ⟨p7,lv,qD,qE,qF,jc,g6,mQ,qS⟩
 have iX:Hid (¬ ((↑(((↑aq.length:Int):Int) - 0).toNat:Int) < (↑aq.length:Int))):=zI (wAc)
 refine sR fL1 Z (oR Z (zV Z lv jc) (eN (zG (cF Z iX (ZD (zb (zb (zr (zd ?_)))))))))
 have lQ:=gv.le gZ
 have lR:=lQ.le g6
 have lS:=gw.le gZ
 have lT:=lS.le g6
 have q:=nD o9
 obtain rfl:=q
 exact ⟨_,_,(mQ.pick [3,4,5,6,7,0,1,2] _ (by decide) rfl),rfl,⟨dK,d6,bo,bw,bO,cg,bj,bn,bf,bh,rfl,lR,lT⟩⟩
 rintro dF dW pX fJ qV mR
 rcases ic with ⟨dI,pR,pS,pT,ig,ii⟩ | iZ
 try dsimp only at gP
 rintro ⟨bp,bx,fg,fV,fh,fW,dL,d7,dM,d8,rfl,lU,lV⟩
 let cH:Res:=.blk b8 327 [jV pR,.slice fg pS.length fV,.slice fh pT.length fW,.slice dL ig.length d7,.slice dM ii.length d8]
 let cI:Res:=.row dL d7 3 1 (nA KL.encI ig)
 let cJ:Res:=.row dM d8 4 1 (nA KL.encT ii)
 let ft:Res:=.blk a8 36 [.slice bp dI.length bx]
 have gI:sW w U dW [.row bp bx 45 4 (nA wAb dI),ft,.blk b2 66 B0,B6,cI,cJ,cH,.obj dF (.deferred (some []))] fJ:=mR
 refine zd (zF (sR gBu Z (oL Z (gI.ldB (j:=1) Z Z eD Tryz.isAgg36 (v:=.slice bp dI.length bx) Z) ?_)))
 have md:FnOK Tryz.prog dW (.func (.func 192) #[] #[]) wRj wRk (fun x=>wBW x.1 x.2):=⟨192,[],[],rfl,Tryz.call192,fun U1 w1 x y vs le hs ha hm=>by obtain rfl:=ha;exact wKH x.1 x.2 w1 U1 hs  hm⟩
 refine bnK gP fun fe lW pd=>zP 1 Z Z Z Z (zQ Z Z Tryz.call191 (zH Z (zH Z zZ)) Z) gI (fun hs=>wEN dI bp bx (fun x=>wBW x.1 x.2) (.func (.func 192) #[] #[]) fJ dW hs md ⟨_,_,Z⟩ lW) (.inl Z) ?_
 rintro di pY q6 dp g7 mS ⟨rfl,rfl,lY⟩
 let de:Res:=.row bp bx 45 4 (nA wAb fe)
 have mT:sW w U di [de,ft,.blk b2 66 B0,B6,cI,cJ,cH,.obj dF (.deferred (some []))] dp:=mS
 let df:Res:=.blk a8 36 [.slice bp fe.length bx]
 have mU:sW w U di [de,df,.blk b2 66 B0,B6,cI,cJ,cH,.obj dF (.deferred (some []))] dp:=by simp only [df,lY];exact mT
 refine eN (zG (ZY ZQ [1,1,3,3] fL4 (by kernel_rfl) ?_))
 have dB:=mU.drew
 generalize hw_W1454:({ dp with drawn:=dp.drawn + 1 }:World)=qb at dB ⊢
 refine oL Z (dB.ldB (j:=3) Z Z gu YT (v:=.pointer (some ⟨b8,0,none⟩)) Z) (oL Z (dB.ldB (j:=1) Z Z eD Tryz.isAgg36 (v:=.slice bp fe.length bx) Z) (oA Z Z (oA Z Z (eN (zS ?_)))))
 have lZ:=lU.le g7
 have l0:=lV.le g7
 refine wFH (by first | exact .inl rfl | exact .inr rfl) (rbs:=[dF]) (L:=[de,df,.blk b2 66 B0,B6,cI,cJ,cH]) dB fun iC mV=>?_
 have mW:sW w U di [de,df,.blk b2 66 B0,B6,cI,cJ,cH] iC:=mV
 cases pd
 exact ⟨_,(wFA rfl rfl),di,_,(mW.pick [6,4,5,0] _ (by decide) rfl),b8,fg,fV,fh,fW,dL,d7,dM,d8,bp,bx,rfl,rfl,lZ,l0⟩
 exact iZ.elim
set_option maxHeartbeats 4000000
theorem wHG (p0:wAF) (ai:Option Addr) (ak:Nat) (aj:Option Addr) (am:Nat) (w:World) (U:PHeap) (hS:St0 w U []) (bg:Sl U 1 ai ak p0.Bibs.length (nA KL.encI p0.Bibs)) (bh:SlR U wDe aj am p0.Times) {r:(List wAG) × Int} (hm:wCA p0=some r):Gv Tryz.prog 29 [.agg #[jV p0.Laps,.slice ai p0.Bibs.length ak,.slice aj p0.Times.length am]] w (wBp w [] U (fun U_ L_ v=>∃ (A0:Option Addr) (c0:Nat),v=.tuple #[.slice A0 r.1.length c0,jV r.2]/\L_=[.row A0 c0 45 4 (nA wAb r.1)])):=by
 unfold wCA at hm
 refine Gv.of Tryz.func29 Z Tryz.ntmps29 Tryz.results29 Z (sR gCf Z ?_)
 let B0:List Value:=[jV p0.Laps,.slice ai p0.Bibs.length ak,.slice aj p0.Times.length am]
 refine ZX (cs:=B0) rfl rfl rfl rfl rfl rfl (by rfl) hS ?_
 intro W1 b2 bf
 refine oA Z Z (oA Z Z (eN (zG (sR gCc Z (oL Z (bf.ldBA (j:=0) Z Z Z YI yN (vs:=B0) Z Z) (bnK hm fun x5 h6 bG=>zP 0 Z Z Z Z (zQ Z Z Tryz.call105 (zH Z zZ) Z) bf (fun hs=>wFv p0 ai ak aj am W1 U hs bg bh h6) (.inr Z) ?_))))))
 rintro U8 L9 bM az bj bz ⟨rfl,rfl⟩
 have au:sW w U U8 [.blk b2 66 B0] az:=bz
 refine oA Z Z (eN (sR fL2 Z (oM Z Z (oR Z (ZU Z Z Z) (eN (ifc bG ?_ ?_))))))
 intro ap bE
 refine zn (zo (fun h=>h ap.out)) (kN (sR (.fl 0 (.fx 1 (wFp (.nil)) .stop)) Z (oL Z (au.ldBA (j:=0) Z Z Z YI yN (vs:=B0) Z Z) ?_)))
 have bu:=bg.le bj
 have bv:=bh.le bj
 have q:=bnd bE
 obtain ⟨⟨ag,bm⟩,bw,bi⟩:=q
 try dsimp only at bi
 refine zP 0 Z Z Z Z (zQ Z Z Tryz.call106 (zH Z zZ) Z) au (fun hs=>wJP p0 ai ak aj am az U8 hs bu bv bw) (.inr Z) ?_
 rintro ay bH bN br bL bA ⟨a8,bn,bs,bo,bt,aw,bd,ax,be,an,aq,rfl,rfl,bJ,bK⟩
 have bC:sW w U ay [.blk a8 327 [jV ag.Race.Laps,.slice bn ag.Race.Bibs.length bs,.slice bo ag.Race.Times.length bt,.slice aw ag.done.length bd,.slice ax ag.out.length be],.row aw bd 3 1 (nA KL.encI ag.done),.row ax be 4 1 (nA KL.encT ag.out),.row an aq 45 4 (nA wAb bm),.blk b2 66 B0] br:=bA
 refine oM Z Z (oR Z (ZF Z Z (v:=.pointer (some ⟨a8,0,none⟩)) Z) (oR Z (ZF Z Z (v:=.slice an bm.length aq) Z) (oA Z Z (oA Z Z (eN (sR fL3 Z (oM Z Z (oA Z Z (oA Z Z (eN (zS ?_)))))))))))
 cases bi
 exact ⟨rfl,_,(wFA rfl rfl),ay,_,(bC.pick [3] _ (by decide) rfl),an,aq,rfl,rfl⟩
 intro ap bF
 refine cT Z ap (sR fL3 Z (oM Z Z (oA Z Z (oA Z Z (eN (zS (zK ?_)))))))
 have bD:=au.nilrow 45 4
 cases bF
 exact ⟨rfl,_,(wFA rfl rfl),U8,_,(bD.pick [0] _ (by decide) rfl),none,0,rfl,rfl⟩
theorem wJQ (p0:wAF) (ai:Option Addr) (ak:Nat) (aj:Option Addr) (am:Nat) (w:World) (U:PHeap) (hS:St0 w U []) (bh:Sl U 1 ai ak p0.Bibs.length (nA KL.encI p0.Bibs)) (bi:SlR U wDe aj am p0.Times) {r:(List Int) × Int} (hm:wCW p0=some r):Gv Tryz.prog 92 [.agg #[jV p0.Laps,.slice ai p0.Bibs.length ak,.slice aj p0.Times.length am]] w (wBp w [] U (fun U_ L_ v=>∃ (A0:Option Addr) (c0:Nat),v=.tuple #[.slice A0 r.1.length c0,jV r.2]/\L_=[.row A0 c0 3 1 (nA KL.encI r.1)])):=by
 unfold wCW at hm
 refine Gv.of Tryz.func92 Z Tryz.ntmps92 Tryz.results92 Z (sR gCf Z ?_)
 let B0:List Value:=[jV p0.Laps,.slice ai p0.Bibs.length ak,.slice aj p0.Times.length am]
 refine ZX (cs:=B0) rfl rfl rfl rfl rfl rfl (by rfl) hS ?_
 intro W1 b2 bf
 refine oA Z Z (oA Z Z (eN (zG (sR gCc Z (oL Z (bf.ldBA (j:=0) Z Z Z YI yN (vs:=B0) Z Z) (bnK hm fun x5 h6 bG=>zP 0 Z Z Z Z (zQ Z Z Tryz.call105 (zH Z zZ) Z) bf (fun hs=>wFv p0 ai ak aj am W1 U hs bh bi h6) (.inr Z) ?_))))))
 rintro U8 L9 bM az bm bA ⟨rfl,rfl⟩
 have au:sW w U U8 [.blk b2 66 B0] az:=bA
 refine oA Z Z (eN (sR fL2 Z (oM Z Z (oR Z (ZU Z Z Z) (eN (ifc bG ?_ ?_))))))
 intro aq bE
 refine zn (zo (fun h=>h aq.out)) (kN (sR (.fl 0 (.fx 1 (wFp (.nil)) .stop)) Z (oL Z (au.ldBA (j:=0) Z Z Z YI yN (vs:=B0) Z Z) ?_)))
 have bv:=bh.le bm
 have bw:=bi.le bm
 have q:=bnd bE
 obtain ⟨⟨ag,bn⟩,bx,bj⟩:=q
 try dsimp only at bj
 refine zP 0 Z Z Z Z (zQ Z Z Tryz.call106 (zH Z zZ) Z) au (fun hs=>wJP p0 ai ak aj am az U8 hs bv bw bx) (.inr Z) ?_
 rintro ay bH bN bs bL bC ⟨a8,bo,bt,bp,bu,an,ao,aw,bd,ax,be,rfl,rfl,bJ,bK⟩
 have bg:sW w U ay [.blk a8 327 [jV ag.Race.Laps,.slice bo ag.Race.Bibs.length bt,.slice bp ag.Race.Times.length bu,.slice an ag.done.length ao,.slice aw ag.out.length bd],.row an ao 3 1 (nA KL.encI ag.done),.row aw bd 4 1 (nA KL.encT ag.out),.row ax be 45 4 (nA wAb bn),.blk b2 66 B0] bs:=bC
 refine oM Z Z (oR Z (ZF Z Z (v:=.pointer (some ⟨a8,0,none⟩)) Z) (oR Z (ZF Z Z (v:=.slice ax bn.length be) Z) (oA Z Z (oA Z Z (eN (sR fL6 Z (oM Z Z (oR Z (yC Z Z) (oR Z (zD Z Z Zp Z zT) (oL Z (bg.ldB (j:=0) Z Z Z ze (v:=.slice an ag.done.length ao) Z) (oA Z Z (oA Z Z (eN (zS ?_))))))))))))))
 cases bj
 exact ⟨rfl,_,(wFA rfl rfl),ay,_,(bg.pick [1] _ (by decide) rfl),an,ao,rfl,rfl⟩
 intro aq bF
 refine cT Z aq (sR fL3 Z (oM Z Z (oA Z Z (oA Z Z (eN (zS (zK ?_)))))))
 have bD:=au.nilrow 3 1
 cases bF
 exact ⟨rfl,_,(wFA rfl rfl),U8,_,(bD.pick [0] _ (by decide) rfl),none,0,rfl,rfl⟩
theorem wHR (p0:wAH) (bs:Option Addr) (bv:Nat) (ap:Option Addr) (aq:Nat) (w:World) (U:PHeap) (hS:St0 w U []) (dJ:Sl U 1 bs bv p0.Classes.length (nA KL.encI p0.Classes)) (cW:SlR U wJJ ap aq p0.Legs) {r:Int} (hm:wCo p0=some r):Gv Tryz.prog 93 [.agg #[jV p0.Bib,.slice bs p0.Classes.length bv,.slice ap p0.Legs.length aq]] w (wBp w [] U (fun U_ L_ v=>v=jV r/\L_=[])):=by
 unfold wCo at hm
 refine Gv.of Tryz.func93 Z Tryz.ntmps93 Tryz.results93 Z (sR gBt Z ?_)
 let B0:List Value:=[jV p0.Bib,.slice bs p0.Classes.length bv,.slice ap p0.Legs.length aq]
 refine ZX (cs:=B0) rfl rfl rfl rfl rfl rfl (by rfl) hS ?_
 intro W1 b2 cR
 refine oA Z Z (eN (sR (.fl 0 (.fx 1 (.fx 2 .nil .stop) .stop)) Z ?_))
 let B1:List Value:=[jV 0,jV 0,jV 0]
 refine oR Z (ZT (pv:=[]) (z:=B1) (cs:=B1) Z wAO yV wGs Z Z) (ZB (cs:=B1) Z Z Z Z Z yV Z cR ?_)
 intro W5 b6 cV
 refine ZK (j:=0) (vs:=B1) Z Z Z Z cV Z Z Z Z yD (zJ Z) Z Z Z ?_
 intro W9 cK
 have bM:sW w U U [.blk b6 79 B1,.blk b2 73 B0] W9:=cK
 refine eN (sR fL1 Z (oA Z Z (eN (zG (sR fL4 Z (oR Z (zD Z Z ZH Z yT) (oL Z (bM.ldB (j:=1) Z Z Z yd (v:=.slice ap p0.Legs.length aq) Z) (oR Z (zW Z Z ZW) (oM Z Z (eN (zR (bnK hm fun dQ cX dg=>?_))))))))))))
 have q:=wAw cX
 obtain ⟨bo,cY⟩:=q
 replace bo:=zI bo
 refine CK.forN' (fun am bU σ_ w_=>∃ (U_:PHeap),σ_ 15=jV (↑am:Int)/\σ_ 3=.pointer (some ⟨b6,0,none⟩)/\σ_ 4=jV bU/\σ_ 13=.slice ap p0.Legs.length aq/\σ_ 14=jV (↑p0.Legs.length:Int)/\PHeap.Le U U_/\sW w U U_ [.blk b6 79 B1,.blk b2 73 B0] w_) cY ?_ ?_ ?_
 exact ⟨U,Z,Z,Z,Z,Z,(zN _),bM⟩
 rintro am bU dO dU dC bm ⟨az,bh,cy,cz,bE,bF,bT,bN⟩ dq
 have bC:Hid ((↑am:Int) < (↑p0.Legs.length:Int)):=zI (wAo bm)
 replace bm:=zI bm
 have dd:Hid (w64 ((↑am:Int) + 1)=(↑(am + 1):Int)):=zI (by have h1:=bo.out;have h2:=bC.out;rw [wAQ] <;> omega)
 refine sR fL1 Z (oR Z (zV Z bh bF) (eN (zG (cT Z bC (kN (zG (zR (sR gCo Z (bnK dq fun ag bK dh=>?_)))))))))
 have cE:=cW.le bT
 have q:=cE.el (wAK bK)
 obtain ⟨cg,du,dN,cJ,bj,dp⟩:=q
 obtain ⟨bu,bx,aw,ax,rfl,dI,cG⟩:=dp
 replace bj:Cl az cg (du + am * 3) [jV ag.Skier,.slice bu ag.Loops.length bx,.slice aw ag.Bouts.length ax]:=bj
 refine oR Z (ZC Z bE cJ bh ZW Zc (wAg bK)) (oL Z (bN.ldCA (f:=0) bj Z Z yy Zc (us:=[jV ag.Skier,.slice bu ag.Loops.length bx,.slice aw ag.Bouts.length ax]) Z Z) (ZB (cs:=[jV 0,.slice none 0 0,.slice none 0 0]) Z Z Z Z Z Zq Z bN ?_))
 intro dE a7 cS
 let B2:List Value:=[jV ag.Skier,.slice bu ag.Loops.length bx,.slice aw ag.Bouts.length ax]
 refine ZK (j:=0) (vs:=B2) Z Z Z Z cS Z Z Z Z Zc (zJ Z) Z Z Z ?_
 intro b4 cU
 have bO:sW w U az [.blk a7 76 B2,.blk b6 79 B1,.blk b2 73 B0] b4:=cU
 refine eN (sR fL4 Z (oR Z (zD Z Z ZR Z yH) (oL Z (bO.ldB (j:=0) Z Z Z yQ (v:=.slice aw ag.Bouts.length ax) Z) (oR Z (zW Z Z ZL) (oM Z Z (eN (zR (bnK dh fun dR cZ di=>?_))))))))
 have q:=wAw cZ
 obtain ⟨bp,c9⟩:=q
 replace bp:=zI bp
 refine CK.forN' (fun ao bV σ_ w_=>∃ (U_:PHeap),σ_ 22=jV (↑ao:Int)/\σ_ 3=.pointer (some ⟨b6,0,none⟩)/\σ_ 4=jV bV/\σ_ 13=.slice ap p0.Legs.length aq/\σ_ 14=jV (↑p0.Legs.length:Int)/\σ_ 15=jV (↑am:Int)/\σ_ 20=.slice aw ag.Bouts.length ax/\σ_ 21=jV (↑ag.Bouts.length:Int)/\PHeap.Le az U_/\sW w U U_ [.blk a7 76 B2,.blk b6 79 B1,.blk b2 73 B0] w_) c9 ?_ ?_ ?_
 exact ⟨az,Z,cy,cz,bE,bF,bh,Z,Z,(zN _),bO⟩
 rintro ao bV dP dV ca bn ⟨bA,a8,be,bG,bH,bI,bJ,bf,bg,br,bP⟩ dr
 have bD:Hid ((↑ao:Int) < (↑ag.Bouts.length:Int)):=zI (wAo bn)
 replace bn:=zI bn
 have bQ:Hid (w64 ((↑ao:Int) + 1)=(↑(ao + 1):Int)):=zI (by have h1:=bp.out;have h2:=bD.out;rw [wAQ] <;> omega)
 refine sR fL1 Z (oR Z (zV Z a8 bg) (eN (zG (cT Z bD (kN (zG (zR (sR fL3 Z (bnK dr fun bz bL dm=>?_)))))))))
 have cH:=cG.le br
 have q:=cH.el (wAK bL)
 obtain ⟨ch,dv,dM,cI,bi,dn⟩:=q
 obtain ⟨bt,bw,rfl,cC⟩:=dn
 replace bi:Cl bA ch (dv + ao * 1) [.slice bt bz.length bw]:=bi
 refine oR Z (ZC Z bf cI a8 ZL Zv (wAg bL)) (oL Z (bP.ldC (f:=0) bi (v:=.slice bt bz.length bw) Z Z yb Z) (oA Z Z (eN (sR (.fl 0 (.fx 1 (wMM (.fx 5 (.fx 6 (.fl 7 .nil) .stop) .stop)) .stop)) Z (oM Z Z ?_)))))
 have q:=bnd dm
 obtain ⟨⟨aj,dw⟩,cD,bR⟩:=q
 try dsimp only at bR
 refine zP 0 Z Z Z Z (zQ Z Z Tryz.call28 (zH Z zZ) Z) bP (fun hs=>wEo bz bt bw ca bA hs cC cD) (.inr Z) ?_
 rintro ay dx dL bY bS cL ⟨rfl,rfl⟩
 have cM:sW w U ay [.blk a7 76 B2,.blk b6 79 B1,.blk b2 73 B0] bY:=cL
 refine oM Z Z (oR Z (ZF Z Z (v:=.agg #[jV aj.Spares,jV aj.Loops,jV aj.Unused]) Z) (oR Z (ZF Z Z (v:=jV dw) Z) (ZB (cs:=B1) Z Z Z Z Z yV Z cM ?_)))
 intro dz cd cN
 let B3:List Value:=[jV aj.Spares,jV aj.Loops,jV aj.Unused]
 refine ZK (j:=0) (vs:=B3) Z Z Z Z cN Z Z Z Z yD (zJ Z) Z Z Z ?_
 intro bZ cO
 have av:sW w U ay [.blk cd 79 B3,.blk a7 76 B2,.blk b6 79 B1,.blk b2 73 B0] bZ:=cO
 refine oA Z Z (eN (sR fL3 Z (oL Z (av.ldBA (j:=0) Z Z Z YG yD (vs:=B3) Z Z) (oL Z (av.ldBA (j:=2) Z Z be YG yD (vs:=B1) Z Z) (oR Z (zz (Runs.neS (enc:=wCL) (a:=aj) (b:=(⟨0,0,0⟩:wAa)) Z Z Z wQS wQR) (congrArg nE (decide_not).symm)) (eN (ifc bR ?_ ?_)))))))
 intro bd de
 refine zn (zo (fun h=>h bd.out)) (ZO (zd (zF (rR fL2 Z (oR Z (zz (zY Z a8 Z) (congrArg (jV) bQ.out)) (oM Z Z (zg ?_)))))))
 cases de
 exact zF ⟨rfl,⟨ay,rfl,be,bG,bH,bI,bJ,bf,bg,(br.trans bS),(av.pick [1,2,3] _ (by decide) rfl)⟩⟩
 intro bd df
 refine cT Z bd (rR fL5 Z (oM Z bG (oR Z (zD Z Z Tryz.runUnderlying79 Z zC) (oL Z (av.ldB (j:=0) Z Z Z zM (v:=jV aj.Unused) Z) (oR Z (zY Z Z Z) (oA Z Z (zg (zd (zF (rR fL2 Z (oR Z (zz (zY Z a8 Z) (congrArg (jV) bQ.out)) (oM Z Z (zg ?_)))))))))))))
 cases df
 exact zF ⟨rfl,⟨ay,rfl,be,rfl,bH,bI,bJ,bf,bg,(br.trans bS),(av.pick [1,2,3] _ (by decide) rfl)⟩⟩
 rintro dS dA ⟨bW,cA,cm,co,cp,cr,ct,dF,cu,dt,cP⟩
 have ci:Hid (¬ ((↑(((↑ag.Bouts.length:Int):Int) - 0).toNat:Int) < (↑ag.Bouts.length:Int))):=zI (wAc)
 refine sR fL1 Z (oR Z (zV Z cA cu) (eN (zG (cF Z ci (ZD (zb (zb (zr (zd (zF (rR fL2 Z (oR Z (zz (zY Z ct Z) (congrArg (jV) dd.out)) (oM Z Z (zg ?_))))))))))))))
 cases di
 exact zF ⟨rfl,⟨bW,rfl,cm,co,cp,cr,(bT.trans dt),(cP.pick [1,2] _ (by decide) rfl)⟩⟩
 rintro dT dB ⟨bX,cB,dG,cw,dH,cx,dK,cQ⟩
 have cj:Hid (¬ ((↑(((↑p0.Legs.length:Int):Int) - 0).toNat:Int) < (↑p0.Legs.length:Int))):=zI (wAc)
 refine sR fL1 Z (oR Z (zV Z cB cx) (eN (zG (cF Z cj (ZD (zb (zb (zr (zF (sR fL2 Z (oM Z cw (oA Z Z (eN (zS ?_))))))))))))))
 have hE:=nD dg;first | subst r | cases hE
 exact ⟨rfl,_,(zw rfl),bX,_,(cQ.pick [] _ (by decide) rfl),rfl,rfl⟩
theorem wCc (p0:List wAB) (ag:Option Addr) (ah:Nat) (p1:((wAB × wAB)->Option Int)) (ai:Value) (w:World) (U:PHeap) (hS:St ⟨w,[.row ag ah 59 3 (nA wAJ p0)],U⟩ U [.row ag ah 59 3 (nA wAJ p0)] w) (ak:FnOK Tryz.prog U ai wQM wQN p1) (am:∃ g cb,ai=.func (.func g) #[] cb) {r:List wAB} (hm:wAe p0 p1=some r):Gv Tryz.prog 94 [.slice ag p0.length ah,ai] w (wBp w [.row ag ah 59 3 (nA wAJ p0)] U (fun U_ L_ v=>v=.tuple #[]/\L_=[.row ag ah 59 3 (nA wAJ r)]/\r.length=p0.length)) :=
 wKm (sz:=3) (fun _=>rfl) (fun x v h=>List.all_eq_true.1 (show (wAJ x).all (·.oneCell')=true from rfl) v h) (fun _ _ _=>rfl) (fun _ _ _ _ h=>h.1) (fun enc a1 a2 cf b g cb k1 k2 k3 d w h1 h2 h3 h4 h5 h6=>Go.Proofs.Tryz.slices_SortFunc_total_f94 3 Tryz.isAgg59 Tryz.sizeOf59 enc a1 a2 cf b g cb k1 k2 k3 d w h1 h2 h3 h4 h5 h6) (fun p c v w=>Go.Proofs.Tryz.slices_SortFunc_none_f94 (α:=Int) p c v w) hS ak (by decide) am hm
theorem wII (p0:wAB) (p1:wAB) (w:World) (U:PHeap) (hS:St0 w U [])  {r:Int} (hm:wBm p0 p1=some r):Gv Tryz.prog 95 [.agg #[jV p0.Bib,jV p0.Place,jV p0.Time],.agg #[jV p1.Bib,jV p1.Place,jV p1.Time]] w (wBp w [] U (fun U_ L_ v=>v=jV r/\L_=[])):=by
 unfold wBm at hm
 refine Gv.of Tryz.func95 Z Tryz.ntmps95 Tryz.results95 Z (sR gCd Z ?_)
 let B0:List Value:=[jV p0.Bib,jV p0.Place,jV p0.Time]
 refine ZX (cs:=B0) rfl rfl rfl rfl rfl rfl (by rfl) hS ?_
 intro W1 b2 bj
 let B1:List Value:=[jV p1.Bib,jV p1.Place,jV p1.Time]
 refine ZX (cs:=B1) rfl rfl rfl rfl rfl rfl (by rfl) bj ?_
 intro W5 b6 bu
 refine yw rfl rfl rfl rfl rfl rfl (eN (zG (ZY ZQ [3,1,3,1,2,3,1,3,1,2,2,2,3] (wHD (wSQ gCr)) (by kernel_rfl) ?_)))
 have aj:=bu.drew
 generalize hw_W10:({ W5 with drawn:=W5.drawn + 1 }:World)=a7 at aj ⊢
 refine oR Z (zD Z Z yI Z zC) (oL Z (aj.ldB (j:=1) Z Z Z zM (v:=jV p0.Time) Z) (oR Z (zD Z Z yI Z zC) (oL Z (aj.ldB (j:=0) Z Z Z zM (v:=jV p1.Time) Z) (oR Z (zD Z Z yI Z zC) (oL Z (aj.ldB (j:=1) Z Z Z zM (v:=jV p0.Bib) Z) (oR Z (zD Z Z yI Z zC) (oL Z (aj.ldB (j:=0) Z Z Z zM (v:=jV p1.Bib) Z) (bnK hm fun ak bd bv=>zP 0 Z Z Z Z (zQ Z Z Tryz.call97 (zH Z (zH Z zZ)) Z) aj (fun hs=>wDN p0.Time p1.Time a7 U hs bd) (.inr Z) ?_))))))))
 rintro aq bA bJ ax bF bg ⟨rfl,rfl⟩
 have bh:sW w U aq [.blk b6 59 B1,.blk b2 59 B0] ax:=bg
 refine bnK bv fun am be bw=>zP 0 Z Z Z Z (zQ Z Z Tryz.call97 (zH Z (zH Z zZ)) Z) bh (fun hs=>wDN p0.Bib p1.Bib ax aq hs be) (.inr Z) ?_
 rintro au bC bK a8 bG bi ⟨rfl,rfl⟩
 have bm:sW w U au [.blk b6 59 B1,.blk b2 59 B0] a8:=bi
 refine zk (pv:=[(0,jV ak),(1,jV am)]) (zs:=[jV 0,jV 0]) (cs:=[jV ak,jV am]) Z Z Z Z Z (wAA Z (wAA Z wAO)) zA zC ZM Z Z Z Z Z bm ?_
 intro ap az bn
 have bo:sW w U au [.row (some ⟨az,0,none⟩) 2 3 1 (nA KL.encI [ak,am]),.blk b6 59 B1,.blk b2 59 B0] ap:=bn
 have q:=bo.freezeR (k:=0) (n:=[ak,am].length) rfl (wAC (f:=KL.encI) (sz:=1) (fun _=>rfl) [ak,am]) (by decide)
 obtain ⟨av,bH,bz,bp⟩:=q
 have br:sW w U av [.blk b6 59 B1,.blk b2 59 B0] ap:=bp
 refine bnK bw fun bM bf bx=>zP 0 Z Z Z Z (zQ Z Z Tryz.call96 (zH Z zZ) Z) br (fun hs=>wGi [ak,am] (some ⟨az,0,none⟩) 2 ap av hs bz bf) (.inr Z) ?_
 rintro aw bD bL bb bI bs ⟨rfl,rfl⟩
 have bt:sW w U aw [.blk b6 59 B1,.blk b2 59 B0] bb:=bs
 refine oA Z Z (eN (zS ?_))
 have hE:=nD bx;first | subst r | cases hE
 exact ⟨rfl,_,(zw rfl),aw,_,(bt.pick [] _ (by decide) rfl),rfl,rfl⟩
theorem wIJ (p0:wAB) (p1:wAB) (p2:List (Int × Int)) (be:Nat) (aq:Nat) (bG:Array MapEntry) (bH:Nat) (w:World) (U:PHeap) (hS:St0 w U []) (bb:Cl U be 0 [.map (some aq)]) (bd:MpF U aq bG bH wLj wNJ p2) {r:Int} (hm:wBn p0 p1 p2=some r):Gv Tryz.prog 98 [.agg #[jV p0.Bib,jV p0.Place,jV p0.Time],.agg #[jV p1.Bib,jV p1.Place,jV p1.Time],.pointer (some ⟨be,0,none⟩)] w (wBp w [] U (fun U_ L_ v=>v=jV r/\L_=[])):=by
 unfold wBn at hm
 refine Gv.of Tryz.func98 Z Tryz.ntmps98 Tryz.results98 Z (sR gCd Z ?_)
 let B0:List Value:=[jV p0.Bib,jV p0.Place,jV p0.Time]
 refine ZX (cs:=B0) rfl rfl rfl rfl rfl rfl (by rfl) hS ?_
 intro W1 b2 br
 let B1:List Value:=[jV p1.Bib,jV p1.Place,jV p1.Time]
 refine ZX (cs:=B1) rfl rfl rfl rfl rfl rfl (by rfl) br ?_
 intro W5 b6 bA
 refine yw rfl rfl rfl rfl rfl rfl (eN (zG (ZY ZQ [1,3,1,1,1,3,1,1,2,3,1,3,1,2,2,2,3] (wNd (wSV (.fx 8 (.fx 13 (.fx 14 (.fx 15 (.fl 16 .nil) .stop) .stop) .stop) .stop))) (by kernel_rfl) ?_)))
 have ah:=bA.drew
 generalize hw_W10:({ W5 with drawn:=W5.drawn + 1 }:World)=bf at ah ⊢
 refine oL Z (ah.ldC (f:=0) bb (v:=.map (some aq)) Z Z Tryz.isAgg220 Z) (oR Z (zD Z Z yI Z zC) (oL Z (ah.ldB (j:=0) Z Z Z zM (v:=jV p1.Bib) Z) (oL Z (ah.lookupF1 (mk:=wLj) (mv:=wNJ) (a:=p1.Bib) (z:=0) bd Z Z Z (wDO Tryz.runUnderlying220) wLl ZM) (oL Z (ah.ldC (f:=0) bb (v:=.map (some aq)) Z Z Tryz.isAgg220 Z) (oR Z (zD Z Z yI Z zC) (oL Z (ah.ldB (j:=1) Z Z Z zM (v:=jV p0.Bib) Z) (oL Z (ah.lookupF1 (mk:=wLj) (mv:=wNJ) (a:=p0.Bib) (z:=0) bd Z Z Z (wDO Tryz.runUnderlying220) wLl ZM) (oR Z (zD Z Z yI Z zC) (oL Z (ah.ldB (j:=1) Z Z Z zM (v:=jV p0.Bib) Z) (oR Z (zD Z Z yI Z zC) (oL Z (ah.ldB (j:=0) Z Z Z zM (v:=jV p1.Bib) Z) (bnK hm fun ak bi bC=>zP 0 Z Z Z Z (zQ Z Z Tryz.call97 (zH Z (zH Z zZ)) Z) ah (fun hs=>wDN (wEJ p2 p1.Bib 0) (wEJ p2 p0.Bib 0) bf U hs bi) (.inr Z) ?_))))))))))))
 rintro av bI bQ az bM bn ⟨rfl,rfl⟩
 have bo:sW w U av [.blk b6 59 B1,.blk b2 59 B0] az:=bn
 refine bnK bC fun am bj bD=>zP 0 Z Z Z Z (zQ Z Z Tryz.call97 (zH Z (zH Z zZ)) Z) bo (fun hs=>wDN p0.Bib p1.Bib az av hs bj) (.inr Z) ?_
 rintro aw bJ bR bg bN bp ⟨rfl,rfl⟩
 have bs:sW w U aw [.blk b6 59 B1,.blk b2 59 B0] bg:=bp
 refine zk (pv:=[(0,jV ak),(1,jV am)]) (zs:=[jV 0,jV 0]) (cs:=[jV ak,jV am]) Z Z Z Z Z (wAA Z (wAA Z wAO)) zA zC ZM Z Z Z Z Z bs ?_
 intro au a8 bt
 have bu:sW w U aw [.row (some ⟨a8,0,none⟩) 2 3 1 (nA KL.encI [ak,am]),.blk b6 59 B1,.blk b2 59 B0] au:=bt
 have q:=bu.freezeR (k:=0) (n:=[ak,am].length) rfl (wAC (f:=KL.encI) (sz:=1) (fun _=>rfl) [ak,am]) (by decide)
 obtain ⟨ax,bO,bF,bv⟩:=q
 have bw:sW w U ax [.blk b6 59 B1,.blk b2 59 B0] au:=bv
 refine bnK bD fun bT bm bE=>zP 0 Z Z Z Z (zQ Z Z Tryz.call96 (zH Z zZ) Z) bw (fun hs=>wGi [ak,am] (some ⟨a8,0,none⟩) 2 au ax hs bF bm) (.inr Z) ?_
 rintro ay bK bS bh bP bx ⟨rfl,rfl⟩
 have bz:sW w U ay [.blk b6 59 B1,.blk b2 59 B0] bh:=bx
 refine oA Z Z (eN (zS ?_))
 have hE:=nD bE;first | subst r | cases hE
 exact ⟨rfl,_,(zw rfl),ay,_,(bz.pick [] _ (by decide) rfl),rfl,rfl⟩
theorem wGj (p0:wAD) (cS:Option Addr) (cW:Nat) (bH:Option Addr) (bI:Nat) (w:World) (U:PHeap) (hS:St0 w U []) (lY:Sl U 1 cS cW p0.Rules.Classes.length (nA KL.encI p0.Rules.Classes)) (gc:SlR U wFL bH bI p0.Teams) {r:(List wAB) × Int} (hm:wCB p0=some r):Gv Tryz.prog 21 [.agg #[.slice cS p0.Rules.Classes.length cW,jV p0.Rules.Each,jV p0.Rules.Laps,jV p0.Rules.Spare,jV p0.Rules.Loop,jV p0.Rules.Unused,jV p0.Start,.slice bH p0.Teams.length bI]] w (wBp w [] U (fun U_ L_ v=>∃ (A0:Option Addr) (c0:Nat),v=.tuple #[.slice A0 r.1.length c0,jV r.2]/\L_=[.row A0 c0 59 3 (nA wAJ r.1)])):=by
 unfold wCB at hm
 refine Gv.of Tryz.func21 Z Tryz.ntmps21 Tryz.results21 Z (sR gCf Z ?_)
 let B0:List Value:=[.slice cS p0.Rules.Classes.length cW,jV p0.Rules.Each,jV p0.Rules.Laps,jV p0.Rules.Spare,jV p0.Rules.Loop,jV p0.Rules.Unused,jV p0.Start,.slice bH p0.Teams.length bI]
 refine ZX (cs:=B0) rfl rfl rfl rfl rfl rfl (by rfl) hS ?_
 intro W1 b2 fY
 refine oA Z Z (oA Z Z (eN (sR (.fl 0 (.fx 1 (wFp (.nil)) .stop)) Z (oL Z (fY.ldBA (j:=0) Z Z Z yK Zf (vs:=B0) Z Z) ?_))))
 have q:=bnd hm
 obtain ⟨⟨x5,x6⟩,h7,ci⟩:=q
 try dsimp only at ci
 refine zP 0 Z Z Z Z (zQ Z Z Tryz.call86 (zH Z zZ) Z) fY (fun hs=>wGI p0 cS cW bH bI W1 U hs lY gc h7) (.inr Z) ?_
 rintro U9 n5 o6 cz m3 fT fS
 rcases x5 with _ | bh
 try dsimp only at ci
 obtain ⟨rfl,rfl⟩:=fS
 have jY:sW w U U9 [.blk b2 27 B0] cz:=fT
 refine oM Z Z (oR Z (ZF Z Z (v:=.pointer none) Z) (oR Z (ZF Z Z (v:=jV x6) Z) (oA Z Z (oA Z Z (eN (zG (sR fL2 Z (oM Z Z (oR Z (ZU Z Z Z) (eN (ifc ci ?_ ?_)))))))))))
 intro dt ml
 refine zn (zo (fun h=>h dt.out)) (kN (sR gCp Z (oM Z Z ?_)))
 cases ml
 intro dt mm
 refine cT Z dt (sR fL3 Z (oM Z Z (oA Z Z (oA Z Z (eN (zS (zK ?_)))))))
 have j5:=jY.nilrow 59 3
 cases mm
 exact ⟨rfl,_,(wFA rfl rfl),U9,_,(j5.pick [0] _ (by decide) rfl),none,0,rfl,rfl⟩
 try dsimp only at ci
 obtain ⟨bN,eA,fm,eB,fq,bV,cd,ij,rfl,rfl,ja,jb,jd⟩:=fS
 let B1:Res:=.blk bN 222 [.slice eA bh.Race.Rules.Classes.length fm,jV bh.Race.Rules.Each,jV bh.Race.Rules.Laps,jV bh.Race.Rules.Spare,jV bh.Race.Rules.Loop,jV bh.Race.Rules.Unused,jV bh.Race.Start,.slice eB bh.Race.Teams.length fq,.slice bV bh.after.length cd]
 have f0:sW w U U9 [B1,.row bV cd 22 1 ij,.blk b2 27 B0] cz:=fT
 refine oM Z Z (oR Z (ZF Z Z (v:=.pointer (some ⟨bN,0,none⟩)) Z) (oR Z (ZF Z Z (v:=jV x6) Z) (oA Z Z (oA Z Z (eN (zG (sR fL2 Z (oM Z Z (oR Z (ZU Z Z Z) (eN (ifc ci ?_ ?_)))))))))))
 intro du mx
 refine zn (zo (fun h=>h du.out)) (kN (sR gCp Z (oM Z Z ?_)))
 have q:=f0.freezeRR (R:=wDe) (k:=1) rfl jd rfl (by decide)
 obtain ⟨eX,dZ,gh,li⟩:=q
 have lj:sW w U eX [B1,.blk b2 27 B0] cz:=li
 have jm:=ja.le dZ
 have jp:=jb.le dZ
 refine bnK mx fun bt jr mE=>zP 1 Z Z Z Z (zQ Z Z Tryz.call87 (zH Z zZ) Z) lj (fun hs=>wFu bh bN eA fm eB fq bV cd cz eX hs jm jp gh jr) (.inl Z) ?_
 rintro eY n9 o8 gY gv lE ⟨cr,cB,ct,cC,il,rfl,rfl,jz⟩
 let B2:Res:=.row cr cB 3 1 (nA KL.encI bt.Bibs)
 let B3:Res:=.row ct cC 22 1 il
 have lP:sW w U eY [B2,B3,B1,.blk b2 27 B0] gY:=lE
 let B4:List Value:=[jV 0,.slice none 0 0,.slice none 0 0]
 refine ZB (cs:=B4) Z Z Z Z Z Tryz.zeroValue66 Z lP ?_
 intro oC an lQ
 let B5:List Value:=[jV bt.Laps,.slice cr bt.Bibs.length cB,.slice ct bt.Times.length cC]
 refine ZK (j:=0) (vs:=B5) Z Z Z Z lQ Z Z Z Z yN (zJ Z) Z Z Z ?_
 intro cA lR
 have f9:sW w U eY [.blk an 66 B5,B2,B3,B1,.blk b2 27 B0] cA:=lR
 refine eN (sR (.fl 0 (.fx 1 (wFp (.nil)) .stop)) Z (oL Z (f9.ldBA (j:=0) Z Z Z YI yN (vs:=B5) Z Z) ?_))
 have q:=f9.freezeR (k:=1) (n:=bt.Bibs.length) rfl (wAC (f:=KL.encI) (sz:=1) (fun _=>rfl) bt.Bibs) (by decide)
 obtain ⟨gJ,d7,mX,lS⟩:=q
 have lT:sW w U gJ [.blk an 66 B5,B3,B1,.blk b2 27 B0] cA:=lS
 have jB:=jz.le d7
 have q:=lT.freezeRR (R:=wDe) (k:=1) rfl jB rfl (by decide)
 obtain ⟨fc,d8,gi,lU⟩:=q
 have lV:sW w U fc [.blk an 66 B5,B1,.blk b2 27 B0] cA:=lU
 have fP:=mX.le d8
 have q:=bnd mE
 obtain ⟨⟨bd,n3⟩,jC,gg⟩:=q
 try dsimp only at gg
 refine zP 0 Z Z Z Z (zQ Z Z Tryz.call29 (zH Z zZ) Z) lV (fun hs=>wHG bt cr cB ct cC cA fc hs fP gi jC) (.inr Z) ?_
 rintro fd og pb fg cR lW ⟨c9,dy,rfl,rfl⟩
 let B6:Res:=.row c9 dy 45 4 (nA wAb bd)
 have gb:sW w U fd [B6,.blk an 66 B5,B1,.blk b2 27 B0] fg:=lW
 refine oM Z Z (oR Z (ZF Z Z (v:=.slice c9 bd.length dy) Z) (oR Z (ZF Z Z (v:=jV n3) Z) (oA Z Z (oA Z Z (eN (sR (.fl 0 (.fx 1 (wFp (.nil)) .stop)) Z (oL Z (gb.ldBA (j:=1) Z Z Z YI yN (vs:=B5) Z Z) ?_)))))))
 have jD:=fP.le cR
 have jE:=gi.le cR
 have q:=bnd gg
 obtain ⟨⟨bz,n1⟩,iR,ge⟩:=q
 try dsimp only at ge
 refine zP 0 Z Z Z Z (zQ Z Z Tryz.call92 (zH Z zZ) Z) gb (fun hs=>wJQ bt cr cB ct cC fg fd hs jD jE iR) (.inr Z) ?_
 rintro cw n7 o5 gL gr jM ⟨bU,cc,rfl,rfl⟩
 let B7:Res:=.row bU cc 3 1 (nA KL.encI bz)
 have jN:sW w U cw [B7,B6,.blk an 66 B5,B1,.blk b2 27 B0] gL:=jM
 refine oM Z Z (oR Z (ZF Z Z (v:=.slice bU bz.length cc) Z) (oR Z (ZF Z Z (v:=jV n1) Z) (oA Z Z (oA Z Z (eN (sR (.fx 0 (.fx 1 (.fx 2 (.fl 3 (.fx 4 .nil .stop)) .stop) .stop) .stop) Z (OKS.makeMap Z Z Z Z Z jN ?_)))))))
 intro oh aq jO
 have mR:=MpR.nil wIF wIb
 refine OKS.makeMap Z Z Z Z Z jO ?_
 intro oj bb jP
 have mS:=MpR.nil wLj wNJ
 refine ZB (cs:=[.map none]) Z Z Z Z Z Tryz.zeroValue220 Z jP ?_
 intro om aw jQ
 refine oA Z Z ?_
 let B8:List Value:=[.map (some bb)]
 refine ZK (j:=0) (vs:=B8) Z Z Z Z jQ Z Z Z Z Tryz.sizeOf220 (zJ Z) Z Z Z ?_
 intro gM jR
 have jS:sW w U cw [.blk aw 220 B8,.obj bb (.map #[] 0),.obj aq (.map #[] 0),B7,B6,.blk an 66 B5,B1,.blk b2 27 B0] gM:=jR
 refine eN (zG (sR fL3 Z (oM Z Z (oR Z (zW Z Z YJ) (oM Z Z (eN (zR (bnK ge fun pm lZ mi=>?_))))))))
 have q:=wAw lZ
 obtain ⟨dV,l0⟩:=q
 replace dV:=zI dV
 refine CK.forN' (fun bo gm σ_ w_=>∃ (U_:PHeap) (cD:Array MapEntry) (dz:Nat),σ_ 44=jV (↑bo:Int)/\σ_ 1=.pointer (some ⟨b2,0,none⟩)/\σ_ 4=.pointer (some ⟨bN,0,none⟩)/\σ_ 6=.pointer (some ⟨an,0,none⟩)/\σ_ 9=.slice bU bz.length cc/\σ_ 11=.map (some aq)/\σ_ 12=.pointer (some ⟨aw,0,none⟩)/\σ_ 42=.slice c9 bd.length dy/\σ_ 43=jV (↑bd.length:Int)/\PHeap.Le cw U_/\sW w U U_ [.blk aw 220 B8,.obj bb (.map #[] 0),.obj aq (.map cD dz),.blk an 66 B5,B1,.blk b2 27 B0,B7,B6] w_/\MpR cD wIF wIb gm) l0 ?_ ?_ ?_
 exact ⟨cw,#[],0,rfl,rfl,rfl,rfl,rfl,rfl,rfl,rfl,rfl,(zN _),(jS.pick [0,1,2,5,6,7,3,4] _ (by decide) rfl),mR⟩
 rintro bo gm ph pn oq dS ⟨di,cD,dz,dH,io,ip,iq,ir,fD,it,fE,fG,m4,dQ,iS⟩ mY
 have fk:Hid ((↑bo:Int) < (↑bd.length:Int)):=zI (wAo dS)
 replace dS:=zI dS
 have mh:Hid (w64 ((↑bo:Int) + 1)=(↑(bo + 1):Int)):=zI (by have h1:=dV.out;have h2:=fk.out;rw [wAQ] <;> omega)
 refine sR fL1 Z (oR Z (zV Z dH fG) (eN (zG (cT Z fk (kN (zG (zR (sR gCo Z (bnK mY fun _ dI mj=>?_)))))))))
 obtain ⟨oD,fQ⟩:=dQ.rowSome (j:=7) rfl (by rw [wAC (f:=wAb) (sz:=4) (fun _=>rfl) bd];have hz:=wAY dI;omega)
 refine oR Z (ZC Z fE fQ dH YJ YX (wAY dI)) ?_
 have l8:=wBO (xs:=bd) (wAY dI)
 let B9:List Value:=[jV ((gd bd bo).Bib),jV ((gd bd bo).Done),jV ((gd bd bo).Time),jV ((gd bd bo).By)]
 refine zy rfl rfl rfl rfl (dQ.ldRA (j:=7) rfl fQ rfl rfl Tryz.isAgg45 YX (vs:=B9) (wEi (sz:=4) (fun _=>rfl) _ _ _ l8 (by first | omega | rfl | simp) rfl) rfl) rfl (ZB (cs:=[jV 0,jV 0,jV 0,jV 0]) rfl rfl rfl rfl rfl Tryz.zeroValue45 rfl dQ ?_)
 intro ot fh jT
 refine ZK (j:=0) (vs:=B9) Z Z Z Z jT Z Z Z Z YX (zJ Z) Z Z Z ?_
 intro gN jU
 have fU:sW w U di [.blk fh 45 B9,.blk aw 220 B8,.obj bb (.map #[] 0),.obj aq (.map cD dz),.blk an 66 B5,B1,.blk b2 27 B0,B7,B6] gN:=jU
 refine eN (rR (wDw (.fx 3 .nil .stop)) rfl (zh rfl rfl rfl rfl rfl fD (zf rfl rfl rfl rfl (fun _=>zD rfl rfl Tryz.runUnderlying45 rfl zC) (zy rfl rfl rfl rfl (fU.ldB (j:=0) rfl rfl rfl zM (v:=jV ((gd bd bo).Bib)) rfl) rfl (OKS.mapPut (x:=.tmp 48) (y:=.tmp 50) (j:=3) (mk:=wIF) (mv:=wIb) (a:=(gd bd bo).Bib) (v:=true) rfl rfl rfl (by first | exact .inl rfl | exact .inr rfl) fU rfl rfl rfl rfl (wDO YE) wJM iS rfl ?_)))))
 intro fC fB gO mT jW
 have jX:sW w U di [.blk fh 45 B9,.blk aw 220 B8,.obj bb (.map #[] 0),.obj aq (.map fC fB),.blk an 66 B5,B1,.blk b2 27 B0,B7,B6] gO:=jW
 refine zg (zd (zF (rR fL2 Z (oR Z (zz (zY Z dH Z) (congrArg (jV) mh.out)) (oM Z Z (zg ?_))))))
 cases mj
 exact zF ⟨rfl,⟨di,fC,fB,rfl,io,ip,iq,ir,fD,it,fE,fG,m4,(jX.pick [1,2,3,4,5,6,7,8] _ (by decide) rfl),mT⟩⟩
 rintro pp ou ⟨eW,a7,az,iO,fH,iu,iv,iw,ix,iy,oI,iz,gu,fV,iT⟩
 have ii:Hid (¬ ((↑(((↑bd.length:Int):Int) - 0).toNat:Int) < (↑bd.length:Int))):=zI (wAc)
 refine sR fL1 Z (oR Z (zV Z iO iz) (eN (zG (cF Z ii (ZD (zb (zb (zr (zF (sR fL2 Z (oA Z Z (oA Z Z (eN (zG (sR fL4 Z (oR Z (zD Z fH zu Z Zu) (oL Z (fV.ldB (j:=5) Z Z Z yG (v:=.slice bH p0.Teams.length bI) Z) (oR Z (zW Z Z ZN) (oM Z Z (eN (zR ?_)))))))))))))))))))))
 have q:=bnd mi
 obtain ⟨⟨eh,cp,ep⟩,l3,gf⟩:=q
 try dsimp only at gf
 have q:=wAw l3
 obtain ⟨dW,l4⟩:=q
 replace dW:=zI dW
 refine CK.forN' (fun bp (gq,bS,bG) σ_ w_=>∃ (U_:PHeap) (cE:Array MapEntry) (dA:Nat) (bA:Option Addr) (bD:Nat) (bK:Option Addr) (bO:Nat),σ_ 55=jV (↑bp:Int)/\σ_ 1=.pointer (some ⟨b2,0,none⟩)/\σ_ 4=.pointer (some ⟨bN,0,none⟩)/\σ_ 6=.pointer (some ⟨an,0,none⟩)/\σ_ 9=.slice bU bz.length cc/\σ_ 11=.map (some aq)/\σ_ 12=.pointer (some ⟨aw,0,none⟩)/\σ_ 15=.slice bA bS.length bD/\σ_ 16=.slice bK bG.length bO/\σ_ 53=.slice bH p0.Teams.length bI/\σ_ 54=jV (↑p0.Teams.length:Int)/\PHeap.Le eW U_/\sW w U U_ [.blk aw 220 B8,.obj bb (.map cE dA),.obj aq (.map a7 az),.blk an 66 B5,B1,.blk b2 27 B0,B7,.row bA bD 59 3 (nA wAJ bS),.row bK bO 59 3 (nA wAJ bG)] w_/\MpR cE wLj wNJ gq) l4 ?_ ?_ ?_
 have jZ:=fV.nilrow 59 3
 have j4:=jZ.nilrow 59 3
 exact ⟨eW,#[],0,none,0,none,0,rfl,fH,iu,iv,iw,ix,iy,rfl,rfl,rfl,rfl,(zN _),(j4.pick [2,3,4,5,6,7,8,1,0] _ (by decide) rfl),mS⟩
 rintro bp ⟨gq,bS,bG⟩ pi pq ov dT ⟨bg,cE,dA,bA,bD,bK,bO,bQ,dC,cG,cH,cI,cJ,cK,dD,dE,cL,cM,cj,fW,iU⟩ gj
 try dsimp only at gj
 have ft:Hid ((↑bp:Int) < (↑p0.Teams.length:Int)):=zI (wAo dT)
 replace dT:=zI dT
 have dR:Hid (w64 ((↑bp:Int) + 1)=(↑(bp + 1):Int)):=zI (by have h1:=dW.out;have h2:=ft.out;rw [wAQ] <;> omega)
 refine sR fL1 Z (oR Z (zV Z bQ cM) (eN (zG (cT Z ft (kN (zG (zR (sR (wDw gCg) Z (oM Z bQ (bnK gj fun ao fN mn=>?_))))))))))
 have iV:=gc.le m3
 have iW:=iV.le dZ
 have iX:=iW.le gv
 have iY:=iX.le d7
 have iZ:=iY.le d8
 have i2:=iZ.le cR
 have i4:=i2.le gr
 have i6:=i4.le gu
 have i7:=i6.le cj
 have q:=i7.el (wAK fN)
 obtain ⟨g8,m7,pd,jF,dN,mU⟩:=q
 obtain ⟨cU,cX,cV,cY,rfl,i8,i9⟩:=mU
 replace dN:Cl bg g8 (m7 + bp * 3) [jV ao.Bib,.slice cU ao.Classes.length cX,.slice cV ao.Legs.length cY]:=dN
 refine oR Z (ZC Z cL jF bQ ZN ZS (wAg fN)) (oL Z (fW.ldCA (f:=0) dN Z Z yc ZS (us:=[jV ao.Bib,.slice cU ao.Classes.length cX,.slice cV ao.Legs.length cY]) Z Z) (ZB (cs:=B4) Z Z Z Z Z Zr Z fW ?_))
 intro ow br j6
 refine oA Z Z ?_
 let bi:List Value:=[jV ao.Bib,.slice cU ao.Classes.length cX,.slice cV ao.Legs.length cY]
 refine ZK (j:=0) (vs:=bi) Z Z Z Z j6 Z Z Z Z ZS (zJ Z) Z Z Z ?_
 intro dp j7
 let bv:Res:=.row bA bD 59 3 (nA wAJ bS)
 let bC:Res:=.row bK bO 59 3 (nA wAJ bG)
 have j8:sW w U bg [.blk br 73 bi,.blk aw 220 B8,.obj bb (.map cE dA),.obj aq (.map a7 az),.blk an 66 B5,B1,.blk b2 27 B0,B7,bv,bC] dp:=j7
 refine eN (zG (ZY ZQ [1,3,1,3,3,3,1,0] (wMK (.fx 7 .nil .stop)) (by kernel_rfl) ?_))
 have bR:=j8.drew
 generalize hw_W325:({ dp with drawn:=dp.drawn + 1 }:World)=ox at bR ⊢
 refine oL Z (bR.ldB (j:=1) Z Z cK Tryz.isAgg220 (v:=.map (some bb)) Z) (oR Z (zD Z Z ZH Z zC) (oL Z (bR.ldB (j:=0) Z Z Z zM (v:=jV ao.Bib) Z) (oM Z cI (oM Z Z (bnK mn fun _ dJ mp=>?_)))))
 obtain ⟨oE,fR⟩:=bR.rowSome (j:=7) rfl (by rw [wAC (f:=KL.encI) (sz:=1) (fun _=>rfl) bz];have hz:=wAY dJ;omega)
 refine oR Z (ZC Z Z fR Z zA zC (wAY dJ)) ?_
 have ma:=wBO (xs:=bz) (wAY dJ)
 refine zy rfl rfl rfl rfl (bR.ldR (j:=7) rfl fR rfl rfl zM (wAZ (sz:=1) (fun _=>rfl) _ _ 0 _ ma (by first | omega | rfl | simp) rfl)) rfl (OKS.mapPut (x:=.tmp 60) (y:=.tmp 62) (z:=.tmp 66) (j:=2) (mk:=wLj) (mv:=wNJ) (a:=ao.Bib) (v:=(gd bz bp)) rfl rfl rfl (by first | exact .inl rfl | exact .inr rfl) bR rfl rfl rfl rfl (wDO Tryz.runUnderlying220) wLl iU rfl ?_)
 intro bm bj dq dY j9
 have k6:sW w U bg [.blk br 73 bi,.blk aw 220 B8,.obj bb (.map bm bj),.obj aq (.map a7 az),.blk an 66 B5,B1,.blk b2 27 B0,B7,bv,bC] dq:=j9
 refine eN (zG (zG (ZY ZQ [3,3,1,1,3,3,3,3,1,3,3,1,3,3,1,3,3] fL17 (by kernel_rfl) ?_)))
 have bn:=k6.drew
 generalize hw_W338:({ dq with drawn:=dq.drawn + 1 }:World)=fe at bn ⊢
 refine oM Z cJ (oR Z (zD Z Z ZH Z zC) (oL Z (bn.ldB (j:=0) Z Z Z zM (v:=jV ao.Bib) Z) (oL Z (bn.lookup1 (j:=3) (mk:=wIF) (mv:=wIb) (a:=ao.Bib) (z:=false) Z Z Z Z (wDO YE) wJM YQ iT) (oM Z Z (ifc mp ?_ ?_)))))
 intro ax mq
 refine zc Z Z Z (zO Z Z (congrArg nE ax.out) Z) (zc Z Z Z (zO Z Z (congrArg nE ax.out) Z) (zc Z Z Z (zO Z Z (congrArg nE ax.out) Z) (zc Z Z Z (zO Z Z (congrArg nE ax.out) Z) (zc Z Z Z (zO Z Z (congrArg nE ax.out) Z) (zc Z Z Z (zO Z Z (congrArg nE ax.out) Z) (zc Z Z Z (zO Z Z (congrArg nE ax.out) Z) (zc Z Z Z (zO Z Z (congrArg nE ax.out) Z) (zc Z Z Z (zO Z Z (congrArg nE ax.out) Z) (zc Z Z Z (zO Z Z (congrArg nE ax.out) Z) (zc Z Z Z (zO Z Z (congrArg nE ax.out) Z) (oR Z (zX Z (congrArg nE ax.out) Z) (eN (ZA Z (sR (wHD gCh) Z (oM Z dE (oR Z (zD Z Z ZH Z zC) (oL Z (bn.ldB (j:=0) Z Z Z zM (v:=jV ao.Bib) Z) ?_)))))))))))))))))
 let dd:List Value:=[jV ao.Bib,jV 0,jV 0]
 let eI:List Value:=[jV 0,jV 0,jV 0]
 refine oR Z (ZT (pv:=[(0,jV ao.Bib)]) (z:=eI) (cs:=dd) Z (wAA Z wAO) YA wHh Z Z) (zk (pv:=[(0,.agg dd.toArray)]) (zs:=eI) (cs:=dd) Z Z Z Z Z (wAA Z wAO) Zo ya YA Z Z Z Z Z bn ?_)
 intro gP g9 k8
 let eJ:Res:=.row (some ⟨g9,0,none⟩) 1 59 3 (nA wAJ [(⟨ao.Bib,0,0⟩:wAB)])
 have fZ:sW w U bg [eJ,.blk br 73 bi,.blk aw 220 B8,.obj bb (.map bm bj),.obj aq (.map a7 az),.blk an 66 B5,B1,.blk b2 27 B0,B7,bv,bC] gP:=k8
 refine bnK mq fun gA jc mr=>yE (j:=10) (enc:=wAJ) (xs:=bG) (ys:=[(⟨ao.Bib,0,0⟩:wAB)]) (zs:=gA) rfl rfl rfl rfl rfl Tryz.underlying51 wMY rfl rfl rfl rfl rfl rfl fZ rfl rfl rfl (fZ.srcR (j:=0) rfl (by decide) (wAC (f:=wAJ) (sz:=3) (fun _=>rfl) [(⟨ao.Bib,0,0⟩:wAB)])) (fun _=>rfl) (fun _=>rfl) jc rfl ?_
 intro eC fu gQ k9
 have lb:sW w U bg [eJ,.blk br 73 bi,.blk aw 220 B8,.obj bb (.map bm bj),.obj aq (.map a7 az),.blk an 66 B5,B1,.blk b2 27 B0,B7,bv,.row eC fu 59 3 (nA wAJ gA)] gQ:=k9
 refine oA Z Z (eN (ZD (zb (zr (zF (rR fL2 Z (oR Z (zz (zY Z bQ Z) (congrArg (jV) dR.out)) (oM Z Z (zg ?_)))))))))
 cases mr
 exact zF ⟨rfl,⟨bg,bm,bj,bA,bD,eC,fu,rfl,dC,cG,cH,cI,cJ,cK,dD,rfl,cL,cM,cj,(lb.pick [2,3,4,5,6,7,8,9,10] _ (by decide) rfl),dY⟩⟩
 intro ax ms
 refine zh Z Z Z (zL Z Z (congrArg nE (nG.2 ax.out))) Z cG (zf Z Z Z (zL Z Z (congrArg nE (nG.2 ax.out))) (fun _=>yC Z Z) (zf Z Z Z (zL Z Z (congrArg nE (nG.2 ax.out))) (fun _=>zD Z Z Zw Z ZV) (zy Z Z Z (zL Z Z (congrArg nE (nG.2 ax.out))) (bn.ldB (j:=5) Z Z Z Zj (v:=.slice bV bh.after.length cd) Z) Z (zh Z Z Z (zL Z Z (congrArg nE (nG.2 ax.out))) Z Z (bnK ms fun cZ cO mw=>?_)))))
 have je:=gh.le gv
 have jf:=je.le d7
 have jg:=jf.le d8
 have jh:=jg.le cR
 have ji:=jh.le gr
 have jj:=ji.le gu
 have fO:=jj.le cj
 have q:=fO.el (wAK cO)
 obtain ⟨ib,m8,pe,jG,dO,mV⟩:=q
 obtain ⟨gw,gy,rfl,oU⟩:=mV
 replace dO:Cl bg ib (m8 + bp * 1) [.slice gw cZ.length gy]:=dO
 refine zf Z Z Z (zL Z Z (congrArg nE (nG.2 ax.out))) (fun _=>ZC Z Z jG Z zm zT (wAg cO)) (zy Z Z Z (zL Z Z (congrArg nE (nG.2 ax.out))) (bn.ldC (f:=0) dO (v:=.slice gw cZ.length gy) Z Z ze Z) Z (zf Z Z Z (zL Z Z (congrArg nE (nG.2 ax.out))) (fun _=>zW Z Z zA) (zf Z Z Z (zL Z Z (congrArg nE (nG.2 ax.out))) (fun _=>zD Z cH Zb Z zC) (zy Z Z Z (zL Z Z (congrArg nE (nG.2 ax.out))) (bn.ldB (j:=4) Z Z Z zM (v:=jV bt.Laps) Z) Z (zf Z Z Z (zL Z Z (congrArg nE (nG.2 ax.out))) (fun _=>zV Z Z Z) (oR Z (za Z (congrArg nE (nG.2 ax.out)) Z) (eN (ifc mw ?_ ?_))))))))
 intro dv my
 refine cT Z dv (sR (wHD gCh) Z (oM Z dE (oR Z (zD Z Z ZH Z zC) (oL Z (bn.ldB (j:=0) Z Z Z zM (v:=jV ao.Bib) Z) ?_))))
 let de:List Value:=[jV ao.Bib,jV 0,jV 0]
 let eK:List Value:=[jV 0,jV 0,jV 0]
 refine oR Z (ZT (pv:=[(0,jV ao.Bib)]) (z:=eK) (cs:=de) Z (wAA Z wAO) YA wHh Z Z) (zk (pv:=[(0,.agg de.toArray)]) (zs:=eK) (cs:=de) Z Z Z Z Z (wAA Z wAO) Zo ya YA Z Z Z Z Z bn ?_)
 intro gR ic lc
 let eM:Res:=.row (some ⟨ic,0,none⟩) 1 59 3 (nA wAJ [(⟨ao.Bib,0,0⟩:wAB)])
 have f4:sW w U bg [eM,.blk br 73 bi,.blk aw 220 B8,.obj bb (.map bm bj),.obj aq (.map a7 az),.blk an 66 B5,B1,.blk b2 27 B0,B7,bv,bC] gR:=lc
 refine bnK my fun gC jk mz=>yE (j:=10) (enc:=wAJ) (xs:=bG) (ys:=[(⟨ao.Bib,0,0⟩:wAB)]) (zs:=gC) rfl rfl rfl rfl rfl Tryz.underlying51 wMY rfl rfl rfl rfl rfl rfl f4 rfl rfl rfl (f4.srcR (j:=0) rfl (by decide) (wAC (f:=wAJ) (sz:=3) (fun _=>rfl) [(⟨ao.Bib,0,0⟩:wAB)])) (fun _=>rfl) (fun _=>rfl) jk rfl ?_
 intro eD fw gS lg
 have lh:sW w U bg [eM,.blk br 73 bi,.blk aw 220 B8,.obj bb (.map bm bj),.obj aq (.map a7 az),.blk an 66 B5,B1,.blk b2 27 B0,B7,bv,.row eD fw 59 3 (nA wAJ gC)] gS:=lg
 refine oA Z Z (eN (ZD (zb (zr (zF (rR fL2 Z (oR Z (zz (zY Z bQ Z) (congrArg (jV) dR.out)) (oM Z Z (zg ?_)))))))))
 cases mz
 exact zF ⟨rfl,⟨bg,bm,bj,bA,bD,eD,fw,rfl,dC,cG,cH,cI,cJ,cK,dD,rfl,cL,cM,cj,(lh.pick [2,3,4,5,6,7,8,9,10] _ (by decide) rfl),dY⟩⟩
 intro dv mA
 refine cF Z dv (kN (yu fun bf be=>?_))
 have fI:bf 1=.pointer (some ⟨b2,0,none⟩):=(be 1).trans dC
 have fJ:bf 4=.pointer (some ⟨bN,0,none⟩):=(be 4).trans cG
 have fK:bf 6=.pointer (some ⟨an,0,none⟩):=(be 6).trans cH
 have iA:bf 9=.slice bU bz.length cc:=(be 9).trans cI
 have iB:bf 11=.map (some aq):=(be 11).trans cJ
 have iC:bf 12=.pointer (some ⟨aw,0,none⟩):=(be 12).trans cK
 have iD:bf 15=.slice bA bS.length bD:=(be 15).trans dD
 have iE:bf 16=.slice bK bG.length bO:=(be 16).trans dE
 have iF:bf 17=jV (↑bp:Int):=(be 17).trans rfl
 have fL:bf 18=.pointer (some ⟨br,0,none⟩):=(be 18).trans rfl
 have iG:bf 53=.slice bH p0.Teams.length bI:=(be 53).trans cL
 have iH:bf 54=jV (↑p0.Teams.length:Int):=(be 54).trans cM
 have iI:bf 55=jV (↑bp:Int):=(be 55).trans bQ
 clear be
 refine ZY ZQ [3,3,1,3,3,3,1,3,3,1,3,1,3,3,1,1,2,3,3,1,3,3,3,2,0,3] (wQD (wRF (.fx 16 (wRJ (.fx 23 (.fx 24 (.fl 25 .nil) .stop) .stop)) .stop))) (by kernel_rfl) ?_
 have bu:=bn.drew
 generalize hw_W424:({ fe with drawn:=fe.drawn + 1 }:World)=gT at bu ⊢
 refine oM Z iD (oR Z (zD Z fL ZH Z zC) (oL Z (bu.ldB (j:=0) Z Z Z zM (v:=jV ao.Bib) Z) (oM Z fJ (oR Z (yC Z Z) (oR Z (zD Z Z Zw Z ZV) (oL Z (bu.ldB (j:=5) Z Z Z Zj (v:=.slice bV bh.after.length cd) Z) (oM Z iF ?_)))))))
 have q:=fO.el (wAK cO)
 obtain ⟨ie,m9,pg,jH,dP,mW⟩:=q
 obtain ⟨gx,gz,rfl,jl⟩:=mW
 replace dP:Cl bg ie (m9 + bp * 1) [.slice gx cZ.length gz]:=dP
 refine oR Z (ZC Z Z jH Z zm zT (wAg cO)) (oL Z (bu.ldC (f:=0) dP (v:=.slice gx cZ.length gz) Z Z ze Z) (oR Z (zD Z fK Zb Z zC) (oL Z (bu.ldB (j:=4) Z Z Z zM (v:=jV bt.Laps) Z) (oR Z (yA Z Z Z) (bnK mA fun bT dK mB=>?_)))))
 have q:=jl.el (fun _=>rfl) (wAK dK)
 obtain ⟨oG,o3,jI,jJ⟩:=q
 refine oR Z (zx Z Z jI Z zA zC (wAi dK) (wAj dK)) (oL Z (bu.ldC (f:=0) jJ (v:=jV bT) Z Z zM Z) (oL Z (bu.ldBA (j:=0) Z Z fL yc ZS (vs:=bi) Z Z) (oR Z (zD Z fI zu Z ZZ) (oR Z (zD Z Z ZG Z zC) (oL Z (bu.ldB (j:=6) Z Z Z zM (v:=jV p0.Rules.Unused) Z) (bnK mB fun cm jo mC=>zP 0 Z Z Z Z (zQ Z Z Tryz.call93 (zH Z zZ) Z) bu (fun hs=>wHR ao cU cX cV cY gT bg hs i8 i9 jo) (.inr Z) ?_))))))
 rintro cx n8 o7 gU m5 lk ⟨rfl,rfl⟩
 have lm:sW w U cx [.blk br 73 bi,.blk aw 220 B8,.obj bb (.map bm bj),.obj aq (.map a7 az),.blk an 66 B5,B1,.blk b2 27 B0,B7,bv,bC] gU:=lk
 refine oR Z (YW Z Z Z) (oR Z (zY Z Z Z) ?_)
 let df:List Value:=[jV ao.Bib,jV 0,jV (w64 (bT + (w64 (cm * p0.Rules.Unused))))]
 let eQ:List Value:=[jV 0,jV 0,jV 0]
 refine oR Z (ZT (pv:=[(0,jV ao.Bib),(2,jV (w64 (bT + (w64 (cm * p0.Rules.Unused)))))]) (z:=eQ) (cs:=df) Z (wAA Z (wAA Z wAO)) YA wHh Z Z) (zk (pv:=[(0,.agg df.toArray)]) (zs:=eQ) (cs:=df) Z Z Z Z Z (wAA Z wAO) Zo ya YA Z Z Z Z Z lm ?_)
 intro gV ig lq
 let eS:Res:=.row (some ⟨ig,0,none⟩) 1 59 3 (nA wAJ [(⟨ao.Bib,0,w64 (bT + (w64 (cm * p0.Rules.Unused)))⟩:wAB)])
 have f5:sW w U cx [eS,.blk br 73 bi,.blk aw 220 B8,.obj bb (.map bm bj),.obj aq (.map a7 az),.blk an 66 B5,B1,.blk b2 27 B0,B7,bv,bC] gV:=lq
 refine bnK mC fun gD jq mD=>yE (j:=9) (enc:=wAJ) (xs:=bS) (ys:=[(⟨ao.Bib,0,w64 (bT + (w64 (cm * p0.Rules.Unused)))⟩:wAB)]) (zs:=gD) rfl rfl rfl rfl rfl Tryz.underlying51 wMY rfl rfl rfl rfl rfl rfl f5 rfl rfl rfl (f5.srcR (j:=0) rfl (by decide) (wAC (f:=wAJ) (sz:=3) (fun _=>rfl) [(⟨ao.Bib,0,w64 (bT + (w64 (cm * p0.Rules.Unused)))⟩:wAB)])) (fun _=>rfl) (fun _=>rfl) jq rfl ?_
 intro eG fy gW ls
 have lu:sW w U cx [eS,.blk br 73 bi,.blk aw 220 B8,.obj bb (.map bm bj),.obj aq (.map a7 az),.blk an 66 B5,B1,.blk b2 27 B0,B7,.row eG fy 59 3 (nA wAJ gD),bC] gW:=ls
 refine oA Z Z (zg (zd (zF (rR fL2 Z (oR Z (zz (zY Z iI Z) (congrArg (jV) dR.out)) (oM Z Z (zg ?_)))))))
 cases mD
 exact zF ⟨rfl,⟨cx,bm,bj,eG,fy,bK,bO,rfl,fI,fJ,fK,iA,iB,iC,rfl,iE,iG,iH,(cj.trans m5),(lu.pick [2,3,4,5,6,7,8,9,10] _ (by decide) rfl),dY⟩⟩
 rintro pt ff ⟨dm,dB,dw,ap,au,bL,bP,iP,oJ,oK,oO,oP,oQ,iJ,dF,fM,oS,iK,oW,lv,jt⟩
 have ik:Hid (¬ ((↑(((↑p0.Teams.length:Int):Int) - 0).toNat:Int) < (↑p0.Teams.length:Int))):=zI (wAc)
 refine sR fL1 Z (oR Z (zV Z iP iK) (eN (zG (cF Z ik (ZD (zb (zb (zr (zF (sR gBu Z (oM Z dF ?_)))))))))))
 have jK:FnOK Tryz.prog dm (.func (.func 95) #[] #[]) wQM wQN (fun x=>wBm x.1 x.2):=⟨95,[],[],rfl,Tryz.call95,fun U1 w1 x y vs le hs ha hm=>by obtain rfl:=ha;exact wII x.1 x.2 w1 U1 hs  hm⟩
 refine bnK gf fun bJ ju mF=>?_
 let bW:Res:=.row bL bP 59 3 (nA wAJ ep)
 have lw:sW w U dm [.row ap au 59 3 (nA wAJ cp),.blk aw 220 B8,.obj bb (.map dB dw),.obj aq (.map a7 az),.blk an 66 B5,B1,.blk b2 27 B0,B7,bW] ff:=lv.pick [7,0,1,2,3,4,5,6,8] _ (by decide) rfl
 refine zP 1 Z Z Z Z (zQ Z Z Tryz.call94 (zH Z (zH Z zZ)) Z) lw (fun hs=>wCc cp ap au (fun x=>wBm x.1 x.2) (.func (.func 95) #[] #[]) ff dm hs jK ⟨_,_,Z⟩ ju) (.inl Z) ?_
 rintro gH od o9 ca oX lx ⟨rfl,rfl,dL⟩
 let bX:Res:=.row ap au 59 3 (nA wAJ bJ)
 have ly:sW w U gH [bX,.blk aw 220 B8,.obj bb (.map dB dw),.obj aq (.map a7 az),.blk an 66 B5,B1,.blk b2 27 B0,B7,bW] ca:=lx
 refine eN (sR (.fl 0 (.fl 1 (.fx 2 .nil .stop))) Z (oM Z fM ?_))
 have q:=ly.freezeM (k:=2) rfl jt
 obtain ⟨gI,oY,l5,lA⟩:=q
 have lB:sW w U gI [bX,.blk aw 220 B8,.obj aq (.map a7 az),.blk an 66 B5,B1,.blk b2 27 B0,B7,bW] ca:=lA
 have q:=lB.freeze (k:=1) rfl
 obtain ⟨bZ,m6,ch,lz⟩:=q
 replace ch:=Cl.of ch
 have lC:sW w U bZ [bX,.obj aq (.map a7 az),.blk an 66 B5,B1,.blk b2 27 B0,B7,bW] ca:=lz
 replace ch:Cl bZ aw 0 B8:=ch
 refine oR Z (YN Z zZ (zH iJ zZ)) ?_
 have jv:=l5.le m6
 have jL:FnOK Tryz.prog bZ (.func (.func 98) #[] #[.pointer (some ⟨aw,0,none⟩)]) wQM wQN (fun x=>wBn x.1 x.2 eh):=⟨98,[],[.pointer (some ⟨aw,0,none⟩)],rfl,Tryz.call98,fun U1 w1 x y vs le hs ha hm=>by obtain rfl:=ha;exact wIJ x.1 x.2 eh aw bb dB dw w1 U1 hs (ch.le le) (jv.le le) hm⟩
 refine bnK mF fun co jw mG=>?_
 have lD:sW w U bZ [bW,bX,.obj aq (.map a7 az),.blk an 66 B5,B1,.blk b2 27 B0,B7] ca:=lC.pick [6,0,1,2,3,4,5] _ (by decide) rfl
 refine zP 1 Z Z Z Z (zQ Z Z Tryz.call94 (zH Z (zH Z zZ)) Z) lD (fun hs=>wCc ep bL bP (fun x=>wBn x.1 x.2 eh) (.func (.func 98) #[] #[.pointer (some ⟨aw,0,none⟩)]) ca bZ hs jL ⟨_,_,Z⟩ jw) (.inl Z) ?_
 rintro dn oe pa gZ oZ lG ⟨rfl,rfl,jx⟩
 let bY:Res:=.row bL bP 59 3 (nA wAJ co)
 have lH:sW w U dn [bY,bX,.obj aq (.map a7 az),.blk an 66 B5,B1,.blk b2 27 B0,B7] gZ:=lG
 refine eN (zG (sR fL3 rfl (zh rfl rfl rfl rfl rfl (nN (b:=(.slice ap cp.length au:Value)) (c:=(.slice ap bJ.length au:Value)) dF (by rw [dL])) (zf rfl rfl rfl rfl (fun _=>zW rfl rfl Zo) (zh rfl rfl rfl rfl rfl rfl (eN (zR (bnK mG fun n4 l6 mH=>?_))))))))
 have q:=wAw l6
 obtain ⟨dX,l7⟩:=q
 replace dX:=zI dX
 refine CK.forN' (fun af ag σ_ w_=>∃ (U_:PHeap),σ_ 123=jV (↑af:Int)/\σ_ 15=.slice ap ag.length au/\σ_ 16=.slice bL co.length bP/\σ_ 122=jV (↑bJ.length:Int)/\PHeap.Le dn U_/\sW w U U_ [.obj aq (.map a7 az),.blk an 66 B5,B1,.blk b2 27 B0,.row ap au 59 3 (nA wAJ ag),bY] w_/\ag.length=cp.length) l7 ?_ ?_ ?_
 exact ⟨dn,rfl,(nN (b:=(.slice ap cp.length au:Value)) (c:=(.slice ap bJ.length au:Value)) dF (by rw [dL])),(nN (b:=(.slice bL ep.length bP:Value)) (c:=(.slice bL co.length bP:Value)) fM (by rw [jx])),rfl,(zN _),(lH.pick [2,3,4,5,1,0] _ (by decide) rfl),dL⟩
 rintro af ag pj pu oy dU ⟨b4,cg,bw,dG,cN,d6,f7,dM⟩ mZ
 have fz:Hid ((↑af:Int) < (↑bJ.length:Int)):=zI (wAo dU)
 replace dU:=zI dU
 have cQ:Hid (w64 ((↑af:Int) + 1)=(↑(af + 1):Int)):=zI (by have h1:=dX.out;have h2:=fz.out;rw [wAQ] <;> omega)
 refine sR fL1 Z (oR Z (zV Z cg cN) (eN (zG (cT Z fz (kN (zG (zR (sR fL2 Z (oM Z cg (oA Z Z (eN (sR (wIo (.fx 6 .nil .stop)) Z (oM Z bw (oM Z Z (oM Z Z (oR Z (zz (zY Z Z Z) (congrArg (jV) cQ.out)) (bnK mZ fun _ cP mI=>?_)))))))))))))))))
 obtain ⟨oH,bs⟩:=f7.rowSome (j:=4) rfl (by rw [wAC (f:=wAJ) (sz:=3) (fun _=>rfl) ag];have hz:=wAY cP;omega)
 refine oR Z (ZC Z Z bs Z Zo ya (wAY cP)) (oR Z (zD Z Z yI Z zC) ?_)
 have mb:=wBO (xs:=ag) (wAY cP)
 refine OKS.stR (j:=4) (vs:=[jV (↑(af + 1):Int)]) (cs':=nA wAJ (nH ag af (⟨(gd ag af).Bib,(↑(af + 1):Int),(gd ag af).Time⟩:wAB))) rfl rfl rfl rfl f7 rfl bs rfl rfl rfl zC (by rw [wAC (f:=wAJ) (sz:=3) (fun _=>rfl)];have hz:=wAY cP;show _ + 1 <= _;first | omega | (simp only [nJ];omega) | (simp only [nM,nK,nL];omega)) rfl (wES (sz:=3) (fo:=1) (fun _=>rfl) _ _ _ _ mb (by first | omega | (simp only [nJ];omega) | (simp only [nM,nK,nL];omega)) (zJ rfl) rfl) rfl ?_
 intro dr lI
 have lJ:sW w U b4 [.obj aq (.map a7 az),.blk an 66 B5,B1,.blk b2 27 B0,.row ap au 59 3 (nA wAJ (nH ag af (⟨(gd ag af).Bib,(↑(af + 1):Int),(gd ag af).Time⟩:wAB))),bY] dr:=lI
 refine eN (zG (ZY ZQ [3,3,3,3,3,3,3,1,3,3,3,3,3,1,3,3] fL16 (by kernel_rfl) ?_))
 have bF:=lJ.drew
 generalize hw_W581:({ dr with drawn:=dr.drawn + 1 }:World)=oz at bF ⊢
 refine oM Z Z (oR Z (yP Z Z Z) (oM Z Z (ifc mI ?_ ?_)))
 intro av mJ
 refine zh rfl rfl rfl (zL rfl rfl (Zl av.out)) rfl (nN (b:=(.slice ap ag.length au:Value)) (c:=(.slice ap ((nH ag af (⟨(gd ag af).Bib,(↑(af + 1):Int),(gd ag af).Time⟩:wAB)).length) au:Value)) bw (by simp only [nI])) (zh rfl rfl rfl (zL rfl rfl (Zl av.out)) rfl rfl (bnK mJ fun _ bE mK=>zf rfl rfl rfl (zL rfl rfl (Zl av.out)) (fun _=>ZC rfl rfl bs rfl Zo ya (wAY bE)) (zf rfl rfl rfl (zL rfl rfl (Zl av.out)) (fun _=>zD rfl rfl yI rfl zC) ?_)))
 have mc:=wBO (xs:=(nH ag af (⟨(gd ag af).Bib,(↑(af + 1):Int),(gd ag af).Time⟩:wAB))) (by first | exact wAY bE | (have hz:=wAY bE;simpa only [nI] using hz))
 refine zy rfl rfl rfl (zL rfl rfl (Zl av.out)) (bF.ldR (j:=4) rfl bs rfl rfl zM (wAZ (sz:=3) (fun _=>rfl) _ _ 2 _ mc (by first | omega | rfl | simp) rfl)) rfl (zh rfl rfl rfl (zL rfl rfl (Zl av.out)) rfl (nN (b:=(.slice ap ag.length au:Value)) (c:=(.slice ap ((nH ag af (⟨(gd ag af).Bib,(↑(af + 1):Int),(gd ag af).Time⟩:wAB)).length) au:Value)) bw (by simp only [nI])) (zh rfl rfl rfl (zL rfl rfl (Zl av.out)) rfl rfl (zf rfl rfl rfl (zL rfl rfl (Zl av.out)) (fun _=>yA rfl rfl rfl) (bnK mK fun _ bx mL=>zf rfl rfl rfl (zL rfl rfl (Zl av.out)) (fun _=>zx rfl rfl bs rfl Zo ya (wCQ bx) (wCR bx)) (zf rfl rfl rfl (zL rfl rfl (Zl av.out)) (fun _=>zD rfl rfl yI rfl zC) ?_)))))
 have md:=wBO (xs:=(nH ag af (⟨(gd ag af).Bib,(↑(af + 1):Int),(gd ag af).Time⟩:wAB))) (by first | exact wAY bx | (have hz:=wAY bx;simpa only [nI] using hz))
 refine zy rfl rfl rfl (zL rfl rfl (Zl av.out)) (bF.ldR (j:=4) rfl bs rfl rfl zM (wAZ (sz:=3) (fun _=>rfl) _ _ 2 _ md (by first | omega | rfl | simp) rfl)) rfl (zf rfl rfl rfl (zL rfl rfl (Zl av.out)) (fun _=>yJ rfl rfl rfl) (zf rfl rfl rfl rfl (fun _=>zX rfl (Zl av.out) rfl) (eN (ifc mL ?_ ?_))))
 intro dx mM
 refine cT Z dx (rR (wNe (.fx 10 .nil .stop)) rfl (zh rfl rfl rfl rfl rfl (nN (b:=(.slice ap ag.length au:Value)) (c:=(.slice ap ((nH ag af (⟨(gd ag af).Bib,(↑(af + 1):Int),(gd ag af).Time⟩:wAB)).length) au:Value)) bw (by simp only [nI])) (zh rfl rfl rfl rfl rfl rfl (zh rfl rfl rfl rfl rfl (nN (b:=(.slice ap ag.length au:Value)) (c:=(.slice ap ((nH ag af (⟨(gd ag af).Bib,(↑(af + 1):Int),(gd ag af).Time⟩:wAB)).length) au:Value)) bw (by simp only [nI])) (zh rfl rfl rfl rfl rfl rfl (zf rfl rfl rfl rfl (fun _=>yA rfl rfl rfl) (zf rfl rfl rfl rfl (fun _=>zx rfl rfl bs rfl Zo ya (wCQ bx) (wCR bx)) (zf rfl rfl rfl rfl (fun _=>zD rfl rfl yI rfl zC) ?_))))))))
 have me:=wBO (xs:=(nH ag af (⟨(gd ag af).Bib,(↑(af + 1):Int),(gd ag af).Time⟩:wAB))) (by first | exact wAY bx | (have hz:=wAY bx;simpa only [nI] using hz))
 refine zy rfl rfl rfl rfl (bF.ldR (j:=4) rfl bs rfl rfl zM (wAZ (sz:=3) (fun _=>rfl) _ _ 1 _ me (by first | omega | rfl | simp) rfl)) rfl (zf rfl rfl rfl rfl (fun _=>ZC rfl rfl bs rfl Zo ya (wAY bE)) (zf rfl rfl rfl rfl (fun _=>zD rfl rfl yI rfl zC) ?_))
 have mg:=wBO (xs:=(nH ag af (⟨(gd ag af).Bib,(↑(af + 1):Int),(gd ag af).Time⟩:wAB))) (by first | exact wAY bE | (have hz:=wAY bE;simpa only [nI] using hz))
 refine OKS.stR (j:=4) (vs:=[jV ((gd (nH ag af (⟨(gd ag af).Bib,(↑(af + 1):Int),(gd ag af).Time⟩:wAB)) (w64 ((↑af:Int) - 1)).toNat).Place)]) (cs':=nA wAJ (nH (nH ag af (⟨(gd ag af).Bib,(↑(af + 1):Int),(gd ag af).Time⟩:wAB)) af (⟨(gd (nH ag af (⟨(gd ag af).Bib,(↑(af + 1):Int),(gd ag af).Time⟩:wAB)) af).Bib,(gd (nH ag af (⟨(gd ag af).Bib,(↑(af + 1):Int),(gd ag af).Time⟩:wAB)) (w64 ((↑af:Int) - 1)).toNat).Place,(gd (nH ag af (⟨(gd ag af).Bib,(↑(af + 1):Int),(gd ag af).Time⟩:wAB)) af).Time⟩:wAB))) rfl rfl rfl rfl bF rfl bs rfl rfl rfl zC (by rw [wAC (f:=wAJ) (sz:=3) (fun _=>rfl)];have hz:=wAY bE;show _ + 1 <= _;first | omega | (simp only [nI];omega) | (simp only [nM,nK,nL,nI];omega) | (simp only [nJ];omega) | (simp only [nM,nK,nL];omega)) rfl (wES (sz:=3) (fo:=1) (fun _=>rfl) _ _ _ _ mg (by first | omega | (simp only [nJ];omega) | (simp only [nM,nK,nL];omega)) (zJ rfl) rfl) rfl ?_
 intro g6 lK
 have lL:sW w U b4 [.obj aq (.map a7 az),.blk an 66 B5,B1,.blk b2 27 B0,.row ap au 59 3 (nA wAJ (nH (nH ag af (⟨(gd ag af).Bib,(↑(af + 1):Int),(gd ag af).Time⟩:wAB)) af (⟨(gd (nH ag af (⟨(gd ag af).Bib,(↑(af + 1):Int),(gd ag af).Time⟩:wAB)) af).Bib,(gd (nH ag af (⟨(gd ag af).Bib,(↑(af + 1):Int),(gd ag af).Time⟩:wAB)) (w64 ((↑af:Int) - 1)).toNat).Place,(gd (nH ag af (⟨(gd ag af).Bib,(↑(af + 1):Int),(gd ag af).Time⟩:wAB)) af).Time⟩:wAB))),bY] g6:=lK
 refine zg (zd (zF (rR fL2 Z (oR Z (zz (zY Z cg Z) (congrArg (jV) cQ.out)) (oM Z Z (zg ?_))))))
 cases mM
 exact zF ⟨rfl,⟨b4,rfl,(nN (b:=(.slice ap ((nH ag af (⟨(gd ag af).Bib,(↑(af + 1):Int),(gd ag af).Time⟩:wAB)).length) au:Value)) (c:=(.slice ap ((nH (nH ag af (⟨(gd ag af).Bib,(↑(af + 1):Int),(gd ag af).Time⟩:wAB)) af (⟨(gd (nH ag af (⟨(gd ag af).Bib,(↑(af + 1):Int),(gd ag af).Time⟩:wAB)) af).Bib,(gd (nH ag af (⟨(gd ag af).Bib,(↑(af + 1):Int),(gd ag af).Time⟩:wAB)) (w64 ((↑af:Int) - 1)).toNat).Place,(gd (nH ag af (⟨(gd ag af).Bib,(↑(af + 1):Int),(gd ag af).Time⟩:wAB)) af).Time⟩:wAB)).length) au:Value)) (nN (b:=(.slice ap ag.length au:Value)) (c:=(.slice ap ((nH ag af (⟨(gd ag af).Bib,(↑(af + 1):Int),(gd ag af).Time⟩:wAB)).length) au:Value)) bw (by simp only [nI])) (by simp only [nI])),dG,cN,d6,lL,((nI.trans nI).trans dM)⟩⟩
 intro dx mN
 refine cF Z dx (ZO (zd (zF (rR fL2 Z (oR Z (zz (zY Z cg Z) (congrArg (jV) cQ.out)) (oM Z Z (zg ?_)))))))
 cases mN
 exact zF ⟨rfl,⟨b4,rfl,(nN (b:=(.slice ap ag.length au:Value)) (c:=(.slice ap ((nH ag af (⟨(gd ag af).Bib,(↑(af + 1):Int),(gd ag af).Time⟩:wAB)).length) au:Value)) bw (by simp only [nI])),dG,cN,d6,bF,(nI.trans dM)⟩⟩
 intro av mO
 refine oF Z av (oF Z av (oF Z av (oF Z av (oF Z av (oF Z av (oF Z av (oF Z av (oF Z av (oF Z av (oF Z av (oF Z av (oR Z (za Z (zo av.out) Z) (eN (zn Z (ZO (zd (zF (rR fL2 Z (oR Z (zz (zY Z cg Z) (congrArg (jV) cQ.out)) (oM Z Z (zg ?_)))))))))))))))))))))
 cases mO
 exact zF ⟨rfl,⟨b4,rfl,(nN (b:=(.slice ap ag.length au:Value)) (c:=(.slice ap ((nH ag af (⟨(gd ag af).Bib,(↑(af + 1):Int),(gd ag af).Time⟩:wAB)).length) au:Value)) bw (by simp only [nI])),dG,cN,d6,bF,(nI.trans dM)⟩⟩
 rintro py oB ⟨eZ,iQ,iL,iM,iN,o0,f8,oV⟩
 have im:Hid (¬ ((↑(((↑bJ.length:Int):Int) - 0).toNat:Int) < (↑bJ.length:Int))):=zI (wAc)
 refine sR fL1 rfl (zf rfl rfl rfl rfl (fun _=>zV rfl iQ iN) (eN (zG (cF Z im (ZD (zb (zb (zr (zF (sR gCt rfl (zh rfl rfl rfl rfl rfl iL (zh rfl rfl rfl rfl rfl iM (bnK mH fun gG jy mP=>yE (j:=4) (enc:=wAJ) (xs:=n4) (ys:=co) (zs:=gG) rfl rfl rfl rfl rfl Tryz.underlying51 wMY rfl rfl rfl rfl rfl rfl f8 rfl rfl rfl (f8.srcR (j:=5) rfl (by decide) (wAC (f:=wAJ) (sz:=3) (fun _=>rfl) co)) (fun _=>rfl) (fun _=>rfl) jy rfl ?_)))))))))))))
 intro eH fA g7 lM
 have lN:sW w U eZ [.obj aq (.map a7 az),.blk an 66 B5,B1,.blk b2 27 B0,.row eH fA 59 3 (nA wAJ gG),bY] g7:=lM
 refine oA Z Z (oA Z Z (eN (zS ?_)))
 cases mP
 exact ⟨rfl,_,(wFA rfl rfl),eZ,_,(lN.pick [4] _ (by decide) rfl),eH,fA,rfl,rfl⟩
 intro du mQ
 refine cT Z du (sR fL3 Z (oM Z Z (oA Z Z (oA Z Z (eN (zS (zK ?_)))))))
 have lO:=f0.nilrow 59 3
 cases mQ
 exact ⟨rfl,_,(wFA rfl rfl),U9,_,(lO.pick [0] _ (by decide) rfl),none,0,rfl,rfl⟩
set_option maxHeartbeats 4000000
theorem wHH (p0:wAD) (bD:Option Addr) (bE:Nat) (be:Option Addr) (bf:Nat) (w:World) (U:PHeap) (hS:St0 w U []) (dm:Sl U 1 bD bE p0.Rules.Classes.length (nA KL.encI p0.Rules.Classes)) (dn:SlR U wFL be bf p0.Teams) {r:(List (List Int)) × Int} (hm:wDL p0=some r):Gv Tryz.prog 18 [.agg #[.slice bD p0.Rules.Classes.length bE,jV p0.Rules.Each,jV p0.Rules.Laps,jV p0.Rules.Spare,jV p0.Rules.Loop,jV p0.Rules.Unused,jV p0.Start,.slice be p0.Teams.length bf]] w (wBp w [] U (fun U_ L_ v=>∃ (A0:Option Addr) (c0:Nat) (du:List Hd),v=.tuple #[.slice A0 r.1.length c0,jV r.2]/\L_=[.row A0 c0 22 1 (nA wGw du),inn 3 1 KL.encI du r.1])):=by
 unfold wDL at hm
 refine Gv.of Tryz.func18 Z Tryz.ntmps18 Tryz.results18 Z (sR gCf Z ?_)
 let B0:List Value:=[.slice bD p0.Rules.Classes.length bE,jV p0.Rules.Each,jV p0.Rules.Laps,jV p0.Rules.Spare,jV p0.Rules.Loop,jV p0.Rules.Unused,jV p0.Start,.slice be p0.Teams.length bf]
 refine ZX (cs:=B0) rfl rfl rfl rfl rfl rfl (by rfl) hS ?_
 intro W1 b2 dg
 refine oA Z Z (oA Z Z (eN (zG (sR gCc Z (oL Z (dg.ldBA (j:=0) Z Z Z yK Zf (vs:=B0) Z Z) (bnK hm fun x5 h6 gm=>zP 0 Z Z Z Z (zQ Z Z Tryz.call90 (zH Z zZ) Z) dg (fun hs=>wHl p0 bD bE be bf W1 U hs dm dn h6) (.inr Z) ?_))))))
 rintro U8 L9 g6 cx dw eS ⟨rfl,rfl⟩
 have bZ:sW w U U8 [.blk b2 27 B0] cx:=eS
 refine oA Z Z (eN (sR fL2 Z (oM Z Z (oR Z (ZU Z Z Z) (eN (ifc gm ?_ ?_))))))
 intro bP fY
 refine zn (zo (fun h=>h bP.out)) (kN (sR (wDw gBv) Z (oR Z (zD Z Z zu Z Zu) (oL Z (bZ.ldB (j:=0) Z Z Z yG (v:=.slice be p0.Teams.length bf) Z) (oR Z (zW Z Z ZN) (bnK fY fun au cY f8=>OKS.makeSliceN Z Z Z Z Z (wDO zm) wJs Z Z Z Z Z cY bZ ?_))))))
 intro cz a7 fd
 let B1:Res:=.row (some ⟨a7,0,none⟩) au.length 22 1 (nA wGw (nR au.length (⟨none,0,0⟩:Hd)))
 have fy:sW w U U8 [B1,.blk b2 27 B0] cz:=fd
 have fm:=fy.innMade 3 1 KL.encI cY
 have df:sW w U U8 [inn 3 1 KL.encI (nR au.length (⟨none,0,0⟩:Hd)) au,B1,.blk b2 27 B0] cz:=fm
 refine oA Z Z (eN (zG (sR fL4 Z (oR Z (zD Z Z zu Z Zu) (oL Z (df.ldB (j:=2) Z Z Z yG (v:=.slice be p0.Teams.length bf) Z) (oR Z (zW Z Z ZN) (oM Z Z (eN (zR (bnK f8 fun ii fL gi=>?_))))))))))
 have q:=wAw fL
 obtain ⟨cg,fM⟩:=q
 replace cg:=zI cg
 refine CK.forN' (fun af bA σ_ w_=>∃ (U_:PHeap) (bp:List Hd),σ_ 23=jV (↑af:Int)/\σ_ 1=.pointer (some ⟨b2,0,none⟩)/\σ_ 5=.slice (some ⟨a7,0,none⟩) bA.length au.length/\σ_ 21=.slice be p0.Teams.length bf/\σ_ 22=jV (↑p0.Teams.length:Int)/\PHeap.Le U8 U_/\sW w U U_ [.blk b2 27 B0,.row (some ⟨a7,0,none⟩) au.length 22 1 (nA wGw bp),inn 3 1 KL.encI bp bA] w_) fM ?_ ?_ ?_
 exact ⟨U8,(nR au.length (⟨none,0,0⟩:Hd)),rfl,rfl,rfl,rfl,rfl,(zN _),(df.pick [2,1,0] _ (by decide) rfl)⟩
 rintro af bA ic io gK cc ⟨bx,bp,bJ,dW,dX,cU,cV,ch,dh⟩ gw
 have cC:Hid ((↑af:Int) < (↑p0.Teams.length:Int)):=zI (wAo cc)
 replace cc:=zI cc
 have fU:Hid (w64 ((↑af:Int) + 1)=(↑(af + 1):Int)):=zI (by have h1:=cg.out;have h2:=cC.out;rw [wAQ] <;> omega)
 refine sR fL1 Z (oR Z (zV Z bJ cV) (eN (zG (cT Z cC (kN (zG (zR (sR (wDw gCg) Z (oM Z bJ (bnK gw fun ap cZ gj=>?_))))))))))
 have eC:=dn.le dw
 have eD:=eC.le ch
 have q:=eD.el (wAK cZ)
 obtain ⟨dK,gz,g8,eM,bY,gr⟩:=q
 obtain ⟨bK,bL,bu,bv,rfl,eG,eH⟩:=gr
 replace bY:Cl bx dK (gz + af * 3) [jV ap.Bib,.slice bK ap.Classes.length bL,.slice bu ap.Legs.length bv]:=bY
 refine oR Z (ZC Z cU eM bJ ZN ZS (wAg cZ)) (oL Z (dh.ldCA (f:=0) bY Z Z yc ZS (us:=[jV ap.Bib,.slice bK ap.Classes.length bL,.slice bu ap.Legs.length bv]) Z Z) ?_)
 let B2:List Value:=[jV 0,.slice none 0 0,.slice none 0 0]
 refine ZB (cs:=B2) Z Z Z Z Z Zr Z dh ?_
 intro gL aq fE
 refine oA Z Z ?_
 let B3:List Value:=[jV ap.Bib,.slice bK ap.Classes.length bL,.slice bu ap.Legs.length bv]
 refine ZK (j:=0) (vs:=B3) Z Z Z Z fE Z Z Z Z ZS (zJ Z) Z Z Z ?_
 intro dF fG
 let B4:Res:=.row (some ⟨a7,0,none⟩) au.length 22 1 (nA wGw bp)
 have fH:sW w U bx [.blk aq 73 B3,.blk b2 27 B0,B4,inn 3 1 KL.encI bp bA] dF:=fG
 refine eN (sR (.fx 0 .nil .stop) Z (ZB (cs:=nA KL.encI (Arr.fill 8 0).l) Z Z Z Z Z Tryz.zeroValue216 Z fH ?_))
 intro dG aw fI
 have di:sW w U bx [.blk aw 216 (nA KL.encI (Arr.fill 8 0).l),.blk aq 73 B3,.blk b2 27 B0,B4,inn 3 1 KL.encI bp bA] dG:=fI
 refine eN (sR fL4 Z (oR Z (zD Z Z ZH Z yT) (oL Z (di.ldB (j:=1) Z Z Z yd (v:=.slice bu ap.Legs.length bv) Z) (oR Z (zW Z Z ZW) (oM Z Z (eN (zR ?_)))))))
 have q:=bnd gj
 obtain ⟨⟨ie,ig⟩,fJ,dt⟩:=q
 try dsimp only at dt
 have q:=wAw fJ
 obtain ⟨cd,fK⟩:=q
 replace cd:=zI cd
 refine CK.forN' (fun ax (ah,an) σ_ w_=>∃ (U_:PHeap) (ai:List Hd),σ_ 31=jV (↑ax:Int)/\σ_ 1=.pointer (some ⟨b2,0,none⟩)/\σ_ 5=.slice (some ⟨a7,0,none⟩) an.length au.length/\σ_ 6=jV (↑af:Int)/\σ_ 7=.pointer (some ⟨aq,0,none⟩)/\σ_ 8=.pointer (some ⟨aw,0,none⟩)/\σ_ 21=.slice be p0.Teams.length bf/\σ_ 22=jV (↑p0.Teams.length:Int)/\σ_ 23=jV (↑af:Int)/\σ_ 29=.slice bu ap.Legs.length bv/\σ_ 30=jV (↑ap.Legs.length:Int)/\PHeap.Le bx U_/\sW w U U_ [.blk aw 216 (nA KL.encI ah.l),.blk aq 73 B3,.blk b2 27 B0,.row (some ⟨a7,0,none⟩) au.length 22 1 (nA wGw ai),inn 3 1 KL.encI ai an] w_) fK ?_ ?_ ?_
 exact ⟨bx,bp,Z,dW,dX,Z,Z,Z,cU,cV,bJ,Z,Z,(zN _),di⟩
 rintro ax ⟨ah,an⟩ ib ij gE ca ⟨bw,ai,bz,bG,cD,cE,bR,bS,cG,cH,cI,bT,bU,bC,c9⟩ dv
 try dsimp only at dv
 have cB:Hid ((↑ax:Int) < (↑ap.Legs.length:Int)):=zI (wAo ca)
 replace ca:=zI ca
 have dr:Hid (w64 ((↑ax:Int) + 1)=(↑(ax + 1):Int)):=zI (by have h1:=cd.out;have h2:=cB.out;rw [wAQ] <;> omega)
 refine sR fL1 Z (oR Z (zV Z bz bU) (eN (zG (cT Z cB (kN (zG (zR (sR (wDw gCg) Z (oM Z bz (bnK dv fun aj cW fV=>?_))))))))))
 have d6:=eH.le bC
 have q:=d6.el (wAK cW)
 obtain ⟨dH,gy,g7,eI,bX,gq⟩:=q
 obtain ⟨ci,cm,cj,co,rfl,gU,gV⟩:=gq
 replace bX:Cl bw dH (gy + ax * 3) [jV aj.Skier,.slice ci aj.Loops.length cm,.slice cj aj.Bouts.length co]:=bX
 refine oR Z (ZC Z bT eI bz ZW Zc (wAg cW)) (oL Z (c9.ldCA (f:=0) bX Z Z yy Zc (us:=[jV aj.Skier,.slice ci aj.Loops.length cm,.slice cj aj.Bouts.length co]) Z Z) (ZB (cs:=B2) Z Z Z Z Z Zq Z c9 ?_))
 intro gG az eV
 refine oA Z Z ?_
 let B5:List Value:=[jV aj.Skier,.slice ci aj.Loops.length cm,.slice cj aj.Bouts.length co]
 refine ZK (j:=0) (vs:=B5) Z Z Z Z eV Z Z Z Z Zc (zJ Z) Z Z Z ?_
 intro bN eW
 let B6:Res:=.row (some ⟨a7,0,none⟩) au.length 22 1 (nA wGw ai)
 have eX:sW w U bw [.blk az 76 B5,.blk aw 216 (nA KL.encI ah.l),.blk aq 73 B3,.blk b2 27 B0,B6,inn 3 1 KL.encI ai an] bN:=eW
 refine eN (zG (bnK fV fun dI gv fW=>CK.cut (fun σ_ w_=>∃ (U_:PHeap),σ_ 1=.pointer (some ⟨b2,0,none⟩)/\σ_ 5=.slice (some ⟨a7,0,none⟩) an.length au.length/\σ_ 6=jV (↑af:Int)/\σ_ 7=.pointer (some ⟨aq,0,none⟩)/\σ_ 8=.pointer (some ⟨aw,0,none⟩)/\σ_ 9=jV (↑ax:Int)/\σ_ 10=.pointer (some ⟨az,0,none⟩)/\σ_ 21=.slice be p0.Teams.length bf/\σ_ 22=jV (↑p0.Teams.length:Int)/\σ_ 23=jV (↑af:Int)/\σ_ 29=.slice bu ap.Legs.length bv/\σ_ 30=jV (↑ap.Legs.length:Int)/\σ_ 31=jV (↑ax:Int)/\σ_ 58=.bool dI/\PHeap.Le bw U_/\sW w U U_ [.blk az 76 B5,.blk aw 216 (nA KL.encI ah.l),.blk aq 73 B3,.blk b2 27 B0,B6,inn 3 1 KL.encI ai an] w_) ?_ ?_))
 refine ZY ZQ [3,1,3,1,3,1,3,3,1,3,3,1,3,3,3,1,3,1,3,3,1,3,3] fL23 (by kernel_rfl) ?_
 have bb:=eX.drew
 generalize hw_W161:({ bN with drawn:=bN.drawn + 1 }:World)=gH at bb ⊢
 refine oR Z (zD Z bR ZH Z zT) (oL Z (bb.ldB (j:=2) Z Z Z ze (v:=.slice bK ap.Classes.length bL) Z) (oR Z (zD Z Z ZR Z zC) (oL Z (bb.ldB (j:=0) Z Z Z zM (v:=jV aj.Skier) Z) (bnK gv fun gA bV fZ=>?_))))
 have d7:=eG.le bC
 have q:=d7.el (fun _=>rfl) (wAK bV)
 obtain ⟨gM,gY,eJ,eP⟩:=q
 refine oR Z (zx Z Z eJ Z zA zC (wAi bV) (wAj bV)) (oL Z (bb.ldC (f:=0) eP (v:=jV gA) Z Z zM Z) (oR Z (zD Z bG zu Z ZZ) (oR Z (zD Z Z ZG Z zT) (oL Z (bb.ldB (j:=3) Z Z Z ze (v:=.slice bD p0.Rules.Classes.length bE) Z) (oM Z Z (bnK fZ fun gC cX f0=>?_))))))
 have d8:=dm.le dw
 have d9:=d8.le ch
 have eh:=d9.le bC
 have q:=eh.el (fun _=>rfl) (wAK cX)
 obtain ⟨gN,gZ,eK,eQ⟩:=q
 refine oR Z (ZC Z Z eK Z zA zC (wAg cX)) (oL Z (bb.ldC (f:=0) eQ (v:=jV gC) Z Z zM Z) (oR Z (ZU Z Z Z) (oM Z Z (ifc f0 ?_ ?_))))
 intro ao f4
 refine zf Z Z Z (zL Z Z (zo (fun h=>h ao.out))) (fun _=>zD Z Z ZR Z zC) (zy Z Z Z (zL Z Z (zo (fun h=>h ao.out))) (bb.ldB (j:=0) Z Z Z zM (v:=jV aj.Skier) Z) Z (bnK f4 fun _ bW f5=>zf Z Z Z (zL Z Z (zo (fun h=>h ao.out))) (fun _=>Runs.iaA Z bS Z YR zC (wCQ bW) (wCR bW)) ?_))
 have fN:=Arr.at_ ah (k:=aj.Skier.toNat) (by have hz0:=wAY bW;omega)
 refine zy rfl rfl rfl (zL rfl rfl (zo (fun h=>h ao.out))) (bb.ldB (j:=1) rfl rfl rfl zM (wAZ (sz:=1) (fun _=>rfl) _ _ 0 _ fN (by first | omega | rfl | simp) rfl)) rfl (zf rfl rfl rfl (zL rfl rfl (zo (fun h=>h ao.out))) (fun _=>zD rfl bG zu rfl ZZ) (zf rfl rfl rfl (zL rfl rfl (zo (fun h=>h ao.out))) (fun _=>zD rfl rfl ZG rfl zC) (zy rfl rfl rfl (zL rfl rfl (zo (fun h=>h ao.out))) (bb.ldB (j:=3) rfl rfl rfl zM (v:=jV p0.Rules.Each) rfl) rfl (zf rfl rfl rfl (zL rfl rfl (zo (fun h=>h ao.out))) (fun _=>YM rfl rfl rfl) (zf rfl rfl rfl rfl (fun _=>za rfl (zo (fun h=>h ao.out)) rfl) (zg ?_))))))
 have q:=nD f5
 obtain rfl:=q
 exact zF ⟨Z,⟨bw,bG,cD,cE,bR,bS,Z,Z,cG,cH,cI,bT,bU,bz,Z,(zN _),bb⟩⟩
 intro ao f7
 refine oT Z ao (oT Z ao (oT Z ao (oT Z ao (oT Z ao (oT Z ao (oT Z ao (oT Z ao (oR Z (zX Z (Zl ao.out) Z) (zg ?_)))))))))
 cases f7
 exact zF ⟨Z,⟨bw,bG,cD,cE,bR,bS,Z,Z,cG,cH,cI,bT,bU,bz,Z,(zN _),bb⟩⟩
 rintro ik cy ⟨a8,cJ,bH,bI,cK,bs,dN,cL,cM,cN,cO,cP,cQ,cR,cS,dx,bt⟩
 refine ifc fW ?_ ?_
 intro bQ f9
 refine ZA (cS.trans (congrArg nE bQ.out)) (rR (wMK (.fx 7 (.fx 8 (.fl 9 (.fx 10 .nil .stop)) .stop) .stop)) Z (oM Z bH (oM Z bI (oM Z bH (oM Z bI (bnK f9 fun _ bm gb=>oR Z (ZC Z Z Z Z zm zT (wAY bm)) ?_))))))
 have dp:=bt.innFit (j:=5) rfl
 have fO:=wBO (xs:=ai) (k:=af) (by rw [dp.len];exact (wAY bm))
 have gu:Value.slice (gd ai af).A (gd ai af).n (gd ai af).c=.slice ((gd ai af).A) ((gd an af).length) ((gd ai af).c):=by rw [dp.at_ (k:=af) (wAY bm)]
 refine zy rfl rfl rfl rfl (RunsK.to (bt.ldR (j:=4) rfl rfl rfl rfl ze (wAZ (sz:=1) (fun _=>rfl) _ _ 0 _ fO (by first | omega | rfl | simp) rfl)) gu) rfl ?_
 have eY:sW w U a8 [inn 3 1 KL.encI ai an,.blk az 76 B5,.blk aw 216 (nA KL.encI ah.l),.blk aq 73 B3,.blk b2 27 B0,B6] cy:=bt.pick [5,0,1,2,3,4] _ (by decide) rfl
 have eZ:=eY.innTake (k:=af) (wAY bm)
 let B7:Res:=.row ((gd ai af).A) ((gd ai af).c) 3 1 (nA KL.encI (gd an af))
 have fc:sW w U a8 [B7,wPs 3 1 KL.encI ai an af,.blk az 76 B5,.blk aw 216 (nA KL.encI ah.l),.blk aq 73 B3,.blk b2 27 B0,B6] cy:=eZ
 refine oM Z dN (zk (pv:=[(0,jV (↑ax:Int))]) (zs:=[jV 0]) (cs:=[jV (↑ax:Int)]) Z Z Z Z Z (wAA Z wAO) zA zC ZM Z Z Z Z Z fc ?_)
 intro dB dJ fe
 let B8:Res:=.row (some ⟨dJ,0,none⟩) 1 3 1 (nA KL.encI [(↑ax:Int)])
 have dd:sW w U a8 [B8,B7,wPs 3 1 KL.encI ai an af,.blk az 76 B5,.blk aw 216 (nA KL.encI ah.l),.blk aq 73 B3,.blk b2 27 B0,B6] dB:=fe
 refine bnK gb fun bd ep gc=>yE (j:=1) (enc:=KL.encI) (xs:=(gd an af)) (ys:=[(↑ax:Int)]) (zs:=bd) rfl rfl rfl rfl rfl Zy wFN rfl rfl rfl rfl rfl rfl dd rfl rfl rfl (dd.srcR (j:=0) rfl (by decide) (wAC (f:=KL.encI) (sz:=1) (fun _=>rfl) [(↑ax:Int)])) (fun _=>rfl) (fun _=>rfl) ep rfl ?_
 intro bg bj dC ff
 let B9:Res:=.row bg bj 3 1 (nA KL.encI bd)
 have de:sW w U a8 [B8,B9,wPs 3 1 KL.encI ai an af,.blk az 76 B5,.blk aw 216 (nA KL.encI ah.l),.blk aq 73 B3,.blk b2 27 B0,B6] dC:=ff
 refine oR Z (ZC Z Z Z Z zm zT (wAY bm)) ?_
 have dq:=(de.innHFit (j:=2) rfl).1
 have fP:=wBO (xs:=ai) (k:=af) (by rw [dq.len];exact wAY bm)
 refine OKS.stR (j:=7) (vs:=wGw (⟨bg,bd.length,bj⟩:Hd)) (cs':=nA wGw (nH ai af (⟨bg,bd.length,bj⟩:Hd))) rfl rfl rfl rfl de rfl rfl rfl rfl rfl zT (by rw [wAC (f:=wGw) (sz:=1) (fun _=>rfl),dq.len];have hz:=wAY bm;show _ + 1 <= _;first | omega | (simp only [nJ];omega)) rfl (wES (sz:=1) (fo:=0) (fun _=>rfl) _ _ _ _ fP (by first | omega | (simp only [nJ];omega)) (zJ rfl) rfl) rfl ?_
 intro bO fg
 let bF:Res:=.row (some ⟨a7,0,none⟩) au.length 22 1 (nA wGw (nH ai af (⟨bg,bd.length,bj⟩:Hd)))
 have fh:sW w U a8 [B8,B9,wPs 3 1 KL.encI ai an af,.blk az 76 B5,.blk aw 216 (nA KL.encI ah.l),.blk aq 73 B3,.blk b2 27 B0,bF] bO:=fg
 have fj:sW w U a8 [B9,wPs 3 1 KL.encI ai an af,B8,.blk az 76 B5,.blk aw 216 (nA KL.encI ah.l),.blk aq 73 B3,.blk b2 27 B0,bF] bO:=fh.pick [1,2,0,3,4,5,6,7] _ (by decide) rfl
 have fk:=fj.innPut
 have b4:sW w U a8 [inn 3 1 KL.encI (nH ai af (⟨bg,bd.length,bj⟩:Hd)) (nH an af bd),B8,.blk az 76 B5,.blk aw 216 (nA KL.encI ah.l),.blk aq 73 B3,.blk b2 27 B0,bF] bO:=fk
 refine eN (rR (wIo (.fx 6 .nil .stop)) Z (oR Z (zD Z cL ZR Z zC) (oL Z (b4.ldB (j:=2) Z Z Z zM (v:=jV aj.Skier) Z) (bnK gc fun _ bn ge=>oR Z (Runs.iaA Z bs Z YR zC (wCQ bn) (wCR bn)) ?_))))
 have fQ:=Arr.at_ ah (k:=aj.Skier.toNat) (by have hz0:=wAY bn;omega)
 refine zy rfl rfl rfl rfl (b4.ldB (j:=3) rfl rfl rfl zM (wAZ (sz:=1) (fun _=>rfl) _ _ 0 _ fQ (by first | omega | rfl | simp) rfl)) rfl (zf rfl rfl rfl rfl (fun _=>zY rfl rfl rfl) (zf rfl rfl rfl rfl (fun _=>Runs.iaA rfl bs rfl YR zC (wCQ bn) (wCR bn)) ?_))
 have fR:=Arr.at_ ah (k:=aj.Skier.toNat) (by have hz0:=wAY bn;omega)
 refine ZK (j:=3) (vs:=[jV (w64 ((ah.get aj.Skier.toNat) + 1))]) (cs':=nA KL.encI (ah.set aj.Skier.toNat (w64 ((ah.get aj.Skier.toNat) + 1))).l) rfl rfl rfl rfl b4 rfl rfl rfl rfl zC (by have hz0:=wAY bn;simp only [nO,nP,nQ,nJ,wJF (f:=KL.encI) (sz:=1) (N:=8) ah (fun _=>rfl) rfl];omega) rfl (wES (sz:=1) (fo:=0) (fun _=>rfl) _ _ _ _ fR (by first | omega | rfl | simp) (zJ rfl) rfl) rfl ?_
 intro dD fq
 have ft:sW w U a8 [inn 3 1 KL.encI (nH ai af (⟨bg,bd.length,bj⟩:Hd)) (nH an af bd),B8,.blk az 76 B5,.blk aw 216 (nA KL.encI (ah.set aj.Skier.toNat (w64 ((ah.get aj.Skier.toNat) + 1))).l),.blk aq 73 B3,.blk b2 27 B0,bF] dD:=fq
 refine zg (zd (zF (rR fL2 Z (oR Z (zz (zY Z cR Z) (congrArg (jV) dr.out)) (oM Z Z (zg ?_))))))
 cases ge
 exact zF ⟨rfl,⟨a8,(nH ai af (⟨bg,bd.length,bj⟩:Hd)),rfl,cJ,(nN (b:=(.slice (some ⟨a7,0,none⟩) an.length au.length:Value)) (c:=(.slice (some ⟨a7,0,none⟩) ((nH an af bd).length) au.length:Value)) bH (by simp only [nI])),bI,cK,bs,cM,cN,cO,cP,cQ,(bC.trans dx),(ft.pick [3,4,5,6,0] _ (by decide) rfl)⟩⟩
 intro bQ gf
 refine zn (cS.trans (congrArg nE (nG.2 bQ.out))) (kN (rR (wIo (.fx 6 .nil .stop)) Z (oR Z (zD Z cL ZR Z zC) (oL Z (bt.ldB (j:=0) Z Z Z zM (v:=jV aj.Skier) Z) (bnK gf fun _ bo gg=>oR Z (Runs.iaA Z bs Z YR zC (wCQ bo) (wCR bo)) ?_)))))
 have fS:=Arr.at_ ah (k:=aj.Skier.toNat) (by have hz0:=wAY bo;omega)
 refine zy rfl rfl rfl rfl (bt.ldB (j:=1) rfl rfl rfl zM (wAZ (sz:=1) (fun _=>rfl) _ _ 0 _ fS (by first | omega | rfl | simp) rfl)) rfl (zf rfl rfl rfl rfl (fun _=>zY rfl rfl rfl) (zf rfl rfl rfl rfl (fun _=>Runs.iaA rfl bs rfl YR zC (wCQ bo) (wCR bo)) ?_))
 have fT:=Arr.at_ ah (k:=aj.Skier.toNat) (by have hz0:=wAY bo;omega)
 refine ZK (j:=1) (vs:=[jV (w64 ((ah.get aj.Skier.toNat) + 1))]) (cs':=nA KL.encI (ah.set aj.Skier.toNat (w64 ((ah.get aj.Skier.toNat) + 1))).l) rfl rfl rfl rfl bt rfl rfl rfl rfl zC (by have hz0:=wAY bo;simp only [nO,nP,nQ,nJ,wJF (f:=KL.encI) (sz:=1) (N:=8) ah (fun _=>rfl) rfl];omega) rfl (wES (sz:=1) (fo:=0) (fun _=>rfl) _ _ _ _ fT (by first | omega | rfl | simp) (zJ rfl) rfl) rfl ?_
 intro dE fu
 have fw:sW w U a8 [.blk az 76 B5,.blk aw 216 (nA KL.encI (ah.set aj.Skier.toNat (w64 ((ah.get aj.Skier.toNat) + 1))).l),.blk aq 73 B3,.blk b2 27 B0,B6,inn 3 1 KL.encI ai an] dE:=fu
 refine zg (zd (zF (rR fL2 Z (oR Z (zz (zY Z cR Z) (congrArg (jV) dr.out)) (oM Z Z (zg ?_))))))
 cases gg
 exact zF ⟨rfl,⟨a8,ai,rfl,cJ,bH,bI,cK,bs,cM,cN,cO,cP,cQ,(bC.trans dx),(fw.pick [1,2,3,4,5] _ (by decide) rfl)⟩⟩
 rintro il gI ⟨dy,eu,dY,dO,dP,gO,gP,gQ,dQ,dR,dS,gR,dT,gx,fz⟩
 have dL:Hid (¬ ((↑(((↑ap.Legs.length:Int):Int) - 0).toNat:Int) < (↑ap.Legs.length:Int))):=zI (wAc)
 refine sR fL1 Z (oR Z (zV Z dY dT) (eN (zG (cF Z dL (ZD (zb (zb (zr (zd (zF (rR fL2 Z (oR Z (zz (zY Z dS Z) (congrArg (jV) fU.out)) (oM Z Z (zg ?_))))))))))))))
 cases dt
 exact zF ⟨rfl,⟨dy,eu,rfl,dO,dP,dQ,dR,(ch.trans gx),(fz.pick [2,3,4] _ (by decide) rfl)⟩⟩
 rintro im gJ ⟨dz,eA,dZ,gS,dU,gT,dV,gW,fA⟩
 have dM:Hid (¬ ((↑(((↑p0.Teams.length:Int):Int) - 0).toNat:Int) < (↑p0.Teams.length:Int))):=zI (wAc)
 refine sR fL1 Z (oR Z (zV Z dZ dV) (eN (zG (cF Z dM (ZD (zb (zb (zr (zF (sR fL3 Z (oM Z dU (oA Z Z (oA Z Z (eN (zS ?_)))))))))))))))
 cases gi
 exact ⟨rfl,_,(wFA rfl rfl),dz,_,(fA.pick [1,2] _ (by decide) rfl),(some ⟨a7,0,none⟩),au.length,eA,rfl,rfl⟩
 intro bP gh
 refine cT Z bP (sR fL3 Z (oM Z Z (oA Z Z (oA Z Z (eN (zS (zK ?_)))))))
 have fB:=bZ.nilrow 22 1
 have fC:=fB.innNil 3 1 KL.encI
 have fD:sW w U U8 [inn 3 1 KL.encI ([]:List Hd) ([]:List (List Int)),.row none 0 22 1 [],.blk b2 27 B0] cx:=fC
 cases gh
 exact ⟨rfl,_,(wFA rfl rfl),U8,_,(fD.pick [1,0] _ (by decide) rfl),none,0,([]:List Hd),rfl,rfl⟩
theorem wCl (p0:List Int) (au:Option Addr) (aw:Nat) (p1:List Int) (av:Option Addr) (ax:Nat) (w:World) (U:PHeap) (hS:St0 w U []) (bA:Sl U 1 au aw p0.length (nA KL.encI p0)) (bC:Sl U 1 av ax p1.length (nA KL.encI p1)) {r:Bool} (hm:wBD p0 p1=some r):Gv Tryz.prog 51 [.slice au p0.length aw,.slice av p1.length ax] w (wBp w [] U (fun U_ L_ v=>v=.bool r/\L_=[])):=by
 unfold wBD at hm
 refine Gv.of Tryz.func51 Z Tryz.ntmps51 Tryz.results51 Z (sR fL1 Z (oA Z Z (eN (zG (sR fL5 Z (oM Z Z (oR Z (zW Z Z zA) (oM Z Z (oR Z (zW Z Z zA) (oR Z (ZU Z Z Z) (eN ?_)))))))))))
 by_cases c1:(↑p0.length:Int)=(↑p1.length:Int)
 have aj:=hm;rw [if_pos c1] at aj;replace c1:=zI c1
 refine zn (zo (fun h=>h c1.out)) (kN (zG (sR fL3 Z (oM Z Z (oR Z (zW Z Z zA) (oM Z Z (eN (zR ?_))))))))
 have q:=wBQ aj
 obtain ⟨r5,an⟩:=q
 have q:=wBP an
 obtain ⟨ap,bF⟩:=q
 replace ap:=zI ap
 refine yF (fun k4 _ σ_ w_=>∃ (U_:PHeap),σ_ 13=jV (↑k4:Int)/\σ_ 0=.slice au p0.length aw/\σ_ 1=.slice av p1.length ax/\σ_ 12=jV (↑p0.length:Int)/\PHeap.Le U U_/\sW w U U_ [] w_) bF ?_ ?_ ?_
 exact ⟨U,Z,Z,Z,Z,(zN _),hS⟩
 rintro k4 ⟨⟩ bZ ca az ao ⟨ay,am,a8,bb,bd,aq,bx⟩ bi bD
 try dsimp only at bi
 have a7:Hid ((↑k4:Int) < (↑p0.length:Int)):=zI (wAo ao)
 replace ao:=zI ao
 have bG:Hid (w64 ((↑k4:Int) + 1)=(↑(k4 + 1):Int)):=zI (by have h1:=ap.out;have h2:=a7.out;rw [wAQ] <;> omega)
 refine sR fL1 rfl (zf rfl rfl rfl rfl (fun _=>zV rfl am bd) (eN (zG (cT Z a7 (kN (zG (zR (sR fL2 rfl (zh rfl rfl rfl rfl rfl am (yw rfl rfl rfl rfl rfl rfl (eN (zG (ZY ZQ [3,3,3,1,3,3,3,1,3] fL9 (by kernel_rfl) ?_)))))))))))))
 have ai:=bx.drew
 generalize hw_W25:({ az with drawn:=az.drawn + 1 }:World)=bP at ai ⊢
 refine oM Z a8 (oM Z Z (bnK bi fun bN be bH=>?_))
 have br:=bA.le aq
 have q:=br.el (fun _=>rfl) (wAK be)
 obtain ⟨bR,bW,bt,bv⟩:=q
 refine oR Z (ZC Z Z bt Z zA zC (wAg be)) (oL Z (ai.ldC (f:=0) bv (v:=jV bN) Z Z zM Z) (oM Z bb (oM Z Z (bnK bH fun bO bf bI=>?_))))
 have bs:=bC.le aq
 have q:=bs.el (fun _=>rfl) (wAK bf)
 obtain ⟨bS,bX,bu,bw⟩:=q
 refine oR Z (ZC Z Z bu Z zA zC (wAg bf)) (oL Z (ai.ldC (f:=0) bw (v:=jV bO) Z Z zM Z) (oR Z (ZU Z Z Z) (eN (ifc bI ?_ ?_))))
 intro ak bJ
 refine zn (zo (fun h=>h ak.out)) (ZO (zd (zF (rR fL2 Z (oR Z (zz (zY Z am Z) (congrArg (jV) bG.out)) (oM Z Z (zg ?_)))))))
 have q:=nD bJ
 obtain rfl:=q
 exact zF ⟨Z,_,Z,⟨ay,Z,a8,bb,bd,aq,ai⟩⟩
 intro ak bK
 refine cT Z ak (sR fL1 Z (oA Z Z (eN (zS (zU (zK ?_))))))
 have q:=wAM bK
 obtain ⟨bM,bL,bn⟩:=q
 have q:=wBI aj an (bD bM bn)
 obtain rfl:=q
 refine zK (zU (zK ?_))
 have hE:=nD bL;first | subst r | cases hE
 exact ⟨Z,_,(zw Z),ay,_,ai,Z,Z⟩
 rintro ⟨⟩ b4 bQ ⟨bj,bp,bT,bU,bo,bV,bz⟩ bE
 have bg:=wCg aj an bE
 try dsimp only at bg
 have bm:Hid (¬ ((↑(((↑p0.length:Int):Int) - 0).toNat:Int) < (↑p0.length:Int))):=zI (wAc)
 refine sR fL1 Z (oR Z (zV Z bp bo) (eN (zG (cF Z bm (ZD (zb (zb (zr (zF (sR fL1 Z (oA Z Z (eN (zS ?_)))))))))))))
 have hE:=nD bg;first | subst r | cases hE
 exact ⟨Z,_,(zw Z),bj,_,bz,Z,Z⟩
 have bh:=hm;rw [if_neg c1] at bh;replace c1:=zI c1
 refine cT Z c1 (sR fL1 Z (oA Z Z (eN (zS (zK ?_)))))
 have hE:=nD bh;first | subst r | cases hE
 exact ⟨Z,_,(zw Z),U,_,hS,Z,Z⟩
theorem wDi (p0:List (List Int)) (ay:Option Addr) (bb:Nat) (p1:List (List Int)) (az:Option Addr) (bd:Nat) (w:World) (U:PHeap) (hS:St0 w U []) (bR:SlR U wDe ay bb p0) (bS:SlR U wDe az bd p1) {r:Bool} (hm:wBB p0 p1=some r):Gv Tryz.prog 20 [.slice ay p0.length bb,.slice az p1.length bd] w (wBp w [] U (fun U_ L_ v=>v=.bool r/\L_=[])):=by
 unfold wBB at hm
 refine Gv.of Tryz.func20 Z Tryz.ntmps20 Tryz.results20 Z (sR fL1 Z (oA Z Z (eN (zG (sR fL5 Z (oM Z Z (oR Z (zW Z Z zm) (oM Z Z (oR Z (zW Z Z zm) (oR Z (ZU Z Z Z) (eN ?_)))))))))))
 by_cases c1:(↑p0.length:Int)=(↑p1.length:Int)
 have aj:=hm;rw [if_pos c1] at aj;replace c1:=zI c1
 refine zn (zo (fun h=>h c1.out)) (kN (zG (sR fL3 Z (oM Z Z (oR Z (zW Z Z zm) (oM Z Z (eN (zR ?_))))))))
 have q:=wBQ aj
 obtain ⟨r5,au⟩:=q
 have q:=wBP au
 obtain ⟨aw,bV⟩:=q
 replace aw:=zI aw
 refine yF (fun k4 _ σ_ w_=>∃ (U_:PHeap),σ_ 13=jV (↑k4:Int)/\σ_ 0=.slice ay p0.length bb/\σ_ 1=.slice az p1.length bd/\σ_ 12=jV (↑p0.length:Int)/\PHeap.Le U U_/\sW w U U_ [] w_) bV ?_ ?_ ?_
 exact ⟨U,Z,Z,Z,Z,(zN _),hS⟩
 rintro k4 ⟨⟩ cB cD bi av ⟨ak,ao,bm,bn,bo,ax,bO⟩ bv bT
 try dsimp only at bv
 have bj:Hid ((↑k4:Int) < (↑p0.length:Int)):=zI (wAo av)
 replace av:=zI av
 have bW:Hid (w64 ((↑k4:Int) + 1)=(↑(k4 + 1):Int)):=zI (by have h1:=aw.out;have h2:=bj.out;rw [wAQ] <;> omega)
 refine sR fL1 rfl (zf rfl rfl rfl rfl (fun _=>zV rfl ao bo) (eN (zG (cT Z bj (kN (zG (zR (sR fL2 rfl (zh rfl rfl rfl rfl rfl ao (yw rfl rfl rfl rfl rfl rfl (eN (zG (ZY ZQ [3,3,3,1,3,3,3,1,2,3] (wNd gBz) (by kernel_rfl) ?_)))))))))))))
 have ai:=bO.drew
 generalize hw_W25:({ bi with drawn:=bi.drawn + 1 }:World)=bx at ai ⊢
 refine oM Z bm (oM Z Z (bnK bv fun bg bp bX=>?_))
 have bH:=bR.le ax
 have q:=bH.el (wAK bp)
 obtain ⟨bA,ci,cy,bM,ap,cd⟩:=q
 obtain ⟨a7,be,rfl,bI⟩:=cd
 replace ap:Cl ak bA (ci + k4 * 1) [.slice a7 bg.length be]:=ap
 refine oR Z (ZC Z Z bM Z zm zT (wAg bp)) (oL Z (ai.ldC (f:=0) ap (v:=.slice a7 bg.length be) Z Z ze Z) (oM Z bn (oM Z Z (bnK bX fun bh br bY=>?_))))
 have bJ:=bS.le ax
 have q:=bJ.el (wAK br)
 obtain ⟨bC,cj,cz,bN,aq,cg⟩:=q
 obtain ⟨a8,bf,rfl,bK⟩:=cg
 replace aq:Cl ak bC (cj + k4 * 1) [.slice a8 bh.length bf]:=aq
 refine oR Z (ZC Z Z bN Z zm zT (wAg br)) (oL Z (ai.ldC (f:=0) aq (v:=.slice a8 bh.length bf) Z Z ze Z) (bnK bY fun cA bL bZ=>zP 0 Z Z Z Z (zQ Z Z Tryz.call51 (zH Z (zH Z zZ)) Z) ai (fun hs=>wCl bg a7 be bh a8 bf bx ak hs bI bK bL) (.inr Z) ?_))
 rintro am co cx bz ch bP ⟨rfl,rfl⟩
 have bs:sW w U am [] bz:=bP
 refine oR Z (Za Z Z) (eN (ifc bZ ?_ ?_))
 intro an b4
 refine zn (nC an.out) (ZO (zd (zF (rR fL2 Z (oR Z (zz (zY Z ao Z) (congrArg (jV) bW.out)) (oM Z Z (zg ?_)))))))
 have q:=nD b4
 obtain rfl:=q
 exact zF ⟨Z,_,Z,⟨am,Z,bm,bn,bo,(ax.trans ch),bs⟩⟩
 intro an ca
 refine ZA (nF (an.out)) (sR fL1 Z (oA Z Z (eN (zS (zU (zK ?_))))))
 have q:=wAM ca
 obtain ⟨cm,cc,bE⟩:=q
 have q:=wBI aj au (bT cm bE)
 obtain rfl:=q
 refine zK (zU (zK ?_))
 have hE:=nD cc;first | subst r | cases hE
 exact ⟨Z,_,(zw Z),am,_,bs,Z,Z⟩
 rintro ⟨⟩ cC cp ⟨bw,bG,cr,ct,bF,cu,bQ⟩ bU
 have bt:=wCg aj au bU
 try dsimp only at bt
 have bD:Hid (¬ ((↑(((↑p0.length:Int):Int) - 0).toNat:Int) < (↑p0.length:Int))):=zI (wAc)
 refine sR fL1 Z (oR Z (zV Z bG bF) (eN (zG (cF Z bD (ZD (zb (zb (zr (zF (sR fL1 Z (oA Z Z (eN (zS ?_)))))))))))))
 have hE:=nD bt;first | subst r | cases hE
 exact ⟨Z,_,(zw Z),bw,_,bQ,Z,Z⟩
 have bu:=hm;rw [if_neg c1] at bu;replace c1:=zI c1
 refine cT Z c1 (sR fL1 Z (oA Z Z (eN (zS (zK ?_)))))
 have hE:=nD bu;first | subst r | cases hE
 exact ⟨Z,_,(zw Z),U,_,hS,Z,Z⟩
theorem wEl (p0:List wAB) (aw:Option Addr) (ay:Nat) (p1:List wAB) (ax:Option Addr) (az:Nat) (w:World) (U:PHeap) (hS:St0 w U []) (bD:Sl U 3 aw ay p0.length (nA wAJ p0)) (bE:Sl U 3 ax az p1.length (nA wAJ p1)) {r:Bool} (hm:wCp p0 p1=some r):Gv Tryz.prog 81 [.slice aw p0.length ay,.slice ax p1.length az] w (wBp w [] U (fun U_ L_ v=>v=.bool r/\L_=[])):=by
 unfold wCp at hm
 refine Gv.of Tryz.func81 Z Tryz.ntmps81 Tryz.results81 Z (sR fL1 Z (oA Z Z (eN (zG (sR fL5 Z (oM Z Z (oR Z (zW Z Z Zo) (oM Z Z (oR Z (zW Z Z Zo) (oR Z (ZU Z Z Z) (eN ?_)))))))))))
 by_cases c1:(↑p0.length:Int)=(↑p1.length:Int)
 have aj:=hm;rw [if_pos c1] at aj;replace c1:=zI c1
 refine zn (zo (fun h=>h c1.out)) (kN (zG (sR fL3 Z (oM Z Z (oR Z (zW Z Z Zo) (oM Z Z (eN (zR ?_))))))))
 have q:=wBQ aj
 obtain ⟨r5,ap⟩:=q
 have q:=wBP ap
 obtain ⟨au,bH⟩:=q
 replace au:=zI au
 refine yF (fun k4 _ σ_ w_=>∃ (U_:PHeap),σ_ 13=jV (↑k4:Int)/\σ_ 0=.slice aw p0.length ay/\σ_ 1=.slice ax p1.length az/\σ_ 12=jV (↑p0.length:Int)/\PHeap.Le U U_/\sW w U U_ [] w_) bH ?_ ?_ ?_
 exact ⟨U,Z,Z,Z,Z,(zN _),hS⟩
 rintro k4 ⟨⟩ bZ ca a8 aq ⟨a7,ao,bd,be,bf,av,bA⟩ bm bF
 try dsimp only at bm
 have bb:Hid ((↑k4:Int) < (↑p0.length:Int)):=zI (wAo aq)
 replace aq:=zI aq
 have bI:Hid (w64 ((↑k4:Int) + 1)=(↑(k4 + 1):Int)):=zI (by have h1:=au.out;have h2:=bb.out;rw [wAQ] <;> omega)
 refine sR fL1 rfl (zf rfl rfl rfl rfl (fun _=>zV rfl ao bf) (eN (zG (cT Z bb (kN (zG (zR (sR fL2 rfl (zh rfl rfl rfl rfl rfl ao (yw rfl rfl rfl rfl rfl rfl (eN (zG (ZY ZQ [3,3,3,1,3,3,3,1,3] fL9 (by kernel_rfl) ?_)))))))))))))
 have ai:=bA.drew
 generalize hw_W25:({ a8 with drawn:=a8.drawn + 1 }:World)=bP at ai ⊢
 refine oM Z bd (oM Z Z (bnK bm fun ak bg bJ=>?_))
 have bt:=bD.le av
 have q:=bt.el (fun _=>rfl) (wAK bg)
 obtain ⟨bR,bW,bv,bx⟩:=q
 refine oR Z (ZC Z Z bv Z Zo ya (wAg bg)) (oL Z (ai.ldCA (f:=0) bx Z Z Tryz.isAgg59 ya (us:=[jV ak.Bib,jV ak.Place,jV ak.Time]) Z Z) (oM Z be (oM Z Z (bnK bJ fun am bh bK=>?_))))
 have bu:=bE.le av
 have q:=bu.el (fun _=>rfl) (wAK bh)
 obtain ⟨bS,bX,bw,bz⟩:=q
 refine oR Z (ZC Z Z bw Z Zo ya (wAg bh)) (oL Z (ai.ldCA (f:=0) bz Z Z Tryz.isAgg59 ya (us:=[jV am.Bib,jV am.Place,jV am.Time]) Z Z) (oR Z (zz (Runs.neS (enc:=wAJ) (a:=ak) (b:=am) Z Z Z eqT59 eqG59) (congrArg nE (decide_not).symm)) (eN (ifc bK ?_ ?_))))
 intro an bL
 refine zn (zo (fun h=>h an.out)) (ZO (zd (zF (rR fL2 Z (oR Z (zz (zY Z ao Z) (congrArg (jV) bI.out)) (oM Z Z (zg ?_)))))))
 have q:=nD bL
 obtain rfl:=q
 exact zF ⟨Z,_,Z,⟨a7,Z,bd,be,bf,av,ai⟩⟩
 intro an bM
 refine cT Z an (sR fL1 Z (oA Z Z (eN (zS (zU (zK ?_))))))
 have q:=wAM bM
 obtain ⟨bO,bN,bp⟩:=q
 have q:=wBI aj ap (bF bO bp)
 obtain rfl:=q
 refine zK (zU (zK ?_))
 have hE:=nD bN;first | subst r | cases hE
 exact ⟨Z,_,(zw Z),a7,_,ai,Z,Z⟩
 rintro ⟨⟩ b4 bQ ⟨bn,bs,bT,bU,br,bV,bC⟩ bG
 have bi:=wCg aj ap bG
 try dsimp only at bi
 have bo:Hid (¬ ((↑(((↑p0.length:Int):Int) - 0).toNat:Int) < (↑p0.length:Int))):=zI (wAc)
 refine sR fL1 Z (oR Z (zV Z bs br) (eN (zG (cF Z bo (ZD (zb (zb (zr (zF (sR fL1 Z (oA Z Z (eN (zS ?_)))))))))))))
 have hE:=nD bi;first | subst r | cases hE
 exact ⟨Z,_,(zw Z),bn,_,bC,Z,Z⟩
 have bj:=hm;rw [if_neg c1] at bj;replace c1:=zI c1
 refine cT Z c1 (sR fL1 Z (oA Z Z (eN (zS (zK ?_)))))
 have hE:=nD bj;first | subst r | cases hE
 exact ⟨Z,_,(zw Z),U,_,hS,Z,Z⟩
set_option maxHeartbeats 4000000
theorem wBv  (w:World) (U:PHeap) (hS:St0 w U [])  {r:wCF} (hm:wDE =some r):Gv Tryz.prog 82 [] w (wBp w [] U (fun U_ L_ v=>∃ (ay:Option Addr) (a8:Nat) (az:Option Addr) (bb:Nat) (bd:List Value),v=.agg #[.slice ay r.Classes.length a8,.slice az r.Times.length bb]/\L_=[.row ay a8 3 1 (nA KL.encI r.Classes),.row az bb 22 1 bd]/\RlL U_ wDe r.Times bd)):=by
 unfold wDE at hm
 refine Gv.of Tryz.func82 Z Tryz.ntmps82 Tryz.results82 Z (sR (.fx 0 .nil .stop) Z ?_)
 let B0:List Value:=[.slice none 0 0,.slice none 0 0]
 refine ZB (cs:=B0) Z Z Z Z Z Tryz.zeroValue93 Z hS ?_
 intro W1 b2 bC
 refine eN (sR (.fx 0 (.fx 1 (.fx 2 (.fx 3 (.fx 4 (.fl 5 (.fx 6 .nil .stop)) .stop) .stop) .stop) .stop) .stop) Z (zk (pv:=[(0,jV 0),(1,jV 1),(2,jV 0)]) (zs:=[jV 0,jV 0,jV 0]) (cs:=[jV 0,jV 1,jV 0]) Z Z Z Z Z (wAA Z (wAA Z (wAA Z wAO))) zA zC ZM Z Z Z Z Z bC ?_))
 intro W5 b6 bL
 let B1:Res:=.row (some ⟨b6,0,none⟩) 3 3 1 (nA KL.encI [0,1,0])
 have bM:sW w U U [B1,.blk b2 93 B0] W5:=bL
 refine zk (pv:=[(0,jV 2300),(1,jV 9999)]) (zs:=[jV 0,jV 0]) (cs:=[jV 2300,jV 9999]) Z Z Z Z Z (wAA Z (wAA Z wAO)) zA zC ZM Z Z Z Z Z bM ?_
 intro bi ak bt
 let B2:Res:=.row (some ⟨ak,0,none⟩) 2 3 1 (nA KL.encI [2300,9999])
 have bu:sW w U U [B2,B1,.blk b2 93 B0] bi:=bt
 refine zk (pv:=[(0,jV 2600),(1,jV 2400)]) (zs:=[jV 0,jV 0]) (cs:=[jV 2600,jV 2400]) Z Z Z Z Z (wAA Z (wAA Z wAO)) zA zC ZM Z Z Z Z Z bu ?_
 intro bj am bv
 let B3:Res:=.row (some ⟨am,0,none⟩) 2 3 1 (nA KL.encI [2600,2400])
 have bw:sW w U U [B3,B2,B1,.blk b2 93 B0] bj:=bv
 refine zk (pv:=[(0,jV 2250),(1,jV 9999)]) (zs:=[jV 0,jV 0]) (cs:=[jV 2250,jV 9999]) Z Z Z Z Z (wAA Z (wAA Z wAO)) zA zC ZM Z Z Z Z Z bw ?_
 intro ap an bx
 let B4:Res:=.row (some ⟨an,0,none⟩) 2 3 1 (nA KL.encI [2250,9999])
 have bz:sW w U U [B4,B3,B2,B1,.blk b2 93 B0] ap:=bx
 have q:=bz.freezeR (k:=2) (n:=[2300,9999].length) rfl (wAC (f:=KL.encI) (sz:=1) (fun _=>rfl) [2300,9999]) (by decide)
 obtain ⟨bg,bT,bO,bD⟩:=q
 have bE:sW w U bg [B4,B3,B1,.blk b2 93 B0] ap:=bD
 have q:=bE.freezeR (k:=1) (n:=[2600,2400].length) rfl (wAC (f:=KL.encI) (sz:=1) (fun _=>rfl) [2600,2400]) (by decide)
 obtain ⟨bh,bR,bP,bF⟩:=q
 have bG:sW w U bh [B4,B1,.blk b2 93 B0] ap:=bF
 have q:=bG.freezeR (k:=0) (n:=[2250,9999].length) rfl (wAC (f:=KL.encI) (sz:=1) (fun _=>rfl) [2250,9999]) (by decide)
 obtain ⟨aj,bf,bQ,bH⟩:=q
 have bI:sW w U aj [B1,.blk b2 93 B0] ap:=bH
 let B5:List Value:=[.slice (some ⟨ak,0,none⟩) 2 2,.slice (some ⟨am,0,none⟩) 2 2,.slice (some ⟨an,0,none⟩) 2 2]
 refine zk (pv:=[(0,.slice (some ⟨ak,0,none⟩) 2 2),(1,.slice (some ⟨am,0,none⟩) 2 2),(2,.slice (some ⟨an,0,none⟩) 2 2)]) (zs:=[.slice none 0 0,.slice none 0 0,.slice none 0 0]) (cs:=B5) Z Z Z Z Z (wAA Z (wAA Z (wAA Z wAO))) zm zT yz Z Z Z Z Z bI ?_
 intro bm aq bA
 have bp:=bP.le bf
 have br:=bO.le bR
 have bs:=br.le bf
 have bN:RlL aj wDe [[2300,9999],[2600,2400],[2250,9999]] B5:=(RlL.cons (R:=wDe) (x:=[2300,9999]) (vs:=[.slice (some ⟨ak,0,none⟩) 2 2]) ⟨(some ⟨ak,0,none⟩),2,rfl,bs⟩ (RlL.cons (R:=wDe) (x:=[2600,2400]) (vs:=[.slice (some ⟨am,0,none⟩) 2 2]) ⟨(some ⟨am,0,none⟩),2,rfl,bp⟩ (RlL.cons (R:=wDe) (x:=[2250,9999]) (vs:=[.slice (some ⟨an,0,none⟩) 2 2]) ⟨(some ⟨an,0,none⟩),2,rfl,bQ⟩ RlL.nil)))
 let B6:Res:=.row (some ⟨aq,0,none⟩) 3 22 1 B5
 have bJ:sW w U aj [B6,B1,.blk b2 93 B0] bm:=bA
 let B7:List Value:=[.slice (some ⟨b6,0,none⟩) 3 3,.slice (some ⟨aq,0,none⟩) 3 3]
 refine oR Z (ZT (pv:=[(0,.slice (some ⟨b6,0,none⟩) 3 3),(1,.slice (some ⟨aq,0,none⟩) 3 3)]) (z:=B0) (cs:=B7) Z (wAA Z (wAA Z wAO)) Tryz.zeroValue93 wPC Z Z) (ZK (j:=2) (vs:=B7) Z Z Z Z bJ Z Z Z Z YB (zJ Z) Z Z Z ?_)
 intro bn bK
 have be:sW w U aj [B6,B1,.blk b2 93 B7] bn:=bK
 refine eN (zS ?_)
 cases hm
 exact ⟨rfl,_,(wGv (v:=.agg B7.toArray) ⟨⟨_,rfl,(wEv Tryz.isAgg93 YB (be.blkAt (k:=2) rfl) (vs:=B7) rfl rfl)⟩,trivial⟩),aj,_,(be.pick [1,0] _ (by decide) rfl),(some ⟨b6,0,none⟩),3,(some ⟨aq,0,none⟩),3,B5,rfl,rfl,bN⟩
theorem wHA (p0:List Int) (aj:Option Addr) (am:Nat) (p1:wAE) (ak:Nat) (ah:Option Addr) (ai:Nat) (w:World) (U:PHeap) (hS:St0 w U []) (ao:Sl U 1 aj am p0.length (nA KL.encI p0)) (an:Cl U ak 0 [.slice ah p1.Classes.length ai,jV p1.Each,jV p1.Laps,jV p1.Spare,jV p1.Loop,jV p1.Unused]) (ap:Sl U 1 ah ai p1.Classes.length (nA KL.encI p1.Classes)) {r:Bool} (hm:wDF p0 p1=some r):Gv Tryz.prog 111 [.slice aj p0.length am,.pointer (some ⟨ak,0,none⟩)] w (wBp w [] U (fun U_ L_ v=>v=.bool r/\L_=[])):=by
 unfold wDF at hm
 refine Gv.of Tryz.func111 Z Tryz.ntmps111 Tryz.results111 Z (sR fL1 Z (oA Z Z (eN (sR fL7 Z (oM Z Z (oR Z (zW Z Z zA) (oR Z (zD Z Z ZG Z zT) (oL Z (hS.ldC (f:=0) an (v:=.slice ah p1.Classes.length ai) Z Z ze Z) (oR Z (zW Z Z zA) (oR Z (yJ Z Z Z) (oA Z Z (eN (zS ?_)))))))))))))
 first | (obtain rfl:=nD hm) | cases hm
 exact ⟨Z,_,(zw Z),U,_,hS,Z,Z⟩
theorem wGV (p0:List Int) (ag:Option Addr) (ah:Nat) (p1:((List Int)->Option Bool)) (am:Nat) (ai:Value) (w:World) (U:PHeap) (hS:St0 w U []) (au:Sl U 1 ag ah p0.length (nA KL.encI p0)) (av:Cl U am 0 [ai]) (aw:FnOK Tryz.prog U ai wJi wJj p1) {r:Bool} (hm:wCj p0 p1=some r):Gv Tryz.prog 197 [.slice ag p0.length ah,.pointer (some ⟨am,0,none⟩)] w (wBp w [] U (fun U_ L_ v=>v=.bool r/\L_=[])):=by
 unfold wCj at hm
 refine Gv.of Tryz.func197 Z Tryz.ntmps197 Tryz.results197 Z (sR fL1 Z (oA Z Z (eN (sR gCt Z (oL Z (hS.ldC (f:=0) av (v:=ai) Z Z Tryz.isAgg244 Z) (oM Z Z (bnK hm fun x1 h2 ax=>YL (a:=p0) Z Z Z Z Z Z (zH Z zZ) hS aw ⟨ag,ah,Z,au⟩ h2 ?_)))))))
 rintro U4 L5 v6 W7 az aq ⟨rfl,rfl⟩
 have ap:sW w U U4 [] W7:=aq
 refine oR Z (Za Z Z) (oA Z Z (eN (zS ?_)))
 cases ax
 exact ⟨Z,_,(zw Z),U4,_,ap,Z,Z⟩
theorem wEp (p0:List (List Int)) (ap:Option Addr) (au:Nat) (p1:((List Int)->Option Bool)) (aw:Value) (w:World) (U:PHeap) (hS:St0 w U []) (bC:SlR U wDe ap au p0) (bD:FnOK Tryz.prog U aw wJi wJj p1) {r:Int} (hm:wCu p0 p1=some r):Gv Tryz.prog 275 [.slice ap p0.length au,aw] w (wBp w [] U (fun U_ L_ v=>v=jV r/\L_=[])):=by
 unfold wCu at hm
 refine Gv.of Tryz.func275 Z Tryz.ntmps275 Tryz.results275 Z (sR fL1 Z (oA Z Z (eN (zG (sR fL3 Z (oM Z Z (oR Z (zW Z Z zm) (oM Z Z (eN (zR ?_))))))))))
 have q:=wBQ hm
 obtain ⟨r3,ak⟩:=q
 have q:=wBP ak
 obtain ⟨an,bG⟩:=q
 replace an:=zI an
 refine yF (fun k2 _ σ_ w_=>∃ (U_:PHeap),σ_ 8=jV (↑k2:Int)/\σ_ 0=.slice ap p0.length au/\σ_ 1=aw/\σ_ 7=jV (↑p0.length:Int)/\PHeap.Le U U_/\sW w U U_ [] w_) bG ?_ ?_ ?_
 exact ⟨U,Z,Z,Z,Z,(zN _),hS⟩
 rintro k2 ⟨⟩ ca cd W8 am ⟨bi,ai,az,a7,a8,ao,bd⟩ bg bE
 try dsimp only at bg
 have ay:Hid ((↑k2:Int) < (↑p0.length:Int)):=zI (wAo am)
 replace am:=zI am
 have bH:Hid (w64 ((↑k2:Int) + 1)=(↑(k2 + 1):Int)):=zI (by have h1:=an.out;have h2:=ay.out;rw [wAQ] <;> omega)
 refine sR fL1 Z (oR Z (zV Z ai a8) (eN (zG (cT Z ay (kN (zG (zR (sR fL2 Z (oM Z ai (oA Z Z (eN (sR (wGD (.fx 5 .nil .stop)) Z (oM Z a7 (oM Z az (oM Z Z (bnK bg fun ax bb bI=>?_))))))))))))))))
 have bt:=bC.le ao
 have q:=bt.el (wAK bb)
 obtain ⟨bn,bP,bZ,bx,aj,bN⟩:=q
 obtain ⟨aq,av,rfl,bu⟩:=bN
 replace aj:Cl bi bn (bP + k2 * 1) [.slice aq ax.length av]:=aj
 refine oR Z (ZC Z Z bx Z zm zT (wAg bb)) (oL Z (bd.ldC (f:=0) aj (v:=.slice aq ax.length av) Z Z ze Z) (bnK bI fun b4 bv bJ=>?_))
 have bw:=bD.le ao
 refine YL (a:=ax) Z Z Z Z Z Z (zH Z zZ) bd bw ⟨aq,av,Z,bu⟩ bv ?_
 rintro ag bR bY bm bO bz ⟨rfl,rfl⟩
 have be:sW w U ag [] bm:=bz
 refine eN (ifc bJ ?_ ?_)
 intro ah bK
 refine ZA (congrArg nE ah.out) (sR fL2 Z (oM Z Z (oA Z Z (eN (zS (zU (zK ?_)))))))
 have q:=wAM bK
 obtain ⟨bQ,bL,bp⟩:=q
 have q:=wBI hm ak (bE bQ bp)
 obtain rfl:=q
 refine zK (zU (zK ?_))
 cases bL
 exact ⟨Z,_,(zw Z),ag,_,be,Z,Z⟩
 intro ah bM
 refine zn (congrArg nE (nG.2 ah.out)) (ZO (zd (zF (rR fL2 Z (oR Z (zz (zY Z ai Z) (congrArg (jV) bH.out)) (oM Z Z (zg ?_)))))))
 have q:=nD bM
 obtain rfl:=q
 exact zF ⟨Z,_,Z,⟨ag,Z,az,a7,a8,(ao.trans bO),be⟩⟩
 rintro ⟨⟩ cc bS ⟨bj,bs,bU,bV,br,bW,bA⟩ bF
 have bf:=wCg hm ak bF
 try dsimp only at bf
 have bo:Hid (¬ ((↑(((↑p0.length:Int):Int) - 0).toNat:Int) < (↑p0.length:Int))):=zI (wAc)
 refine sR fL1 Z (oR Z (zV Z bs br) (eN (zG (cF Z bo (ZD (zb (zb (zr (zF (sR fL1 Z (oA Z Z (eN (zS ?_)))))))))))))
 cases bf
 exact ⟨Z,_,(zw Z),bj,_,bA,Z,Z⟩
theorem wEa (p0:List (List Int)) (ah:Option Addr) (ai:Nat) (p1:((List Int)->Option Bool)) (aj:Value) (w:World) (U:PHeap) (hS:St0 w U []) (au:SlR U wDe ah ai p0) (av:FnOK Tryz.prog U aj wJi wJj p1) {r:Bool} (hm:wCX p0 p1=some r):Gv Tryz.prog 196 [.slice ah p0.length ai,aj] w (wBp w [] U (fun U_ L_ v=>v=.bool r/\L_=[])):=by
 unfold wCX at hm
 refine Gv.of Tryz.func196 Z Tryz.ntmps196 Tryz.results196 Z (sR fL1 Z (oA Z Z (eN (sR gCt Z (oM Z Z (oM Z Z (bnK hm fun x1 h2 am=>zP 0 Z Z Z Z (zQ Z Z Tryz.call275 (zH Z (zH Z zZ)) Z) hS (fun hs=>wEp p0 ah ai p1 aj w U hs au av h2) (.inr Z) ?_)))))))
 rintro U4 L5 v6 W7 ax aq ⟨rfl,rfl⟩
 have ap:sW w U U4 [] W7:=aq
 refine oR Z (YM Z Z Z) (oA Z Z (eN (zS ?_)))
 first | (obtain rfl:=nD am) | cases am
 exact ⟨Z,_,(zw Z),U4,_,ap,Z,Z⟩
theorem wEw (p0:List (List Int)) (am:Option Addr) (an:Nat) (p1:((List Int)->Option Bool)) (ai:Value) (w:World) (U:PHeap) (hS:St0 w U []) (bg:SlR U wDe am an p0) (aq:FnOK Tryz.prog U ai wJi wJj p1) {r:Bool} (hm:wDj p0 p1=some r):Gv Tryz.prog 110 [.slice am p0.length an,ai] w (wBp w [] U (fun U_ L_ v=>v=.bool r/\L_=[])):=by
 unfold wDj at hm
 refine Gv.of Tryz.func110 Z Tryz.ntmps110 Tryz.results110 Z (sR gBt Z (ZX (cs:=[ai]) Z Z Z Z Z Z (FnOK.cells aq) hS ?_))
 intro W1 b2 bd
 have q:=bd.freeze (k:=0) rfl
 obtain ⟨U5,au,ag,be⟩:=q
 replace ag:=Cl.of ag
 have bf:sW w U U5 [] W1:=be
 replace ag:Cl U5 b2 0 [ai]:=ag
 refine oA Z Z (eN (sR gCt Z (oM Z Z (oR Z (YN Z zZ (zH Z zZ)) ?_))))
 have ax:=bg.le au
 have ay:=aq.le au
 have a7:FnOK Tryz.prog U5 (.func (.func 197) #[] #[.pointer (some ⟨b2,0,none⟩)]) wJi wJj (fun x=>wCj x p1):=⟨197,[],[.pointer (some ⟨b2,0,none⟩)],rfl,Tryz.call197,fun U1 w1 x y vs le hs ha hm=>by obtain ⟨pA_0,pc_0,rfl,hq0_0⟩:=ha;exact wGV x pA_0 pc_0 p1 b2 ai w1 U1 hs hq0_0 (ag.le le) (ay.le le) hm⟩
 refine bnK hm fun bo az bh=>zP 0 Z Z Z Z (zQ Z Z Tryz.call196 (zH Z (zH Z zZ)) Z) bf (fun hs=>wEa p0 am an (fun x=>wCj x p1) (.func (.func 197) #[] #[.pointer (some ⟨b2,0,none⟩)]) W1 U5 hs ax a7 az) (.inr Z) ?_
 rintro ao bj bn aw bm a8 ⟨rfl,rfl⟩
 have bb:sW w U ao [] aw:=a8
 refine oR Z (Za Z Z) (oA Z Z (eN (zS ?_)))
 cases bh
 exact ⟨Z,_,(zw Z),ao,_,bb,Z,Z⟩
theorem wGW (p0:Int) (w:World) (U:PHeap) (hS:St0 w U [])  {r:Bool} (hm:wCk p0=some r):Gv Tryz.prog 115 [jV p0] w (wBp w [] U (fun U_ L_ v=>v=.bool r/\L_=[])):=by
 unfold wCk at hm
 refine Gv.of Tryz.func115 Z Tryz.ntmps115 Tryz.results115 Z (sR fL1 Z (oA Z Z (eN (sR gCc Z (oM Z Z (bnK hm fun x1 h2 am=>zP 0 Z Z Z Z (zQ Z Z ym (zH Z (zH Z (zH Z zZ))) Z) hS (fun hs=>wDC p0 0 100000 w U hs h2) (.inr Z) ?_))))))
 rintro U4 L5 v6 W7 ao ak ⟨rfl,rfl⟩
 have aj:sW w U U4 [] W7:=ak
 refine oA Z Z (eN (zS ?_))
 have hE:=nD am;first | subst r | cases hE
 exact ⟨Z,_,(zw Z),U4,_,aj,Z,Z⟩
theorem wHB (p0:List Int) (ag:Option Addr) (ah:Nat) (w:World) (U:PHeap) (hS:St0 w U []) (aq:Sl U 1 ag ah p0.length (nA KL.encI p0)) {r:Bool} (hm:wDG p0=some r):Gv Tryz.prog 113 [.slice ag p0.length ah] w (wBp w [] U (fun U_ L_ v=>v=.bool r/\L_=[])):=by
 unfold wDG at hm
 refine Gv.of Tryz.func113 Z Tryz.ntmps113 Tryz.results113 Z (sR fL1 Z (oA Z Z (eN (sR gCc Z (oM Z Z ?_)))))
 have an:FnOK Tryz.prog U (.func (.func 115) #[] #[]) wGy wHg wCk:=⟨115,[],[],rfl,Tryz.call115,fun U1 w1 x y vs le hs ha hm=>by obtain rfl:=ha;exact wGW x w1 U1 hs  hm⟩
 refine bnK hm fun x2 h3 au=>zP 0 Z Z Z Z (zQ Z Z Tryz.call114 (zH Z (zH Z zZ)) Z) hS (fun hs=>wDX p0 ag ah wCk (.func (.func 115) #[] #[]) w U hs aq an h3) (.inr Z) ?_
 rintro U5 L6 v7 W8 ax ao ⟨rfl,rfl⟩
 have ap:sW w U U5 [] W8:=ao
 refine oA Z Z (eN (zS ?_))
 have hE:=nD au;first | subst r | cases hE
 exact ⟨Z,_,(zw Z),U5,_,ap,Z,Z⟩
theorem wEb (p0:wAE) (ay:Option Addr) (az:Nat) (p1:wCF) (an:Option Addr) (ao:Nat) (ak:Option Addr) (am:Nat) (w:World) (U:PHeap) (hS:St0 w U []) (co:Sl U 1 ay az p0.Classes.length (nA KL.encI p0.Classes)) (cp:Sl U 1 an ao p1.Classes.length (nA KL.encI p1.Classes)) (cr:SlR U wDe ak am p1.Times) {r:Int} (hm:wDa p0 p1=some r):Gv Tryz.prog 40 [.agg #[.slice ay p0.Classes.length az,jV p0.Each,jV p0.Laps,jV p0.Spare,jV p0.Loop,jV p0.Unused],.agg #[.slice an p1.Classes.length ao,.slice ak p1.Times.length am]] w (wBp w [] U (fun U_ L_ v=>v=jV r/\L_=[])):=by
 unfold wDa at hm
 refine Gv.of Tryz.func40 Z Tryz.ntmps40 Tryz.results40 Z (sR gCd Z ?_)
 let B0:List Value:=[.slice ay p0.Classes.length az,jV p0.Each,jV p0.Laps,jV p0.Spare,jV p0.Loop,jV p0.Unused]
 refine ZX (cs:=B0) rfl rfl rfl rfl rfl rfl (by rfl) hS ?_
 intro W1 b2 cc
 have q:=cc.freeze (k:=0) rfl
 obtain ⟨U5,bs,aq,ci⟩:=q
 replace aq:=Cl.of aq
 have cm:sW w U U5 [] W1:=ci
 replace aq:Cl U5 b2 0 B0:=aq
 let B1:List Value:=[.slice an p1.Classes.length ao,.slice ak p1.Times.length am]
 refine ZX (cs:=B1) rfl rfl rfl rfl rfl rfl (by rfl) cm ?_
 intro bG aw bC
 refine oA Z Z (eN (sR gCc Z (oL Z (bC.ldCA (f:=0) aq Z Z yR ZZ (us:=B0) Z Z) ?_)))
 have bz:=co.le bs
 refine bnK hm fun cZ bI ct=>zP 0 Z Z Z Z (zQ Z Z Tryz.call109 (zH Z zZ) Z) bC (fun hs=>wFb p0 ay az bG U5 hs bz bI) (.inr Z) ?_
 rintro bf cN cU bu a8 ca ⟨rfl,rfl⟩
 have bo:sW w U bf [.blk aw 93 B1] bu:=ca
 refine oA Z Z (eN (zG (zR (sR fL3 Z (oM Z Z (oR Z (ZU Z Z Z) (oA Z Z (eN (ifc ct ?_ ?_)))))))))
 intro bj cu
 refine zn (zo (fun h=>h bj.out)) (sR (wDw (.fx 3 (wQE (.fx 18 (wRI (.nil)) .stop)) .stop)) Z (oR Z (zD Z Z yS Z zT) (oL Z (bo.ldB (j:=0) Z Z Z ze (v:=.slice an p1.Classes.length ao) Z) (oR Z (zW Z Z zA) (bnK cu fun c9 bJ cw=>zP 0 Z Z Z Z (zQ Z Z ym (zH Z (zH Z (zH Z zZ))) Z) bo (fun hs=>wDC (↑p1.Classes.length:Int) 1 8 bu bf hs bJ) (.inr Z) ?_)))))
 rintro av cO cV bv bb cd ⟨rfl,rfl⟩
 have au:sW w U av [.blk aw 93 B1] bv:=cd
 refine oR Z (Za Z Z) (oM Z Z (ifc cw ?_ ?_))
 intro ah cx
 refine zf Z Z Z (zL Z Z (nC ah.out)) (fun _=>zD Z Z yS Z ZV) (zy Z Z Z (zL Z Z (nC ah.out)) (au.ldB (j:=0) Z Z Z Zj (v:=.slice ak p1.Times.length am) Z) Z (zf Z Z Z (zL Z Z (nC ah.out)) (fun _=>zW Z Z zm) (zf Z Z Z (zL Z Z (nC ah.out)) (fun _=>zD Z Z yS Z zT) (zy Z Z Z (zL Z Z (nC ah.out)) (au.ldB (j:=0) Z Z Z ze (v:=.slice an p1.Classes.length ao) Z) Z (zf Z Z Z (zL Z Z (nC ah.out)) (fun _=>zW Z Z zA) (zf Z Z Z (zL Z Z (nC ah.out)) (fun _=>ZU Z Z Z) (oR Z (za Z (nC ah.out) Z) (oM Z Z (ifc cx ?_ ?_)))))))))
 intro ai cy
 refine zf Z Z Z (zL Z Z (zo (fun h=>h ai.out))) (fun _=>zD Z Z yS Z ZV) (zy Z Z Z (zL Z Z (zo (fun h=>h ai.out))) (au.ldB (j:=0) Z Z Z Zj (v:=.slice ak p1.Times.length am) Z) Z (zf Z Z Z (zL Z Z (zo (fun h=>h ai.out))) (fun _=>YN Z zZ (zH Z zZ)) ?_))
 have bK:=cr.le bs
 have bL:=bK.le a8
 have bA:=bL.le bb
 have bM:=aq.le a8
 have bN:=bM.le bb
 have bO:=bz.le a8
 have bP:=bO.le bb
 have bZ:FnOK Tryz.prog av (.func (.func 111) #[] #[.pointer (some ⟨b2,0,none⟩)]) wJi wJj (fun x=>wDF x p0):=⟨111,[],[.pointer (some ⟨b2,0,none⟩)],rfl,Tryz.call111,fun U1 w1 x y vs le hs ha hm=>by obtain ⟨pA_0,pc_0,rfl,hq0_0⟩:=ha;exact wHA x pA_0 pc_0 p0 b2 ay az w1 U1 hs hq0_0 (bN.le le) (bP.le le) hm⟩
 refine bnK cy fun dd bQ cz=>zP 0 Z Z Z (zL Z Z (zo (fun h=>h ai.out))) (zQ Z Z Tryz.call110 (zH Z (zH Z zZ)) Z) au (fun hs=>wEw p1.Times ak am (fun x=>wDF x p0) (.func (.func 111) #[] #[.pointer (some ⟨b2,0,none⟩)]) bv av hs bA bZ bQ) (.inr Z) ?_
 rintro bh cP cW bw bE cg ⟨rfl,rfl⟩
 have bp:sW w U bh [.blk aw 93 B1] bw:=cg
 refine zf Z Z Z (zL Z Z (zo (fun h=>h ai.out))) (fun _=>Za Z Z) (oR Z (za Z (zo (fun h=>h ai.out)) Z) (oA Z Z (eN (ifc cz ?_ ?_))))
 intro bm cA
 refine zn (nC bm.out) (sR (.fl 0 (.fl 1 (.fx 2 (wNf (.fx 7 (wLT (.nil)) .stop)) .stop))) Z (oR Z (zD Z Z yS Z zT) (oL Z (bp.ldB (j:=0) Z Z Z ze (v:=.slice an p1.Classes.length ao) Z) ?_)))
 have bR:=cp.le bs
 have bS:=bR.le a8
 have bT:=bS.le bb
 have bU:=bT.le bE
 refine bnK cA fun de bV cB=>zP 0 Z Z Z Z (zQ Z Z Tryz.call112 (zH Z zZ) Z) bp (fun hs=>wFO p1.Classes an ao bw bh hs bU bV) (.inr Z) ?_
 rintro a7 cQ cX bx cM ch ⟨rfl,rfl⟩
 have br:sW w U a7 [.blk aw 93 B1] bx:=ch
 refine oR Z (Za Z Z) (oM Z Z (ifc cB ?_ ?_))
 intro aj cC
 refine zf Z Z Z (zL Z Z (nC aj.out)) (fun _=>zD Z Z yS Z ZV) (zy Z Z Z (zL Z Z (nC aj.out)) (br.ldB (j:=0) Z Z Z Zj (v:=.slice ak p1.Times.length am) Z) Z ?_)
 have bW:=bA.le bE
 have bX:=bW.le cM
 have b4:FnOK Tryz.prog a7 (.func (.func 113) #[] #[]) wJi wJj wDG:=⟨113,[],[],rfl,Tryz.call113,fun U1 w1 x y vs le hs ha hm=>by obtain ⟨pA_0,pc_0,rfl,hq0_0⟩:=ha;exact wHB x pA_0 pc_0 w1 U1 hs hq0_0 hm⟩
 refine bnK cC fun df bY cD=>zP 0 Z Z Z (zL Z Z (nC aj.out)) (zQ Z Z Tryz.call110 (zH Z (zH Z zZ)) Z) br (fun hs=>wEw p1.Times ak am wDG (.func (.func 113) #[] #[]) bx a7 hs bX b4 bY) (.inr Z) ?_
 rintro bi cR cY bH cS cj ⟨rfl,rfl⟩
 have bD:sW w U bi [.blk aw 93 B1] bH:=cj
 refine zf Z Z Z (zL Z Z (nC aj.out)) (fun _=>Za Z Z) (oR Z (za Z (nC aj.out) Z) (oA Z Z (eN (ifc cD ?_ ?_))))
 intro bn cE
 refine zn (nC bn.out) (ZO (zd (zF (sR fL1 Z (oA Z Z (eN (zS ?_)))))))
 cases cE
 exact ⟨rfl,_,(zw rfl),bi,_,(bD.pick [] _ (by decide) rfl),rfl,rfl⟩
 intro bn cG
 refine ZA (nF (bn.out)) (sR fL1 Z (oA Z Z (eN (zS (zU (zK ?_))))))
 cases cG
 exact ⟨rfl,_,(zw rfl),bi,_,(bD.pick [] _ (by decide) rfl),rfl,rfl⟩
 intro aj cH
 refine zc Z Z Z (zO Z Z (nF (aj.out)) Z) (zc Z Z Z (zO Z Z (nF (aj.out)) Z) (ZI Z Z Z (zO Z Z (nF (aj.out)) Z) (zc Z Z Z (zO Z Z (nF (aj.out)) Z) (oR Z (zX Z (nF (aj.out)) Z) (oA Z Z (eN (ZA Z (sR fL1 Z (oA Z Z (eN (zS (zU (zK ?_)))))))))))))
 cases cH
 exact ⟨rfl,_,(zw rfl),a7,_,(br.pick [] _ (by decide) rfl),rfl,rfl⟩
 intro bm cI
 refine ZA (nF (bm.out)) (sR fL1 Z (oA Z Z (eN (zS (zU (zK ?_))))))
 cases cI
 exact ⟨rfl,_,(zw rfl),bh,_,(bp.pick [] _ (by decide) rfl),rfl,rfl⟩
 intro ai cJ
 refine oT Z ai (oT Z ai (oT Z ai (ZI Z Z Z (zO Z Z (Zl ai.out) Z) (oT Z ai (oR Z (zX Z (Zl ai.out) Z) (oA Z Z (eN (ZA Z (sR fL1 Z (oA Z Z (eN (zS (zU (zK ?_))))))))))))))
 cases cJ
 exact ⟨rfl,_,(zw rfl),av,_,(au.pick [] _ (by decide) rfl),rfl,rfl⟩
 intro ah cK
 refine zc Z Z Z (zO Z Z (nF (ah.out)) Z) (zc Z Z Z (zO Z Z (nF (ah.out)) Z) (zc Z Z Z (zO Z Z (nF (ah.out)) Z) (zc Z Z Z (zO Z Z (nF (ah.out)) Z) (zc Z Z Z (zO Z Z (nF (ah.out)) Z) (zc Z Z Z (zO Z Z (nF (ah.out)) Z) (zc Z Z Z (zO Z Z (nF (ah.out)) Z) (oR Z (zX Z (nF (ah.out)) Z) (oM Z Z (oN Z (oN Z (oN Z (ZI Z Z Z (zO Z Z Z Z) (oN Z (oR Z (zX Z Z Z) (oA Z Z (eN (ZA Z (sR fL1 Z (oA Z Z (eN (zS (zU (zK ?_)))))))))))))))))))))))
 cases cK
 exact ⟨rfl,_,(zw rfl),av,_,(au.pick [] _ (by decide) rfl),rfl,rfl⟩
 intro bj cL
 refine cT Z bj (sR fL2 Z (oM Z Z (oA Z Z (eN (zS (zU (zK ?_)))))))
 have hE:=nD cL;first | subst r | cases hE
 exact ⟨rfl,_,(zw rfl),bf,_,(bo.pick [] _ (by decide) rfl),rfl,rfl⟩
theorem wEc (p0:wAt) (ah:Option Addr) (aj:Nat) (ao:Option Addr) (ap:Nat) (ai:Option Addr) (ak:Nat) (p1:Int) (p2:Int) (w:World) (U:PHeap) (hS:St0 w U []) (bb:Sl U 1 ah aj p0.Squad.Classes.length (nA KL.encI p0.Squad.Classes)) (bn:SlR U wDe ao ap p0.Squad.Times) (bd:Sl U 1 ai ak p0.rules.Classes.length (nA KL.encI p0.rules.Classes)) {r:Bool} (hm:wDb p0 p1 p2=some r):Gv Tryz.prog 124 [.agg #[.slice ah p0.Squad.Classes.length aj,.slice ao p0.Squad.Times.length ap,.slice ai p0.rules.Classes.length ak,jV p0.rules.Each,jV p0.rules.Laps,jV p0.rules.Spare,jV p0.rules.Loop,jV p0.rules.Unused],jV p1,jV p2] w (wBp w [] U (fun U_ L_ v=>v=.bool r/\L_=[])):=by
 unfold wDb at hm
 refine Gv.of Tryz.func124 rfl Tryz.ntmps124 Tryz.results124 rfl (sR gBt rfl (ZX (cs:=[.slice ah p0.Squad.Classes.length aj,.slice ao p0.Squad.Times.length ap,.slice ai p0.rules.Classes.length ak,jV p0.rules.Each,jV p0.rules.Laps,jV p0.rules.Spare,jV p0.rules.Loop,jV p0.rules.Unused]) rfl rfl rfl rfl rfl rfl (by rfl) hS ?_))
 intro W1 b2 a8
 refine yw rfl rfl rfl rfl rfl rfl (eN (zG (ZY ZQ [3,3,1,3,3,1,3,3,1,3,3,1,3,3] fL14 (by kernel_rfl) ?_)))
 have ag:=a8.drew
 generalize hw_W6:({ W1 with drawn:=W1.drawn + 1 }:World)=W6 at ag ⊢
 refine oR Z (zD Z Z YF Z YB) (oR Z (zD Z Z yS Z zT) (oL Z (ag.ldB (j:=0) Z Z Z ze (v:=.slice ah p0.Squad.Classes.length aj) Z) (oM Z Z (bnK hm fun x7 h8 be=>?_))))
 have q:=bb.el (fun _=>rfl) (wAK h8)
 obtain ⟨bi,bo,ax,az⟩:=q
 refine oR Z (zx Z Z ax Z zA zC (wAi h8) (wAj h8)) (oL Z (ag.ldC (f:=0) az (v:=jV x7) Z Z zM Z) (oR Z (zD Z Z YF Z ZZ) (oR Z (zD Z Z ZG Z zT) (oL Z (ag.ldB (j:=0) Z Z Z ze (v:=.slice ai p0.rules.Classes.length ak) Z) (oM Z Z (bnK be fun bf am au=>?_))))))
 have q:=bd.el (fun _=>rfl) (wAK am)
 obtain ⟨bj,bp,ay,a7⟩:=q
 refine oR Z (zx Z Z ay Z zA zC (wAi am) (wAj am)) (oL Z (ag.ldC (f:=0) a7 (v:=jV bf) Z Z zM Z) (oR Z (yJ Z Z Z) (oA Z Z (eN (zS ?_)))))
 first | (obtain rfl:=nD au) | cases au
 exact ⟨rfl,_,(zw rfl),U,_,(ag.pick [] _ (by decide) rfl),rfl,rfl⟩
theorem wHS (p0:List Int) (ak:Option Addr) (am:Nat) (w:World) (U:PHeap) (hS:St0 w U []) (bi:Sl U 1 ak am p0.length (nA KL.encI p0)) {r:Int} (hm:wFI p0=some r):Gv Tryz.prog 125 [.slice ak p0.length am] w (wBp w [] U (fun U_ L_ v=>v=jV r/\L_=[])):=by
 unfold wFI at hm
 refine Gv.of Tryz.func125 Z Tryz.ntmps125 Tryz.results125 Z (sR fL1 Z (oA Z Z (eN (sR fL1 Z (oA Z Z (eN (zG (sR fL3 Z (oM Z Z (oR Z (zW Z Z zA) (oM Z Z (eN (zR (bnK hm fun bC bm bp=>?_))))))))))))))
 have q:=wAw bm
 obtain ⟨aj,bj⟩:=q
 replace aj:=zI aj
 refine CK.forN' (fun k7 x6 σ_ w_=>∃ (U_:PHeap),σ_ 8=jV (↑k7:Int)/\σ_ 3=jV x6/\σ_ 6=.slice ak p0.length am/\σ_ 7=jV (↑p0.length:Int)/\PHeap.Le U U_/\sW w U U_ [] w_) bj ?_ ?_ ?_
 exact ⟨U,Z,Z,Z,Z,(zN _),hS⟩
 rintro k7 x6 bA bD bt ai ⟨ax,ah,a7,ao,ap,av,au⟩ br
 have an:Hid ((↑k7:Int) < (↑p0.length:Int)):=zI (wAo ai)
 replace ai:=zI ai
 have bn:Hid (w64 ((↑k7:Int) + 1)=(↑(k7 + 1):Int)):=zI (by have h1:=aj.out;have h2:=an.out;rw [wAQ] <;> omega)
 refine sR fL1 Z (oR Z (zV Z ah ap) (eN (zG (cT Z an (kN (zG (zR (sR fL3 Z (bnK br fun bs aq bo=>?_)))))))))
 have be:=bi.le av
 have q:=be.el (fun _=>rfl) (wAK aq)
 obtain ⟨bv,bz,bf,bg⟩:=q
 refine oR Z (ZC Z ao bf ah zA zC (wAg aq)) (oL Z (au.ldC (f:=0) bg (v:=jV bs) Z Z zM Z) (oA Z Z (eN (rR fL4 Z (oM Z a7 (oM Z Z (oR Z (zY Z Z Z) (oA Z Z (zg (zd (zF (rR fL2 Z (oR Z (zz (zY Z ah Z) (congrArg (jV) bn.out)) (oM Z Z (zg ?_)))))))))))))))
 cases bo
 exact zF ⟨Z,⟨ax,Z,Z,ao,ap,av,au⟩⟩
 rintro bE bu ⟨ay,bd,a8,bw,bb,bx,bh⟩
 have az:Hid (¬ ((↑(((↑p0.length:Int):Int) - 0).toNat:Int) < (↑p0.length:Int))):=zI (wAc)
 refine sR fL1 Z (oR Z (zV Z bd bb) (eN (zG (cF Z az (ZD (zb (zb (zr (zF (sR fL2 Z (oM Z a8 (oA Z Z (eN (zS ?_))))))))))))))
 have hE:=nD bp;first | subst r | cases hE
 exact ⟨Z,_,(zw Z),ay,_,bh,Z,Z⟩
theorem wHC (p0:wAt) (bf:Option Addr) (bh:Nat) (ay:Option Addr) (az:Nat) (bg:Option Addr) (bi:Nat) (p1:List Int) (bv:Option Addr) (bw:Nat) (w:World) (U:PHeap) (hS:St0 w U []) (de:Sl U 1 bf bh p0.Squad.Classes.length (nA KL.encI p0.Squad.Classes)) (df:SlR U wDe ay az p0.Squad.Times) (dg:Sl U 1 bg bi p0.rules.Classes.length (nA KL.encI p0.rules.Classes)) (dh:Sl U 1 bv bw p1.length (nA KL.encI p1)) {r:Int × Bool} (hm:wEL p0 p1=some r):Gv Tryz.prog 120 [.agg #[.slice bf p0.Squad.Classes.length bh,.slice ay p0.Squad.Times.length az,.slice bg p0.rules.Classes.length bi,jV p0.rules.Each,jV p0.rules.Laps,jV p0.rules.Spare,jV p0.rules.Loop,jV p0.rules.Unused],.slice bv p1.length bw] w (wBp w [] U (fun U_ L_ v=>v=.tuple #[jV r.1,.bool r.2]/\L_=[])):=by
 unfold wEL at hm
 refine Gv.of Tryz.func120 Z Tryz.ntmps120 Tryz.results120 Z (sR gCf Z ?_)
 let B0:List Value:=[.slice bf p0.Squad.Classes.length bh,.slice ay p0.Squad.Times.length az,.slice bg p0.rules.Classes.length bi,jV p0.rules.Each,jV p0.rules.Laps,jV p0.rules.Spare,jV p0.rules.Loop,jV p0.rules.Unused]
 refine ZX (cs:=B0) rfl rfl rfl rfl rfl rfl (by rfl) hS ?_
 intro W1 b2 bP
 refine oA Z Z (oA Z Z (eN (sR fL3 Z (oL Z (bP.ldBA (j:=0) Z Z Z Tryz.isAgg249 YO (vs:=B0) Z Z) (oR Z (YN Z (zH Z zZ) zZ) (oA Z Z (eN (sR fL1 Z (oA Z Z (eN (sR (.fx 0 .nil .stop) Z (ZB (cs:=nA KL.encI (Arr.fill 8 0).l) Z Z Z Z Z Tryz.zeroValue256 Z bP ?_))))))))))))
 intro W5 b6 cY
 have dd:sW w U U [.blk b6 256 (nA KL.encI (Arr.fill 8 0).l),.blk b2 249 B0] W5:=cY
 refine eN (zG (sR fL3 Z (oM Z Z (oR Z (zW Z Z zA) (oM Z Z (eN (zR ?_)))))))
 have q:=wBQ hm
 obtain ⟨d7,be⟩:=q
 have q:=wBP be
 obtain ⟨bu,dm⟩:=q
 replace bu:=zI bu
 refine yF (fun au (ah,aw) σ_ w_=>∃ (U_:PHeap) (a7:Option Addr) (a8:Nat),σ_ 15=jV (↑au:Int)/\σ_ 2=.pointer (some ⟨b2,0,none⟩)/\σ_ 6=.func (.func 124) #[.agg B0.toArray] #[]/\σ_ 7=.slice a7 aw.length a8/\σ_ 8=.pointer (some ⟨b6,0,none⟩)/\σ_ 13=.slice bv p1.length bw/\σ_ 14=jV (↑p1.length:Int)/\PHeap.Le U U_/\sW w U U_ [.blk b6 256 (nA KL.encI ah.l),.blk b2 249 B0,.row a7 a8 3 1 (nA KL.encI aw)] w_) dm ?_ ?_ ?_
 have cW:=dd.nilrow 3 1
 exact ⟨U,none,0,rfl,rfl,rfl,rfl,rfl,rfl,rfl,(zN _),(cW.pick [1,2,0] _ (by decide) rfl)⟩
 rintro au ⟨ah,aw⟩ eA eC dP bt ⟨bE,a7,a8,bd,bo,bI,cx,bb,bJ,bK,ax,bs⟩ bT bR
 try dsimp only at bT
 have bH:Hid ((↑au:Int) < (↑p1.length:Int)):=zI (wAo bt)
 replace bt:=zI bt
 have dr:Hid (w64 ((↑au:Int) + 1)=(↑(au + 1):Int)):=zI (by have h1:=bu.out;have h2:=bH.out;rw [wAQ] <;> omega)
 refine sR fL1 Z (oR Z (zV Z bd bK) (eN (zG (cT Z bH (kN (zG (zR (sR fL5 Z (oM Z bd (bnK bT fun ag bM dy=>?_))))))))))
 have cC:=dh.le ax
 have q:=cC.el (fun _=>rfl) (wAK bM)
 obtain ⟨dR,d6,cK,cM⟩:=q
 refine oR Z (ZC Z bJ cK bd zA zC (wAg bM)) (oL Z (bs.ldC (f:=0) cM (v:=jV ag) Z Z zM Z) (oA Z Z (oA Z Z (eN (sR (wGD (.fx 5 .nil .stop)) Z (oM Z Z (bnK dy fun _ ak dz=>oR Z (Runs.iaA Z bb Z Tryz.runUnderlying256 zC (wCQ ak) (wCR ak)) ?_)))))))
 have dn:=Arr.at_ ah (k:=ag.toNat) (by have hz0:=wAY ak;omega)
 refine zy rfl rfl rfl rfl (bs.ldB (j:=0) rfl rfl rfl zM (wAZ (sz:=1) (fun _=>rfl) _ _ 0 _ dn (by first | omega | rfl | simp) rfl)) rfl (zf rfl rfl rfl rfl (fun _=>zY rfl rfl rfl) (zf rfl rfl rfl rfl (fun _=>Runs.iaA rfl bb rfl Tryz.runUnderlying256 zC (wCQ ak) (wCR ak)) ?_))
 have dp:=Arr.at_ ah (k:=ag.toNat) (by have hz0:=wAY ak;omega)
 refine ZK (j:=0) (vs:=[jV (w64 ((ah.get ag.toNat) + 1))]) (cs':=nA KL.encI (ah.set ag.toNat (w64 ((ah.get ag.toNat) + 1))).l) rfl rfl rfl rfl bs rfl rfl rfl rfl zC (by have hz0:=wAY ak;simp only [nO,nP,nQ,nJ,wJF (f:=KL.encI) (sz:=1) (N:=8) ah (fun _=>rfl) rfl];omega) rfl (wES (sz:=1) (fo:=0) (fun _=>rfl) _ _ _ _ dp (by first | omega | rfl | simp) (zJ rfl) rfl) rfl ?_
 intro bm cX
 let B1:Res:=.row a7 a8 3 1 (nA KL.encI aw)
 have cZ:sW w U bE [.blk b6 256 (nA KL.encI (ah.set ag.toNat (w64 ((ah.get ag.toNat) + 1))).l),.blk b2 249 B0,B1] bm:=cX
 refine eN (zG (zG (ZY ZQ [3,3,3,2,3,3,3,3,1,3,3,1,3,3] (wDw (.fx 3 (wOm (.nil)) .stop)) (by kernel_rfl) ?_)))
 have bQ:=cZ.drew
 generalize hw_W72:({ bm with drawn:=bm.drawn + 1 }:World)=ch at bQ ⊢
 refine oM Z bI (oM Z Z (oM Z Z ?_))
 have cD:=de.le ax
 have bN:=df.le ax
 have cE:=dg.le ax
 refine bnK dz fun eu cG dA=>zP 0 Z Z Z Z (zQ Z Z Tryz.call124 (zH Z (zH Z zZ)) Z) bQ (fun hs=>wEc p0 bf bh ay az bg bi ag (↑au:Int) ch bE hs cD bN cE cG) (.inr Z) ?_
 rintro aq dM d9 ci bU c9 ⟨rfl,rfl⟩
 have ap:sW w U aq [.blk b6 256 (nA KL.encI (ah.set ag.toNat (w64 ((ah.get ag.toNat) + 1))).l),.blk b2 249 B0,B1] ci:=c9
 refine oR Z (Za Z Z) (oM Z Z (ifc dA ?_ ?_))
 intro ai dB
 refine zh Z Z Z (zL Z Z (nC ai.out)) Z Z (zf Z Z Z (zL Z Z (nC ai.out)) (fun _=>Runs.iaA Z bb Z Tryz.runUnderlying256 zC (wCQ ak) (wCR ak)) ?_)
 have dq:=Arr.at_ (ah.set ag.toNat (w64 ((ah.get ag.toNat) + 1))) (k:=ag.toNat) (by have hz0:=wAY ak;omega)
 refine zy rfl rfl rfl (zL rfl rfl (nC ai.out)) (ap.ldB (j:=0) rfl rfl rfl zM (wAZ (sz:=1) (fun _=>rfl) _ _ 0 _ dq (by first | omega | rfl | simp) rfl)) rfl (zf rfl rfl rfl (zL rfl rfl (nC ai.out)) (fun _=>zD rfl bo YF rfl ZZ) (zf rfl rfl rfl (zL rfl rfl (nC ai.out)) (fun _=>zD rfl rfl ZG rfl zC) (zy rfl rfl rfl (zL rfl rfl (nC ai.out)) (ap.ldB (j:=1) rfl rfl rfl zM (v:=jV p0.rules.Each) rfl) rfl (zf rfl rfl rfl (zL rfl rfl (nC ai.out)) (fun _=>yP rfl rfl rfl) (zf rfl rfl rfl rfl (fun _=>za rfl (nC ai.out) rfl) (eN (ifc dB ?_ ?_)))))))
 intro bn dC
 refine cT Z bn (sR fL2 Z (oA Z Z (oA Z Z (eN (zS (zK (zU (zK ?_))))))))
 have q:=wAM dC
 obtain ⟨dK,dD,ct⟩:=q
 have q:=wBI hm be (bR dK ct)
 obtain rfl:=q
 refine zK (zU (zK ?_))
 cases dD
 exact ⟨rfl,_,(wFA rfl rfl),aq,_,(ap.pick [] _ (by decide) rfl),rfl,rfl⟩
 intro bn dE
 refine cF Z bn (kN (rR (wNe gCe) Z (oM Z cx (oR Z (zD Z bo YF Z YB) (oR Z (zD Z Z yS Z ZV) (oL Z (ap.ldB (j:=1) Z Z Z Zj (v:=.slice ay p0.Squad.Times.length az) Z) (oM Z Z (bnK dE fun bY bp dF=>?_))))))))
 have cH:=bN.le bU
 have q:=cH.el (wAK bp)
 obtain ⟨cm,dI,eh,cI,br,dG⟩:=q
 obtain ⟨bV,bW,rfl,cz⟩:=dG
 replace br:Cl aq cm (dI + ag.toNat * 1) [.slice bV bY.length bW]:=br
 refine oR Z (zx Z Z cI Z zm zT (wAi bp) (wAj bp)) (oL Z (ap.ldC (f:=0) br (v:=.slice bV bY.length bW) Z Z ze Z) (oM Z Z (bnK dF fun av bL dt=>?_)))
 have q:=cz.el (fun _=>rfl) (wAK bL)
 obtain ⟨dQ,dZ,cJ,cL⟩:=q
 refine oR Z (ZC Z Z cJ Z zA zC (wAg bL)) (oL Z (ap.ldC (f:=0) cL (v:=jV av) Z Z zM Z) (zk (pv:=[(0,jV av)]) (zs:=[jV 0]) (cs:=[jV av]) Z Z Z Z Z (wAA Z wAO) zA zC ZM Z Z Z Z Z ap ?_))
 intro ca cj cN
 let B2:Res:=.row (some ⟨cj,0,none⟩) 1 3 1 (nA KL.encI [av])
 have bO:sW w U aq [B2,.blk b6 256 (nA KL.encI (ah.set ag.toNat (w64 ((ah.get ag.toNat) + 1))).l),.blk b2 249 B0,B1] ca:=cN
 refine bnK dt fun bX cA du=>yE (j:=3) (enc:=KL.encI) (xs:=aw) (ys:=[av]) (zs:=bX) rfl rfl rfl rfl rfl Zy wFN rfl rfl rfl rfl rfl rfl bO rfl rfl rfl (bO.srcR (j:=0) rfl (by decide) (wAC (f:=KL.encI) (sz:=1) (fun _=>rfl) [av])) (fun _=>rfl) (fun _=>rfl) cA rfl ?_
 intro bz bG cc cO
 have cP:sW w U aq [B2,.blk b6 256 (nA KL.encI (ah.set ag.toNat (w64 ((ah.get ag.toNat) + 1))).l),.blk b2 249 B0,.row bz bG 3 1 (nA KL.encI bX)] cc:=cO
 refine oA Z Z (zg (zd (zF (rR fL2 Z (oR Z (zz (zY Z bd Z) (congrArg (jV) dr.out)) (oM Z Z (zg ?_)))))))
 have q:=nD du
 obtain rfl:=q
 exact zF ⟨rfl,_,rfl,⟨aq,bz,bG,rfl,bo,bI,rfl,bb,bJ,bK,(ax.trans bU),(cP.pick [1,2,3] _ (by decide) rfl)⟩⟩
 intro ai dv
 refine zc Z Z Z (zO Z Z (nF (ai.out)) Z) (zc Z Z Z (zO Z Z (nF (ai.out)) Z) (zc Z Z Z (zO Z Z (nF (ai.out)) Z) (zc Z Z Z (zO Z Z (nF (ai.out)) Z) (zc Z Z Z (zO Z Z (nF (ai.out)) Z) (zc Z Z Z (zO Z Z (nF (ai.out)) Z) (zc Z Z Z (zO Z Z (nF (ai.out)) Z) (oR Z (zX Z (nF (ai.out)) Z) (eN (ZA Z (sR fL2 Z (oA Z Z (oA Z Z (eN (zS (zK (zU (zK ?_)))))))))))))))))
 have q:=wAM dv
 obtain ⟨dJ,dw,cr⟩:=q
 have q:=wBI hm be (bR dJ cr)
 obtain rfl:=q
 refine zK (zU (zK ?_))
 cases dw
 exact ⟨rfl,_,(wFA rfl rfl),aq,_,(ap.pick [] _ (by decide) rfl),rfl,rfl⟩
 rintro ⟨bZ,bx⟩ eB bF ⟨dN,b4,co,cy,dS,dT,cu,dU,dV,cw,dW,cQ⟩ di
 have bS:=wCg hm be di
 try dsimp only at bS
 have cp:Hid (¬ ((↑(((↑p1.length:Int):Int) - 0).toNat:Int) < (↑p1.length:Int))):=zI (wAc)
 refine sR fL1 Z (oR Z (zV Z cy cw) (eN (zG (cF Z cp (ZD (zb (zb (zr (zF (sR (.fl 0 gCi) Z (oM Z cu ?_)))))))))))
 have q:=cQ.freezeR (k:=2) (n:=bx.length) rfl (wAC (f:=KL.encI) (sz:=1) (fun _=>rfl) bx) (by decide)
 obtain ⟨bC,dX,dH,cR⟩:=q
 have cS:sW w U bC [.blk b6 256 (nA KL.encI bZ.l),.blk b2 249 B0] bF:=cR
 refine bnK bS fun ep cB dx=>zP 0 Z Z Z Z (zQ Z Z Tryz.call125 (zH Z zZ) Z) cS (fun hs=>wHS bx b4 co bF bC hs dH cB) (.inr Z) ?_
 rintro bD dL d8 cd dY cU ⟨rfl,rfl⟩
 have cV:sW w U bD [.blk b6 256 (nA KL.encI bZ.l),.blk b2 249 B0] cd:=cU
 refine oA Z Z (oA Z Z (eN (zS ?_)))
 cases dx
 exact ⟨rfl,_,(wFA rfl rfl),bD,_,(cV.pick [] _ (by decide) rfl),rfl,rfl⟩
set_option maxHeartbeats 4000000
theorem wGk (n_:Nat):∀ (p0:List Int) (aj:Option Addr) (am:Nat) (p1:wAt) (an:Nat) (bx:Option Addr) (bA:Nat) (bH:Option Addr) (bI:Nat) (bz:Option Addr) (bC:Nat) (p2:List Int) (ai:Nat) (bd:Option Addr) (bi:Nat) (p3:Int) (ak:Nat) (p4:Int) (ao:Nat) (p5:Unit) (ap:Nat) (w:World) (U:PHeap) (hS:St0 w U [.blk ai 22 [.slice bd p2.length bi],.row bd bi 3 1 (nA KL.encI p2),.blk ak 3 [jV p3]]) (bF:Sl U 1 aj am p0.length (nA KL.encI p0)) (cg:Cl U an 0 [.slice bx p1.Squad.Classes.length bA,.slice bH p1.Squad.Times.length bI,.slice bz p1.rules.Classes.length bC,jV p1.rules.Each,jV p1.rules.Laps,jV p1.rules.Spare,jV p1.rules.Loop,jV p1.rules.Unused]) (du:Sl U 1 bx bA p1.Squad.Classes.length (nA KL.encI p1.Squad.Classes)) (dv:SlR U wDe bH bI p1.Squad.Times) (dw:Sl U 1 bz bC p1.rules.Classes.length (nA KL.encI p1.rules.Classes)) (ch:p2=[]->bd=none) (fg:Cl U ao 0 [jV p4]) (bK:Cl U ap 0 [.func (.func 201) #[] #[.pointer (some ⟨an,0,none⟩),.pointer (some ⟨ai,0,none⟩),.pointer (some ⟨ak,0,none⟩),.pointer (some ⟨ao,0,none⟩),.pointer (some ⟨ap,0,none⟩)]]) {r:(List Int) × Int} (hm:wDc n_ p0 p1 p2 p3 p4 p5=some r),Gv Tryz.prog 201 [.slice aj p0.length am,.pointer (some ⟨an,0,none⟩),.pointer (some ⟨ai,0,none⟩),.pointer (some ⟨ak,0,none⟩),.pointer (some ⟨ao,0,none⟩),.pointer (some ⟨ap,0,none⟩)] w (wBp w [.blk ai 22 [.slice bd p2.length bi],.row bd bi 3 1 (nA KL.encI p2),.blk ak 3 [jV p3]] U (fun U_ L_ v=>∃ (cM:Option Addr) (eh:Nat),v=.tuple #[]/\L_=[.row cM eh 3 1 (nA KL.encI r.1),.blk ai 22 [.slice cM r.1.length eh],.blk ak 3 [jV r.2]]/\(r.1=[]->cM=none))):=by
 induction n_ with
 | zero =>
  intros
  rename_i hm
  have lq:(none:Option ((List Int) × Int))=some _:=hm
  cases lq
 | succ n_ ih =>
  intro p0 aj am p1 an bx bA bH bI bz bC p2 ai bd bi p3 ak p4 ao p5 ap w U hS bF cg du dv dw ch fg bK r hm
  have hm:wDq (wDc n_) p0 p1 p2 p3 p4 p5=some r:=hm
  unfold wDq at hm
  refine Gv.of Tryz.func201 Z Tryz.ntmps201 Tryz.results201 Z (zG (sR fL7 Z (oM Z Z (oR Z (zW Z Z zA) (oR Z (zD Z Z YF Z ZZ) (oR Z (zD Z Z ZG Z zT) (oL Z (hS.ldC (f:=2) cg (v:=.slice bz p1.rules.Classes.length bC) Z Z ze Z) (oR Z (zW Z Z zA) (oR Z (yJ Z Z Z) (eN ?_))))))))))
  by_cases c4:(↑p0.length:Int)=(↑p1.rules.Classes.length:Int)
  ·have fm:=hm;rw [if_pos c4] at fm;replace c4:=zI c4
   refine cT Z c4 (zG (sR (.fl 0 (.fl 1 (.fx 2 (wQx (.nil)) .stop))) Z (oL Z (hS.ldCA (f:=0) cg Z Z Tryz.isAgg249 YO (us:=[.slice bx p1.Squad.Classes.length bA,.slice bH p1.Squad.Times.length bI,.slice bz p1.rules.Classes.length bC,jV p1.rules.Each,jV p1.rules.Laps,jV p1.rules.Spare,jV p1.rules.Loop,jV p1.rules.Unused]) Z Z) (oM Z Z ?_))))
   have q:=bnd fm
   obtain ⟨⟨x6,x7⟩,h8,ft⟩:=q
   try dsimp only at ft
   refine zP 0 Z Z Z Z (zQ Z Z Tryz.call120 (zH Z (zH Z zZ)) Z) hS (fun hs=>wHC p1 bx bA bH bI bz bC p0 aj am w U hs du dv dw bF h8) (.inr Z) ?_
   rintro bY lS mx cV fC jz ⟨rfl,rfl⟩
   let B0:Res:=.row bd bi 3 1 (nA KL.encI p2)
   let B1:Res:=.blk ai 22 [.slice bd p2.length bi]
   let B2:Res:=.blk ak 3 [jV p3]
   have bJ:SW w [B1,B0,B2] U bY [B1,B0,B2] cV:=jz
   refine oM Z Z (oR Z (ZF Z Z (v:=jV x6) Z) (oR Z (ZF Z Z (v:=.bool x7) Z) (oA Z Z (oA Z Z (eN (sR wNh Z (oM Z Z (oM Z Z (ifc ft ?_ ?_)))))))))
   ·intro bh lv
    refine zy Z Z Z (zL Z Z (congrArg nE bh.out)) (bJ.ldB (j:=0) Z Z Z ze (v:=.slice bd p2.length bi) Z) Z ?_
    have iA:bd.isNone=decide (p2=[]):=wLd (j:=1) bJ rfl (fun _=>rfl) (by decide) ch
    refine zf Z Z Z (zL Z Z (congrArg nE bh.out)) (fun _=>Runs.eqNilR Z Z Z zA iA) (zh Z Z Z (zL Z Z (congrArg nE bh.out)) Z Z (ifc lv ?_ ?_))
    ·intro bt lx
     refine oT Z bt (oT Z bt (oT Z bt (zf Z Z Z (zL Z Z (congrArg nE bh.out)) (fun _=>zX Z (Zl bt.out) Z) (oR Z (zX Z (congrArg nE bh.out) Z) (eN (ZA Z (rR gCu Z (oM Z Z ?_))))))))
     have iC:=bF.le fC
     refine bnK lx fun fI iD lz=>zP 0 Z Z Z Z (zQ Z Z Tryz.call165 (zH Z zZ) Z) bJ (fun hs=>wBV p0 aj am cV bY hs iC iD) (.inr Z) ?_
     rintro cr lU mz fQ mr jA ⟨cE,c9,rfl,rfl⟩
     let B3:Res:=.row cE c9 3 1 (nA KL.encI fI)
     have jB:SW w [B1,B0,B2] U cr [B3,B1,B0,B2] fQ:=jA
     refine oM Z Z (bnK lz fun mH iE lA=>?_)
     let B4:List Value:=[.slice cE fI.length c9]
     refine ZK (j:=1) (vs:=B4) Z Z Z Z jB Z Z Z Z zT (zJ Z) Z Z Z ?_
     intro fR jC
     have jD:SW w [B1,B0,B2] U cr [B3,.blk ai 22 B4,B0,B2] fR:=jC
     refine ZK (j:=3) (vs:=[jV x6]) Z Z Z Z jD Z Z Z Z zC (zJ Z) Z Z Z ?_
     intro fS jF
     have jG:SW w [B1,B0,B2] U cr [B3,.blk ai 22 B4,B0,.blk ak 3 [jV x6]] fS:=jF
     refine eN (zS (zK ?_))
     cases lA
     exact ⟨rfl,_,(wOp),cr,_,(jG.pick [0,1,3] _ (by decide) rfl),cE,c9,rfl,rfl,(fun h=>absurd h (wMU iE))⟩
    ·intro bt lB
     refine zh Z Z Z (wF Z bt) Z Z (zy Z Z Z (wF Z bt) (bJ.ldB (j:=2) Z Z Z zM (v:=jV p3) Z) Z (rU Z (wF Z bt) (zV Z Z Z) (zf Z Z Z (zL Z Z (congrArg nE bh.out)) (fun _=>za Z (zo bt.out) Z) (oR Z (zX Z (congrArg nE bh.out) Z) (eN (ifc lB ?_ ?_))))))
     ·intro df lC
      refine cT Z df (rR gCu Z (oM Z Z ?_))
      have iN:=bF.le fC
      refine bnK lC fun fJ i2 lD=>zP 0 Z Z Z Z (zQ Z Z Tryz.call165 (zH Z zZ) Z) bJ (fun hs=>wBV p0 aj am cV bY hs iN i2) (.inr Z) ?_
      rintro ct lW mB fU ms jP ⟨cK,di,rfl,rfl⟩
      let B5:Res:=.row cK di 3 1 (nA KL.encI fJ)
      have jS:SW w [B1,B0,B2] U ct [B5,B1,B0,B2] fU:=jP
      refine oM Z Z (bnK lD fun mI je lE=>?_)
      let B6:List Value:=[.slice cK fJ.length di]
      refine ZK (j:=1) (vs:=B6) Z Z Z Z jS Z Z Z Z zT (zJ Z) Z Z Z ?_
      intro f0 jY
      have j4:SW w [B1,B0,B2] U ct [B5,.blk ai 22 B6,B0,B2] f0:=jY
      refine ZK (j:=3) (vs:=[jV x6]) Z Z Z Z j4 Z Z Z Z zC (zJ Z) Z Z Z ?_
      intro f5 j8
      have k8:SW w [B1,B0,B2] U ct [B5,.blk ai 22 B6,B0,.blk ak 3 [jV x6]] f5:=j8
      refine eN (zS (zK ?_))
      cases lE
      exact ⟨rfl,_,(wOp),ct,_,(k8.pick [0,1,3] _ (by decide) rfl),cK,di,rfl,rfl,(fun h=>absurd h (wMU je))⟩
     ·intro df lG
      refine cF Z df (kN (zS (zK ?_)))
      cases lG
      exact ⟨rfl,_,(wOp),bY,_,(bJ.pick [1,0,2] _ (by decide) rfl),bd,bi,rfl,rfl,ch⟩
   ·intro bh lH
    refine zc Z Z Z (zO Z Z (congrArg nE (nG.2 bh.out)) Z) (zc Z Z Z (zO Z Z (congrArg nE (nG.2 bh.out)) Z) (zc Z Z Z (zO Z Z (congrArg nE (nG.2 bh.out)) Z) (zc Z Z Z (wAP Z Z Z) (zc Z Z Z (wAP Z Z Z) (zc Z Z Z (wAP Z Z Z) (zc Z Z Z (zO Z Z (congrArg nE (nG.2 bh.out)) Z) (oR Z (za Z (congrArg nE (nG.2 bh.out)) Z) (eN (zn Z (kN (zS (zK ?_))))))))))))
    cases lH
    exact ⟨rfl,_,(wOp),bY,_,(bJ.pick [1,0,2] _ (by decide) rfl),bd,bi,rfl,rfl,ch⟩
  ·have fq:=hm;rw [if_neg c4] at fq;replace c4:=zI c4
   refine cF Z c4 (kN (sR fL5 Z (oR Z (zD Z Z YF Z YB) (oR Z (zD Z Z yS Z zT) (oL Z (hS.ldC (f:=0) cg (v:=.slice bx p1.Squad.Classes.length bA) Z Z ze Z) (oR Z (zW Z Z zA) (oM Z Z (eN (zR ?_)))))))))
   have q:=bnd fq
   obtain ⟨⟨mK,mL⟩,lk,fu⟩:=q
   try dsimp only at fu
   have q:=wAw lk
   obtain ⟨dz,lm⟩:=q
   replace dz:=zI dz
   let B7:Res:=.row bd bi 3 1 (nA KL.encI p2)
   let B8:Res:=.blk ai 22 [.slice bd p2.length bi]
   let B9:Res:=.blk ak 3 [jV p3]
   refine CK.forN' (fun af (bL,cD) σ_ w_=>∃ (U_:PHeap) (bs:Option Addr) (bE:Nat),σ_ 40=jV (↑af:Int)/\σ_ 0=.slice aj p0.length am/\σ_ 1=.pointer (some ⟨an,0,none⟩)/\σ_ 4=.pointer (some ⟨ao,0,none⟩)/\σ_ 5=.pointer (some ⟨ap,0,none⟩)/\σ_ 39=jV (↑p1.Squad.Classes.length:Int)/\PHeap.Le U U_/\SW w [B8,B7,B9] U U_ [.row bs bE 3 1 (nA KL.encI bL),.blk ai 22 [.slice bs bL.length bE],.blk ak 3 [jV cD]] w_/\(bL=[]->bs=none)) lm ?_ ?_ ?_
   ·exact ⟨U,bd,bi,rfl,rfl,rfl,rfl,rfl,rfl,(zN _),(hS.pick [1,0,2] _ (by decide) rfl),ch⟩
   ·rintro af ⟨bL,cD⟩ mJ mU fP dy ⟨dM,bs,bE,br,bp,bu,bv,bn,bw,a7,cB,dq⟩ dA
    try dsimp only at dA
    have dY:Hid ((↑af:Int) < (↑p1.Squad.Classes.length:Int)):=zI (wAo dy)
    replace dy:=zI dy
    have dx:Hid (w64 ((↑af:Int) + 1)=(↑(af + 1):Int)):=zI (by have h1:=dz.out;have h2:=dY.out;rw [wAQ] <;> omega)
    refine sR fL1 Z (oR Z (zV Z br bw) (eN (zG (cT Z dY (kN (zG (zR (sR fL2 Z (oM Z br (oA Z Z (eN (sR (wNd gBz) Z (oM Z Z ?_)))))))))))))
    have eV:=fg.le a7
    refine oL Z (cB.ldC (f:=0) eV (v:=jV p4) Z bv zM Z) (oR Z (ZU Z Z Z) (oM Z Z ?_))
    by_cases az:(↑af:Int)=p4
    ·have fh:=dA;rw [if_pos az] at fh;replace az:=zI az
     refine zc Z Z Z (zO Z Z (zo (fun h=>h az.out)) Z) (zc Z Z Z (zO Z Z (zo (fun h=>h az.out)) Z) (zc Z Z Z (zO Z Z (zo (fun h=>h az.out)) Z) (zc Z Z Z (zO Z Z (zo (fun h=>h az.out)) Z) (ZI Z Z Z (zO Z Z (zo (fun h=>h az.out)) Z) (oR Z (za Z (zo (fun h=>h az.out)) Z) (eN (zn Z (ZO (zd (zF (rR fL2 Z (oR Z (zz (zY Z br Z) (congrArg (jV) dx.out)) (oM Z Z (zg ?_))))))))))))))
     cases fh
     exact zF ⟨Z,⟨dM,bs,bE,Z,bp,bu,bv,bn,bw,a7,cB,dq⟩⟩
    ·have fj:=dA;rw [if_neg az] at fj;replace az:=zI az
     have eW:=cg.le a7
     refine zy Z Z Z (wT Z az) (cB.ldCA (f:=0) eW Z bu Tryz.isAgg249 YO (us:=[.slice bx p1.Squad.Classes.length bA,.slice bH p1.Squad.Times.length bI,.slice bz p1.rules.Classes.length bC,jV p1.rules.Each,jV p1.rules.Laps,jV p1.rules.Spare,jV p1.rules.Loop,jV p1.rules.Unused]) Z Z) Z (zh Z Z Z (wT Z az) Z Z (zh Z Z Z (wT Z az) Z bp (rU Z (wT Z az) (zW Z Z zA) ?_)))
     have eX:=du.le a7
     have eY:=dv.le a7
     have eZ:=dw.le a7
     refine bnK fj fun mG iz ls=>zP 0 Z Z Z (wT Z az) (zQ Z Z Tryz.call124 (zH Z (zH Z (zH Z zZ))) Z) cB (fun hs=>wEc p1 bx bA bH bI bz bC (↑af:Int) (↑p0.length:Int) fP dM hs eX eY eZ iz) (.inr Z) ?_
     rintro bb lT my cW a8 jy ⟨rfl,rfl⟩
     let aw:Res:=.row bs bE 3 1 (nA KL.encI bL)
     let ax:Res:=.blk ai 22 [.slice bs bL.length bE]
     let ay:Res:=.blk ak 3 [jV cD]
     have fd:SW w [B8,B7,B9] U bb [aw,ax,ay] cW:=jy
     refine oR Z (zX Z (Zl az.out) Z) (eN (ifc ls ?_ ?_))
     ·intro cZ lu
      refine ZA (congrArg nE cZ.out) (bnK lu fun bj cA lw=>bnK lw fun bg fc ly=>?_)
      have q:=bnd ly
      obtain ⟨⟨ci,fH⟩,iB,fk⟩:=q
      try dsimp only at fk
      refine ZY ZQ [2,3,2,3,2,0,0] (.fl 1 (.fl 3 (.fx 0 (.fx 2 gCj (.fx 4 gCk .stop)) (.fx 2 (.fx 0 gCj (.fx 4 gCq .stop)) (.fx 4 (.fx 0 gCk (.fx 2 gCq .stop)) .stop))))) (by kernel_rfl) ?_
      have bR:=fd.drew
      generalize hw_W213:({ cW with drawn:=cW.drawn + 1 }:World)=dT at bR ⊢
      refine ye (s:=.nil) (M:=fun σ_ w_=>∃ (U_:PHeap) (bS:Option Addr) (cw:Nat) (cG:Option Addr) (dd:Nat) (cH:Option Addr) (de:Nat),σ_ 0=.slice aj p0.length am/\σ_ 1=.pointer (some ⟨an,0,none⟩)/\σ_ 4=.pointer (some ⟨ao,0,none⟩)/\σ_ 5=.pointer (some ⟨ap,0,none⟩)/\σ_ 9=jV (↑af:Int)/\σ_ 39=jV (↑p1.Squad.Classes.length:Int)/\σ_ 40=jV (↑af:Int)/\σ_ 53=.func (.func 201) #[] #[.pointer (some ⟨an,0,none⟩),.pointer (some ⟨ai,0,none⟩),.pointer (some ⟨ak,0,none⟩),.pointer (some ⟨ao,0,none⟩),.pointer (some ⟨ap,0,none⟩)]/\σ_ 54=.slice aj p0.length am/\σ_ 56=jV (↑af:Int)/\σ_ 57=.slice cG ([(↑af:Int)].length) dd/\σ_ 58=.slice cH bg.length de/\σ_ 59=.tuple #[]/\PHeap.Le bb U_/\SW w [B8,B7,B9] U U_ [.row bS cw 3 1 (nA KL.encI ci),.blk ai 22 [.slice bS ci.length cw],.blk ak 3 [jV fH],.row cG dd 3 1 (nA KL.encI [(↑af:Int)])] w_/\(ci=[]->bS=none)/\Sl U_ 1 cH de bg.length (nA KL.encI bg)) ?_ fun lJ=>?_
      ·rintro mM l5 ⟨fL,bS,cw,cG,dd,cH,de,gg,gh,gi,gj,mc,gm,gq,md,me,mg,mh,mi,mj,lL,jE,iF,mq⟩
       refine zg (zd (zF (rR fL2 Z (oR Z (zz (zY Z gq Z) (congrArg (jV) dx.out)) (oM Z Z (zg ?_))))))
       cases fk
       exact zF ⟨rfl,⟨fL,bS,cw,rfl,gg,gh,gi,gj,gm,((a7.trans a8).trans lL),(jE.pick [0,1,2] _ (by decide) rfl),iF⟩⟩
      refine ye (s:=.fx 6 .nil .stop) (M:=fun σ_ w_=>∃ (U_:PHeap) (bT:Option Addr) (bZ:Nat) (bU:Option Addr) (b4:Nat),σ_ 0=.slice aj p0.length am/\σ_ 1=.pointer (some ⟨an,0,none⟩)/\σ_ 4=.pointer (some ⟨ao,0,none⟩)/\σ_ 5=.pointer (some ⟨ap,0,none⟩)/\σ_ 9=jV (↑af:Int)/\σ_ 39=jV (↑p1.Squad.Classes.length:Int)/\σ_ 40=jV (↑af:Int)/\σ_ 53=.func (.func 201) #[] #[.pointer (some ⟨an,0,none⟩),.pointer (some ⟨ai,0,none⟩),.pointer (some ⟨ak,0,none⟩),.pointer (some ⟨ao,0,none⟩),.pointer (some ⟨ap,0,none⟩)]/\σ_ 54=.slice aj p0.length am/\σ_ 56=jV (↑af:Int)/\σ_ 57=.slice bT ([(↑af:Int)].length) bZ/\σ_ 58=.slice bU bg.length b4/\PHeap.Le bb U_/\SW w [B8,B7,B9] U U_ [aw,ax,ay,.row bT bZ 3 1 (nA KL.encI [(↑af:Int)]),.row bU b4 3 1 (nA KL.encI bg)] w_) ?_ fun fy=>?_
      ·rintro mN cX ⟨l4,bT,bZ,bU,b4,gr,gu,gv,gw,gx,gy,gz,ep,gA,gC,gD,eu,bM,jH⟩
       have q:=jH.freezeR (k:=4) (n:=bg.length) rfl (wAC (f:=KL.encI) (sz:=1) (fun _=>rfl) bg) (by decide)
       obtain ⟨cS,bN,fw,jI⟩:=q
       let cN:Res:=.row bT bZ 3 1 (nA KL.encI [(↑af:Int)])
       have jJ:SW w [B8,B7,B9] U cS [aw,ax,ay,cN] cX:=jI
       have iG:=eW.le a8
       have iH:=iG.le bM
       have iI:=iH.le bN
       have iJ:=eX.le a8
       have iK:=iJ.le bM
       have iL:=iK.le bN
       have iM:=eY.le a8
       have iO:=iM.le bM
       have iP:=iO.le bN
       have iQ:=eZ.le a8
       have iR:=iQ.le bM
       have iS:=iR.le bN
       have iT:=eV.le a8
       have iU:=iT.le bM
       have iV:=iU.le bN
       have iW:=bK.le a7
       have iX:=iW.le a8
       have iY:=iX.le bM
       have iZ:=iY.le bN
       have jK:SW w [B8,B7,B9] U cS [ax,aw,ay,cN] cX:=jJ.pick [1,0,2,3] _ (by decide) rfl
       refine zP 3 Z Z Z Z (zQ Z ep Tryz.call201 (zH eu zZ) Z) jK (fun hs=>ih bg bU b4 p1 an bx bA bH bI bz bC bL ai bs bE cD ak p4 ao () ap cX cS hs fw iI iL iP iS dq iV iZ iB) (.inl Z) ?_
       rintro dN lV mA fT fD jL ⟨cI,dg,rfl,rfl,i4⟩
       have jM:SW w [B8,B7,B9] U dN [.row cI dg 3 1 (nA KL.encI ci),.blk ai 22 [.slice cI ci.length dg],.blk ak 3 [jV fH],cN] fT:=jL
       have i6:=fw.le fD
       exact lJ _ _ ⟨dN,cI,dg,bT,bZ,bU,b4,gr,gu,gv,gw,gx,gy,gz,ep,gA,gC,gD,eu,Z,((bM.trans bN).trans fD),jM,i4,i6⟩
      refine ye (s:=gCb) (M:=fun σ_ w_=>∃ (U_:PHeap) (cm:Option Addr) (cx:Nat) (co:Option Addr) (cy:Nat),σ_ 0=.slice aj p0.length am/\σ_ 1=.pointer (some ⟨an,0,none⟩)/\σ_ 4=.pointer (some ⟨ao,0,none⟩)/\σ_ 5=.pointer (some ⟨ap,0,none⟩)/\σ_ 9=jV (↑af:Int)/\σ_ 39=jV (↑p1.Squad.Classes.length:Int)/\σ_ 40=jV (↑af:Int)/\σ_ 54=.slice aj p0.length am/\σ_ 56=jV (↑af:Int)/\σ_ 57=.slice cm ([(↑af:Int)].length) cx/\σ_ 58=.slice co bg.length cy/\PHeap.Le bb U_/\SW w [B8,B7,B9] U U_ [aw,ax,ay,.row cm cx 3 1 (nA KL.encI [(↑af:Int)]),.row co cy 3 1 (nA KL.encI bg)] w_) ?_ fun lK=>?_
      ·rintro mO l6 ⟨fM,cm,cx,co,cy,gE,gG,gH,eA,gI,gJ,gK,gL,gM,gN,gO,fE,fe⟩
       have i7:=bK.le a7
       have i8:=i7.le a8
       have i9:=i8.le fE
       exact OKS.mx2 Z Z Z Z (fe.ldC (f:=0) i9 (v:=.func (.func 201) #[] #[.pointer (some ⟨an,0,none⟩),.pointer (some ⟨ai,0,none⟩),.pointer (some ⟨ak,0,none⟩),.pointer (some ⟨ao,0,none⟩),.pointer (some ⟨ap,0,none⟩)]) Z eA Tryz.isAgg346 Z) (fy _ _ ⟨fM,cm,cx,co,cy,gE,gG,gH,eA,gI,gJ,gK,Z,gL,gM,gN,gO,fE,fe⟩)
      refine ye (s:=gCa) (M:=fun σ_ w_=>∃ (U_:PHeap) (cJ:Option Addr) (dh:Nat) (bV:Option Addr) (ca:Nat),σ_ 0=.slice aj p0.length am/\σ_ 1=.pointer (some ⟨an,0,none⟩)/\σ_ 4=.pointer (some ⟨ao,0,none⟩)/\σ_ 5=.pointer (some ⟨ap,0,none⟩)/\σ_ 9=jV (↑af:Int)/\σ_ 39=jV (↑p1.Squad.Classes.length:Int)/\σ_ 40=jV (↑af:Int)/\σ_ 53=.func (.func 201) #[] #[.pointer (some ⟨an,0,none⟩),.pointer (some ⟨ai,0,none⟩),.pointer (some ⟨ak,0,none⟩),.pointer (some ⟨ao,0,none⟩),.pointer (some ⟨ap,0,none⟩)]/\σ_ 54=.slice aj p0.length am/\σ_ 55=.slice cJ bj.length dh/\σ_ 56=jV (↑af:Int)/\σ_ 57=.slice bV ([(↑af:Int)].length) ca/\PHeap.Le bb U_/\SW w [B8,B7,B9] U U_ [aw,ax,ay,.row cJ dh 3 1 (nA KL.encI bj),.row bV ca 3 1 (nA KL.encI [(↑af:Int)])] w_) ?_ fun dB=>?_
      ·rintro mP l7 ⟨dO,cJ,dh,bV,ca,gP,gQ,gR,gS,gT,gU,gV,gW,gY,gZ,g6,eB,lM,ff⟩
       refine yE (j:=3) (enc:=KL.encI) (xs:=bj) (ys:=[(↑af:Int)]) (zs:=bg) rfl rfl rfl rfl rfl Zy wFN rfl rfl rfl rfl rfl rfl ff rfl gZ eB (ff.srcR (j:=4) rfl (by decide) (wAC (f:=KL.encI) (sz:=1) (fun _=>rfl) [(↑af:Int)])) (fun _=>rfl) (fun _=>rfl) fc rfl ?_
       intro dF dZ fV jN
       have jO:SW w [B8,B7,B9] U dO [aw,ax,ay,.row dF dZ 3 1 (nA KL.encI bg),.row bV ca 3 1 (nA KL.encI [(↑af:Int)])] fV:=jN
       exact fy _ _ ⟨dO,bV,ca,dF,dZ,gP,gQ,gR,gS,gT,gU,gV,gW,gY,g6,eB,rfl,lM,(jO.pick [0,1,2,4,3] _ (by decide) rfl)⟩
      refine ye (s:=gCq) (M:=fun σ_ w_=>∃ (U_:PHeap) (cp:Option Addr) (cz:Nat) (bP:Option Addr) (bQ:Nat),σ_ 0=.slice aj p0.length am/\σ_ 1=.pointer (some ⟨an,0,none⟩)/\σ_ 4=.pointer (some ⟨ao,0,none⟩)/\σ_ 5=.pointer (some ⟨ap,0,none⟩)/\σ_ 9=jV (↑af:Int)/\σ_ 39=jV (↑p1.Squad.Classes.length:Int)/\σ_ 40=jV (↑af:Int)/\σ_ 54=.slice aj p0.length am/\σ_ 55=.slice cp bj.length cz/\σ_ 56=jV (↑af:Int)/\σ_ 57=.slice bP ([(↑af:Int)].length) bQ/\PHeap.Le bb U_/\SW w [B8,B7,B9] U U_ [aw,ax,ay,.row cp cz 3 1 (nA KL.encI bj),.row bP bQ 3 1 (nA KL.encI [(↑af:Int)])] w_) ?_ fun fz=>?_
      ·rintro mQ l8 ⟨cU,cp,cz,bP,bQ,eC,eD,eG,dn,eH,eI,eJ,eK,eM,eP,dp,dC,cC⟩
       refine yU ?_ ?_
       ·have ja:=bK.le a7
        have jb:=ja.le a8
        have jc:=jb.le dC
        exact OKS.mx2 Z Z Z Z (cC.ldC (f:=0) jc (v:=.func (.func 201) #[] #[.pointer (some ⟨an,0,none⟩),.pointer (some ⟨ai,0,none⟩),.pointer (some ⟨ak,0,none⟩),.pointer (some ⟨ao,0,none⟩),.pointer (some ⟨ap,0,none⟩)]) Z dn Tryz.isAgg346 Z) (dB _ _ ⟨cU,cp,cz,bP,bQ,eC,eD,eG,dn,eH,eI,eJ,Z,eK,eM,eP,dp,dC,cC⟩)
       ·refine yE (j:=3) (enc:=KL.encI) (xs:=bj) (ys:=[(↑af:Int)]) (zs:=bg) rfl rfl rfl rfl rfl Zy wFN rfl rfl rfl rfl rfl rfl cC rfl eM dp (cC.srcR (j:=4) rfl (by decide) (wAC (f:=KL.encI) (sz:=1) (fun _=>rfl) [(↑af:Int)])) (fun _=>rfl) (fun _=>rfl) fc rfl ?_
        intro dG d6 fW jQ
        have jR:SW w [B8,B7,B9] U cU [aw,ax,ay,.row dG d6 3 1 (nA KL.encI bg),.row bP bQ 3 1 (nA KL.encI [(↑af:Int)])] fW:=jQ
        exact lK _ _ ⟨cU,bP,bQ,dG,d6,eC,eD,eG,dn,eH,eI,eJ,eK,eP,dp,rfl,dC,(jR.pick [0,1,2,4,3] _ (by decide) rfl)⟩
      refine ye (s:=gCk) (M:=fun σ_ w_=>∃ (U_:PHeap) (bW:Option Addr) (cc:Nat),σ_ 0=.slice aj p0.length am/\σ_ 1=.pointer (some ⟨an,0,none⟩)/\σ_ 4=.pointer (some ⟨ao,0,none⟩)/\σ_ 5=.pointer (some ⟨ap,0,none⟩)/\σ_ 9=jV (↑af:Int)/\σ_ 39=jV (↑p1.Squad.Classes.length:Int)/\σ_ 40=jV (↑af:Int)/\σ_ 53=.func (.func 201) #[] #[.pointer (some ⟨an,0,none⟩),.pointer (some ⟨ai,0,none⟩),.pointer (some ⟨ak,0,none⟩),.pointer (some ⟨ao,0,none⟩),.pointer (some ⟨ap,0,none⟩)]/\σ_ 54=.slice aj p0.length am/\σ_ 56=jV (↑af:Int)/\σ_ 57=.slice bW ([(↑af:Int)].length) cc/\PHeap.Le bb U_/\SW w [B8,B7,B9] U U_ [aw,ax,ay,.row bW cc 3 1 (nA KL.encI [(↑af:Int)])] w_) ?_ fun fA=>?_
      ·rintro mR fY ⟨fN,bW,cc,g7,g8,g9,ib,ic,ie,ig,ii,eQ,ij,ik,fG,jT⟩
       have jd:=bF.le a7
       have jf:=jd.le a8
       have jg:=jf.le fG
       refine zP 0 Z Z Z Z (zQ Z Z Tryz.call165 (zH eQ zZ) Z) jT (fun hs=>wBV p0 aj am fY fN hs jg cA) (.inr Z) ?_
       rintro dP lY mC fZ lN jU ⟨dH,d7,rfl,rfl⟩
       have jW:SW w [B8,B7,B9] U dP [.row dH d7 3 1 (nA KL.encI bj),aw,ax,ay,.row bW cc 3 1 (nA KL.encI [(↑af:Int)])] fZ:=jU
       exact dB _ _ ⟨dP,dH,d7,bW,cc,g7,g8,g9,ib,ic,ie,ig,ii,eQ,rfl,ij,ik,(fG.trans lN),(jW.pick [1,2,3,0,4] _ (by decide) rfl)⟩
      refine ye (s:=gCj) (M:=fun σ_ w_=>∃ (U_:PHeap) (bX:Option Addr) (cd:Nat),σ_ 0=.slice aj p0.length am/\σ_ 1=.pointer (some ⟨an,0,none⟩)/\σ_ 4=.pointer (some ⟨ao,0,none⟩)/\σ_ 5=.pointer (some ⟨ap,0,none⟩)/\σ_ 9=jV (↑af:Int)/\σ_ 39=jV (↑p1.Squad.Classes.length:Int)/\σ_ 40=jV (↑af:Int)/\σ_ 53=.func (.func 201) #[] #[.pointer (some ⟨an,0,none⟩),.pointer (some ⟨ai,0,none⟩),.pointer (some ⟨ak,0,none⟩),.pointer (some ⟨ao,0,none⟩),.pointer (some ⟨ap,0,none⟩)]/\σ_ 54=.slice aj p0.length am/\σ_ 55=.slice bX bj.length cd/\σ_ 56=jV (↑af:Int)/\PHeap.Le bb U_/\SW w [B8,B7,B9] U U_ [aw,ax,ay,.row bX cd 3 1 (nA KL.encI bj)] w_) ?_ fun fB=>?_
      ·rintro mS ma ⟨dQ,bX,cd,il,im,io,ip,iq,ir,it,iu,iv,iw,eS,lO,jX⟩
       refine zk (pv:=[(0,jV (↑af:Int))]) (zs:=[jV 0]) (cs:=[jV (↑af:Int)]) Z Z Z Z Z (wAA eS wAO) zA zC ZM Z Z Z Z Z jX ?_
       intro f4 dV jZ
       have j5:SW w [B8,B7,B9] U dQ [.row (some ⟨dV,0,none⟩) 1 3 1 (nA KL.encI [(↑af:Int)]),aw,ax,ay,.row bX cd 3 1 (nA KL.encI bj)] f4:=jZ
       exact dB _ _ ⟨dQ,bX,cd,(some ⟨dV,0,none⟩),1,il,im,io,ip,iq,ir,it,iu,iv,iw,eS,rfl,lO,(j5.pick [1,2,3,4,0] _ (by decide) rfl)⟩
      refine oM Z bp (oM Z Z (yU ?_ ?_))
      ·have jh:=bK.le a7
       have ji:=jh.le a8
       refine OKS.mx2 Z Z Z Z (bR.ldC (f:=0) ji (v:=.func (.func 201) #[] #[.pointer (some ⟨an,0,none⟩),.pointer (some ⟨ai,0,none⟩),.pointer (some ⟨ak,0,none⟩),.pointer (some ⟨ao,0,none⟩),.pointer (some ⟨ap,0,none⟩)]) Z bn Tryz.isAgg346 Z) (yU ?_ ?_)
       ·have jj:=bF.le a7
        have jk:=jj.le a8
        refine zP 0 Z Z Z Z (zQ Z Z Tryz.call165 (zH Z zZ) Z) bR (fun hs=>wBV p0 aj am dT bb hs jk cA) (.inr Z) ?_
        rintro dR lZ mD f7 lP j6 ⟨dI,d8,rfl,rfl⟩
        have j7:SW w [B8,B7,B9] U dR [.row dI d8 3 1 (nA KL.encI bj),aw,ax,ay] f7:=j6
        exact fB _ _ ⟨dR,dI,d8,bp,bu,bv,bn,rfl,bw,br,rfl,rfl,rfl,rfl,lP,(j7.pick [1,2,3,0] _ (by decide) rfl)⟩
       ·refine zk (pv:=[(0,jV (↑af:Int))]) (zs:=[jV 0]) (cs:=[jV (↑af:Int)]) Z Z Z Z Z (wAA Z wAO) zA zC ZM Z Z Z Z Z bR ?_
        intro f8 dW j9
        have k6:SW w [B8,B7,B9] U bb [.row (some ⟨dW,0,none⟩) 1 3 1 (nA KL.encI [(↑af:Int)]),aw,ax,ay] f8:=j9
        exact fA _ _ ⟨bb,(some ⟨dW,0,none⟩),1,bp,bu,bv,bn,rfl,bw,br,rfl,rfl,rfl,rfl,(zN _),(k6.pick [1,2,3,0] _ (by decide) rfl)⟩
      refine yU ?_ ?_
      ·have jl:=bF.le a7
       have jm:=jl.le a8
       refine zP 0 Z Z Z Z (zQ Z Z Tryz.call165 (zH Z zZ) Z) bR (fun hs=>wBV p0 aj am dT bb hs jm cA) (.inr Z) ?_
       rintro cu l0 mE f9 dD k9 ⟨cL,dm,rfl,rfl⟩
       let dK:Res:=.row cL dm 3 1 (nA KL.encI bj)
       have dr:SW w [B8,B7,B9] U cu [dK,aw,ax,ay] f9:=k9
       refine yU ?_ ?_
       ·have jo:=bK.le a7
        have jp:=jo.le a8
        have jq:=jp.le dD
        exact OKS.mx2 rfl rfl rfl rfl (dr.ldC (f:=0) jq (v:=.func (.func 201) #[] #[.pointer (some ⟨an,0,none⟩),.pointer (some ⟨ai,0,none⟩),.pointer (some ⟨ak,0,none⟩),.pointer (some ⟨ao,0,none⟩),.pointer (some ⟨ap,0,none⟩)]) rfl bn Tryz.isAgg346 rfl) (fB _ _ ⟨cu,cL,dm,bp,bu,bv,bn,rfl,bw,br,rfl,rfl,rfl,rfl,dD,(dr.pick [1,2,3,0] _ (by decide) rfl)⟩)
       ·refine zk (pv:=[(0,jV (↑af:Int))]) (zs:=[jV 0]) (cs:=[jV (↑af:Int)]) Z Z Z Z Z (wAA Z wAO) zA zC ZM Z Z Z Z Z dr ?_
        intro gb dX lb
        have lc:SW w [B8,B7,B9] U cu [.row (some ⟨dX,0,none⟩) 1 3 1 (nA KL.encI [(↑af:Int)]),dK,aw,ax,ay] gb:=lb
        exact fz _ _ ⟨cu,cL,dm,(some ⟨dX,0,none⟩),1,bp,bu,bv,bn,rfl,bw,br,rfl,rfl,rfl,rfl,dD,(lc.pick [2,3,4,1,0] _ (by decide) rfl)⟩
      ·refine zk (pv:=[(0,jV (↑af:Int))]) (zs:=[jV 0]) (cs:=[jV (↑af:Int)]) Z Z Z Z Z (wAA Z wAO) zA zC ZM Z Z Z Z Z bR ?_
       intro dU cY lg
       let dL:Res:=.row (some ⟨cY,0,none⟩) 1 3 1 (nA KL.encI [(↑af:Int)])
       have dt:SW w [B8,B7,B9] U bb [dL,aw,ax,ay] dU:=lg
       refine yU ?_ ?_
       ·have jr:=bK.le a7
        have jt:=jr.le a8
        exact OKS.mx2 rfl rfl rfl rfl (dt.ldC (f:=0) jt (v:=.func (.func 201) #[] #[.pointer (some ⟨an,0,none⟩),.pointer (some ⟨ai,0,none⟩),.pointer (some ⟨ak,0,none⟩),.pointer (some ⟨ao,0,none⟩),.pointer (some ⟨ap,0,none⟩)]) rfl bn Tryz.isAgg346 rfl) (fA _ _ ⟨bb,(some ⟨cY,0,none⟩),1,bp,bu,bv,bn,rfl,bw,br,rfl,rfl,rfl,rfl,(zN _),(dt.pick [1,2,3,0] _ (by decide) rfl)⟩)
       ·have ju:=bF.le a7
        have jv:=ju.le a8
        refine zP 0 Z Z Z Z (zQ Z Z Tryz.call165 (zH Z zZ) Z) dt (fun hs=>wBV p0 aj am dU bb hs jv cA) (.inr Z) ?_
        rintro dS l3 mF gc lQ lh ⟨dJ,d9,rfl,rfl⟩
        have li:SW w [B8,B7,B9] U dS [.row dJ d9 3 1 (nA KL.encI bj),dL,aw,ax,ay] gc:=lh
        exact fz _ _ ⟨dS,dJ,d9,(some ⟨cY,0,none⟩),1,bp,bu,bv,bn,rfl,bw,br,rfl,rfl,rfl,rfl,lQ,(li.pick [2,3,4,0,1] _ (by decide) rfl)⟩
     ·intro cZ lI
      refine zn (congrArg nE (nG.2 cZ.out)) (ZO (zd (zF (rR fL2 Z (oR Z (zz (zY Z br Z) (congrArg (jV) dx.out)) (oM Z Z (zg ?_)))))))
      cases lI
      exact zF ⟨Z,⟨bb,bs,bE,Z,bp,bu,bv,bn,bw,(a7.trans a8),fd,dq⟩⟩
   ·rintro mT mb ⟨fO,fK,ge,iy,ml,mm,mn,mp,ix,mw,lj,jw⟩
    have gf:Hid (¬ ((↑(((↑p1.Squad.Classes.length:Int):Int) - 0).toNat:Int) < (↑p1.Squad.Classes.length:Int))):=zI (wAc)
    refine sR fL1 Z (oR Z (zV Z iy ix) (eN (zG (cF Z gf (ZD (zb (zb (zr ?_))))))))
    cases fu
    exact ⟨Z,_,(wOp),fO,_,lj,fK,ge,Z,Z,jw⟩
theorem wEU (p0:wAt) (bb:Option Addr) (bf:Nat) (bd:Option Addr) (bg:Nat) (be:Option Addr) (bh:Nat) (p1:Int) (w:World) (U:PHeap) (hS:St0 w U []) (ct:Sl U 1 bb bf p0.Squad.Classes.length (nA KL.encI p0.Squad.Classes)) (cu:SlR U wDe bd bg p0.Squad.Times) (cw:Sl U 1 be bh p0.rules.Classes.length (nA KL.encI p0.rules.Classes)) {r:(List Int) × Int} (hm:wDR p0 p1=some r):Gv Tryz.prog 126 [.agg #[.slice bb p0.Squad.Classes.length bf,.slice bd p0.Squad.Times.length bg,.slice be p0.rules.Classes.length bh,jV p0.rules.Each,jV p0.rules.Laps,jV p0.rules.Spare,jV p0.rules.Loop,jV p0.rules.Unused],jV p1] w (wBp w [] U (fun U_ L_ v=>∃ (A0:Option Addr) (c0:Nat),v=.tuple #[.slice A0 r.1.length c0,jV r.2]/\L_=[.row A0 c0 3 1 (nA KL.encI r.1)]/\(r.1=[]->A0=none))):=by
 unfold wDR at hm
 refine Gv.of Tryz.func126 Z Tryz.ntmps126 Tryz.results126 Z (sR (.fx 0 gCi .stop) Z ?_)
 let B0:List Value:=[.slice bb p0.Squad.Classes.length bf,.slice bd p0.Squad.Times.length bg,.slice be p0.rules.Classes.length bh,jV p0.rules.Each,jV p0.rules.Laps,jV p0.rules.Spare,jV p0.rules.Loop,jV p0.rules.Unused]
 refine ZX (cs:=B0) rfl rfl rfl rfl rfl rfl (by rfl) hS ?_
 intro W1 b2 b4
 have q:=b4.freeze (k:=0) rfl
 obtain ⟨U5,bo,ap,cp⟩:=q
 replace ap:=Cl.of ap
 have cr:sW w U U5 [] W1:=cp
 replace ap:Cl U5 b2 0 B0:=ap
 refine ZX (cs:=[jV p1]) rfl rfl rfl rfl rfl rfl (by rfl) cr ?_
 intro bD ax bT
 have q:=bT.freeze (k:=0) rfl
 obtain ⟨aw,a8,an,bU⟩:=q
 replace an:=Cl.of an
 have bV:sW w U aw [] bD:=bU
 replace an:Cl aw ax 0 [jV p1]:=an
 refine oA Z Z (oA Z Z (eN (sR (.fx 0 .nil .stop) Z (ZB (cs:=[.slice none 0 0]) Z Z Z Z Z yz Z bV ?_))))
 intro cy ag bW
 refine eN (sR gBq Z (ZB (cs:=[jV 0]) Z Z Z Z Z ZM Z bW ?_))
 intro cz ak bX
 refine ZK (j:=0) (vs:=[jV 0]) Z Z Z Z bX Z Z Z Z zC (zJ Z) Z Z Z ?_
 intro bE bY
 let B1:Res:=.blk ak 3 [jV 0]
 let B2:Res:=.blk ag 22 [.slice none 0 0]
 have bZ:sW w U aw [B1,B2] bE:=bY
 refine eN (sR (.fx 0 .nil .stop) Z (ZB (cs:=[.nilFunc]) Z Z Z Z Z Tryz.zeroValue346 Z bZ ?_))
 intro cA am ca
 refine eN (sR gBu Z (oR Z (YN Z zZ (zH Z (zH Z (zH Z (zH Z (zH Z zZ)))))) ?_))
 let B3:List Value:=[.func (.func 201) #[] #[.pointer (some ⟨b2,0,none⟩),.pointer (some ⟨ag,0,none⟩),.pointer (some ⟨ak,0,none⟩),.pointer (some ⟨ax,0,none⟩),.pointer (some ⟨am,0,none⟩)]]
 refine ZK (j:=0) (vs:=B3) Z Z Z Z ca Z Z Z Z Tryz.sizeOf346 (zJ Z) Z Z Z ?_
 intro aj cc
 have bx:sW w U aw [.blk am 346 B3,B1,B2] aj:=cc
 refine eN (sR gBu Z (oL Z (bx.ldB (j:=0) Z Z Z Tryz.isAgg346 (v:=.func (.func 201) #[] #[.pointer (some ⟨b2,0,none⟩),.pointer (some ⟨ag,0,none⟩),.pointer (some ⟨ak,0,none⟩),.pointer (some ⟨ax,0,none⟩),.pointer (some ⟨am,0,none⟩)]) Z) ?_))
 have q:=bx.freeze (k:=0) rfl
 obtain ⟨ai,aq,ao,cd⟩:=q
 replace ao:=Cl.of ao
 have cg:sW w U ai [B1,B2] aj:=cd
 replace ao:Cl ai am 0 B3:=ao
 have ch:=cg.nilrow 3 1
 let B4:Res:=.row none 0 3 1 (nA KL.encI ([]:List Int))
 let B5:Res:=.blk ag 22 [.slice none (([]:List Int).length) 0]
 have ci:sW w U ai [B4,B1,B5] aj:=ch
 have bF:=ap.le a8
 have bG:=bF.le aq
 have bH:=ct.le bo
 have bI:=bH.le a8
 have bJ:=bI.le aq
 have bK:=cu.le bo
 have bL:=bK.le a8
 have bM:=bL.le aq
 have bN:=cw.le bo
 have bO:=bN.le a8
 have bP:=bO.le aq
 have bQ:=an.le aq
 have q:=bnd hm
 obtain ⟨⟨bp,bA⟩,bR,bz⟩:=q
 try dsimp only at bz
 have cj:sW w U ai [B5,B4,B1] aj:=ci.pick [2,0,1] _ (by decide) rfl
 refine zP 3 rfl rfl rfl rfl (zQ rfl rfl Tryz.call201 (zH rfl zZ) rfl) cj (fun hs=>wGk 1000 [] none 0 p0 b2 bb bf bd bg be bh ([]:List Int) ag none 0 0 ak p1 ax () am aj ai hs (by first | exact Sl.nil _ _ _ _ | exact SlR.nil) bG bJ bM bP (fun _=>rfl) bQ ao bR) (.inl rfl) ?_
 rintro bv cx cD bn cC cm ⟨av,az,rfl,rfl,bS⟩
 have co:sW w U bv [.row av az 3 1 (nA KL.encI bp),.blk ag 22 [.slice av bp.length az],.blk ak 3 [jV bA]] bn:=cm
 refine eN (zG (ZY ZQ [1,1,3,3] fL4 (by kernel_rfl) ?_))
 have a7:=co.drew
 generalize hw_W74:({ bn with drawn:=bn.drawn + 1 }:World)=cB at a7 ⊢
 refine oL Z (a7.ldB (j:=1) Z Z Z ze (v:=.slice av bp.length az) Z) (oL Z (a7.ldB (j:=2) Z Z Z zM (v:=jV bA) Z) (oA Z Z (oA Z Z (eN (zS ?_)))))
 cases bz
 exact ⟨rfl,_,(wFA rfl rfl),bv,_,(a7.pick [0] _ (by decide) rfl),av,az,rfl,rfl,bS⟩
theorem wKs (p0:wAE) (aj:Option Addr) (an:Nat) (p1:wCF) (ak:Option Addr) (ao:Nat) (am:Option Addr) (ap:Nat) (w:World) (U:PHeap) (hS:St0 w U []) (bj:Sl U 1 aj an p0.Classes.length (nA KL.encI p0.Classes)) (bm:Sl U 1 ak ao p1.Classes.length (nA KL.encI p1.Classes)) (bn:SlR U wDe am ap p1.Times) {r:(List Int) × Int × Int} (hm:wGZ p0 p1=some r):Gv Tryz.prog 48 [.agg #[.slice aj p0.Classes.length an,jV p0.Each,jV p0.Laps,jV p0.Spare,jV p0.Loop,jV p0.Unused],.agg #[.slice ak p1.Classes.length ao,.slice am p1.Times.length ap]] w (wBp w [] U (fun U_ L_ v=>∃ (A0:Option Addr) (c0:Nat),v=.tuple #[.slice A0 r.1.length c0,jV r.2.1,jV r.2.2]/\L_=[.row A0 c0 3 1 (nA KL.encI r.1)])):=by
 unfold wGZ at hm
 refine Gv.of Tryz.func48 Z Tryz.ntmps48 Tryz.results48 Z (sR (.fx 0 (.fx 1 (wMM (.nil)) .stop) .stop) Z ?_)
 let B0:List Value:=[.slice aj p0.Classes.length an,jV p0.Each,jV p0.Laps,jV p0.Spare,jV p0.Loop,jV p0.Unused]
 refine ZX (cs:=B0) rfl rfl rfl rfl rfl rfl (by rfl) hS ?_
 intro W1 b2 bC
 let B1:List Value:=[.slice ak p1.Classes.length ao,.slice am p1.Times.length ap]
 refine ZX (cs:=B1) rfl rfl rfl rfl rfl rfl (by rfl) bC ?_
 intro W5 b6 a8
 refine oA Z Z (oA Z Z (oA Z Z (eN (zG (sR gCl Z (oL Z (a8.ldBA (j:=1) Z Z Z yR ZZ (vs:=B0) Z Z) (oL Z (a8.ldBA (j:=0) Z Z Z Tryz.isAgg93 YB (vs:=B1) Z Z) (bnK hm fun x9 bs bG=>zP 0 Z Z Z Z (zQ Z Z Tryz.call40 (zH Z (zH Z zZ)) Z) a8 (fun hs=>wEb p0 aj an p1 ak ao am ap W5 U hs bj bm bn bs) (.inr Z) ?_))))))))
 rintro av bM bQ bf bb bA ⟨rfl,rfl⟩
 have au:sW w U av [.blk b6 93 B1,.blk b2 24 B0] bf:=bA
 refine oA Z Z (eN (sR fL2 Z (oM Z Z (oR Z (ZU Z Z Z) (eN (ifc bG ?_ ?_))))))
 intro ax bH
 refine zn (zo (fun h=>h ax.out)) (kN (sR (wDw (.fx 3 (fC4_8 (.nil)) .stop)) Z (oL Z (au.ldBA (j:=0) Z Z Z Tryz.isAgg93 YB (vs:=B1) Z Z) (oL Z (au.ldBA (j:=1) Z Z Z yR ZZ (vs:=B0) Z Z) (oR Z (ZT (pv:=[(0,.agg B1.toArray),(1,.agg B0.toArray)]) (z:=[.slice none 0 0,.slice none 0 0,.slice none 0 0,jV 0,jV 0,jV 0,jV 0,jV 0]) (cs:=[.slice ak p1.Classes.length ao,.slice am p1.Times.length ap,.slice aj p0.Classes.length an,jV p0.Each,jV p0.Laps,jV p0.Spare,jV p0.Loop,jV p0.Unused]) Z (wAA Z (wAA Z wAO)) Tryz.zeroValue249 wJL Z Z) ?_)))))
 have bt:=bm.le bb
 have bu:=bn.le bb
 have bv:=bj.le bb
 have q:=bnd bH
 obtain ⟨⟨bd,bL⟩,bw,bo⟩:=q
 try dsimp only at bo
 refine zP 0 Z Z Z Z (zQ Z Z Tryz.call126 (zH Z (zH Z zZ)) Z) au (fun hs=>wEU (⟨p1,p0⟩:wAt) ak ao am ap aj an (-1) bf av hs bt bu bv bw) (.inr Z) ?_
 rintro aw bN bR bp bP bD ⟨aq,ay,rfl,rfl,bx⟩
 have a7:sW w U aw [.row aq ay 3 1 (nA KL.encI bd),.blk b6 93 B1,.blk b2 24 B0] bp:=bD
 refine oM Z Z (oR Z (ZF Z Z (v:=.slice aq bd.length ay) Z) (oR Z (ZF Z Z (v:=jV bL) Z) (oA Z Z (oA Z Z (eN (zG (sR fL2 Z (oM Z Z ?_))))))))
 have bz:aq.isNone=decide (bd=[]):=wLd (j:=0) a7 rfl (fun _=>rfl) (by decide) bx
 refine oR Z (Runs.eqNilR Z Z Z zA bz) (eN (ifc bo ?_ ?_))
 intro az bI
 refine cT Z az (sR fL3 Z (oA Z Z (oA Z Z (oA Z Z (eN (zS (zK ?_)))))))
 have bE:=a7.nilrow 3 1
 cases bI
 exact ⟨rfl,_,(res3 rfl rfl rfl),aw,_,(bE.pick [0] _ (by decide) rfl),none,0,rfl,rfl⟩
 intro az bJ
 refine cF Z az (kN (sR fL5 Z (oM Z Z (oM Z Z (oA Z Z (oA Z Z (oA Z Z (eN (zS ?_)))))))))
 cases bJ
 exact ⟨rfl,_,(res3 rfl rfl rfl),aw,_,(a7.pick [0] _ (by decide) rfl),aq,ay,rfl,rfl⟩
 intro ax bK
 refine cT Z ax (sR fL4 Z (oM Z Z (oA Z Z (oA Z Z (oA Z Z (eN (zS (zK ?_))))))))
 have bF:=au.nilrow 3 1
 cases bK
 exact ⟨rfl,_,(res3 rfl rfl rfl),av,_,(bF.pick [0] _ (by decide) rfl),none,0,rfl,rfl⟩
theorem wGS (p0:Int) (w:World) (U:PHeap) (hS:St0 w U [])  {r:Bool} (hm:wCh p0=some r):Gv Tryz.prog 122 [jV p0] w (wBp w [] U (fun U_ L_ v=>v=.bool r/\L_=[])):=by
 unfold wCh at hm
 refine Gv.of Tryz.func122 Z Tryz.ntmps122 Tryz.results122 Z (sR fL1 Z (oA Z Z (eN (sR gCc Z (oM Z Z (bnK hm fun x1 h2 am=>zP 0 Z Z Z Z (zQ Z Z ym (zH Z (zH Z (zH Z zZ))) Z) hS (fun hs=>wDC p0 (-1000000) 1000000 w U hs h2) (.inr Z) ?_))))))
 rintro U4 L5 v6 W7 ao ak ⟨rfl,rfl⟩
 have aj:sW w U U4 [] W7:=ak
 refine oA Z Z (eN (zS ?_))
 have hE:=nD am;first | subst r | cases hE
 exact ⟨Z,_,(zw Z),U4,_,aj,Z,Z⟩
end Go.Proofs.YtabadkdjndnliaaGreat
