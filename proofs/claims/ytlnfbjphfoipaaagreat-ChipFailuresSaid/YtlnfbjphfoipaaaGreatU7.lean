import Derived.Test.YtlnfbjphfoipaaaGreatU5
import Derived.Test.YtlnfbjphfoipaaaGreatU4
import Derived.Test.YtlnfbjphfoipaaaGreatU6
set_option linter.all false
open List renaming flatMap->hD,length_set->nD,getElem_cons_succ->nE,getElem_cons_zero->nH,set->nI,getElem_toArray->nJ
open Go.Value renaming bool->hH
open Bool renaming eq_false_iff->nA
open Option.some renaming inj->nB
namespace Go.Proofs.YtlnfbjphfoipaaaGreat
open Go.KL
def gDp:Sch:=.fx 1 (.fx 2 .nil .stop) .stop
def gDq:Sch:=.fl 0 (.fx 1 .nil .stop)
def gDr:Sch:=.fx 3 (.fl 4 .nil) .stop
def gDs:Sch:=.fx 14 (.fl 15 .nil) .stop
def gDt:Sch:=.fx 0 (.fl 1 .nil) .stop
def gDu:Sch:=.fx 0 (.fx 1 .nil .stop) .stop
def gDv:Sch:=.fx 0 (.fl 1 (.fl 2 .nil)) .stop
def gDw:Sch:=.fl 0 (.fx 1 (.fl 2 .nil) .stop)
def gDx:Sch:=.fx 11 (.fx 12 (.fl 13 .nil) .stop) .stop
def gDy:Sch:=.fx 6 (.fx 7 (.fl 8 .nil) .stop) .stop
def gDz:Sch:=.fx 5 (.fl 6 (.fx 8 .nil .stop)) .stop
def gEa:Sch:=.fx 6 (.fx 7 (.fl 8 (.fl 9 .nil)) .stop) .stop
def gEb:Sch:=.fl 0 (.fl 1 (.fx 2 (.fl 3 .nil) .stop))
def gEc:Sch:=.fx 10 gDx .stop
def gEd:Sch:=.fx 9 gDx .stop
def gEe:Sch:=.fx 3 (.fx 4 (.fl 5 (.fx 6 .nil .stop)) .stop) .stop
def gEf:Sch:=.fl 0 (.fl 1 (.fx 2 (.fx 3 .nil .stop) .stop))
def gEg:Sch:=.fl 0 (.fl 1 (.fx 2 gDr .stop))
set_option maxHeartbeats 4000000
theorem wDS (O:List wAN) (an:Option Addr) (ap:Nat) (p1:List wAN) (ao:Option Addr) (aq:Nat) (w:World) (U:PHeap) (hS:St0 w U []) (a6:Sl U 2 an ap O.length (hD wAC O)) (a7:Sl U 2 ao aq p1.length (hD wAC p1)) {r:Bool} (hm:wBH O p1=some r):Gv Tryz.prog 44 [.slice an O.length ap,.slice ao p1.length aq] w (wCF w [] U (fun U_ L_ v=>v=.bool r/\L_=[])):=by
 unfold wBH at hm
 refine Gv.of Tryz.func44 Z Tryz.ntmps44 Tryz.results44 Z (sR fL1 Z (oA Z Z (eN (zJ (sR fL5 Z (oM Z Z (oR Z (zi Z Z ZG) (oM Z Z (oR Z (zi Z Z ZG) (oR Z (Zb Z Z Z) (eN ?_)))))))))))
 by_cases c1:(↑O.length:Int)=(↑p1.length:Int)
 have af:=hm;rw [if_pos c1] at af;replace c1:=zM c1
 refine zr (ZL (fun h=>h c1.out)) (kN (zJ (sR fL3 Z (oM Z Z (oR Z (zi Z Z ZG) (oM Z Z (eN (zX ?_))))))))
 have q:=wCT af
 obtain ⟨r5,ai⟩:=q
 have q:=wCS ai
 obtain ⟨ak,ba⟩:=q
 replace ak:=zM ak
 refine ya (fun k4 _ J_ w_=>∃ (U_:PHeap),J_ 13=jV (↑k4:Int)/\J_ 0=.slice an O.length ap/\J_ 1=.slice ao p1.length aq/\J_ 12=jV (↑O.length:Int)/\PHeap.Le U U_/\sW w U U_ [] w_) ba ?_ ?_ ?_
 exact ⟨U,Z,Z,Z,Z,(zQ _),hS⟩
 rintro k4 ⟨⟩ bv J9 ay aj ⟨ax,ah,aH,aI,aJ,am,a0⟩ aO a8
 try dsimp only at aO
 have az:Hid ((↑k4:Int) < (↑O.length:Int)):=zM (wBQ aj)
 replace aj:=zM aj
 have bb:Hid (w64 ((↑k4:Int) + 1)=(↑(k4 + 1):Int)):=zM (by have h1:=ak.out;have h2:=az.out;rw [wAY] <;> omega)
 refine sR fL1 rfl (zg rfl rfl rfl rfl (fun _=>ze rfl ah aJ) (eN (zJ (cT Z az (kN (zJ (zX (sR fL2 rfl (ZE rfl rfl rfl rfl rfl ah (yY rfl rfl rfl rfl rfl rfl (eN (zJ (ZI ZD [3,3,3,1,3,3,3,1,3] fL9 (by kernel_rfl) ?_)))))))))))))
 have ac:=a0.drew
 generalize hw_W25:({ ay with drawn:=ay.drawn + 1 }:World)=bk at ac ⊢
 refine oM Z aH (oM Z Z (bnK aO fun au aK bc=>?_))
 have aU:=a6.le am
 have q:=aU.el (fun _=>rfl) (wAb aK)
 obtain ⟨bn,bs,aW,aY⟩:=q
 refine oR Z (ZZ Z Z aW Z ZG zm (wCc aK)) (oL Z (ac.ldCA (f:=0) aY Z Z Zu zm (us:=[jV au.Lo,jV au.Hi]) Z Z) (oM Z aI (oM Z Z (bnK bc fun av aL bd=>?_))))
 have aV:=a7.le am
 have q:=aV.el (fun _=>rfl) (wAb aL)
 obtain ⟨bo,bt,aX,aZ⟩:=q
 refine oR Z (ZZ Z Z aX Z ZG zm (wCc aL)) (oL Z (ac.ldCA (f:=0) aZ Z Z Zu zm (us:=[jV av.Lo,jV av.Hi]) Z Z) (oR Z (ZP (Runs.neS (enc:=wAC) (a:=au) (b:=av) Z Z Z wMG wMF) (congrArg hH (decide_not).symm)) (eN (ifc bd ?_ ?_))))
 intro ag be
 refine zr (ZL (fun h=>h ag.out)) (Ze (zl (zF (rR fL2 Z (oR Z (ZP (za Z ah Z) (congrArg (jV) bb.out)) (oM Z Z (zb ?_)))))))
 have q:=nB be
 obtain rfl:=q
 exact zF ⟨Z,_,Z,⟨ax,Z,aH,aI,aJ,am,ac⟩⟩
 intro ag bf
 refine cT Z ag (sR fL1 Z (oA Z Z (eN (zR (zo (zT ?_))))))
 have q:=wAV bf
 obtain ⟨bh,bg,aR⟩:=q
 have q:=wCY af ai (a8 bh aR)
 obtain rfl:=q
 refine zT (zo (zT ?_))
 have hE:=nB bg;first | subst r | cases hE
 exact ⟨Z,_,(ZH Z),ax,_,ac,Z,Z⟩
 rintro ⟨⟩ bi bm ⟨aP,aT,bp,bq,aS,br,a5⟩ a9
 have aM:=wDQ af ai a9
 try dsimp only at aM
 have aQ:Hid (¬ ((↑(((↑O.length:Int):Int) - 0).toNat:Int) < (↑O.length:Int))):=zM (wAq)
 refine sR fL1 Z (oR Z (ze Z aT aS) (eN (zJ (cF Z aQ (ZS (zf (zf (ZN (zF (sR fL1 Z (oA Z Z (eN (zR ?_)))))))))))))
 have hE:=nB aM;first | subst r | cases hE
 exact ⟨Z,_,(ZH Z),aP,_,a5,Z,Z⟩
 have aN:=hm;rw [if_neg c1] at aN;replace c1:=zM c1
 refine cT Z c1 (sR fL1 Z (oA Z Z (eN (zR (zT ?_)))))
 have hE:=nB aN;first | subst r | cases hE
 exact ⟨Z,_,(ZH Z),U,_,hS,Z,Z⟩
theorem wES (O:List wAL) (an:Option Addr) (ap:Nat) (p1:List wAL) (ao:Option Addr) (aq:Nat) (w:World) (U:PHeap) (hS:St0 w U []) (a6:Sl U 2 an ap O.length (hD wAT O)) (a7:Sl U 2 ao aq p1.length (hD wAT p1)) {r:Bool} (hm:wCO O p1=some r):Gv Tryz.prog 58 [.slice an O.length ap,.slice ao p1.length aq] w (wCF w [] U (fun U_ L_ v=>v=.bool r/\L_=[])):=by
 unfold wCO at hm
 refine Gv.of Tryz.func58 Z Tryz.ntmps58 Tryz.results58 Z (sR fL1 Z (oA Z Z (eN (zJ (sR fL5 Z (oM Z Z (oR Z (zi Z Z Zm) (oM Z Z (oR Z (zi Z Z Zm) (oR Z (Zb Z Z Z) (eN ?_)))))))))))
 by_cases c1:(↑O.length:Int)=(↑p1.length:Int)
 have af:=hm;rw [if_pos c1] at af;replace c1:=zM c1
 refine zr (ZL (fun h=>h c1.out)) (kN (zJ (sR fL3 Z (oM Z Z (oR Z (zi Z Z Zm) (oM Z Z (eN (zX ?_))))))))
 have q:=wCT af
 obtain ⟨r5,ai⟩:=q
 have q:=wCS ai
 obtain ⟨ak,ba⟩:=q
 replace ak:=zM ak
 refine ya (fun k4 _ J_ w_=>∃ (U_:PHeap),J_ 13=jV (↑k4:Int)/\J_ 0=.slice an O.length ap/\J_ 1=.slice ao p1.length aq/\J_ 12=jV (↑O.length:Int)/\PHeap.Le U U_/\sW w U U_ [] w_) ba ?_ ?_ ?_
 exact ⟨U,Z,Z,Z,Z,(zQ _),hS⟩
 rintro k4 ⟨⟩ bv J9 ay aj ⟨ax,ah,aH,aI,aJ,am,a0⟩ aO a8
 try dsimp only at aO
 have az:Hid ((↑k4:Int) < (↑O.length:Int)):=zM (wBQ aj)
 replace aj:=zM aj
 have bb:Hid (w64 ((↑k4:Int) + 1)=(↑(k4 + 1):Int)):=zM (by have h1:=ak.out;have h2:=az.out;rw [wAY] <;> omega)
 refine sR fL1 rfl (zg rfl rfl rfl rfl (fun _=>ze rfl ah aJ) (eN (zJ (cT Z az (kN (zJ (zX (sR fL2 rfl (ZE rfl rfl rfl rfl rfl ah (yY rfl rfl rfl rfl rfl rfl (eN (zJ (ZI ZD [3,3,3,1,3,3,3,1,3] fL9 (by kernel_rfl) ?_)))))))))))))
 have ac:=a0.drew
 generalize hw_W25:({ ay with drawn:=ay.drawn + 1 }:World)=bk at ac ⊢
 refine oM Z aH (oM Z Z (bnK aO fun au aK bc=>?_))
 have aU:=a6.le am
 have q:=aU.el (fun _=>rfl) (wAb aK)
 obtain ⟨bn,bs,aW,aY⟩:=q
 refine oR Z (ZZ Z Z aW Z Zm ZR (wCc aK)) (oL Z (ac.ldCA (f:=0) aY Z Z Zp ZR (us:=[jV au.Skier,jV au.Mat]) Z Z) (oM Z aI (oM Z Z (bnK bc fun av aL bd=>?_))))
 have aV:=a7.le am
 have q:=aV.el (fun _=>rfl) (wAb aL)
 obtain ⟨bo,bt,aX,aZ⟩:=q
 refine oR Z (ZZ Z Z aX Z Zm ZR (wCc aL)) (oL Z (ac.ldCA (f:=0) aZ Z Z Zp ZR (us:=[jV av.Skier,jV av.Mat]) Z Z) (oR Z (ZP (Runs.neS (enc:=wAT) (a:=au) (b:=av) Z Z Z wOa wOZ) (congrArg hH (decide_not).symm)) (eN (ifc bd ?_ ?_))))
 intro ag be
 refine zr (ZL (fun h=>h ag.out)) (Ze (zl (zF (rR fL2 Z (oR Z (ZP (za Z ah Z) (congrArg (jV) bb.out)) (oM Z Z (zb ?_)))))))
 have q:=nB be
 obtain rfl:=q
 exact zF ⟨Z,_,Z,⟨ax,Z,aH,aI,aJ,am,ac⟩⟩
 intro ag bf
 refine cT Z ag (sR fL1 Z (oA Z Z (eN (zR (zo (zT ?_))))))
 have q:=wAV bf
 obtain ⟨bh,bg,aR⟩:=q
 have q:=wCY af ai (a8 bh aR)
 obtain rfl:=q
 refine zT (zo (zT ?_))
 have hE:=nB bg;first | subst r | cases hE
 exact ⟨Z,_,(ZH Z),ax,_,ac,Z,Z⟩
 rintro ⟨⟩ bi bm ⟨aP,aT,bp,bq,aS,br,a5⟩ a9
 have aM:=wDQ af ai a9
 try dsimp only at aM
 have aQ:Hid (¬ ((↑(((↑O.length:Int):Int) - 0).toNat:Int) < (↑O.length:Int))):=zM (wAq)
 refine sR fL1 Z (oR Z (ze Z aT aS) (eN (zJ (cF Z aQ (ZS (zf (zf (ZN (zF (sR fL1 Z (oA Z Z (eN (zR ?_)))))))))))))
 have hE:=nB aM;first | subst r | cases hE
 exact ⟨Z,_,(ZH Z),aP,_,a5,Z,Z⟩
 have aN:=hm;rw [if_neg c1] at aN;replace c1:=zM c1
 refine cT Z c1 (sR fL1 Z (oA Z Z (eN (zR (zT ?_)))))
 have hE:=nB aN;first | subst r | cases hE
 exact ⟨Z,_,(ZH Z),U,_,hS,Z,Z⟩
theorem wCj  (w:World) (U:PHeap) (hS:St0 w U [])  {r:wAA} (hm:wBc =some r):Gv Tryz.prog 59 [] w (wCF w [] U (fun U_ L_ v=>∃ (aH:Option Addr) (aN:Nat) (aI:Option Addr) (aO:Nat) (aJ:Option Addr) (aP:Nat) (aK:Option Addr) (aQ:Nat),v=.agg #[.slice aH r.Starts.length aN,.slice aI r.Splits.length aO,.slice aJ r.Clocks.length aP,.slice aK r.Readings.length aQ]/\L_=[.row aH aN 3 1 (hD KL.encI r.Starts),.row aI aO 39 2 (hD wAC r.Splits),.row aJ aP 112 3 (hD wAE r.Clocks),.row aK aQ 115 4 (hD wAB r.Readings)])):=by
 unfold wBc at hm
 refine Gv.of Tryz.func59 Z Tryz.ntmps59 Tryz.results59 Z (sR (.fx 0 .nil .stop) Z ?_)
 let B0:List Value:=[.slice none 0 0,.slice none 0 0,.slice none 0 0,.slice none 0 0]
 refine zU (cs:=B0) Z Z Z Z Z ym Z hS ?_
 intro W1 b2 a6
 refine eN (sR (.fx 0 gDp .stop) Z (bnK hm fun O h6 bd=>zC 0 Z Z Z Z (zD Z Z Tryz.call56 zL Z) a6 (fun hs=>wBh W1 U hs h6) (.inr Z) ?_))
 rintro U8 L9 bi aV bh aZ ⟨ak,au,am,av,an,ax,ac,ai,rfl,rfl⟩
 let B1:Res:=.row an ax 112 3 (hD wAE O.Clocks)
 let B2:Res:=.row am av 39 2 (hD wAC O.Splits)
 let B3:Res:=.row ak au 3 1 (hD KL.encI O.Starts)
 let B4:Res:=.row ac ai 115 4 (hD wAB O.Readings)
 have a0:sW w U U8 [B3,B2,B1,B4,.blk b2 27 B0] aV:=aZ
 refine zU (cs:=B0) Z Z Z Z Z ym Z a0 ?_
 intro bf aq a5
 let B5:List Value:=[.slice ak O.Starts.length au,.slice am O.Splits.length av,.slice an O.Clocks.length ax,.slice ac O.Readings.length ai]
 refine zY (j:=0) (vs:=B5) Z Z Z Z a5 Z Z Z Z zc (zA Z) Z Z Z ?_
 intro aW a7
 have az:sW w U U8 [.blk aq 27 B5,B3,B2,B1,B4,.blk b2 27 B0] aW:=a7
 refine eN (sR (wEN (.fx 4 .nil .stop)) Z (oR Z (zH Z Z zP Z Zk) (oL Z (az.ldB (j:=0) Z Z Z Zr (v:=.slice ac O.Readings.length ai) Z) (bnK bd fun _ ay bc=>?_))))
 obtain ⟨bg,aR⟩:=az.rowSome (j:=4) rfl (by rw [wAD (f:=wAB) (sz:=4) (fun _=>rfl) O.Readings];have hz:=wAS ay;omega)
 refine oR Z (ZZ Z Z aR Z ZF ZW (wAS ay)) (oR Z (zH Z Z Zn Z zE) ?_)
 have bb:=wBJ (xs:=O.Readings) (wAS ay)
 refine yp (j:=4) (vs:=[jV 1700]) (cs':=hD wAB (nI O.Readings 1 (⟨(gd O.Readings 1).Skier,(gd O.Readings 1).Mat,(gd O.Readings 1).Clock,1700⟩:wAJ))) rfl rfl rfl rfl az rfl aR rfl rfl rfl zE (by rw [wAD (f:=wAB) (sz:=4) (fun _=>rfl)];try (have hz:=wAS ay;show _ + 1 <= _;first | omega | (simp only [Int.toNat_natCast];omega) | (simp only [nJ,nE,nH];omega))) rfl (wDX (sz:=4) (fo:=3) (fun _=>rfl) _ _ _ _ bb (by first | omega | rfl | (simp only [Int.toNat_natCast];omega) | (simp only [nJ,nE,nH];omega)) (zA rfl) rfl) rfl ?_
 intro aM a8
 let B6:Res:=.row ac ai 115 4 (hD wAB (nI O.Readings 1 (⟨(gd O.Readings 1).Skier,(gd O.Readings 1).Mat,(gd O.Readings 1).Clock,1700⟩:wAJ)))
 have a9:sW w U U8 [.blk aq 27 B5,B3,B2,B1,B6,.blk b2 27 B0] aM:=a8
 let B7:List Value:=[.slice ak O.Starts.length au,.slice am O.Splits.length av,.slice an O.Clocks.length ax,.slice ac ((nI O.Readings 1 (⟨(gd O.Readings 1).Skier,(gd O.Readings 1).Mat,(gd O.Readings 1).Clock,1700⟩:wAJ)).length) ai]
 have aS:sW w U U8 [.blk aq 27 B7,B3,B2,B1,B6,.blk b2 27 B0] aM:=by simpa only [B0,B1,B2,B3,B5,B6,B7,nD] using a9
 refine eN (sR gDq Z (oL Z (aS.ldBA (j:=0) Z Z Z zn zc (vs:=B7) Z Z) (zY (j:=5) (vs:=B7) Z Z Z Z aS Z Z Z Z zc (zA Z) Z Z Z ?_)))
 intro aX ba
 have aT:sW w U U8 [.blk aq 27 B7,B3,B2,B1,B6,.blk b2 27 B7] aX:=ba
 refine eN (zR ?_)
 cases bc
 exact ⟨rfl,_,(wGy (v:=.agg B7.toArray) ⟨⟨_,rfl,(wBF zn zc (aT.blkAt (k:=5) rfl) (vs:=B7) rfl rfl)⟩,trivial⟩),U8,_,(aT.pick [1,2,3,4] _ (by decide) rfl),ak,au,am,av,an,ax,ac,ai,rfl,rfl⟩
theorem wHA (O:wAh) (ai:Nat) (an:Option Addr) (aq:Nat) (ao:Option Addr) (au:Nat) (ap:Option Addr) (av:Nat) (aN:Option Addr) (aQ:Nat) (aa:Nat) (ab:Array MapEntry) (ac:Nat) (aO:Option Addr) (aR:Nat) (p1:List Int) (aP:Option Addr) (aS:Nat) (w:World) (U:PHeap) (hS:St0 w U [.blk ai 139 [.slice an O.Race.Starts.length aq,.slice ao O.Race.Splits.length au,.slice ap O.Race.Clocks.length av,.slice aN O.Race.Readings.length aQ,.map (some aa),.slice aO O.edges.length aR],.obj aa (.map ab ac)]) (fy:Sl U 1 an aq O.Race.Starts.length (hD KL.encI O.Race.Starts)) (fz:Sl U 2 ao au O.Race.Splits.length (hD wAC O.Race.Splits)) (fA:Sl U 3 ap av O.Race.Clocks.length (hD wAE O.Race.Clocks)) (fB:Sl U 4 aN aQ O.Race.Readings.length (hD wAB O.Race.Readings)) (cg:MpR ab wBW wBe O.number) (fC:Sl U 7 aO aR O.edges.length (hD wAO O.edges)) (bi:Sl U 1 aP aS p1.length (hD KL.encI p1)) {r:(List (List Int)) × (List Int)} (hm:wEK O p1=some r):Gv Tryz.prog 75 [.pointer (some ⟨ai,0,none⟩),.slice aP p1.length aS] w (wCF w [.blk ai 139 [.slice an O.Race.Starts.length aq,.slice ao O.Race.Splits.length au,.slice ap O.Race.Clocks.length av,.slice aN O.Race.Readings.length aQ,.map (some aa),.slice aO O.edges.length aR],.obj aa (.map ab ac)] U (fun U_ L_ v=>∃ (A0:Option Addr) (c0:Nat) (bM:List Value) (A1:Option Addr) (c1:Nat),v=.tuple #[.slice A0 r.1.length c0,.slice A1 r.2.length c1]/\L_=[.row A0 c0 22 1 bM,.row A1 c1 3 1 (hD KL.encI r.2),.blk ai 139 [.slice an O.Race.Starts.length aq,.slice ao O.Race.Splits.length au,.slice ap O.Race.Clocks.length av,.slice aN O.Race.Readings.length aQ,.map (some aa),.slice aO O.edges.length aR],.obj aa (.map ab ac)]/\RlL U_ wMj r.1 bM)):=by
 unfold wEK at hm
 refine Gv.of Tryz.func75 Z Tryz.ntmps75 Tryz.results75 Z (sR fL2 Z (oA Z Z (oA Z Z (eN (sR fL4 Z (oM Z Z (bnK hm fun x3 h4 eH=>?_)))))))
 have q:=bi.el (fun _=>rfl) (wAb h4)
 obtain ⟨b6,fG,dN,dQ⟩:=q
 refine oR Z (ZZ Z Z dN Z zG zE (wCc h4)) (oL Z (hS.ldC (f:=0) dQ (v:=jV x3) Z Z zK Z) (oA Z Z (eN (sR fL1 Z (oA Z Z (eN (zJ (sR fL7 Z (oM Z Z (oR Z (yB Z Z) (oR Z (zH Z Z ZM Z zc) (oR Z (zH Z Z zP Z zh) (oL Z (hS.ldB (j:=0) Z Z Z zk (v:=.slice an O.Race.Starts.length aq) Z) (oR Z (zi Z Z zG) (oM Z Z (eN (zX (bnK eH fun eU ek eG=>?_))))))))))))))))))
 have q:=wBn ek
 obtain ⟨bo,en⟩:=q
 replace bo:=zM bo
 let B0:Res:=.blk ai 139 [.slice an O.Race.Starts.length aq,.slice ao O.Race.Splits.length au,.slice ap O.Race.Clocks.length av,.slice aN O.Race.Readings.length aQ,.map (some aa),.slice aO O.edges.length aR]
 refine CK.forN' (fun ag aL J_ w_=>∃ (U_:PHeap) (az:Option Addr) (aJ:Nat) (a0:List Value),J_ 22=jV (↑ag:Int)/\J_ 0=.pointer (some ⟨ai,0,none⟩)/\J_ 1=.slice aP p1.length aS/\J_ 6=jV x3/\J_ 7=.slice az aL.length aJ/\J_ 21=jV (↑O.Race.Starts.length:Int)/\PHeap.Le U U_/\SW w [B0,.obj aa (.map ab ac)] U U_ [B0,.obj aa (.map ab ac),.row az aJ 22 1 a0] w_/\RlL U_ wMj aL a0) en ?_ ?_ ?_
 have ef:=hS.nilrow 22 1
 exact ⟨U,none,0,[],rfl,rfl,rfl,rfl,rfl,rfl,(zQ _),(ef.pick [1,2,0] _ (by decide) rfl),RlL.nil⟩
 rintro ag aL fJ e8 fg bk ⟨bB,az,aJ,a0,bc,bU,dk,dl,dm,bV,cq,cf,dK⟩ eM
 have bL:Hid ((↑ag:Int) < (↑O.Race.Starts.length:Int)):=zM (wBQ bk)
 replace bk:=zM bk
 have ew:Hid (w64 ((↑ag:Int) + 1)=(↑(ag + 1):Int)):=zM (by have h1:=bo.out;have h2:=bL.out;rw [wAY] <;> omega)
 refine sR fL1 Z (oR Z (ze Z bc bV) (eN (zJ (cT Z bL (kN (zJ (zX (sR fL2 Z (oM Z bc (oA Z Z (eN (sR fL1 Z (oA Z Z (eN (zJ (sR fL8 Z (oM Z bU (oR Z (yB Z Z) (oR Z (zH Z Z ZM Z zc) (oR Z (zH Z Z zP Z Zf) (oL Z (cf.ldB (j:=0) Z Z Z Zl (v:=.slice ao O.Race.Splits.length au) Z) (oR Z (zi Z Z ZG) (oR Z (za Z Z Z) (oM Z Z (eN (zX (bnK eM fun ak eo eI=>?_)))))))))))))))))))))))))))
 have q:=wBn eo
 obtain ⟨bp,ep⟩:=q
 replace bp:=zM bp
 let B1:Res:=.row az aJ 22 1 a0
 refine CK.forN' (fun ah aM J_ w_=>∃ (U_:PHeap) (aU:Option Addr) (aZ:Nat),J_ 32=jV (↑ah:Int)/\J_ 0=.pointer (some ⟨ai,0,none⟩)/\J_ 1=.slice aP p1.length aS/\J_ 6=jV x3/\J_ 7=.slice az aL.length aJ/\J_ 8=jV (↑ag:Int)/\J_ 9=.slice aU aM.length aZ/\J_ 21=jV (↑O.Race.Starts.length:Int)/\J_ 22=jV (↑ag:Int)/\J_ 31=jV (w64 ((↑O.Race.Splits.length:Int) + 1))/\PHeap.Le bB U_/\SW w [B0,.obj aa (.map ab ac)] U U_ [B0,.obj aa (.map ab ac),B1,.row aU aZ 3 1 (hD KL.encI aM)] w_) ep ?_ ?_ ?_
 have eg:=cf.nilrow 3 1
 exact ⟨bB,none,0,rfl,bU,dk,dl,dm,rfl,rfl,bV,bc,rfl,(zQ _),(eg.pick [1,2,3,0] _ (by decide) rfl)⟩
 rintro ah aM fK e9 fh bm ⟨a8,aU,aZ,bd,bW,bX,bY,dp,bZ,dq,dr,dt,bO,cr,a5⟩ eO
 have bF:Hid ((↑ah:Int) < (w64 ((↑O.Race.Splits.length:Int) + 1))):=zM (wBQ bm)
 replace bm:=zM bm
 have er:Hid (w64 ((↑ah:Int) + 1)=(↑(ah + 1):Int)):=zM (by have h1:=bp.out;have h2:=bF.out;rw [wAY] <;> omega)
 refine sR fL1 Z (oR Z (ze Z bd bO) (eN (zJ (cT Z bF (kN (zJ (zX (sR fL2 Z (oM Z bd (oA Z Z (eN (rR (wMu (.fx 14 (.fx 15 (.fl 16 .nil) .stop) .stop)) Z (oM Z dq (oM Z bX (oM Z bW (oR Z (yB Z Z) (oR Z (zH Z Z ZM Z yD) (oL Z (a5.ldB (j:=0) Z Z Z yK (v:=.map (some aa)) Z) (oM Z bZ (oM Z Z (oR Z (zu (pv:=[(0,jV (↑ag:Int)),(1,jV (↑ah:Int))]) (z:=[jV 0,jV 0]) (cs:=[jV (↑ag:Int),jV (↑ah:Int)]) Z (wAG Z (wAG Z wAP)) zd wBg Z Z) (oL Z (a5.lookup1 (j:=1) (mk:=wBW) (mv:=wBe) (a:=(⟨(↑ag:Int),(↑ah:Int)⟩:wAI)) (z:=0) Z Z Z Z (wBy ZQ) wDZ zy cg) (bnK eO fun ax be ey=>?_)))))))))))))))))))))))
 have dx:=bi.le cq
 have dy:=dx.le cr
 have q:=dy.el (fun _=>rfl) (wAb be)
 obtain ⟨fj,fD,dL,dO⟩:=q
 refine oR Z (ZT Z Z dL Z zG zE (wBp be) (wBx be)) (oL Z (a5.ldC (f:=0) dO (v:=jV ax) Z Z zK Z) (oM Z bY (oR Z (yf Z Z Z) (ZC (pv:=[(0,jV (w64 (ax - x3)))]) (zs:=[jV 0]) (cs:=[jV (w64 (ax - x3))]) Z Z Z Z Z (wAG Z wAP) zG zE zy Z Z Z Z Z a5 ?_))))
 intro cz cK dR
 let B2:Res:=.row (some ⟨cK,0,none⟩) 1 3 1 (hD KL.encI [w64 (ax - x3)])
 have ca:SW w [B0,.obj aa (.map ab ac)] U a8 [B2,B0,.obj aa (.map ab ac),B1,.row aU aZ 3 1 (hD KL.encI aM)] cz:=dR
 refine bnK ey fun ct dz eA=>yG (j:=4) (enc:=KL.encI) (xs:=aM) (ys:=[w64 (ax - x3)]) (zs:=ct) rfl rfl rfl rfl rfl yg wHd rfl rfl rfl rfl rfl rfl ca rfl rfl rfl (ca.srcR (j:=0) rfl (by decide) (wAD (f:=KL.encI) (sz:=1) (fun _=>rfl) [w64 (ax - x3)])) (fun _=>rfl) (fun _=>rfl) dz rfl ?_
 intro bs bG cA dS
 have dT:SW w [B0,.obj aa (.map ab ac)] U a8 [B2,B0,.obj aa (.map ab ac),B1,.row bs bG 3 1 (hD KL.encI ct)] cA:=dS
 refine oA Z Z (zb (zl (zF (rR fL2 Z (oR Z (ZP (za Z bd Z) (congrArg (jV) er.out)) (oM Z Z (zb ?_)))))))
 cases eA
 exact zF ⟨rfl,⟨a8,bs,bG,rfl,bW,bX,bY,dp,bZ,rfl,dr,dt,bO,cr,(dT.pick [1,2,3,4] _ (by decide) rfl)⟩⟩
 rintro eV cC ⟨fc,a6,a9,du,cR,cS,cU,cV,fq,cW,cX,cY,cZ,cm,dU⟩
 have cN:Hid (¬ ((↑((w64 ((↑O.Race.Splits.length:Int) + 1):Int) - 0).toNat:Int) < (w64 ((↑O.Race.Splits.length:Int) + 1)))):=zM (wAq)
 refine sR fL1 Z (oR Z (ze Z du cZ) (eN (zJ (cF Z cN (ZS (zf (zf (ZN (zF (rR gEg Z (oM Z cV (oM Z cW ?_))))))))))))
 have q:=dU.freezeR (k:=3) (n:=ak.length) rfl (wAD (f:=KL.encI) (sz:=1) (fun _=>rfl) ak) (by decide)
 obtain ⟨aI,cn,eK,dW⟩:=q
 have dX:SW w [B0,.obj aa (.map ab ac)] U aI [B0,.obj aa (.map ab ac),B1] cC:=dW
 let B3:List Value:=[.slice a6 ak.length a9]
 refine ZC (pv:=[(0,.slice a6 ak.length a9)]) (zs:=[.slice none 0 0]) (cs:=B3) Z Z Z Z Z (wAG Z wAP) Zd zh Tryz.zeroValue22 Z Z Z Z Z dX ?_
 intro cD cL dV
 have cj:RlL aI wMj [ak] B3:=(RlL.cons (R:=wMj) (x:=ak) (vs:=B3) ⟨a6,a9,rfl,eK⟩ RlL.nil)
 let B4:Res:=.row (some ⟨cL,0,none⟩) 1 22 1 B3
 have cb:SW w [B0,.obj aa (.map ab ac)] U aI [B4,B0,.obj aa (.map ab ac),B1] cD:=dV
 refine bnK eI fun eR dA eB=>?_
 have dB:=dK.le cm
 have dC:=dB.le cn
 refine OKS.appendR (R:=wMj) (j:=3) (xs:=aL) (ys:=[ak]) (zs:=eR) rfl rfl rfl rfl rfl Tryz.underlying49 wMk rfl rfl rfl rfl rfl rfl rfl cb rfl rfl rfl dC cj (cb.srcR (j:=0) rfl (by decide) (RlL.len cj)) dA rfl ?_
 intro bt bH bN cE dY eJ
 have dZ:SW w [B0,.obj aa (.map ab ac)] U aI [B4,B0,.obj aa (.map ab ac),.row bt bH 22 1 bN] cE:=dY
 refine oA Z Z (zb (zl (zF (rR fL2 Z (oR Z (ZP (za Z cY Z) (congrArg (jV) ew.out)) (oM Z Z (zb ?_)))))))
 cases eB
 exact zF ⟨rfl,⟨aI,bt,bH,bN,rfl,cR,cS,cU,rfl,cX,((cq.trans cm).trans cn),(dZ.pick [1,2,3] _ (by decide) rfl),eJ⟩⟩
 rintro eW fd ⟨bA,a7,ba,bI,dv,bP,c6,da,db,dd,eP,cc,dD⟩
 have cO:Hid (¬ ((↑(((↑O.Race.Starts.length:Int):Int) - 0).toNat:Int) < (↑O.Race.Starts.length:Int))):=zM (wAq)
 refine sR fL1 Z (oR Z (ze Z dv dd) (eN (zJ (cF Z cO (ZS (zf (zf (ZN (zF (sR fL1 Z (oA Z Z (eN (zJ (sR fL7 Z (oM Z bP (oR Z (yB Z Z) (oR Z (zH Z Z ZM Z zc) (oR Z (zH Z Z zP Z yM) (oL Z (cc.ldB (j:=0) Z Z Z yR (v:=.slice ap O.Race.Clocks.length av) Z) (oR Z (zi Z Z Za) (oM Z Z (eN (zX (bnK eG fun fL eh eC=>?_))))))))))))))))))))))))
 have q:=wBn eh
 obtain ⟨bn,ej⟩:=q
 replace bn:=zM bn
 let B5:Res:=.row a7 ba 22 1 bI
 refine CK.forN' (fun am aK J_ w_=>∃ (U_:PHeap) (aT:Option Addr) (aY:Nat),J_ 63=jV (↑am:Int)/\J_ 0=.pointer (some ⟨ai,0,none⟩)/\J_ 1=.slice aP p1.length aS/\J_ 6=jV x3/\J_ 7=.slice a7 eU.length ba/\J_ 11=.slice aT aK.length aY/\J_ 62=jV (↑O.Race.Clocks.length:Int)/\PHeap.Le bA U_/\SW w [B0,.obj aa (.map ab ac)] U U_ [B0,.obj aa (.map ab ac),B5,.row aT aY 3 1 (hD KL.encI aK)] w_) ej ?_ ?_ ?_
 have d3:=cc.nilrow 3 1
 exact ⟨bA,none,0,rfl,bP,c6,da,db,rfl,rfl,(zQ _),(d3.pick [1,2,3,0] _ (by decide) rfl)⟩
 rintro am aK fI eZ bC bj ⟨cx,aT,aY,bb,bQ,bR,bS,de,df,bT,co,d4⟩ eL
 have bJ:Hid ((↑am:Int) < (↑O.Race.Clocks.length:Int)):=zM (wBQ bj)
 replace bj:=zM bj
 have eu:Hid (w64 ((↑am:Int) + 1)=(↑(am + 1):Int)):=zM (by have h1:=bn.out;have h2:=bJ.out;rw [wAY] <;> omega)
 refine sR fL1 rfl (zg rfl rfl rfl rfl (fun _=>ze rfl bb bT) (eN (zJ (cT Z bJ (kN (zJ (zX (sR fL2 rfl (ZE rfl rfl rfl rfl rfl bb (yY rfl rfl rfl rfl rfl rfl (eN (ZI ZD [3,3,3,3,3,3,1,3,2,1,3,1,3,2,0,3] (wNj (.fx 8 (wPI (.fx 13 gDs .stop)) .stop)) (by kernel_rfl) ?_))))))))))))
 have bg:=d4.drew
 generalize hw_W242:({ bC with drawn:=bC.drawn + 1 }:World)=cG at bg ⊢
 refine oM Z df (oM Z bS (oM Z bR (oM Z bQ (oR Z (yB Z Z) (oR Z (zH Z Z ZM Z yD) (oL Z (bg.ldB (j:=0) Z Z Z yK (v:=.map (some aa)) Z) (oM Z Z (bnK eL fun eS dE eD=>zC 0 Z Z Z Z (zD Z Z Tryz.call70 (zB Z zL) Z) bg (fun hs=>wDI (↑am:Int) cG cx hs dE) (.inr Z) ?_))))))))
 rintro aX fb fH cH cp d5 ⟨rfl,rfl⟩
 let B6:Res:=.row aT aY 3 1 (hD KL.encI aK)
 have bh:SW w [B0,.obj aa (.map ab ac)] U aX [B0,.obj aa (.map ab ac),B5,B6] cH:=d5
 refine oL Z (bh.lookup1 (j:=1) (mk:=wBW) (mv:=wBe) (a:=eS) (z:=0) Z Z Z Z (wBy ZQ) wDZ zy cg) (bnK eD fun ay bf eE=>?_)
 have dF:=bi.le eP
 have dG:=dF.le co
 have dH:=dG.le cp
 have q:=dH.el (fun _=>rfl) (wAb bf)
 obtain ⟨fk,fE,dM,dP⟩:=q
 refine oR Z (ZT Z Z dM Z zG zE (wBp bf) (wBx bf)) (oL Z (bh.ldC (f:=0) dP (v:=jV ay) Z Z zK Z) (oR Z (yf Z Z Z) (ZC (pv:=[(0,jV (w64 (x3 - ay)))]) (zs:=[jV 0]) (cs:=[jV (w64 (x3 - ay))]) Z Z Z Z Z (wAG Z wAP) zG zE zy Z Z Z Z Z bh ?_)))
 intro cI cM d6
 let B7:Res:=.row (some ⟨cM,0,none⟩) 1 3 1 (hD KL.encI [w64 (x3 - ay)])
 have cd:SW w [B0,.obj aa (.map ab ac)] U aX [B7,B0,.obj aa (.map ab ac),B5,B6] cI:=d6
 refine bnK eE fun cu dI eF=>yG (j:=4) (enc:=KL.encI) (xs:=aK) (ys:=[w64 (x3 - ay)]) (zs:=cu) rfl rfl rfl rfl rfl yg wHd rfl rfl rfl rfl rfl rfl cd rfl rfl rfl (cd.srcR (j:=0) rfl (by decide) (wAD (f:=KL.encI) (sz:=1) (fun _=>rfl) [w64 (x3 - ay)])) (fun _=>rfl) (fun _=>rfl) dI rfl ?_
 intro bu bK cJ d7
 have d8:SW w [B0,.obj aa (.map ab ac)] U aX [B7,B0,.obj aa (.map ab ac),B5,.row bu bK 3 1 (hD KL.encI cu)] cJ:=d7
 refine oA Z Z (zb (zl (zF (rR fL2 Z (oR Z (ZP (za Z bb Z) (congrArg (jV) eu.out)) (oM Z Z (zb ?_)))))))
 cases eF
 exact zF ⟨rfl,⟨aX,bu,bK,rfl,bQ,bR,bS,de,rfl,bT,(co.trans cp),(d8.pick [1,2,3,4] _ (by decide) rfl)⟩⟩
 rintro e6 ff ⟨cy,cw,cP,dw,ft,fu,fw,dg,dh,di,eQ,d9⟩
 have cQ:Hid (¬ ((↑(((↑O.Race.Clocks.length:Int):Int) - 0).toNat:Int) < (↑O.Race.Clocks.length:Int))):=zM (wAq)
 refine sR fL1 Z (oR Z (ze Z dw di) (eN (zJ (cF Z cQ (ZS (zf (zf (ZN (zF (sR fL4 Z (oM Z dg (oM Z dh (oA Z Z (oA Z Z (eN (zR ?_))))))))))))))))
 have dJ:=dD.le eQ
 cases eC
 exact ⟨rfl,_,(wDk rfl rfl),cy,_,(d9.pick [2,3,0,1] _ (by decide) rfl),a7,ba,bI,cw,cP,rfl,rfl,dJ⟩
theorem wIy (O:wAA) (aK:Option Addr) (aO:Nat) (aL:Option Addr) (aP:Nat) (aM:Option Addr) (aQ:Nat) (aN:Option Addr) (aR:Nat) (w:World) (U:PHeap) (hS:St0 w U []) (cy:Sl U 1 aK aO O.Starts.length (hD KL.encI O.Starts)) (cz:Sl U 2 aL aP O.Splits.length (hD wAC O.Splits)) (cA:Sl U 3 aM aQ O.Clocks.length (hD wAE O.Clocks)) (cC:Sl U 4 aN aR O.Readings.length (hD wAB O.Readings)) {r:(List (List Int)) × (List Int) × Int} (hm:wFL O=some r):Gv Tryz.prog 37 [.agg #[.slice aK O.Starts.length aO,.slice aL O.Splits.length aP,.slice aM O.Clocks.length aQ,.slice aN O.Readings.length aR]] w (wCF w [] U (fun U_ L_ v=>∃ (A0:Option Addr) (c0:Nat) (bp:List Value) (A1:Option Addr) (c1:Nat),v=.tuple #[.slice A0 r.1.length c0,.slice A1 r.2.1.length c1,jV r.2.2]/\L_=[.row A0 c0 22 1 bp,.row A1 c1 3 1 (hD KL.encI r.2.1)]/\RlL U_ wMj r.1 bp)):=by
 unfold wFL at hm
 refine Gv.of Tryz.func37 Z Tryz.ntmps37 Tryz.results37 Z (sR (.fx 0 (fC1_3 (.nil)) .stop) Z ?_)
 let B0:List Value:=[.slice aK O.Starts.length aO,.slice aL O.Splits.length aP,.slice aM O.Clocks.length aQ,.slice aN O.Readings.length aR]
 refine zq (cs:=B0) rfl rfl rfl rfl rfl rfl (by rfl) hS ?_
 intro W1 b2 bx
 refine oA Z Z (oA Z Z (oA Z Z (eN (sR (.fl 0 (.fx 1 (wFy (.nil)) .stop)) Z (oL Z (bx.ldBA (j:=0) Z Z Z zn zc (vs:=B0) Z Z) ?_)))))
 have q:=bnd hm
 obtain ⟨⟨x5,x6⟩,h7,ao⟩:=q
 try dsimp only at ao
 refine zC 0 Z Z Z Z (zD Z Z Tryz.call80 (zB Z zL) Z) bx (fun hs=>wEj O aK aO aL aP aM aQ aN aR W1 U hs cy cz cA cC h7) (.inr Z) ?_
 rintro U9 cP cX ax cV bw bv
 rcases x5 with _ | ac
 try dsimp only at ao
 obtain ⟨rfl,rfl⟩:=bv
 have cj:sW w U U9 [.blk b2 27 B0] ax:=bw
 refine oM Z Z (oR Z (zV Z Z (v:=.pointer none) Z) (oR Z (zV Z Z (v:=jV x6) Z) (oA Z Z (oA Z Z (eN (zJ (sR fL2 Z (oM Z Z (oR Z (Zb Z Z Z) (eN (ifc ao ?_ ?_)))))))))))
 intro bb cG
 refine zr (ZL (fun h=>h bb.out)) (kN (sR (.fl 0 (.fx 1 (wNk gEa) .stop)) Z (oM Z Z ?_)))
 cases cG
 intro bb cH
 refine cT Z bb (sR fL4 Z (oM Z Z (oA Z Z (oA Z Z (oA Z Z (eN (zR (zT ?_))))))))
 have cm:=cj.nilrow 22 1
 have cn:=cm.nilrow 3 1
 cases cH
 exact ⟨rfl,_,(res3 rfl rfl rfl),U9,_,(cn.pick [1,0] _ (by decide) rfl),none,0,[],none,0,rfl,rfl,RlL.nil⟩
 try dsimp only at ao
 obtain ⟨az,aU,a7,aV,a8,aW,a9,aX,ba,ab,ag,af,au,aI,rfl,rfl,bL,bM,bN,bO,bq⟩:=bv
 let B1:Res:=.blk az 139 [.slice aU ac.Race.Starts.length a7,.slice aV ac.Race.Splits.length a8,.slice aW ac.Race.Clocks.length a9,.slice aX ac.Race.Readings.length ba,.map (some ab),.slice au ac.edges.length aI]
 have bz:sW w U U9 [B1,.obj ab (.map ag af),.row au aI 184 7 (hD wAO ac.edges),.blk b2 27 B0] ax:=bw
 refine oM Z Z (oR Z (zV Z Z (v:=.pointer (some ⟨az,0,none⟩)) Z) (oR Z (zV Z Z (v:=jV x6) Z) (oA Z Z (oA Z Z (eN (zJ (sR fL2 Z (oM Z Z (oR Z (Zb Z Z Z) (eN (ifc ao ?_ ?_)))))))))))
 intro bc cI
 refine zr (ZL (fun h=>h bc.out)) (kN (sR (.fl 0 (.fx 1 (wNk gEa) .stop)) Z (oM Z Z ?_)))
 have q:=bz.freezeR (k:=2) (n:=ac.edges.length) rfl (wAD (f:=wAO) (sz:=7) (fun _=>rfl) ac.edges) (by decide)
 obtain ⟨bk,aJ,bC,co⟩:=q
 have cp:sW w U bk [B1,.obj ab (.map ag af),.blk b2 27 B0] ax:=co
 have br:=bL.le aJ
 have bs:=bM.le aJ
 have bt:=bN.le aJ
 have bu:=bO.le aJ
 have q:=bnd cI
 obtain ⟨⟨ae,cN,cO⟩,bP,bB⟩:=q
 try dsimp only at bB
 refine zC 2 Z Z Z Z (zD Z Z Tryz.call74 (zB Z (zB Z (zB Z zL))) Z) cp (fun hs=>wBi ac az aU a7 aV a8 aW a9 aX ba ab ag af au aI (-1) false ax bk hs br bs bt bu bq bC bP) (.inl Z) ?_
 rintro aZ cR cY bH ap cq ⟨aj,an,aY,bd,rfl,rfl⟩
 let B2:Res:=.row aY bd 3 1 (hD KL.encI ae.by_)
 let B3:Res:=.row aj an 3 1 (hD KL.encI ae.far)
 have cr:sW w U aZ [B3,B2,B1,.obj ab (.map ag af),.blk b2 27 B0] bH:=cq
 refine oM Z Z (oR Z (zV Z Z (v:=.agg #[.slice aj ae.far.length an,.slice aY ae.by_.length bd]) Z) (oR Z (zV Z Z (v:=jV cN) Z) (oR Z (zV Z Z (v:=.bool cO) Z) (zU (cs:=[.slice none 0 0,.slice none 0 0]) Z Z Z Z Z Zo Z cr ?_))))
 intro cS aH ct
 let B4:List Value:=[.slice aj ae.far.length an,.slice aY ae.by_.length bd]
 refine zY (j:=0) (vs:=B4) Z Z Z Z ct Z Z Z Z yI (zA Z) Z Z Z ?_
 intro ay cu
 have bf:sW w U aZ [.blk aH 133 B4,B3,B2,B1,.obj ab (.map ag af),.blk b2 27 B0] ay:=cu
 refine oA Z Z (oA Z Z (eN (zJ (sR fL2 Z (oM Z Z (oR Z (ZY Z Z) (eN (ifc bB ?_ ?_))))))))
 intro be cJ
 refine zr (nC be.out) (kN (sR (wDd (.fx 3 (wNm (.nil)) .stop)) Z (oM Z Z (oR Z (zH Z Z Zc Z zh) (oL Z (bf.ldB (j:=0) Z Z Z zk (v:=.slice aj ae.far.length an) Z) ?_)))))
 have q:=bf.freezeR (k:=1) (n:=ae.far.length) rfl (wAD (f:=KL.encI) (sz:=1) (fun _=>rfl) ae.far) (by decide)
 obtain ⟨a0,aq,cK,cw⟩:=q
 have cx:sW w U a0 [.blk aH 133 B4,B2,B1,.obj ab (.map ag af),.blk b2 27 B0] ay:=cw
 have bR:=br.le ap
 have bS:=bR.le aq
 have bT:=bs.le ap
 have bU:=bT.le aq
 have bV:=bt.le ap
 have bW:=bV.le aq
 have bX:=bu.le ap
 have bY:=bX.le aq
 have bZ:=bC.le ap
 have bI:=bZ.le aq
 have q:=bnd cJ
 obtain ⟨⟨cL,bD⟩,bJ,bA⟩:=q
 try dsimp only at bA
 have b5:sW w U a0 [B1,.obj ab (.map ag af),.blk aH 133 B4,B2,.blk b2 27 B0] ay:=cx.pick [2,3,0,1,4] _ (by decide) rfl
 refine zC 2 Z Z Z Z (zD Z Z Tryz.call75 (zB Z (zB Z zL)) Z) b5 (fun hs=>wHA ac az aU a7 aV a8 aW a9 aX ba ab ag af au aI ae.far aj an ay a0 hs bS bU bW bY bq bI cK bJ) (.inl Z) ?_
 rintro bj cQ cW bG cU ca ⟨aS,a5,bo,aT,a6,rfl,rfl,bK⟩
 have cb:sW w U bj [.row aS a5 22 1 bo,.row aT a6 3 1 (hD KL.encI bD),B1,.obj ab (.map ag af),.blk aH 133 B4,B2,.blk b2 27 B0] bG:=ca
 refine oM Z Z (oR Z (zV Z Z (v:=.slice aS cL.length a5) Z) (oR Z (zV Z Z (v:=.slice aT bD.length a6) Z) (oA Z Z (oA Z Z (eN (sR fL5 Z (oM Z Z (oM Z Z (oA Z Z (oA Z Z (oA Z Z (eN (zR ?_)))))))))))))
 cases bA
 exact ⟨rfl,_,(res3 rfl rfl rfl),bj,_,(cb.pick [0,1] _ (by decide) rfl),aS,a5,bo,aT,a6,rfl,rfl,bK⟩
 intro be cD
 refine ZK (nF (be.out)) (sR fL3 Z (oA Z Z (oA Z Z (oA Z Z (eN (zR (zT ?_)))))))
 have cc:=bf.nilrow 22 1
 have cd:=cc.nilrow 3 1
 cases cD
 exact ⟨rfl,_,(res3 rfl rfl rfl),aZ,_,(cd.pick [1,0] _ (by decide) rfl),none,0,[],none,0,rfl,rfl,RlL.nil⟩
 intro bc cE
 refine cT Z bc (sR fL4 Z (oM Z Z (oA Z Z (oA Z Z (oA Z Z (eN (zR (zT ?_))))))))
 have cf:=bz.nilrow 22 1
 have cg:=cf.nilrow 3 1
 cases cE
 exact ⟨rfl,_,(res3 rfl rfl rfl),U9,_,(cg.pick [1,0] _ (by decide) rfl),none,0,[],none,0,rfl,rfl,RlL.nil⟩
end Go.Proofs.YtlnfbjphfoipaaaGreat
namespace Go.Proofs.YtlnfbjphfoipaaaGreat
open Go.KL
set_option maxHeartbeats 4000000
theorem wHs (p0:wAA) (ag:Option Addr) (ak:Nat) (ah:Option Addr) (am:Nat) (ai:Option Addr) (an:Nat) (aj:Option Addr) (ao:Nat) (p1:List wAH) (aX:Option Addr) (aY:Nat) (w:World) (U:PHeap) (hS:St0 w U []) (bR:Sl U 1 ag ak p0.Starts.length (hD KL.encI p0.Starts)) (bS:Sl U 2 ah am p0.Splits.length (hD wAC p0.Splits)) (bT:Sl U 3 ai an p0.Clocks.length (hD wAE p0.Clocks)) (bU:Sl U 4 aj ao p0.Readings.length (hD wAB p0.Readings)) (eB:Sl U 4 aX aY p1.length (hD wCA p1)) {r:Int × Int} (hm:wEr p0 p1=some r):Gv Tryz.prog 51 [.agg #[.slice ag p0.Starts.length ak,.slice ah p0.Splits.length am,.slice ai p0.Clocks.length an,.slice aj p0.Readings.length ao],.slice aX p1.length aY] w (wCF w [] U (fun U_ L_ v=>v=.tuple #[jV r.1,jV r.2]/\L_=[])):=by
 unfold wEr at hm
 refine Gv.of Tryz.func51 Z Tryz.ntmps51 Tryz.results51 Z (sR gDv Z ?_)
 let O:List Value:=[.slice ag p0.Starts.length ak,.slice ah p0.Splits.length am,.slice ai p0.Clocks.length an,.slice aj p0.Readings.length ao]
 refine zq (cs:=O) rfl rfl rfl rfl rfl rfl (by rfl) hS ?_
 intro W1 b2 bQ
 refine oA Z Z (oA Z Z (eN (zJ (sR gDw Z (oL Z (bQ.ldBA (j:=0) Z Z Z zn zc (vs:=O) Z Z) (bnK hm fun x5 h6 eQ=>zC 0 Z Z Z Z (zD Z Z Tryz.call33 (zB Z zL) Z) bQ (fun hs=>wEi p0 ag ak ah am ai an aj ao W1 U hs bR bS bT bU h6) (.inr Z) ?_))))))
 rintro U8 L9 fD bH aV dI ⟨rfl,rfl⟩
 have bv:sW w U U8 [.blk b2 27 O] bH:=dI
 refine oA Z Z (eN (sR fL2 Z (oM Z Z (oR Z (Zb Z Z Z) (eN (ifc eQ ?_ ?_))))))
 intro bq eC
 refine zr (ZL (fun h=>h bq.out)) (kN (zJ (sR gEb Z (oL Z (bv.ldBA (j:=0) Z Z Z zn zc (vs:=O) Z Z) (oM Z Z ?_)))))
 have aI:=bR.le aV
 have aJ:=bS.le aV
 have aK:=bT.le aV
 have aL:=bU.le aV
 have bu:=eB.le aV
 refine bnK eC fun fM cX eD=>zC 0 Z Z Z Z (zD Z Z Tryz.call111 (zB Z (zB Z zL)) Z) bv (fun hs=>wEY p0 ag ak ah am ai an aj ao p1 aX aY bH U8 hs aI aJ aK aL bu cX) (.inr Z) ?_
 rintro ap fg fK bk aa eA ⟨rfl,rfl⟩
 have bx:sW w U ap [.blk b2 27 O] bk:=eA
 refine oA Z Z (eN (sR fL2 Z (oM Z Z (oR Z (Zb Z Z Z) (eN (ifc eD ?_ ?_))))))
 intro bs eM
 refine zr (ZL (fun h=>h bs.out)) (kN (zJ (sR fL3 Z (oM Z Z (oR Z (zi Z Z yU) (oR Z (yV Z Z Z) (eN (ifc eM ?_ ?_))))))))
 intro bt eO
 refine cT Z bt (sR fL2 Z (oA Z Z (oA Z Z (eN (zR (zT ?_))))))
 cases eO
 exact ⟨rfl,_,(wDk rfl rfl),ap,_,(bx.pick [] _ (by decide) rfl),rfl,rfl⟩
 intro bt eP
 refine cF Z bt (kN ?_)
 have q:=bnd eP
 obtain ⟨⟨bz,bA⟩,eS,bW⟩:=q
 try dsimp only at bW
 let B1:List Value:=[jV bz,jV bA]
 refine yX (fun J_ w_=>∃ (U_:PHeap) (aT:Nat),J_ 1=.slice aX p1.length aY/\J_ 2=.pointer (some ⟨b2,0,none⟩)/\J_ 8=.pointer (some ⟨aT,0,none⟩)/\PHeap.Le ap U_/\sW w U U_ [.blk b2 27 O,.blk aT 123 B1] w_) ?_ ?_
 refine bnK eS fun au bM eR=>?_
 have q:=bnd eR
 obtain ⟨⟨ae,af,a0⟩,aU,aM⟩:=q
 try dsimp only at aM
 refine ZI ZD [1,3,3,1,2,3,3,3,3,2,2,0,0,3] (wEN (.fx 4 (wIA (.fx 9 gEc (.fx 10 gEd .stop))) (.fx 9 (.fx 4 (wIA gEc) (.fx 10 (.fx 4 (wIA gDx) (.stop)) (.stop))) (.fx 10 (.fx 4 (wIA gEd) (.fx 9 (.fx 4 (wIA gDx) (.stop)) (.stop))) (.stop))))) (by kernel_rfl) ?_
 have aR:=bx.drew
 generalize hw_W85:({ bk with drawn:=bk.drawn + 1 }:World)=cG at aR ⊢
 refine oL Z (aR.ldBA (j:=0) Z Z Z zn zc (vs:=O) Z Z) (oM Z Z ?_)
 have dr:=bu.le aa
 have q:=dr.el (fun _=>rfl) (wAb bM)
 obtain ⟨fA,fC,dx,dy⟩:=q
 refine oR Z (ZZ Z Z dx Z yU Zg (wCc bM)) (oL Z (aR.ldCA (f:=0) dy Z Z Zx Zg (us:=[jV au.Kind,jV au.Skier,jV au.Index,.bool au.Up]) Z Z) (ZB ?_ ?_))
 have dt:=aI.le aa
 have du:=aJ.le aa
 have dv:=aK.le aa
 have dw:=aL.le aa
 refine zC 0 Z Z Z Z (zD Z Z Tryz.call107 (zB Z (zB Z zL)) Z) aR (fun hs=>wBw p0 ag ak ah am ai an aj ao au cG ap hs dt du dv dw aU) (.inr Z) ?_
 rintro az fk fE b5 bX dz ⟨rfl,rfl⟩
 have bN:sW w U az [.blk b2 27 O] b5:=dz
 refine oM Z Z (oR Z (zV Z Z (v:=.agg #[jV ae.skier,jV ae.mat]) Z) (oR Z (zV Z Z (v:=.agg #[jV af.skier,jV af.mat]) Z) (oR Z (zV Z Z (v:=jV a0) Z) (ZB ?_ ?_))))
 let B2:List Value:=[jV 0,jV 0]
 refine zU (cs:=B2) Z Z Z Z Z zd Z bN ?_
 intro fm bm dA
 refine zU (cs:=B2) Z Z Z Z Z zd Z dA ?_
 intro fq bI dB
 let B3:List Value:=[jV ae.skier,jV ae.mat]
 refine zY (j:=1) (vs:=B3) Z Z Z Z dB Z Z Z Z zI (zA Z) Z Z Z ?_
 intro ca dC
 have dD:sW w U az [.blk bI 123 B2,.blk bm 123 B3,.blk b2 27 O] ca:=dC
 let B4:List Value:=[jV af.skier,jV af.mat]
 refine zY (j:=0) (vs:=B4) Z Z Z Z dD Z Z Z Z zI (zA Z) Z Z Z ?_
 intro cb dE
 have dF:sW w U az [.blk bI 123 B4,.blk bm 123 B3,.blk b2 27 O] cb:=dE
 refine oA Z Z (zb ?_)
 cases aM
 exact zF ⟨rfl,⟨az,bm,rfl,rfl,rfl,bX,(dF.pick [2,1] _ (by decide) rfl)⟩⟩
 let B5:List Value:=[jV 0,jV 0]
 refine zU (cs:=B5) Z Z Z Z Z zd Z bN ?_
 intro ft bJ dG
 refine zU (cs:=B5) Z Z Z Z Z zd Z dG ?_
 intro fu bn dH
 let B6:List Value:=[jV ae.skier,jV ae.mat]
 refine zY (j:=0) (vs:=B6) Z Z Z Z dH Z Z Z Z zI (zA Z) Z Z Z ?_
 intro cc dJ
 have dK:sW w U az [.blk bn 123 B6,.blk bJ 123 B5,.blk b2 27 O] cc:=dJ
 let B7:List Value:=[jV af.skier,jV af.mat]
 refine zY (j:=1) (vs:=B7) Z Z Z Z dK Z Z Z Z zI (zA Z) Z Z Z ?_
 intro cd dL
 have dM:sW w U az [.blk bn 123 B6,.blk bJ 123 B7,.blk b2 27 O] cd:=dL
 refine oA Z Z (zb ?_)
 cases aM
 exact zF ⟨rfl,⟨az,bn,rfl,rfl,rfl,bX,(dM.pick [2,0] _ (by decide) rfl)⟩⟩
 refine ZB ?_ ?_
 let B8:List Value:=[jV 0,jV 0]
 refine zU (cs:=B8) Z Z Z Z Z zd Z aR ?_
 intro cf ay bO
 refine ZB ?_ ?_
 have cK:=aI.le aa
 have cL:=aJ.le aa
 have cM:=aK.le aa
 have cN:=aL.le aa
 refine zC 0 Z Z Z Z (zD Z Z Tryz.call107 (zB Z (zB Z zL)) Z) bO (fun hs=>wBw p0 ag ak ah am ai an aj ao au cf ap hs cK cL cM cN aU) (.inr Z) ?_
 rintro a5 fb fG cg eU dN ⟨rfl,rfl⟩
 have dO:sW w U a5 [.blk ay 123 B8,.blk b2 27 O] cg:=dN
 refine oM Z Z (oR Z (zV Z Z (v:=.agg #[jV ae.skier,jV ae.mat]) Z) (oR Z (zV Z Z (v:=.agg #[jV af.skier,jV af.mat]) Z) (oR Z (zV Z Z (v:=jV a0) Z) (zU (cs:=B8) Z Z Z Z Z zd Z dO ?_))))
 intro fw bK dP
 let B9:List Value:=[jV ae.skier,jV ae.mat]
 refine zY (j:=1) (vs:=B9) Z Z Z Z dP Z Z Z Z zI (zA Z) Z Z Z ?_
 intro cj dQ
 have dR:sW w U a5 [.blk bK 123 B8,.blk ay 123 B9,.blk b2 27 O] cj:=dQ
 let bB:List Value:=[jV af.skier,jV af.mat]
 refine zY (j:=0) (vs:=bB) Z Z Z Z dR Z Z Z Z zI (zA Z) Z Z Z ?_
 intro cm dS
 have dT:sW w U a5 [.blk bK 123 bB,.blk ay 123 B9,.blk b2 27 O] cm:=dS
 refine oA Z Z (zb ?_)
 cases aM
 exact zF ⟨rfl,⟨a5,ay,rfl,rfl,rfl,eU,(dT.pick [2,1] _ (by decide) rfl)⟩⟩
 refine zU (cs:=B8) Z Z Z Z Z zd Z bO ?_
 intro cn bo dU
 have cO:=aI.le aa
 have cP:=aJ.le aa
 have cQ:=aK.le aa
 have cR:=aL.le aa
 refine zC 0 Z Z Z Z (zD Z Z Tryz.call107 (zB Z (zB Z zL)) Z) dU (fun hs=>wBw p0 ag ak ah am ai an aj ao au cn ap hs cO cP cQ cR aU) (.inr Z) ?_
 rintro a6 fc fH co eV dV ⟨rfl,rfl⟩
 have dW:sW w U a6 [.blk bo 123 B8,.blk ay 123 B8,.blk b2 27 O] co:=dV
 refine oM Z Z (oR Z (zV Z Z (v:=.agg #[jV ae.skier,jV ae.mat]) Z) (oR Z (zV Z Z (v:=.agg #[jV af.skier,jV af.mat]) Z) (oR Z (zV Z Z (v:=jV a0) Z) ?_)))
 let ba:List Value:=[jV ae.skier,jV ae.mat]
 refine zY (j:=1) (vs:=ba) Z Z Z Z dW Z Z Z Z zI (zA Z) Z Z Z ?_
 intro cp dX
 have dY:sW w U a6 [.blk bo 123 B8,.blk ay 123 ba,.blk b2 27 O] cp:=dX
 let bC:List Value:=[jV af.skier,jV af.mat]
 refine zY (j:=0) (vs:=bC) Z Z Z Z dY Z Z Z Z zI (zA Z) Z Z Z ?_
 intro cq dZ
 have d3:sW w U a6 [.blk bo 123 bC,.blk ay 123 ba,.blk b2 27 O] cq:=dZ
 refine oA Z Z (zb ?_)
 cases aM
 exact zF ⟨rfl,⟨a6,ay,rfl,rfl,rfl,eV,(d3.pick [2,1] _ (by decide) rfl)⟩⟩
 let av:List Value:=[jV 0,jV 0]
 refine zU (cs:=av) Z Z Z Z Z zd Z aR ?_
 intro cr aP bP
 refine ZB ?_ ?_
 have cS:=aI.le aa
 have cU:=aJ.le aa
 have cV:=aK.le aa
 have cW:=aL.le aa
 refine zC 0 Z Z Z Z (zD Z Z Tryz.call107 (zB Z (zB Z zL)) Z) bP (fun hs=>wBw p0 ag ak ah am ai an aj ao au cr ap hs cS cU cV cW aU) (.inr Z) ?_
 rintro a7 fd fI ct eW d4 ⟨rfl,rfl⟩
 have d5:sW w U a7 [.blk aP 123 av,.blk b2 27 O] ct:=d4
 refine oM Z Z (oR Z (zV Z Z (v:=.agg #[jV ae.skier,jV ae.mat]) Z) (oR Z (zV Z Z (v:=.agg #[jV af.skier,jV af.mat]) Z) (oR Z (zV Z Z (v:=jV a0) Z) (zU (cs:=av) Z Z Z Z Z zd Z d5 ?_))))
 intro fy bp d6
 let bb:List Value:=[jV ae.skier,jV ae.mat]
 refine zY (j:=0) (vs:=bb) Z Z Z Z d6 Z Z Z Z zI (zA Z) Z Z Z ?_
 intro cu d7
 have d8:sW w U a7 [.blk bp 123 bb,.blk aP 123 av,.blk b2 27 O] cu:=d7
 let bD:List Value:=[jV af.skier,jV af.mat]
 refine zY (j:=1) (vs:=bD) Z Z Z Z d8 Z Z Z Z zI (zA Z) Z Z Z ?_
 intro cw d9
 have ef:sW w U a7 [.blk bp 123 bb,.blk aP 123 bD,.blk b2 27 O] cw:=d9
 refine oA Z Z (zb ?_)
 cases aM
 exact zF ⟨rfl,⟨a7,bp,rfl,rfl,rfl,eW,(ef.pick [2,0] _ (by decide) rfl)⟩⟩
 refine zU (cs:=av) Z Z Z Z Z zd Z bP ?_
 intro cx a9 eg
 have cY:=aI.le aa
 have cZ:=aJ.le aa
 have c6:=aK.le aa
 have da:=aL.le aa
 refine zC 0 Z Z Z Z (zD Z Z Tryz.call107 (zB Z (zB Z zL)) Z) eg (fun hs=>wBw p0 ag ak ah am ai an aj ao au cx ap hs cY cZ c6 da aU) (.inr Z) ?_
 rintro a8 ff fJ cy eZ eh ⟨rfl,rfl⟩
 have ej:sW w U a8 [.blk a9 123 av,.blk aP 123 av,.blk b2 27 O] cy:=eh
 refine oM Z Z (oR Z (zV Z Z (v:=.agg #[jV ae.skier,jV ae.mat]) Z) (oR Z (zV Z Z (v:=.agg #[jV af.skier,jV af.mat]) Z) (oR Z (zV Z Z (v:=jV a0) Z) ?_)))
 let bc:List Value:=[jV ae.skier,jV ae.mat]
 refine zY (j:=0) (vs:=bc) Z Z Z Z ej Z Z Z Z zI (zA Z) Z Z Z ?_
 intro cz ek
 have en:sW w U a8 [.blk a9 123 bc,.blk aP 123 av,.blk b2 27 O] cz:=ek
 let bE:List Value:=[jV af.skier,jV af.mat]
 refine zY (j:=1) (vs:=bE) Z Z Z Z en Z Z Z Z zI (zA Z) Z Z Z ?_
 intro cA eo
 have ep:sW w U a8 [.blk a9 123 bc,.blk aP 123 bE,.blk b2 27 O] cA:=eo
 refine oA Z Z (zb ?_)
 cases aM
 exact zF ⟨rfl,⟨a8,a9,rfl,rfl,rfl,eZ,(ep.pick [2,0] _ (by decide) rfl)⟩⟩
 rintro e9 cC ⟨bY,aT,cI,cJ,bL,aW,bw⟩
 refine sR (wDd (.fx 3 (fC4_7 (.fx 8 (.fx 9 (.fl 10 (.fl 11 .nil)) .stop) .stop)) .stop)) Z (oL Z (bw.ldBA (j:=0) Z Z cJ zn zc (vs:=O) Z Z) (oL Z (bw.ldBA (j:=1) Z Z bL zj zI (vs:=B1) Z Z) (oM Z cI ?_)))
 have db:=aI.le aa
 have dd:=db.le aW
 have de:=aJ.le aa
 have df:=de.le aW
 have dg:=aK.le aa
 have dh:=dg.le aW
 have di:=aL.le aa
 have dk:=di.le aW
 have dl:=bu.le aa
 have dm:=dl.le aW
 have q:=bnd bW
 obtain ⟨⟨aZ,e6,e8⟩,dp,bV⟩:=q
 try dsimp only at bV
 refine zC 0 Z Z Z Z (zD Z Z Tryz.call112 (zB Z (zB Z (zB Z zL))) Z) bw (fun hs=>wDO p0 ag ak ah am ai an aj ao (⟨bz,bA⟩:wAI) p1 aX aY cC bY hs dd df dh dk dm dp) (.inr Z) ?_
 rintro aO fh fL cD fB er ⟨rfl,rfl⟩
 have eu:sW w U aO [.blk b2 27 O,.blk aT 123 B1] cD:=er
 refine oM Z Z (oR Z (zV Z Z (v:=.agg #[jV aZ.skier,jV aZ.mat]) Z) (oR Z (zV Z Z (v:=jV e6) Z) (oR Z (zV Z Z (v:=.bool e8) Z) (zU (cs:=[jV 0,jV 0]) Z Z Z Z Z zd Z eu ?_))))
 intro fz cH ew
 let bd:List Value:=[jV aZ.skier,jV aZ.mat]
 refine zY (j:=0) (vs:=bd) Z Z Z Z ew Z Z Z Z zI (zA Z) Z Z Z ?_
 intro cE ey
 have aQ:sW w U aO [.blk cH 123 bd,.blk b2 27 O,.blk aT 123 B1] cE:=ey
 refine oA Z Z (oA Z Z (eN (zJ (sR fL11 Z (oM Z Z (oR Z (ZY Z Z) (oM Z Z (ifc bV ?_ ?_))))))))
 intro aq eE
 refine zx Z Z Z (zN Z Z (nC aq.out)) (aQ.ldBA (j:=0) Z Z Z zj zI (vs:=bd) Z Z) Z (zx Z Z Z (zN Z Z (nC aq.out)) (aQ.ldBA (j:=2) Z Z bL zj zI (vs:=B1) Z Z) Z (zg Z Z Z (zN Z Z (nC aq.out)) (fun _=>ZP (Runs.neS (enc:=wCD) (a:=aZ) (b:=(⟨bz,bA⟩:wAI)) Z Z Z wLT wLS) (congrArg hH (decide_not).symm)) (oR Z (zZ Z (nC aq.out) Z) (oM Z Z (ifc eE ?_ ?_)))))
 intro aH eF
 refine ZE Z Z Z (zN Z Z (ZL (fun h=>h aH.out))) Z Z (zg Z Z Z (zN Z Z (ZL (fun h=>h aH.out))) (fun _=>Runs.geq Z Z Z) (oR Z (zZ Z (ZL (fun h=>h aH.out)) Z) (eN (ifc eF ?_ ?_))))
 intro br eG
 refine cT Z br (sR fL2 Z (oA Z Z (oA Z Z (eN (zR (zT ?_))))))
 cases eG
 exact ⟨rfl,_,(wDk rfl rfl),aO,_,(aQ.pick [] _ (by decide) rfl),rfl,rfl⟩
 intro br eH
 refine cF Z br (kN (sR fL3 Z (oM Z Z (oA Z Z (oA Z Z (eN (zR ?_)))))))
 cases eH
 exact ⟨rfl,_,(wDk rfl rfl),aO,_,(aQ.pick [] _ (by decide) rfl),rfl,rfl⟩
 intro aH eI
 refine oT Z aH (oT Z aH (oR Z (zS Z (Zh aH.out) Z) (eN (ZK Z (sR fL2 Z (oA Z Z (oA Z Z (eN (zR (zT ?_))))))))))
 cases eI
 exact ⟨rfl,_,(wDk rfl rfl),aO,_,(aQ.pick [] _ (by decide) rfl),rfl,rfl⟩
 intro aq eJ
 refine zw Z Z Z (zO Z Z (nF (aq.out)) Z) (zw Z Z Z (zO Z Z (nF (aq.out)) Z) (zw Z Z Z (zO Z Z (nF (aq.out)) Z) (oR Z (zS Z (nF (aq.out)) Z) (oM Z Z (oN Z (oN Z (oR Z (zS Z Z Z) (eN (ZK Z (sR fL2 Z (oA Z Z (oA Z Z (eN (zR (zT ?_)))))))))))))))
 cases eJ
 exact ⟨rfl,_,(wDk rfl rfl),aO,_,(aQ.pick [] _ (by decide) rfl),rfl,rfl⟩
 intro bs eK
 refine cT Z bs (sR fL3 Z (oM Z Z (oA Z Z (oA Z Z (eN (zR (zT ?_)))))))
 cases eK
 exact ⟨rfl,_,(wDk rfl rfl),ap,_,(bx.pick [] _ (by decide) rfl),rfl,rfl⟩
 intro bq eL
 refine cT Z bq (sR fL3 Z (oM Z Z (oA Z Z (oA Z Z (eN (zR (zT ?_)))))))
 cases eL
 exact ⟨rfl,_,(wDk rfl rfl),U8,_,(bv.pick [] _ (by decide) rfl),rfl,rfl⟩
theorem wHt (p0:Int) (O:wAJ) (p2:Int) (ae:Nat) (w:World) (U:PHeap) (hS:St0 w U []) (af:Cl U ae 0 [jV p2]) {r:Bool} (hm:wCk p0 O p2=some r):Gv Tryz.prog 83 [jV p0,.agg #[jV O.Skier,jV O.Mat,jV O.Clock,jV O.Time],.pointer (some ⟨ae,0,none⟩)] w (wCF w [] U (fun U_ L_ v=>v=.bool r/\L_=[])):=by
 unfold wCk at hm
 refine Gv.of Tryz.func83 rfl Tryz.ntmps83 Tryz.results83 rfl (sR gDt rfl (zq (cs:=[jV O.Skier,jV O.Mat,jV O.Clock,jV O.Time]) rfl rfl rfl rfl rfl rfl (by rfl) hS ?_))
 intro W1 b2 ab
 refine oA Z Z (eN (sR fL4 Z (oM Z Z (oL Z (ab.ldC (f:=0) af (v:=jV p2) Z Z zK Z) (oR Z (yV Z Z Z) (oA Z Z (eN (zR ?_))))))))
 first | (obtain rfl:=nB hm) | cases hm
 exact ⟨rfl,_,(ZH rfl),U,_,(ab.pick [] _ (by decide) rfl),rfl,rfl⟩
theorem wCX (O:wAA) (ai:Option Addr) (am:Nat) (aj:Option Addr) (an:Nat) (ak:Option Addr) (ao:Nat) (az:Option Addr) (aH:Nat) (p1:((Int × wAJ)->Option Bool)) (a8:Value) (w:World) (U:PHeap) (hS:St0 w U []) (cO:Sl U 1 ai am O.Starts.length (hD KL.encI O.Starts)) (cP:Sl U 2 aj an O.Splits.length (hD wAC O.Splits)) (cQ:Sl U 3 ak ao O.Clocks.length (hD wAE O.Clocks)) (cR:Sl U 4 az aH O.Readings.length (hD wAB O.Readings)) (cS:FnOK Tryz.prog U a8 wKi wKj p1) {r:wAh} (hm:wAk O p1=some r):Gv Tryz.prog 82 [.agg #[.slice ai O.Starts.length am,.slice aj O.Splits.length an,.slice ak O.Clocks.length ao,.slice az O.Readings.length aH],a8] w (wCF w [] U (fun U_ L_ v=>∃ (b0:Nat) (A0p00:Option Addr) (c0p00:Nat) (A0p01:Option Addr) (c0p01:Nat) (A0p02:Option Addr) (c0p02:Nat) (A0p03:Option Addr) (c0p03:Nat) (m0p1:Nat) (es0p1:Array MapEntry) (ck0p1:Nat) (A0p2:Option Addr) (c0p2:Nat),v=.pointer (some ⟨b0,0,none⟩)/\L_=[.blk b0 139 [.slice A0p00 r.Race.Starts.length c0p00,.slice A0p01 r.Race.Splits.length c0p01,.slice A0p02 r.Race.Clocks.length c0p02,.slice A0p03 r.Race.Readings.length c0p03,.map (some m0p1),.slice A0p2 r.edges.length c0p2],.obj m0p1 (.map es0p1 ck0p1),.row A0p2 c0p2 184 7 (hD wAO r.edges)]/\Sl U_ 1 A0p00 c0p00 r.Race.Starts.length (hD KL.encI r.Race.Starts)/\Sl U_ 2 A0p01 c0p01 r.Race.Splits.length (hD wAC r.Race.Splits)/\Sl U_ 3 A0p02 c0p02 r.Race.Clocks.length (hD wAE r.Race.Clocks)/\Sl U_ 4 A0p03 c0p03 r.Race.Readings.length (hD wAB r.Race.Readings)/\MpR es0p1 wBW wBe r.number)):=by
 unfold wAk at hm
 refine Gv.of Tryz.func82 Z Tryz.ntmps82 Tryz.results82 Z (sR gDt Z ?_)
 let B0:List Value:=[.slice ai O.Starts.length am,.slice aj O.Splits.length an,.slice ak O.Clocks.length ao,.slice az O.Readings.length aH]
 refine zq (cs:=B0) rfl rfl rfl rfl rfl rfl (by rfl) hS ?_
 intro W1 b2 bx
 refine yY rfl rfl rfl rfl rfl rfl (eN (sR (wDd gDr) rfl (zg rfl rfl rfl rfl (fun _=>zH rfl rfl zP rfl Zk) (zx rfl rfl rfl rfl (bx.ldB (j:=0) rfl rfl rfl Zr (v:=.slice az O.Readings.length aH) rfl) rfl (zg rfl rfl rfl rfl (fun _=>zi rfl rfl ZF) (bnK hm fun x5 h6 da=>OKS.makeSliceZ (sz:=4) (enc:=wAB) (z:=(⟨0,0,0,0⟩:wAJ)) (v:=jV 0) rfl rfl rfl rfl rfl (wBy ZF) wJl rfl rfl rfl rfl (by decide) (by decide) rfl rfl h6 bx ?_))))))
 intro W8 b9 ct
 have aW:sW w U U [.row (some ⟨b9,0,none⟩) x5.length 115 4 (hD wAB x5),.blk b2 27 B0] W8:=ct
 refine yY rfl rfl rfl rfl rfl rfl (eN (sR (wDd (.fx 3 .nil .stop)) rfl (ZE rfl rfl rfl rfl rfl rfl (zg rfl rfl rfl rfl (fun _=>zH rfl rfl zP rfl Zk) (zx rfl rfl rfl rfl (aW.ldB (j:=1) rfl rfl rfl Zr (v:=.slice az O.Readings.length aH) rfl) rfl (bnK da fun ap cd cZ=>OKS.copyM (j:=0) (f:=wAB) (m:=x5) (ys:=O.Readings) (z:=ap) (a:=0) (n:=x5.length) rfl rfl rfl rfl rfl rfl ZF ZW aW rfl (fun _=>rfl) (fun _=>rfl) rfl cd rfl (by simp) (.inr (by simp)) rfl (aW.srcS cR) rfl ?_))))))
 intro bK cC aY
 let B1:Res:=.row (some ⟨b9,0,none⟩) x5.length 115 4 (hD wAB ap)
 have bw:sW w U U [B1,.blk b2 27 B0] bK:=cC
 refine eN (sR (wDd (.fx 3 .nil .stop)) rfl (ZE rfl rfl rfl rfl rfl (Eq.trans (b:=(.slice (some ⟨b9,0,none⟩) x5.length x5.length:Value)) (c:=(.slice (some ⟨b9,0,none⟩) ap.length x5.length:Value)) rfl (by rw [aY])) ?_))
 have dg:=bw.rowCap (j:=0) rfl (by decide) (wAD (f:=wAB) (sz:=4) (fun _=>rfl) ap)
 refine zg (v:=.slice (some ⟨b9,0,none⟩) 0 x5.length) Z Z Z Z (fun _=>ZP (Runs.slc (sz:=4) (a:=0) (b:=0) Z Z (.inr ⟨Z,Z⟩) (.inl ⟨_,Z,Z⟩) ZF ZW (Int.le_refl _) (Int.le_refl _) (Int.natCast_nonneg _) dg) slc0) (oR Z (zH Z Z zP Z Zk) (zY (j:=1) (vs:=[.slice (some ⟨b9,0,none⟩) 0 x5.length]) Z Z Z Z bw Z Z Z Z Zk (zA Z) Z Z Z ?_))
 intro bL cD
 have cE:sW w U U [B1,.blk b2 27 [.slice ai O.Starts.length am,.slice aj O.Splits.length an,.slice ak O.Clocks.length ao,.slice (some ⟨b9,0,none⟩) 0 x5.length]] bL:=cD
 refine eN (zJ (sR fL3 rfl (ZE rfl rfl rfl rfl rfl (Eq.trans (b:=(.slice (some ⟨b9,0,none⟩) x5.length x5.length:Value)) (c:=(.slice (some ⟨b9,0,none⟩) ap.length x5.length:Value)) rfl (by rw [aY])) (zg rfl rfl rfl rfl (fun _=>zi rfl rfl ZF) (ZE rfl rfl rfl rfl rfl rfl (eN (zX ?_)))))))
 have q:=bnd cZ
 obtain ⟨⟨dC,di⟩,cU,bD⟩:=q
 try dsimp only at bD
 have q:=wBn cU
 obtain ⟨aZ,cV⟩:=q
 replace aZ:=zM aZ
 refine CK.forN' (fun ae (ac,ah) J_ w_=>∃ (U_:PHeap),J_ 21=jV (↑ae:Int)/\J_ 1=a8/\J_ 2=.pointer (some ⟨b2,0,none⟩)/\J_ 19=.slice (some ⟨b9,0,none⟩) ac.length x5.length/\J_ 20=jV (↑ap.length:Int)/\PHeap.Le U U_/\sW w U U_ [.row (some ⟨b9,0,none⟩) x5.length 115 4 (hD wAB ac),.blk b2 27 [.slice ai O.Starts.length am,.slice aj O.Splits.length an,.slice ak O.Clocks.length ao,.slice (some ⟨b9,0,none⟩) ah x5.length]] w_/\ac.length=x5.length) cV ?_ ?_ ?_
 exact ⟨U,Z,Z,Z,Z,Z,(zQ _),cE,aY⟩
 rintro ae ⟨ac,ah⟩ dB dk dr aX ⟨bI,ay,aT,aK,aU,aV,a6,bz,bt⟩ bE
 try dsimp only at bE
 have bq:Hid ((↑ae:Int) < (↑ap.length:Int)):=zM (wBQ aX)
 replace aX:=zM aX
 have bC:Hid (w64 ((↑ae:Int) + 1)=(↑(ae + 1):Int)):=zM (by have h1:=aZ.out;have h2:=bq.out;rw [wAY] <;> omega)
 refine sR fL1 Z (oR Z (ze Z ay aV) (eN (zJ (cT Z bq (kN (zJ (zX (sR (wDd (.fx 3 (.fl 4 (.fx 5 .nil .stop)) .stop)) Z (oM Z ay (bnK bE fun _ bu c6=>oR Z (ZZ Z aU Z ay ZF ZW (wAS bu)) ?_))))))))))
 have cW:=wBJ (xs:=ac) (wAS bu)
 let B2:List Value:=[jV ((gd ac ae).Skier),jV ((gd ac ae).Mat),jV ((gd ac ae).Clock),jV ((gd ac ae).Time)]
 refine zx rfl rfl rfl rfl (bz.ldRA (j:=0) rfl rfl rfl rfl yb ZW (vs:=B2) (wFr (sz:=4) (fun _=>rfl) _ _ _ cW (by first | omega | rfl | simp) rfl) rfl) rfl ?_
 let B3:List Value:=[jV 0,jV 0,jV 0,jV 0]
 refine zU (cs:=B3) Z Z Z Z Z yZ Z bz ?_
 intro dt ax cG
 refine oA Z Z (zY (j:=0) (vs:=B2) Z Z Z Z cG Z Z Z Z ZW (zA Z) Z Z Z ?_)
 intro bM cH
 let B4:Res:=.blk b2 27 [.slice ai O.Starts.length am,.slice aj O.Splits.length an,.slice ak O.Clocks.length ao,.slice (some ⟨b9,0,none⟩) ah x5.length]
 let B5:Res:=.row (some ⟨b9,0,none⟩) x5.length 115 4 (hD wAB ac)
 have bA:sW w U bI [.blk ax 115 B2,B5,B4] bM:=cH
 refine eN (sR (wDd gDr) Z (oM Z aT (oM Z Z (oL Z (bA.ldBA (j:=0) Z Z Z yb ZW (vs:=B2) Z Z) (bnK c6 fun dA cp db=>?_)))))
 have cq:=cS.le a6
 refine OKS.callV (a:=((↑ae:Int),(gd ac ae))) Z Z Z Z Z Z (zB Z (zB Z zL)) bA cq Z cp ?_
 rintro aq dp dz bN bF cI ⟨rfl,rfl⟩
 have aL:sW w U aq [.blk ax 115 B2,B5,B4] bN:=cI
 refine oR Z (ZY Z Z) (eN (ifc db ?_ ?_))
 intro aS dd
 refine zr (nC aS.out) (Ze (zl (zF (rR fL2 Z (oR Z (ZP (za Z ay Z) (congrArg (jV) bC.out)) (oM Z Z (zb ?_)))))))
 cases dd
 exact zF ⟨rfl,⟨aq,rfl,aT,aK,aU,aV,(a6.trans bF),(aL.pick [1,2] _ (by decide) rfl),bt⟩⟩
 intro aS de
 refine ZK (nF (aS.out)) (rR (wDd gEe) Z (oR Z (zH Z aK zP Z Zk) (oL Z (aL.ldB (j:=2) Z Z Z Zr (v:=.slice (some ⟨b9,0,none⟩) ah x5.length) Z) (oL Z (aL.ldBA (j:=0) Z Z Z yb ZW (vs:=B2) Z Z) (ZC (pv:=[(0,.agg B2.toArray)]) (zs:=B3) (cs:=B2) Z Z Z Z Z (wAG Z wAP) ZF ZW yZ Z Z Z Z Z aL ?_)))))
 intro bP bS cJ
 let B6:Res:=.row (some ⟨bS,0,none⟩) 1 115 4 (hD wAB [(gd ac ae)])
 have bB:sW w U aq [B6,.blk ax 115 B2,B5,B4] bP:=cJ
 refine bnK de fun _ cr df=>OKS.appendP (j:=2) (k:=ah) (enc:=wAB) (m:=ac) (v:=(gd ac ae)) rfl rfl rfl rfl rfl Tryz.underlying25 wJl rfl rfl bB rfl rfl rfl (bB.srcR (j:=0) rfl (by decide) (wAD (f:=wAB) (sz:=4) (fun _=>rfl) [(gd ac ae)])) (fun _=>rfl) (fun _=>rfl) cr rfl ?_
 intro bQ cK
 let B7:Res:=.row (some ⟨b9,0,none⟩) x5.length 115 4 (hD wAB (nI ac ah (gd ac ae)))
 have cL:sW w U aq [B6,.blk ax 115 B2,B7,B4] bQ:=cK
 refine oR Z (zH Z aK zP Z Zk) (zY (j:=3) (vs:=[.slice (some ⟨b9,0,none⟩) (ah + 1) x5.length]) Z Z Z Z cL Z Z Z Z Zk (zA Z) Z Z Z ?_)
 intro bR cM
 have cN:sW w U aq [B6,.blk ax 115 B2,B7,.blk b2 27 [.slice ai O.Starts.length am,.slice aj O.Splits.length an,.slice ak O.Clocks.length ao,.slice (some ⟨b9,0,none⟩) (ah + 1) x5.length]] bR:=cM
 refine zb (zl (zF (rR fL2 Z (oR Z (ZP (za Z ay Z) (congrArg (jV) bC.out)) (oM Z Z (zb ?_))))))
 cases df
 exact zF ⟨rfl,⟨aq,rfl,aT,aK,(Eq.trans (b:=(.slice (some ⟨b9,0,none⟩) ac.length x5.length:Value)) (c:=(.slice (some ⟨b9,0,none⟩) ((nI ac ah (gd ac ae)).length) x5.length:Value)) aU (by simp only [nD])),aV,(a6.trans bF),(cN.pick [2,3] _ (by decide) rfl),(nD.trans bt)⟩⟩
 rintro dl aQ ⟨bH,bW,du,bU,dv,bV,a0,cu,dw⟩
 have bT:Hid (¬ ((↑(((↑ap.length:Int):Int) - 0).toNat:Int) < (↑ap.length:Int))):=zM (wAq)
 refine sR fL1 Z (oR Z (ze Z bW bV) (eN (zJ (cF Z bT (ZS (zf (zf (ZN (zF (sR gDw Z (bnK bD fun au bs cX=>?_)))))))))))
 obtain rfl:au.length=di:=wOM bs
 have cw:=cu.cutRowC (enc:=wAB) (k:=0) rfl bs
 let B8:List Value:=[.slice ai O.Starts.length am,.slice aj O.Splits.length an,.slice ak O.Clocks.length ao,.slice (some ⟨b9,0,none⟩) au.length x5.length]
 have bv:sW w U bH [.row (some ⟨b9,0,none⟩) x5.length 115 4 (hD wAB au),.blk b2 27 B8] aQ:=cw
 refine oL Z (bv.ldBA (j:=1) Z Z bU zn zc (vs:=B8) Z Z) ?_
 have q:=bv.freezeR (k:=0) (n:=au.length) rfl (wAD (f:=wAB) (sz:=4) (fun _=>rfl) au) (by decide)
 obtain ⟨bg,a5,dh,cx⟩:=q
 have cy:sW w U bg [.blk b2 27 B8] aQ:=cx
 have bX:=cO.le a0
 have bY:=bX.le a5
 have bZ:=cP.le a0
 have b5:=bZ.le a5
 have ca:=cQ.le a0
 have cb:=ca.le a5
 refine bnK cX fun av cc cY=>zC 0 Z Z Z Z (zD Z Z Tryz.call124 (zB Z zL) Z) cy (fun hs=>wGN (⟨O.Starts,O.Splits,O.Clocks,au⟩:wAA) ai am aj an ak ao (some ⟨b9,0,none⟩) x5.length aQ bg hs bY b5 cb dh cc) (.inr Z) ?_
 rintro bh dm dy bJ dx cz ⟨bj,a9,bk,ba,bm,bb,bn,bc,bo,a7,br,bp,aM,aR,rfl,rfl,cf,cg,cj,cm,cn⟩
 have cA:sW w U bh [.blk bj 139 [.slice a9 av.Race.Starts.length bk,.slice ba av.Race.Splits.length bm,.slice bb av.Race.Clocks.length bn,.slice bc av.Race.Readings.length bo,.map (some a7),.slice aM av.edges.length aR],.obj a7 (.map br bp),.row aM aR 184 7 (hD wAO av.edges),.blk b2 27 B8] bJ:=cz
 refine oA Z Z (eN (zR ?_))
 have hE:=nB cY;first | subst r | cases hE
 exact ⟨rfl,_,(ZH rfl),bh,_,(cA.pick [0,1,2] _ (by decide) rfl),bj,a9,bk,ba,bm,bb,bn,bc,bo,a7,br,bp,aM,aR,rfl,rfl,cf,cg,cj,cm,cn⟩
theorem wHu (p0:Int) (p1:wAJ) (p2:Int) (ai:Nat) (p3:Int) (aj:Nat) (w:World) (U:PHeap) (hS:St0 w U []) (ak:Cl U ai 0 [jV p2]) (am:Cl U aj 0 [jV p3]) {r:Bool} (hm:wBz p0 p1 p2 p3=some r):Gv Tryz.prog 84 [jV p0,.agg #[jV p1.Skier,jV p1.Mat,jV p1.Clock,jV p1.Time],.pointer (some ⟨ai,0,none⟩),.pointer (some ⟨aj,0,none⟩)] w (wCF w [] U (fun U_ L_ v=>v=.bool r/\L_=[])):=by
 unfold wBz at hm
 refine Gv.of Tryz.func84 rfl Tryz.ntmps84 Tryz.results84 rfl (sR gDt rfl (zq (cs:=[jV p1.Skier,jV p1.Mat,jV p1.Clock,jV p1.Time]) rfl rfl rfl rfl rfl rfl (by rfl) hS ?_))
 intro W1 b2 ab
 refine oA Z Z (eN (sR fL9 Z (oM Z Z (oL Z (ab.ldC (f:=0) ak (v:=jV p2) Z Z zK Z) (oR Z (yV Z Z Z) (oM Z Z ?_))))))
 by_cases O:p0=p2
 have ah:=hm;rw [if_pos O] at ah;replace O:=zM O
 refine oT Z O (oT Z O (oT Z O (oR Z (zS Z (Zh O.out) Z) (oA Z Z (eN (zR ?_))))))
 have hE:=nB ah;first | subst r | cases hE
 exact ⟨rfl,_,(ZH rfl),U,_,(ab.pick [] _ (by decide) rfl),rfl,rfl⟩
 have ae:=hm;rw [if_neg O] at ae;replace O:=zM O
 refine ZE Z Z Z (wF Z O) Z Z (zx Z Z Z (wF Z O) (ab.ldC (f:=0) am (v:=jV p3) Z Z zK Z) Z (rU Z (wF Z O) (yV Z Z Z) (oR Z (zZ Z (ZL O.out) Z) (oA Z Z (eN (zR ?_))))))
 first | (obtain rfl:=nB ae) | cases ae
 exact ⟨rfl,_,(ZH rfl),U,_,(ab.pick [] _ (by decide) rfl),rfl,rfl⟩
theorem wGv (O:wAA) (aU:Option Addr) (aX:Nat) (aV:Option Addr) (aY:Nat) (aW:Option Addr) (aZ:Nat) (am:Option Addr) (an:Nat) (w:World) (U:PHeap) (hS:St0 w U []) (bW:Sl U 1 aU aX O.Starts.length (hD KL.encI O.Starts)) (bX:Sl U 2 aV aY O.Splits.length (hD wAC O.Splits)) (bY:Sl U 3 aW aZ O.Clocks.length (hD wAE O.Clocks)) (bZ:Sl U 4 am an O.Readings.length (hD wAB O.Readings)) {r:(List Int) × Int} (hm:wCg O=some r):Gv Tryz.prog 24 [.agg #[.slice aU O.Starts.length aX,.slice aV O.Splits.length aY,.slice aW O.Clocks.length aZ,.slice am O.Readings.length an]] w (wCF w [] U (fun U_ L_ v=>∃ (A0:Option Addr) (c0:Nat),v=.tuple #[.slice A0 r.1.length c0,jV r.2]/\L_=[.row A0 c0 3 1 (hD KL.encI r.1)])):=by
 unfold wCg at hm
 refine Gv.of Tryz.func24 Z Tryz.ntmps24 Tryz.results24 Z (sR gDv Z ?_)
 let B0:List Value:=[.slice aU O.Starts.length aX,.slice aV O.Splits.length aY,.slice aW O.Clocks.length aZ,.slice am O.Readings.length an]
 refine zq (cs:=B0) rfl rfl rfl rfl rfl rfl (by rfl) hS ?_
 intro W1 b2 dr
 refine oA Z Z (oA Z Z (eN (CK.scope (sR (.fl 0 (.fx 1 (wFy (.nil)) .stop)) Z (oL Z (dr.ldBA (j:=0) Z Z Z zn zc (vs:=B0) Z Z) ?_)))))
 have q:=bnd hm
 obtain ⟨⟨x5,x6⟩,h7,a9⟩:=q
 try dsimp only at a9
 refine zC 0 Z Z Z Z (zD Z Z Tryz.call80 (zB Z zL) Z) dr (fun hs=>wEj O aU aX aV aY aW aZ am an W1 U hs bW bX bY bZ h7) (.inr Z) ?_
 rintro U9 jd jx bo ay dm dl
 rcases x5 with _ | ap
 try dsimp only at a9
 obtain ⟨rfl,rfl⟩:=dl
 have gW:sW w U U9 [.blk b2 27 B0] bo:=dm
 refine oM Z Z (oR Z (zV Z Z (v:=.pointer none) Z) (oR Z (zV Z Z (v:=jV x6) Z) (oA Z Z (oA Z Z (eN (zJ (zX (sR fL3 Z (oM Z Z (oR Z (Zb Z Z Z) (oA Z Z (eN (ifc a9 ?_ ?_)))))))))))))
 intro bK iJ
 refine zr (ZL (fun h=>h bK.out)) (sR gDw Z (oM Z Z ?_))
 cases iJ
 intro bK iK
 refine cT Z bK (sR fL3 Z (oM Z Z (oA Z Z (oA Z Z (eN (zR (zo (zT (wFV ?_)))))))))
 have g8:=gW.nilrow 3 1
 cases iK
 exact ⟨rfl,_,(wDk rfl rfl),U9,_,(g8.pick [0] _ (by decide) rfl),none,0,rfl,rfl⟩
 try dsimp only at a9
 obtain ⟨bE,cp,cR,cq,cS,cr,cU,ct,cW,ac,af,ae,bw,bJ,rfl,rfl,gm,gp,gq,gt,gu⟩:=dl
 let B1:Res:=.blk bE 139 [.slice cp ap.Race.Starts.length cR,.slice cq ap.Race.Splits.length cS,.slice cr ap.Race.Clocks.length cU,.slice ct ap.Race.Readings.length cW,.map (some ac),.slice bw ap.edges.length bJ]
 have du:sW w U U9 [B1,.obj ac (.map af ae),.row bw bJ 184 7 (hD wAO ap.edges),.blk b2 27 B0] bo:=dm
 refine oM Z Z (oR Z (zV Z Z (v:=.pointer (some ⟨bE,0,none⟩)) Z) (oR Z (zV Z Z (v:=jV x6) Z) (oA Z Z (oA Z Z (eN (zJ (zX (sR fL3 Z (oM Z Z (oR Z (Zb Z Z Z) (oA Z Z (eN (ifc a9 ?_ ?_)))))))))))))
 intro bN iS
 refine zr (ZL (fun h=>h bN.out)) (sR gDw Z (oM Z Z ?_))
 have q:=du.freezeR (k:=2) (n:=ap.edges.length) rfl (wAD (f:=wAO) (sz:=7) (fun _=>rfl) ap.edges) (by decide)
 obtain ⟨cE,ak,iX,io⟩:=q
 have ip:sW w U cE [B1,.obj ac (.map af ae),.blk b2 27 B0] bo:=io
 have gv:=gm.le ak
 have gw:=gp.le ak
 have gx:=gq.le ak
 have gy:=gt.le ak
 refine bnK iS fun jF gz iT=>zC 2 Z Z Z Z (zD Z Z Tryz.call81 (zB Z zL) Z) ip (fun hs=>wCR ap bE cp cR cq cS cr cU ct cW ac af ae bw bJ bo cE hs gv gw gx gy gu iX gz) (.inl Z) ?_
 rintro bm ji jC dU aH iq ⟨rfl,rfl⟩
 have bT:sW w U bm [B1,.obj ac (.map af ae),.blk b2 27 B0] dU:=iq
 refine oA Z Z (eN (ifc iT ?_ ?_))
 intro bO iU
 refine ZK (congrArg hH bO.out) (sR fL2 Z (oA Z Z (oA Z Z (eN (zR (zo (zT (wFV ?_))))))))
 have ir:=bT.nilrow 3 1
 cases iU
 exact ⟨rfl,_,(wDk rfl rfl),bm,_,(ir.pick [0] _ (by decide) rfl),none,0,rfl,rfl⟩
 intro bO cd
 refine zr (congrArg hH (nA.2 bO.out)) (Ze (zl (zF (sR fL1 Z (oA Z Z (eN (zJ (sR fL4 Z (oR Z (zH Z Z zP Z Zk) (oL Z (bT.ldB (j:=2) Z Z Z Zr (v:=.slice am O.Readings.length an) Z) (oR Z (zi Z Z ZF) (oM Z Z (eN (zX ?_))))))))))))))
 have q:=wCT cd
 obtain ⟨jw,bV⟩:=q
 have q:=wCS bV
 obtain ⟨cc,iB⟩:=q
 replace cc:=zM cc
 refine ya (fun aj _ J_ w_=>∃ (U_:PHeap),J_ 25=jV (↑aj:Int)/\J_ 1=.pointer (some ⟨b2,0,none⟩)/\J_ 6=.slice none 0 0/\J_ 24=jV (↑O.Readings.length:Int)/\PHeap.Le bm U_/\sW w U U_ [B1,.obj ac (.map af ae),.blk b2 27 B0] w_) iB ?_ ?_ ?_
 exact ⟨bm,Z,Z,Z,Z,(zQ _),bT⟩
 rintro aj ⟨⟩ jI jc jq ca ⟨dL,bR,dh,ef,di,bd,it⟩ dD iz
 try dsimp only at dD
 have da:Hid ((↑aj:Int) < (↑O.Readings.length:Int)):=zM (wBQ ca)
 replace ca:=zM ca
 have iC:Hid (w64 ((↑aj:Int) + 1)=(↑(aj + 1):Int)):=zM (by have h1:=cc.out;have h2:=da.out;rw [wAY] <;> omega)
 refine sR fL1 Z (oR Z (ze Z bR di) (eN (zJ (cT Z da (kN (zJ (zX (sR (.fl 0 gDp) Z (oM Z bR (zU (cs:=[jV 0]) Z Z Z Z Z zy Z it ?_))))))))))
 intro jr aP iu
 let B2:List Value:=[jV (↑aj:Int)]
 refine zY (j:=0) (vs:=B2) Z Z Z Z iu Z Z Z Z zE (zA Z) Z Z Z ?_
 intro bD iv
 have dv:sW w U dL [.blk aP 3 B2,B1,.obj ac (.map af ae),.blk b2 27 B0] bD:=iv
 refine eN (sR gEf Z (oL Z (dv.ldBA (j:=3) Z Z dh zn zc (vs:=B0) Z Z) ?_))
 have q:=dv.freeze (k:=0) rfl
 obtain ⟨bh,ba,aQ,gD⟩:=q
 replace aQ:=Cl.of aQ
 have gE:sW w U bh [B1,.obj ac (.map af ae),.blk b2 27 B0] bD:=gD
 replace aQ:Cl bh aP 0 B2:=aQ
 refine oR Z (Runs.mkf Z zL (zB Z zL)) ?_
 have ej:=bW.le ay
 have ek:=ej.le ak
 have en:=ek.le aH
 have eo:=en.le bd
 have ep:=eo.le ba
 have er:=bX.le ay
 have eu:=er.le ak
 have ew:=eu.le aH
 have ey:=ew.le bd
 have eA:=ey.le ba
 have eB:=bY.le ay
 have eC:=eB.le ak
 have eD:=eC.le aH
 have eE:=eD.le bd
 have eF:=eE.le ba
 have eG:=bZ.le ay
 have eH:=eG.le ak
 have eI:=eH.le aH
 have eJ:=eI.le bd
 have eK:=eJ.le ba
 have gB:FnOK Tryz.prog bh (.func (.func 83) #[] #[.pointer (some ⟨aP,0,none⟩)]) wKi wKj (fun x=>wCk x.1 x.2 (↑aj:Int)):=⟨83,[],[.pointer (some ⟨aP,0,none⟩)],rfl,Tryz.call83,fun U1 w1 x y vs le hs ha hm=>by obtain rfl:=ha;exact wHt x.1 x.2 (↑aj:Int) aP w1 U1 hs (aQ.le le) hm⟩
 refine bnK dD fun ao eL iD=>zC 0 Z Z Z Z (zD Z Z Tryz.call82 (zB Z (zB Z zL)) Z) gE (fun hs=>wCX O aU aX aV aY aW aZ am an (fun x=>wCk x.1 x.2 (↑aj:Int)) (.func (.func 83) #[] #[.pointer (some ⟨aP,0,none⟩)]) bD bh hs ep eA eF eK gB eL) (.inr Z) ?_
 rintro dH je jy bB dE gF ⟨cI,cj,cN,cm,cO,cn,cP,co,cQ,aT,a5,a0,bv,bH,rfl,rfl,eM,eO,eP,eQ,eR⟩
 let B3:Res:=.blk cI 139 [.slice cj ao.Race.Starts.length cN,.slice cm ao.Race.Splits.length cO,.slice cn ao.Race.Clocks.length cP,.slice co ao.Race.Readings.length cQ,.map (some aT),.slice bv ao.edges.length bH]
 have gG:sW w U dH [B3,.obj aT (.map a5 a0),.row bv bH 184 7 (hD wAO ao.edges),B1,.obj ac (.map af ae),.blk b2 27 B0] bB:=gF
 have q:=gG.freezeR (k:=2) (n:=ao.edges.length) rfl (wAD (f:=wAO) (sz:=7) (fun _=>rfl) ao.edges) (by decide)
 obtain ⟨cz,aR,iV,gH⟩:=q
 have gI:sW w U cz [B3,.obj aT (.map a5 a0),B1,.obj ac (.map af ae),.blk b2 27 B0] bB:=gH
 have eS:=eM.le aR
 have eU:=eO.le aR
 have eV:=eP.le aR
 have eW:=eQ.le aR
 refine bnK iD fun jD eZ iE=>zC 2 Z Z Z Z (zD Z Z Tryz.call81 (zB Z zL) Z) gI (fun hs=>wCR ao cI cj cN cm cO cn cP co cQ aT a5 a0 bv bH bB cz hs eS eU eV eW eR iV eZ) (.inl Z) ?_
 rintro bi jf jz dN dF gJ ⟨rfl,rfl⟩
 have bS:sW w U bi [B3,.obj aT (.map a5 a0),B1,.obj ac (.map af ae),.blk b2 27 B0] dN:=gJ
 refine eN (ifc iE ?_ ?_)
 intro bI iF
 refine ZK (congrArg hH bI.out) (sR (.fl 0 (.fx 1 (.fl 2 (.fl 3 .nil)) .stop)) Z ?_)
 have e6:=aQ.le dE
 have e8:=e6.le aR
 have e9:=e8.le dF
 refine oL Z (bS.ldC (f:=0) e9 (v:=jV (↑aj:Int)) Z Z zK Z) (ZC (pv:=[(0,jV (↑aj:Int))]) (zs:=[jV 0]) (cs:=B2) Z Z Z Z Z (wAG Z wAP) zG zE zy Z Z Z Z Z bS ?_)
 intro dO cJ gK
 have gL:sW w U bi [.row (some ⟨cJ,0,none⟩) 1 3 1 (hD KL.encI [(↑aj:Int)]),B3,.obj aT (.map a5 a0),B1,.obj ac (.map af ae),.blk b2 27 B0] dO:=gK
 refine oA Z Z (oA Z Z (eN (zR (zo (zT ?_)))))
 have q:=wAV iF
 obtain ⟨iY,iG,dX⟩:=q
 have q:=wCY cd bV (iz iY dX)
 obtain rfl:=q
 refine zT (zo (zT (wFV ?_)))
 cases iG
 exact ⟨rfl,_,(wDk rfl rfl),bi,_,(gL.pick [0] _ (by decide) rfl),(some ⟨cJ,0,none⟩),1,rfl,rfl⟩
 intro bI iH
 refine zr (congrArg hH (nA.2 bI.out)) (Ze (zl (zF (rR fL2 Z (oR Z (ZP (za Z bR Z) (congrArg (jV) iC.out)) (oM Z Z (zb ?_)))))))
 have q:=nB iH
 obtain rfl:=q
 exact zF ⟨rfl,_,rfl,⟨bi,rfl,dh,ef,di,((((bd.trans ba).trans dE).trans aR).trans dF),(bS.pick [2,3,4] _ (by decide) rfl)⟩⟩
 rintro ⟨⟩ i8 jj ⟨cA,eg,db,d4,d5,bs,dp⟩ iw
 have br:=wDQ cd bV iw
 try dsimp only at br
 have dV:Hid (¬ ((↑(((↑O.Readings.length:Int):Int) - 0).toNat:Int) < (↑O.Readings.length:Int))):=zM (wAq)
 refine sR fL1 Z (oR Z (ze Z eg d5) (eN (zJ (cF Z dV (ZS (zf (zf (ZN (zF (zJ (CK.label (zF (zJ (sR fL4 Z (oR Z (zH Z db zP Z Zk) (oL Z (dp.ldB (j:=2) Z Z Z Zr (v:=.slice am O.Readings.length an) Z) (oR Z (zi Z Z ZF) (oM Z Z (eN (zX ?_))))))))))))))))))))
 have q:=wCT br
 obtain ⟨jv,bU⟩:=q
 have q:=wCS bU
 obtain ⟨cb,iA⟩:=q
 replace cb:=zM cb
 refine ya (fun ai _ J_ w_=>∃ (U_:PHeap),J_ 38=jV (↑ai:Int)/\J_ 1=.pointer (some ⟨b2,0,none⟩)/\J_ 6=.slice none 0 0/\J_ 37=jV (↑O.Readings.length:Int)/\PHeap.Le cA U_/\sW w U U_ [B1,.obj ac (.map af ae),.blk b2 27 B0] w_) iA ?_ ?_ ?_
 exact ⟨cA,Z,db,d4,Z,(zQ _),dp⟩
 rintro ai ⟨⟩ jG i9 jk b5 ⟨cC,bQ,d6,d7,dd,bb,gM⟩ dB ix
 try dsimp only at dB
 have cV:Hid ((↑ai:Int) < (↑O.Readings.length:Int)):=zM (wBQ b5)
 replace b5:=zM b5
 have dx:Hid (w64 ((↑ai:Int) + 1)=(↑(ai + 1):Int)):=zM (by have h1:=cb.out;have h2:=cV.out;rw [wAY] <;> omega)
 refine sR fL1 Z (oR Z (ze Z bQ dd) (eN (zJ (cT Z cV (kN (zJ (zX (sR (.fl 0 gDp) Z (oM Z bQ (zU (cs:=[jV 0]) Z Z Z Z Z zy Z gM ?_))))))))))
 intro jl au gN
 let B4:List Value:=[jV (↑ai:Int)]
 refine zY (j:=0) (vs:=B4) Z Z Z Z gN Z Z Z Z zE (zA Z) Z Z Z ?_
 intro dP gO
 have dq:sW w U cC [.blk au 3 B4,B1,.obj ac (.map af ae),.blk b2 27 B0] dP:=gO
 refine eN (sR gEf Z (oL Z (dq.ldB (j:=0) Z Z Z zK (v:=jV (↑ai:Int)) Z) (oR Z (ZP (za Z Z Z) (congrArg (jV) dx.out)) (zU (cs:=[jV 0]) Z Z Z Z Z zy Z dq ?_))))
 intro jm bF gP
 let B5:List Value:=[jV (↑(ai + 1):Int)]
 refine zY (j:=0) (vs:=B5) Z Z Z Z gP Z Z Z Z zE (zA Z) Z Z Z ?_
 intro cG gQ
 have gR:sW w U cC [.blk bF 3 B5,.blk au 3 B4,B1,.obj ac (.map af ae),.blk b2 27 B0] cG:=gQ
 refine eN (zX ?_)
 have q:=gR.freeze (k:=1) rfl
 obtain ⟨bj,bc,a6,gS⟩:=q
 replace a6:=Cl.of a6
 have gT:sW w U bj [.blk bF 3 B5,B1,.obj ac (.map af ae),.blk b2 27 B0] cG:=gS
 replace a6:Cl bj au 0 B4:=a6
 refine ye (fun ah J_ w_=>∃ (U_:PHeap) (av:Nat),J_ 1=.pointer (some ⟨b2,0,none⟩)/\J_ 6=.slice none 0 0/\J_ 8=.pointer (some ⟨au,0,none⟩)/\J_ 9=.pointer (some ⟨av,0,none⟩)/\J_ 37=jV (↑O.Readings.length:Int)/\J_ 38=jV (↑ai:Int)/\PHeap.Le bj U_/\sW w U U_ [B1,.obj ac (.map af ae),.blk b2 27 B0,.blk av 3 [jV ah]] w_) dB ?_ ?_
 exact ⟨bj,bF,d6,d7,rfl,rfl,dd,bQ,(zQ _),(gT.pick [1,2,3,0] _ (by decide) rfl)⟩
 rintro ah jH ja cH ⟨dI,av,bp,de,bP,bq,df,dg,aM,a7⟩ dC dw
 refine zJ (sR fL5 Z (oL Z (a7.ldB (j:=3) Z Z bq zK (v:=jV ah) Z) (oR Z (zH Z bp zP Z Zk) (oL Z (a7.ldB (j:=2) Z Z Z Zr (v:=.slice am O.Readings.length an) Z) (oR Z (zi Z Z ZF) (oR Z (ze Z Z Z) (eN ?_)))))))
 by_cases ax:ah < (↑O.Readings.length:Int)
 have dy:=dC;rw [if_pos ax] at dy;replace ax:=zM ax
 refine cT Z ax (kN (zJ (zX (sR gEf Z (oL Z (a7.ldBA (j:=2) Z Z bp zn zc (vs:=B0) Z Z) ?_)))))
 have q:=a7.freeze (k:=3) rfl
 obtain ⟨bk,aS,aL,gU⟩:=q
 replace aL:=Cl.of aL
 have gV:sW w U bk [B1,.obj ac (.map af ae),.blk b2 27 B0] cH:=gU
 replace aL:Cl bk av 0 [jV ah]:=aL
 refine oR Z (Runs.mkf Z zL (zB bP (zB bq zL))) ?_
 have fb:=bW.le ay
 have fc:=fb.le ak
 have fd:=fc.le aH
 have ff:=fd.le bs
 have fg:=ff.le bb
 have fh:=fg.le bc
 have fj:=fh.le aM
 have fk:=fj.le aS
 have fm:=bX.le ay
 have fq:=fm.le ak
 have ft:=fq.le aH
 have fu:=ft.le bs
 have fw:=fu.le bb
 have fy:=fw.le bc
 have fz:=fy.le aM
 have fA:=fz.le aS
 have fB:=bY.le ay
 have fC:=fB.le ak
 have fD:=fC.le aH
 have fE:=fD.le bs
 have fG:=fE.le bb
 have fH:=fG.le bc
 have fI:=fH.le aM
 have fJ:=fI.le aS
 have fK:=bZ.le ay
 have fL:=fK.le ak
 have fM:=fL.le aH
 have fN:=fM.le bs
 have fO:=fN.le bb
 have fP:=fO.le bc
 have fQ:=fP.le aM
 have fR:=fQ.le aS
 have fS:=a6.le aM
 have dk:=fS.le aS
 have gC:FnOK Tryz.prog bk (.func (.func 84) #[] #[.pointer (some ⟨au,0,none⟩),.pointer (some ⟨av,0,none⟩)]) wKi wKj (fun x=>wBz x.1 x.2 (↑ai:Int) ah):=⟨84,[],[.pointer (some ⟨au,0,none⟩),.pointer (some ⟨av,0,none⟩)],rfl,Tryz.call84,fun U1 w1 x y vs le hs ha hm=>by obtain rfl:=ha;exact wHu x.1 x.2 (↑ai:Int) au ah av w1 U1 hs (dk.le le) (aL.le le) hm⟩
 refine bnK dy fun aq fT iI=>zC 0 Z Z Z Z (zD Z Z Tryz.call82 (zB Z (zB Z zL)) Z) gV (fun hs=>wCX O aU aX aV aY aW aZ am an (fun x=>wBz x.1 x.2 (↑ai:Int) ah) (.func (.func 84) #[] #[.pointer (some ⟨au,0,none⟩),.pointer (some ⟨av,0,none⟩)]) cH bk hs fk fA fJ fR gC fT) (.inr Z) ?_
 rintro dJ jg jA bC bt gX ⟨cK,cu,cX,cw,cY,cx,cZ,cy,c6,aI,aK,aJ,bx,bL,rfl,rfl,fU,fV,fW,fY,fZ⟩
 let B6:Res:=.blk cK 139 [.slice cu aq.Race.Starts.length cX,.slice cw aq.Race.Splits.length cY,.slice cx aq.Race.Clocks.length cZ,.slice cy aq.Race.Readings.length c6,.map (some aI),.slice bx aq.edges.length bL]
 have gY:sW w U dJ [B6,.obj aI (.map aK aJ),.row bx bL 184 7 (hD wAO aq.edges),B1,.obj ac (.map af ae),.blk b2 27 B0] bC:=gX
 have q:=gY.freezeR (k:=2) (n:=aq.edges.length) rfl (wAD (f:=wAO) (sz:=7) (fun _=>rfl) aq.edges) (by decide)
 obtain ⟨cD,az,iW,gZ⟩:=q
 have g7:sW w U cD [B6,.obj aI (.map aK aJ),B1,.obj ac (.map af ae),.blk b2 27 B0] bC:=gZ
 have f5:=fU.le az
 have f6:=fV.le az
 have f7:=fW.le az
 have f8:=fY.le az
 refine bnK iI fun jE f9 iL=>zC 2 Z Z Z Z (zD Z Z Tryz.call81 (zB Z zL) Z) g7 (fun hs=>wCR aq cK cu cX cw cY cx cZ cy c6 aI aK aJ bx bL bC cD hs f5 f6 f7 f8 fZ iW f9) (.inl Z) ?_
 rintro aO jh jB dQ bu g9 ⟨rfl,rfl⟩
 have a8:sW w U aO [B6,.obj aI (.map aK aJ),B1,.obj ac (.map af ae),.blk b2 27 B0] dQ:=g9
 refine eN (ifc iL ?_ ?_)
 intro bM iM
 refine ZK (congrArg hH bM.out) (sR gEb Z ?_)
 have ga:=dk.le bt
 have gb:=ga.le az
 have ge:=gb.le bu
 refine oL Z (a8.ldC (f:=0) ge (v:=jV (↑ai:Int)) Z bP zK Z) ?_
 have gf:=aL.le bt
 have gg:=gf.le az
 have gh:=gg.le bu
 refine oL Z (a8.ldC (f:=0) gh (v:=jV ah) Z bq zK Z) (ZC (pv:=[(0,jV (↑ai:Int)),(1,jV ah)]) (zs:=[jV 0,jV 0]) (cs:=[jV (↑ai:Int),jV ah]) Z Z Z Z Z (wAG Z (wAG Z wAP)) zG zE zy Z Z Z Z Z a8 ?_)
 intro dR cL ib
 have ic:sW w U aO [.row (some ⟨cL,0,none⟩) 2 3 1 (hD KL.encI [(↑ai:Int),ah]),B6,.obj aI (.map aK aJ),B1,.obj ac (.map af ae),.blk b2 27 B0] dR:=ib
 refine oA Z Z (eN (ZS (wIK (zf ?_))))
 have q:=wAV iM
 obtain ⟨iZ,iN,dY⟩:=q
 have q:=dw iZ dY
 obtain rfl:=q
 refine zf (wIK (wIK (zf ?_)))
 have q:=wAV iN
 obtain ⟨i2,iO,dZ⟩:=q
 have q:=wCY br bU (ix i2 dZ)
 obtain rfl:=q
 refine zf (ZN (zF (zJ (sR fL3 rfl (ZE rfl rfl rfl rfl rfl rfl (zg rfl rfl rfl rfl (fun _=>zi rfl rfl zG) (zg rfl rfl rfl rfl (fun _=>yV rfl rfl rfl) (eN (zr (ZL (by decide)) (kN (sR fL3 rfl (ZE rfl rfl rfl rfl rfl rfl (yY rfl rfl rfl rfl rfl rfl (yY rfl rfl rfl rfl rfl rfl (eN (zR (wFV ?_)))))))))))))))))
 cases iO
 exact ⟨rfl,_,(wDk rfl rfl),aO,_,(ic.pick [0] _ (by decide) rfl),(some ⟨cL,0,none⟩),2,rfl,rfl⟩
 intro bM iP
 refine zr (congrArg hH (nA.2 bM.out)) (Ze (zl (zF (zJ (sR fL1 Z ?_)))))
 have gi:=aL.le bt
 have gj:=gi.le az
 have gk:=gj.le bu
 refine oL Z (a8.ldC (f:=0) gk (v:=jV ah) Z bq zK Z) (eN (rR gDu Z (zU (cs:=[jV 0]) Z Z Z Z Z zy Z a8 ?_)))
 intro jo bG ie
 refine zY (j:=0) (vs:=[jV ah]) Z Z Z Z ie Z Z Z Z zE (zA Z) Z Z Z ?_
 intro dS ig
 have dt:sW w U aO [.blk bG 3 [jV ah],B6,.obj aI (.map aK aJ),B1,.obj ac (.map af ae),.blk b2 27 B0] dS:=ig
 refine eN (rR (.fl 0 (.fl 1 (.fx 2 .nil .stop))) Z (oL Z (dt.ldB (j:=0) Z Z Z zK (v:=jV ah) Z) (oR Z (za Z Z Z) (zY (j:=0) (vs:=[jV (w64 (ah + 1))]) Z Z Z Z dt Z Z Z Z zE (zA Z) Z Z Z ?_))))
 intro dT ii
 have ij:sW w U aO [.blk bG 3 [jV (w64 (ah + 1))],B6,.obj aI (.map aK aJ),B1,.obj ac (.map af ae),.blk b2 27 B0] dT:=ii
 refine zb ?_
 have q:=nB iP
 obtain rfl:=q
 exact zF ⟨rfl,_,rfl,⟨aO,bG,bp,de,bP,rfl,df,dg,((((aM.trans aS).trans bt).trans az).trans bu),(ij.pick [3,4,5,0] _ (by decide) rfl)⟩⟩
 have dz:=dC;rw [if_neg ax] at dz;replace ax:=zM ax
 refine cF Z ax (ZS (zf ?_))
 have q:=wAV dz
 obtain ⟨i4,iQ,d3⟩:=q
 have q:=dw i4 d3
 obtain rfl:=q
 refine zf (ZN (zl (zF (rR fL2 Z (oR Z (ZP (za Z dg Z) (congrArg (jV) dx.out)) (oM Z Z (zb ?_)))))))
 have q:=nB iQ
 obtain rfl:=q
 exact zF ⟨rfl,_,rfl,⟨dI,rfl,bp,de,df,((bb.trans bc).trans aM),(a7.pick [0,1,2] _ (by decide) rfl)⟩⟩
 rintro ⟨⟩ jb jp ⟨dK,eh,jt,d8,d9,ju,ik⟩ iy
 have dA:=wDQ br bU iy
 try dsimp only at dA
 have dW:Hid (¬ ((↑(((↑O.Readings.length:Int):Int) - 0).toNat:Int) < (↑O.Readings.length:Int))):=zM (wAq)
 refine sR fL1 rfl (zg rfl rfl rfl rfl (fun _=>ze rfl eh d9) (eN (zJ (cF Z dW (ZS (zf (zf (ZN (zF (zJ (sR fL3 rfl (ZE rfl rfl rfl rfl rfl d8 (zg rfl rfl rfl rfl (fun _=>zi rfl rfl zG) (zg rfl rfl rfl rfl (fun _=>yV rfl rfl rfl) (eN (ZK (Zh (by decide)) (sR fL2 rfl (yY rfl rfl rfl rfl rfl rfl (yY rfl rfl rfl rfl rfl rfl (eN (zR (zT (wFV ?_)))))))))))))))))))))))
 have il:=ik.nilrow 3 1
 cases dA
 exact ⟨rfl,_,(wDk rfl rfl),dK,_,(il.pick [0] _ (by decide) rfl),none,0,rfl,rfl⟩
 intro bN iR
 refine cT Z bN (sR fL3 Z (oM Z Z (oA Z Z (oA Z Z (eN (zR (zo (zT (wFV ?_)))))))))
 have im:=du.nilrow 3 1
 cases iR
 exact ⟨rfl,_,(wDk rfl rfl),U9,_,(im.pick [0] _ (by decide) rfl),none,0,rfl,rfl⟩
end Go.Proofs.YtlnfbjphfoipaaaGreat
namespace Go.Proofs.YtlnfbjphfoipaaaGreat
open Go.KL
set_option maxHeartbeats 4000000
theorem wHv (p0:Int) (O:wAJ) (p2:Int) (ae:Nat) (w:World) (U:PHeap) (hS:St0 w U []) (af:Cl U ae 0 [jV p2]) {r:Bool} (hm:wDc p0 O p2=some r):Gv Tryz.prog 86 [jV p0,.agg #[jV O.Skier,jV O.Mat,jV O.Clock,jV O.Time],.pointer (some ⟨ae,0,none⟩)] w (wCF w [] U (fun U_ L_ v=>v=.bool r/\L_=[])):=by
 unfold wDc at hm
 refine Gv.of Tryz.func86 rfl Tryz.ntmps86 Tryz.results86 rfl (sR gDt rfl (zq (cs:=[jV O.Skier,jV O.Mat,jV O.Clock,jV O.Time]) rfl rfl rfl rfl rfl rfl (by rfl) hS ?_))
 intro W1 b2 aa
 refine oA Z Z (eN (sR fL5 Z (oR Z (zH Z Z Zn Z zE) (oL Z (aa.ldB (j:=0) Z Z Z zK (v:=jV O.Skier) Z) (oL Z (aa.ldC (f:=0) af (v:=jV p2) Z Z zK Z) (oR Z (yV Z Z Z) (oA Z Z (eN (zR ?_)))))))))
 first | (obtain rfl:=nB hm) | cases hm
 exact ⟨rfl,_,(ZH rfl),U,_,(aa.pick [] _ (by decide) rfl),rfl,rfl⟩
theorem wGw (O:wAA) (az:Option Addr) (aH:Nat) (aO:Option Addr) (aR:Nat) (aP:Option Addr) (aS:Nat) (aQ:Option Addr) (aT:Nat) (w:World) (U:PHeap) (hS:St0 w U []) (bX:Sl U 1 az aH O.Starts.length (hD KL.encI O.Starts)) (bY:Sl U 2 aO aR O.Splits.length (hD wAC O.Splits)) (bZ:Sl U 3 aP aS O.Clocks.length (hD wAE O.Clocks)) (b5:Sl U 4 aQ aT O.Readings.length (hD wAB O.Readings)) {r:(List Int) × Int} (hm:wCh O=some r):Gv Tryz.prog 27 [.agg #[.slice az O.Starts.length aH,.slice aO O.Splits.length aR,.slice aP O.Clocks.length aS,.slice aQ O.Readings.length aT]] w (wCF w [] U (fun U_ L_ v=>∃ (A0:Option Addr) (c0:Nat),v=.tuple #[.slice A0 r.1.length c0,jV r.2]/\L_=[.row A0 c0 3 1 (hD KL.encI r.1)])):=by
 unfold wCh at hm
 refine Gv.of Tryz.func27 Z Tryz.ntmps27 Tryz.results27 Z (sR gDv Z ?_)
 let B0:List Value:=[.slice az O.Starts.length aH,.slice aO O.Splits.length aR,.slice aP O.Clocks.length aS,.slice aQ O.Readings.length aT]
 refine zq (cs:=B0) rfl rfl rfl rfl rfl rfl (by rfl) hS ?_
 intro W1 b2 bV
 refine oA Z Z (oA Z Z (eN (sR (.fl 0 (.fx 1 (wFy (.nil)) .stop)) Z (oL Z (bV.ldBA (j:=0) Z Z Z zn zc (vs:=B0) Z Z) ?_))))
 have q:=bnd hm
 obtain ⟨⟨x5,x6⟩,h7,aM⟩:=q
 try dsimp only at aM
 refine zC 0 Z Z Z Z (zD Z Z Tryz.call80 (zB Z zL) Z) bV (fun hs=>wEj O az aH aO aR aP aS aQ aT W1 U hs bX bY bZ b5 h7) (.inr Z) ?_
 rintro U9 eB eK aY a0 bT bR
 rcases x5 with _ | aj
 try dsimp only at aM
 obtain ⟨rfl,rfl⟩:=bR
 have dR:sW w U U9 [.blk b2 27 B0] aY:=bT
 refine oM Z Z (oR Z (zV Z Z (v:=.pointer none) Z) (oR Z (zV Z Z (v:=jV x6) Z) (oA Z Z (oA Z Z (eN (zJ (zX (sR fL3 Z (oM Z Z (oR Z (Zb Z Z Z) (oA Z Z (eN (ifc aM ?_ ?_)))))))))))))
 intro be d9
 refine zr (ZL (fun h=>h be.out)) (sR gDw Z (oM Z Z ?_))
 cases d9
 intro be ef
 refine cT Z be (sR fL3 Z (oM Z Z (oA Z Z (oA Z Z (eN (zR (zo (zT ?_))))))))
 have dS:=dR.nilrow 3 1
 cases ef
 exact ⟨rfl,_,(wDk rfl rfl),U9,_,(dS.pick [0] _ (by decide) rfl),none,0,rfl,rfl⟩
 try dsimp only at aM
 obtain ⟨ba,bu,bL,bw,bM,bx,bN,bA,bP,ae,ag,af,a7,bd,rfl,rfl,dp,dq,dr,dt,du⟩:=bR
 let B1:Res:=.blk ba 139 [.slice bu aj.Race.Starts.length bL,.slice bw aj.Race.Splits.length bM,.slice bx aj.Race.Clocks.length bN,.slice bA aj.Race.Readings.length bP,.map (some ae),.slice a7 aj.edges.length bd]
 have bW:sW w U U9 [B1,.obj ae (.map ag af),.row a7 bd 184 7 (hD wAO aj.edges),.blk b2 27 B0] aY:=bT
 refine oM Z Z (oR Z (zV Z Z (v:=.pointer (some ⟨ba,0,none⟩)) Z) (oR Z (zV Z Z (v:=jV x6) Z) (oA Z Z (oA Z Z (eN (zJ (zX (sR fL3 Z (oM Z Z (oR Z (Zb Z Z Z) (oA Z Z (eN (ifc aM ?_ ?_)))))))))))))
 intro bf eg
 refine zr (ZL (fun h=>h bf.out)) (sR gDw Z (oM Z Z ?_))
 have q:=bW.freezeR (k:=2) (n:=aj.edges.length) rfl (wAD (f:=wAO) (sz:=7) (fun _=>rfl) aj.edges) (by decide)
 obtain ⟨bD,ak,ep,dT⟩:=q
 have dU:sW w U bD [B1,.obj ae (.map ag af),.blk b2 27 B0] aY:=dT
 have dv:=dp.le ak
 have dw:=dq.le ak
 have dx:=dr.le ak
 have dy:=dt.le ak
 refine bnK eg fun eQ dz eh=>zC 2 Z Z Z Z (zD Z Z Tryz.call81 (zB Z zL) Z) dU (fun hs=>wCR aj ba bu bL bw bM bx bN bA bP ae ag af a7 bd aY bD hs dv dw dx dy du ep dz) (.inl Z) ?_
 rintro aW eE eO cr a5 dV ⟨rfl,rfl⟩
 have bk:sW w U aW [B1,.obj ae (.map ag af),.blk b2 27 B0] cr:=dV
 refine oA Z Z (eN (ifc eh ?_ ?_))
 intro bg ej
 refine ZK (congrArg hH bg.out) (sR fL2 Z (oA Z Z (oA Z Z (eN (zR (zo (zT ?_)))))))
 have dW:=bk.nilrow 3 1
 cases ej
 exact ⟨rfl,_,(wDk rfl rfl),aW,_,(dW.pick [0] _ (by decide) rfl),none,0,rfl,rfl⟩
 intro bg ek
 refine zr (congrArg hH (nA.2 bg.out)) (Ze (zl (zF (sR fL1 Z (oA Z Z (eN (zJ (sR fL4 Z (oR Z (zH Z Z zP Z zh) (oL Z (bk.ldB (j:=2) Z Z Z zk (v:=.slice az O.Starts.length aH) Z) (oR Z (zi Z Z zG) (oM Z Z (eN (zX (bnK ek fun eS dY en=>?_)))))))))))))))
 have q:=wBn dY
 obtain ⟨bn,dZ⟩:=q
 replace bn:=zM bn
 refine CK.forN' (fun ab aN J_ w_=>∃ (U_:PHeap) (aI:Option Addr) (aL:Nat),J_ 24=jV (↑ab:Int)/\J_ 1=.pointer (some ⟨b2,0,none⟩)/\J_ 6=.slice aI aN.length aL/\J_ 23=jV (↑O.Starts.length:Int)/\PHeap.Le aW U_/\sW w U U_ [B1,.obj ae (.map ag af),.blk b2 27 B0,.row aI aL 3 1 (hD KL.encI aN)] w_) dZ ?_ ?_ ?_
 have dX:=bk.nilrow 3 1
 exact ⟨aW,none,0,rfl,rfl,rfl,rfl,(zQ _),(dX.pick [1,2,3,0] _ (by decide) rfl)⟩
 rintro ab aN eR eA eH bm ⟨cg,aI,aL,aZ,bh,bQ,bi,ax,dC⟩ er
 have bG:Hid ((↑ab:Int) < (↑O.Starts.length:Int)):=zM (wBQ bm)
 replace bm:=zM bm
 have ca:Hid (w64 ((↑ab:Int) + 1)=(↑(ab + 1):Int)):=zM (by have h1:=bn.out;have h2:=bG.out;rw [wAY] <;> omega)
 refine sR fL1 Z (oR Z (ze Z aZ bi) (eN (zJ (cT Z bG (kN (zJ (zX (sR (.fl 0 gDp) Z (oM Z aZ (zU (cs:=[jV 0]) Z Z Z Z Z zy Z dC ?_))))))))))
 intro eF ap dD
 let B2:List Value:=[jV (↑ab:Int)]
 refine zY (j:=0) (vs:=B2) Z Z Z Z dD Z Z Z Z zE (zA Z) Z Z Z ?_
 intro a8 dE
 let B3:Res:=.row aI aL 3 1 (hD KL.encI aN)
 have bS:sW w U cg [.blk ap 3 B2,B1,.obj ae (.map ag af),.blk b2 27 B0,B3] a8:=dE
 refine eN (sR (.fl 0 (.fl 1 (.fx 2 (.fl 3 (.fl 4 .nil)) .stop))) Z (oL Z (bS.ldBA (j:=3) Z Z bh zn zc (vs:=B0) Z Z) ?_))
 have q:=bS.freeze (k:=0) rfl
 obtain ⟨aV,ay,av,dF⟩:=q
 replace av:=Cl.of av
 have dG:sW w U aV [B1,.obj ae (.map ag af),.blk b2 27 B0,B3] a8:=dF
 replace av:Cl aV ap 0 B2:=av
 refine oR Z (Runs.mkf Z zL (zB Z zL)) ?_
 have cA:=bX.le a0
 have cC:=cA.le ak
 have cD:=cC.le a5
 have cE:=cD.le ax
 have cG:=cE.le ay
 have cH:=bY.le a0
 have cI:=cH.le ak
 have cJ:=cI.le a5
 have cK:=cJ.le ax
 have cL:=cK.le ay
 have cM:=bZ.le a0
 have cN:=cM.le ak
 have cO:=cN.le a5
 have cP:=cO.le ax
 have cQ:=cP.le ay
 have cR:=b5.le a0
 have cS:=cR.le ak
 have cU:=cS.le a5
 have cV:=cU.le ax
 have cW:=cV.le ay
 have dB:FnOK Tryz.prog aV (.func (.func 86) #[] #[.pointer (some ⟨ap,0,none⟩)]) wKi wKj (fun x=>wDc x.1 x.2 (↑ab:Int)):=⟨86,[],[.pointer (some ⟨ap,0,none⟩)],rfl,Tryz.call86,fun U1 w1 x y vs le hs ha hm=>by obtain rfl:=ha;exact wHv x.1 x.2 (↑ab:Int) ap w1 U1 hs (av.le le) hm⟩
 refine bnK er fun ai cX d3=>zC 0 Z Z Z Z (zD Z Z Tryz.call82 (zB Z (zB Z zL)) Z) dG (fun hs=>wCX O az aH aO aR aP aS aQ aT (fun x=>wDc x.1 x.2 (↑ab:Int)) (.func (.func 86) #[] #[.pointer (some ⟨ap,0,none⟩)]) a8 aV hs cG cL cQ cW dB cX) (.inr Z) ?_
 rintro cj eC eL a9 bo dH ⟨bE,br,bH,bs,bI,bt,bJ,bv,bK,an,au,aq,a6,bb,rfl,rfl,cY,cZ,c6,da,db⟩
 let B4:Res:=.blk bE 139 [.slice br ai.Race.Starts.length bH,.slice bs ai.Race.Splits.length bI,.slice bt ai.Race.Clocks.length bJ,.slice bv ai.Race.Readings.length bK,.map (some an),.slice a6 ai.edges.length bb]
 have dI:sW w U cj [B4,.obj an (.map au aq),.row a6 bb 184 7 (hD wAO ai.edges),B1,.obj ae (.map ag af),.blk b2 27 B0,B3] a9:=dH
 refine oR Z (Runs.mkf Z (zB Z zL) zL) (oA Z Z (eN (sR gDq Z (oM Z Z ?_))))
 have q:=dI.freezeR (k:=2) (n:=ai.edges.length) rfl (wAD (f:=wAO) (sz:=7) (fun _=>rfl) ai.edges) (by decide)
 obtain ⟨bC,am,eo,dJ⟩:=q
 have dK:sW w U bC [B4,.obj an (.map au aq),B1,.obj ae (.map ag af),.blk b2 27 B0,B3] a9:=dJ
 have dd:=cY.le am
 have de:=cZ.le am
 have df:=c6.le am
 have dg:=da.le am
 refine bnK d3 fun eP dh d4=>zC 2 Z Z Z Z (zD Z Z Tryz.call81 zL Z) dK (fun hs=>wCR ai bE br bH bs bI bt bJ bv bK an au aq a6 bb a9 bC hs dd de df dg db eo dh) (.inl Z) ?_
 rintro aK eD eM co bp dL ⟨rfl,rfl⟩
 have bj:sW w U aK [B4,.obj an (.map au aq),B1,.obj ae (.map ag af),.blk b2 27 B0,B3] co:=dL
 refine eN (ifc d4 ?_ ?_)
 intro bc d5
 refine ZK (congrArg hH bc.out) (rR gEg Z (oM Z bQ ?_))
 have di:=av.le bo
 have dk:=di.le am
 have dl:=dk.le bp
 refine oL Z (bj.ldC (f:=0) dl (v:=jV (↑ab:Int)) Z Z zK Z) (ZC (pv:=[(0,jV (↑ab:Int))]) (zs:=[jV 0]) (cs:=B2) Z Z Z Z Z (wAG Z wAP) zG zE zy Z Z Z Z Z bj ?_)
 intro cp ct dM
 let B5:Res:=.row (some ⟨ct,0,none⟩) 1 3 1 (hD KL.encI [(↑ab:Int)])
 have bU:sW w U aK [B5,B4,.obj an (.map au aq),B1,.obj ae (.map ag af),.blk b2 27 B0,B3] cp:=dM
 refine bnK d5 fun cb dm d6=>yG (j:=6) (enc:=KL.encI) (xs:=aN) (ys:=[(↑ab:Int)]) (zs:=cb) rfl rfl rfl rfl rfl yg wHd rfl rfl rfl rfl rfl rfl bU rfl rfl rfl (bU.srcR (j:=0) rfl (by decide) (wAD (f:=KL.encI) (sz:=1) (fun _=>rfl) [(↑ab:Int)])) (fun _=>rfl) (fun _=>rfl) dm rfl ?_
 intro bz bO cq dN
 have dO:sW w U aK [B5,B4,.obj an (.map au aq),B1,.obj ae (.map ag af),.blk b2 27 B0,.row bz bO 3 1 (hD KL.encI cb)] cq:=dN
 refine oA Z Z (zb (zl (zF (rR fL2 Z (oR Z (ZP (za Z aZ Z) (congrArg (jV) ca.out)) (oM Z Z (zb ?_)))))))
 cases d6
 exact zF ⟨rfl,⟨aK,bz,bO,rfl,bh,rfl,bi,((((ax.trans ay).trans bo).trans am).trans bp),(dO.pick [3,4,5,6] _ (by decide) rfl)⟩⟩
 intro bc d7
 refine zr (congrArg hH (nA.2 bc.out)) (Ze (zl (zF (rR fL2 Z (oR Z (ZP (za Z aZ Z) (congrArg (jV) ca.out)) (oM Z Z (zb ?_)))))))
 cases d7
 exact zF ⟨rfl,⟨aK,aI,aL,rfl,bh,bQ,bi,((((ax.trans ay).trans bo).trans am).trans bp),(bj.pick [2,3,4,5] _ (by decide) rfl)⟩⟩
 rintro ey eG ⟨cm,cd,cu,cz,eI,cx,cy,eJ,dP⟩
 have cw:Hid (¬ ((↑(((↑O.Starts.length:Int):Int) - 0).toNat:Int) < (↑O.Starts.length:Int))):=zM (wAq)
 refine sR fL1 Z (oR Z (ze Z cz cy) (eN (zJ (cF Z cw (ZS (zf (zf (ZN (zF (sR fL3 Z (oM Z cx (oA Z Z (oA Z Z (eN (zR ?_)))))))))))))))
 cases en
 exact ⟨rfl,_,(wDk rfl rfl),cm,_,(dP.pick [3] _ (by decide) rfl),cd,cu,rfl,rfl⟩
 intro bf d8
 refine cT Z bf (sR fL3 Z (oM Z Z (oA Z Z (oA Z Z (eN (zR (zo (zT ?_))))))))
 have dQ:=bW.nilrow 3 1
 cases d8
 exact ⟨rfl,_,(wDk rfl rfl),U9,_,(dQ.pick [0] _ (by decide) rfl),none,0,rfl,rfl⟩
theorem wBS (O:List Int) (an:Option Addr) (ap:Nat) (p1:List Int) (ao:Option Addr) (aq:Nat) (w:World) (U:PHeap) (hS:St0 w U []) (a0:Sl U 1 an ap O.length (hD KL.encI O)) (a5:Sl U 1 ao aq p1.length (hD KL.encI p1)) {r:Bool} (hm:wAf O p1=some r):Gv Tryz.prog 26 [.slice an O.length ap,.slice ao p1.length aq] w (wCF w [] U (fun U_ L_ v=>v=.bool r/\L_=[])):=by
 unfold wAf at hm
 refine Gv.of Tryz.func26 Z Tryz.ntmps26 Tryz.results26 Z (sR fL1 Z (oA Z Z (eN (zJ (sR fL5 Z (oM Z Z (oR Z (zi Z Z zG) (oM Z Z (oR Z (zi Z Z zG) (oR Z (Zb Z Z Z) (eN ?_)))))))))))
 by_cases c1:(↑O.length:Int)=(↑p1.length:Int)
 have af:=hm;rw [if_pos c1] at af;replace c1:=zM c1
 refine zr (ZL (fun h=>h c1.out)) (kN (zJ (sR fL3 Z (oM Z Z (oR Z (zi Z Z zG) (oM Z Z (eN (zX ?_))))))))
 have q:=wCT af
 obtain ⟨r5,ai⟩:=q
 have q:=wCS ai
 obtain ⟨ak,a8⟩:=q
 replace ak:=zM ak
 refine ya (fun k4 _ J_ w_=>∃ (U_:PHeap),J_ 13=jV (↑k4:Int)/\J_ 0=.slice an O.length ap/\J_ 1=.slice ao p1.length aq/\J_ 12=jV (↑O.length:Int)/\PHeap.Le U U_/\sW w U U_ [] w_) a8 ?_ ?_ ?_
 exact ⟨U,Z,Z,Z,Z,(zQ _),hS⟩
 rintro k4 ⟨⟩ bv J9 av aj ⟨au,ah,ay,az,aH,am,aY⟩ aM a6
 try dsimp only at aM
 have ax:Hid ((↑k4:Int) < (↑O.length:Int)):=zM (wBQ aj)
 replace aj:=zM aj
 have a9:Hid (w64 ((↑k4:Int) + 1)=(↑(k4 + 1):Int)):=zM (by have h1:=ak.out;have h2:=ax.out;rw [wAY] <;> omega)
 refine sR fL1 rfl (zg rfl rfl rfl rfl (fun _=>ze rfl ah aH) (eN (zJ (cT Z ax (kN (zJ (zX (sR fL2 rfl (ZE rfl rfl rfl rfl rfl ah (yY rfl rfl rfl rfl rfl rfl (eN (zJ (ZI ZD [3,3,3,1,3,3,3,1,3] fL9 (by kernel_rfl) ?_)))))))))))))
 have ac:=aY.drew
 generalize hw_W25:({ av with drawn:=av.drawn + 1 }:World)=bk at ac ⊢
 refine oM Z ay (oM Z Z (bnK aM fun bg aI ba=>?_))
 have aS:=a0.le am
 have q:=aS.el (fun _=>rfl) (wAb aI)
 obtain ⟨bn,bs,aU,aW⟩:=q
 refine oR Z (ZZ Z Z aU Z zG zE (wCc aI)) (oL Z (ac.ldC (f:=0) aW (v:=jV bg) Z Z zK Z) (oM Z az (oM Z Z (bnK ba fun bh aJ bb=>?_))))
 have aT:=a5.le am
 have q:=aT.el (fun _=>rfl) (wAb aJ)
 obtain ⟨bo,bt,aV,aX⟩:=q
 refine oR Z (ZZ Z Z aV Z zG zE (wCc aJ)) (oL Z (ac.ldC (f:=0) aX (v:=jV bh) Z Z zK Z) (oR Z (Zb Z Z Z) (eN (ifc bb ?_ ?_))))
 intro ag bc
 refine zr (ZL (fun h=>h ag.out)) (Ze (zl (zF (rR fL2 Z (oR Z (ZP (za Z ah Z) (congrArg (jV) a9.out)) (oM Z Z (zb ?_)))))))
 have q:=nB bc
 obtain rfl:=q
 exact zF ⟨Z,_,Z,⟨au,Z,ay,az,aH,am,ac⟩⟩
 intro ag bd
 refine cT Z ag (sR fL1 Z (oA Z Z (eN (zR (zo (zT ?_))))))
 have q:=wAV bd
 obtain ⟨bf,be,aP⟩:=q
 have q:=wCY af ai (a6 bf aP)
 obtain rfl:=q
 refine zT (zo (zT ?_))
 have hE:=nB be;first | subst r | cases hE
 exact ⟨Z,_,(ZH Z),au,_,ac,Z,Z⟩
 rintro ⟨⟩ bi bm ⟨aN,aR,bp,bq,aQ,br,aZ⟩ a7
 have aK:=wDQ af ai a7
 try dsimp only at aK
 have aO:Hid (¬ ((↑(((↑O.length:Int):Int) - 0).toNat:Int) < (↑O.length:Int))):=zM (wAq)
 refine sR fL1 Z (oR Z (ze Z aR aQ) (eN (zJ (cF Z aO (ZS (zf (zf (ZN (zF (sR fL1 Z (oA Z Z (eN (zR ?_)))))))))))))
 have hE:=nB aK;first | subst r | cases hE
 exact ⟨Z,_,(ZH Z),aN,_,aZ,Z,Z⟩
 have aL:=hm;rw [if_neg c1] at aL;replace c1:=zM c1
 refine cT Z c1 (sR fL1 Z (oA Z Z (eN (zR (zT ?_)))))
 have hE:=nB aL;first | subst r | cases hE
 exact ⟨Z,_,(ZH Z),U,_,hS,Z,Z⟩
theorem wEO  (w:World) (U:PHeap) (hS:St0 w U [])  {r:Bool} (hm:wCK =some r):Gv Tryz.prog 9 [] w (wCF w [] U (fun U_ L_ v=>v=.bool r/\L_=[])):=by
 unfold wCK at hm
 refine Gv.of Tryz.func9 Z Tryz.ntmps9 Tryz.results9 Z (sR fL1 Z (oA Z Z (eN (sR (.fx 0 (.fx 1 (.fx 2 (wLt gDy) .stop) .stop) .stop) Z (bnK hm fun x1 h2 q0=>zC 0 Z Z Z Z (zD Z Z Tryz.call56 zL Z) hS (fun hs=>wBh w U hs h2) (.inr Z) ?_)))))
 rintro U4 L5 v6 W7 uS qI ⟨cO,ft,cP,fu,cQ,fw,cR,fC,rfl,rfl⟩
 let B0:Res:=.row cR fC 115 4 (hD wAB x1.Readings)
 let B1:Res:=.row cQ fw 112 3 (hD wAE x1.Clocks)
 let B2:Res:=.row cP fu 39 2 (hD wAC x1.Splits)
 let B3:Res:=.row cO ft 3 1 (hD KL.encI x1.Starts)
 have mW:sW w U U4 [B3,B2,B1,B0] W7:=qI
 refine bnK q0 fun tu jR qX=>zC 0 Z Z Z Z (zD Z Z Tryz.call57 (zB Z (zB Z zL)) Z) mW (fun hs=>wBY 0 2 W7 U4 hs jR) (.inr Z) ?_
 rintro im tL vf bj ux oh ⟨rfl,rfl⟩
 have oj:sW w U im [B3,B2,B1,B0] bj:=oh
 have q:=oj.freezeR (k:=0) (n:=x1.Starts.length) rfl (wAD (f:=KL.encI) (sz:=1) (fun _=>rfl) x1.Starts) (by decide)
 obtain ⟨it,uz,sn,oq⟩:=q
 have ow:sW w U it [B2,B1,B0] bj:=oq
 have q:=ow.freezeR (k:=0) (n:=x1.Splits.length) rfl (wAD (f:=wAC) (sz:=2) (fun _=>rfl) x1.Splits) (by decide)
 obtain ⟨iy,tc,su,oH⟩:=q
 have oJ:sW w U iy [B1,B0] bj:=oH
 have q:=oJ.freezeR (k:=0) (n:=x1.Clocks.length) rfl (wAD (f:=wAE) (sz:=3) (fun _=>rfl) x1.Clocks) (by decide)
 obtain ⟨iB,gL,sC,oY⟩:=q
 have o0:sW w U iB [B0] bj:=oY
 have q:=o0.freezeR (k:=0) (n:=x1.Readings.length) rfl (wAD (f:=wAB) (sz:=4) (fun _=>rfl) x1.Readings) (by decide)
 obtain ⟨er,cH,sE,pd⟩:=q
 have pf:sW w U er [] bj:=pd
 have lx:=sn.le tc
 have ly:=lx.le gL
 have lB:=ly.le cH
 have lC:=su.le gL
 have lD:=lC.le cH
 have lE:=sC.le cH
 have q:=bnd qX
 obtain ⟨⟨bG,cN⟩,lG,gA⟩:=q
 try dsimp only at gA
 refine zC 0 Z Z Z Z (zD Z Z Tryz.call12 (zB Z (zB Z zL)) Z) pf (fun hs=>wGu x1 cO ft cP fu cQ fw cR fC tu bj er hs lB lD lE sE lG) (.inr Z) ?_
 rintro cu tX vr ja uL pO ⟨rfl,rfl⟩
 have pT:sW w U cu [] ja:=pO
 refine oM Z Z (oR Z (zV Z Z (v:=.agg #[jV bG.Lo,jV bG.Hi]) Z) (oR Z (zV Z Z (v:=jV cN) Z) ?_))
 let B4:List Value:=[jV 0,jV 0]
 refine zU (cs:=B4) Z Z Z Z Z zz Z pT ?_
 intro uf aa p6
 let O:List Value:=[jV bG.Lo,jV bG.Hi]
 refine zY (j:=0) (vs:=O) Z Z Z Z p6 Z Z Z Z zm (zA Z) Z Z Z ?_
 intro fc qb
 have qh:sW w U cu [.blk aa 39 O] fc:=qb
 refine oA Z Z (eN (sR (.fx 0 (.fx 1 (.fx 2 (wLt gDy) .stop) .stop) .stop) Z (bnK gA fun az mb rL=>zC 0 Z Z Z Z (zD Z Z Tryz.call56 zL Z) qh (fun hs=>wBh fc cu hs mb) (.inr Z) ?_)))
 rintro eJ t8 vy ff uU qA ⟨dF,gg,dG,gh,dH,gi,dI,gj,rfl,rfl⟩
 let B6:Res:=.row dI gj 115 4 (hD wAB az.Readings)
 let B7:Res:=.row dH gi 112 3 (hD wAE az.Clocks)
 let B8:Res:=.row dG gh 39 2 (hD wAC az.Splits)
 let B9:Res:=.row dF gg 3 1 (hD KL.encI az.Starts)
 have qR:sW w U eJ [B9,B8,B7,B6,.blk aa 39 O] ff:=qA
 refine bnK rL fun tB jy qS=>zC 0 Z Z Z Z (zD Z Z Tryz.call57 (zB Z (zB Z zL)) Z) qR (fun hs=>wBY 0 1 ff eJ hs jy) (.inr Z) ?_
 rintro ib tD u0 bh uh mq ⟨rfl,rfl⟩
 have mr:sW w U ib [B9,B8,B7,B6,.blk aa 39 O] bh:=mq
 have q:=mr.freezeR (k:=0) (n:=az.Starts.length) rfl (wAD (f:=KL.encI) (sz:=1) (fun _=>rfl) az.Starts) (by decide)
 obtain ⟨ic,ui,r8,ms⟩:=q
 have mu:sW w U ic [B8,B7,B6,.blk aa 39 O] bh:=ms
 have q:=mu.freezeR (k:=0) (n:=az.Splits.length) rfl (wAD (f:=wAC) (sz:=2) (fun _=>rfl) az.Splits) (by decide)
 obtain ⟨ie,s8,r9,mw⟩:=q
 have my:sW w U ie [B7,B6,.blk aa 39 O] bh:=mw
 have q:=my.freezeR (k:=0) (n:=az.Clocks.length) rfl (wAD (f:=wAE) (sz:=3) (fun _=>rfl) az.Clocks) (by decide)
 obtain ⟨ig,gG,sa,mz⟩:=q
 have mA:sW w U ig [B6,.blk aa 39 O] bh:=mz
 have q:=mA.freezeR (k:=0) (n:=az.Readings.length) rfl (wAD (f:=wAB) (sz:=4) (fun _=>rfl) az.Readings) (by decide)
 obtain ⟨d5,cA,sb,mB⟩:=q
 have mC:sW w U d5 [.blk aa 39 O] bh:=mB
 have jz:=r8.le s8
 have jA:=jz.le gG
 have jB:=jA.le cA
 have jC:=r9.le gG
 have jD:=jC.le cA
 have jE:=sa.le cA
 have q:=bnd qS
 obtain ⟨⟨bC,gT⟩,jF,gt⟩:=q
 try dsimp only at gt
 refine zC 0 Z Z Z Z (zD Z Z Tryz.call12 (zB Z (zB Z zL)) Z) mC (fun hs=>wGu az dF gg dG gh dH gi dI gj tB bh d5 hs jB jD jE sb jF) (.inr Z) ?_
 rintro cq tE u7 iY uj mD ⟨rfl,rfl⟩
 have mE:sW w U cq [.blk aa 39 O] iY:=mD
 refine oM Z Z (oR Z (zV Z Z (v:=.agg #[jV bC.Lo,jV bC.Hi]) Z) (oR Z (zV Z Z (v:=jV gT) Z) (zU (cs:=B4) Z Z Z Z Z zz Z mE ?_)))
 intro ud ac mF
 let ab:List Value:=[jV bC.Lo,jV bC.Hi]
 refine zY (j:=0) (vs:=ab) Z Z Z Z mF Z Z Z Z zm (zA Z) Z Z Z ?_
 intro eP mG
 have mH:sW w U cq [.blk ac 39 ab,.blk aa 39 O] eP:=mG
 refine oA Z Z (eN (sR (.fx 0 (.fx 1 (.fx 2 (.fx 3 (fC4_6 (.fx 7 (.fx 8 (.fl 9 .nil) .stop) .stop)) .stop) .stop) .stop) .stop) Z (bnK gt fun ao jG qT=>zC 0 Z Z Z Z (zD Z Z Tryz.call56 zL Z) mH (fun hs=>wBh eP cq hs jG) (.inr Z) ?_)))
 rintro d6 tF u8 eQ uk mI ⟨cS,fy,cU,fz,cV,fA,cW,fB,rfl,rfl⟩
 let bd:Res:=.row cW fB 115 4 (hD wAB ao.Readings)
 let bv:Res:=.row cV fA 112 3 (hD wAE ao.Clocks)
 let bK:Res:=.row cU fz 39 2 (hD wAC ao.Splits)
 let cc:Res:=.row cS fy 3 1 (hD KL.encI ao.Starts)
 have mJ:sW w U d6 [cc,bK,bv,bd,.blk ac 39 ab,.blk aa 39 O] eQ:=mI
 refine bnK qT fun tr jH qU=>zC 0 Z Z Z Z (zD Z Z Tryz.call57 (zB Z (zB Z zL)) Z) mJ (fun hs=>wBY 0 2 eQ d6 hs jH) (.inr Z) ?_
 rintro d7 tG u9 eR ul mK ⟨rfl,rfl⟩
 have mL:sW w U d7 [cc,bK,bv,bd,.blk ac 39 ab,.blk aa 39 O] eR:=mK
 refine bnK qU fun tt jI qV=>zC 0 Z Z Z Z (zD Z Z Tryz.call57 (zB Z (zB Z zL)) Z) mL (fun hs=>wBY 1 2 eR d7 hs jI) (.inr Z) ?_
 rintro ii tH va bi um mM ⟨rfl,rfl⟩
 have mN:sW w U ii [cc,bK,bv,bd,.blk ac 39 ab,.blk aa 39 O] bi:=mM
 have q:=mN.freezeR (k:=0) (n:=ao.Starts.length) rfl (wAD (f:=KL.encI) (sz:=1) (fun _=>rfl) ao.Starts) (by decide)
 obtain ⟨ij,uo,sc,mO⟩:=q
 have mP:sW w U ij [bK,bv,bd,.blk ac 39 ab,.blk aa 39 O] bi:=mO
 have q:=mP.freezeR (k:=0) (n:=ao.Splits.length) rfl (wAD (f:=wAC) (sz:=2) (fun _=>rfl) ao.Splits) (by decide)
 obtain ⟨ik,s9,sd,mQ⟩:=q
 have mR:sW w U ik [bv,bd,.blk ac 39 ab,.blk aa 39 O] bi:=mQ
 have q:=mR.freezeR (k:=0) (n:=ao.Clocks.length) rfl (wAD (f:=wAE) (sz:=3) (fun _=>rfl) ao.Clocks) (by decide)
 obtain ⟨il,gH,se,mS⟩:=q
 have mT:sW w U il [bd,.blk ac 39 ab,.blk aa 39 O] bi:=mS
 have q:=mT.freezeR (k:=0) (n:=ao.Readings.length) rfl (wAD (f:=wAB) (sz:=4) (fun _=>rfl) ao.Readings) (by decide)
 obtain ⟨d8,cC,sf,mU⟩:=q
 have mV:sW w U d8 [.blk ac 39 ab,.blk aa 39 O] bi:=mU
 have jK:=sc.le s9
 have jL:=jK.le gH
 have jM:=jL.le cC
 have jN:=sd.le gH
 have jO:=jN.le cC
 have jP:=se.le cC
 have q:=bnd qV
 obtain ⟨⟨bD,gU⟩,jQ,gu⟩:=q
 try dsimp only at gu
 refine zC 0 Z Z Z Z (zD Z Z Tryz.call16 (zB Z (zB Z (zB Z zL))) Z) mV (fun hs=>wKk ao cS fy cU fz cV fA cW fB tr tt bi d8 hs jM jO jP sf jQ) (.inr Z) ?_
 rintro cr tI vb iZ uq mX ⟨rfl,rfl⟩
 have mY:sW w U cr [.blk ac 39 ab,.blk aa 39 O] iZ:=mX
 refine oM Z Z (oR Z (zV Z Z (v:=.agg #[jV bD.Lo,jV bD.Hi]) Z) (oR Z (zV Z Z (v:=jV gU) Z) (zU (cs:=B4) Z Z Z Z Z zz Z mY ?_)))
 intro ue af mZ
 let ae:List Value:=[jV bD.Lo,jV bD.Hi]
 refine zY (j:=0) (vs:=ae) Z Z Z Z mZ Z Z Z Z zm (zA Z) Z Z Z ?_
 intro eS m3
 have m4:sW w U cr [.blk af 39 ae,.blk ac 39 ab,.blk aa 39 O] eS:=m3
 refine oA Z Z (eN (sR (.fx 0 (.fx 1 (.fx 2 (.fl 3 (.fl 4 (.fx 5 (.fx 6 (wMz (.nil)) .stop) .stop))) .stop) .stop) .stop) Z (bnK gu fun ap jS qW=>zC 0 Z Z Z Z (zD Z Z Tryz.call56 zL Z) m4 (fun hs=>wBh eS cr hs jS) (.inr Z) ?_)))
 rintro d9 tJ vc eU ur m5 ⟨cX,fD,cY,fE,cZ,fG,c6,fH,rfl,rfl⟩
 let aU:Res:=.row c6 fH 115 4 (hD wAB ap.Readings)
 let be:Res:=.row cZ fG 112 3 (hD wAE ap.Clocks)
 let bw:Res:=.row cY fE 39 2 (hD wAC ap.Splits)
 let bL:Res:=.row cX fD 3 1 (hD KL.encI ap.Starts)
 have m6:sW w U d9 [bL,bw,be,aU,.blk af 39 ae,.blk ac 39 ab,.blk aa 39 O] eU:=m5
 refine bnK qW fun tv jT qY=>zC 0 Z Z Z Z (zD Z Z Tryz.call57 (zB Z (zB Z zL)) Z) m6 (fun hs=>wBY 0 2 eU d9 hs jT) (.inr Z) ?_
 rintro ef tK vd eV uu m7 ⟨rfl,rfl⟩
 have m8:sW w U ef [bL,bw,be,aU,.blk af 39 ae,.blk ac 39 ab,.blk aa 39 O] eV:=m7
 refine bnK qY fun tw jU qZ=>zC 0 Z Z Z Z (zD Z Z Tryz.call57 (zB Z (zB Z zL)) Z) m8 (fun hs=>wBY 1 2 eV ef hs jU) (.inr Z) ?_
 rintro eg tM ve i2 uv m9 ⟨rfl,rfl⟩
 have n3:sW w U eg [bL,bw,be,aU,.blk af 39 ae,.blk ac 39 ab,.blk aa 39 O] i2:=m9
 let bf:List Value:=[jV 0,jV 0,jV 0,.bool false]
 let dJ:List Value:=[jV 3,jV 0,jV 0,.bool false]
 refine oR Z (zu (pv:=[(0,jV 3)]) (z:=bf) (cs:=dJ) Z (wAG Z wAP) Zw wED Z Z) ?_
 let dK:List Value:=[jV 3,jV 0,jV 2,.bool true]
 refine oR Z (zu (pv:=[(0,jV 3),(2,jV 2),(3,.bool true)]) (z:=bf) (cs:=dK) Z (wAG Z (wAG Z (wAG Z wAP))) Zw wED Z Z) (ZC (pv:=[(0,.agg dJ.toArray),(1,.agg dK.toArray)]) (zs:=[jV 0,jV 0,jV 0,.bool false,jV 0,jV 0,jV 0,.bool false]) (cs:=[jV 3,jV 0,jV 0,.bool false,jV 3,jV 0,jV 2,.bool true]) Z Z Z Z Z (wAG Z (wAG Z wAP)) yU Zg Zw Z Z Z Z Z n3 ?_)
 intro aY fg n4
 let bx:Res:=.row (some ⟨fg,0,none⟩) 2 93 4 (hD wCA [(⟨3,0,0,false⟩:wAH),(⟨3,0,2,true⟩:wAH)])
 have n5:sW w U eg [bx,bL,bw,be,aU,.blk af 39 ae,.blk ac 39 ab,.blk aa 39 O] aY:=n4
 have q:=n5.freezeR (k:=1) (n:=ap.Starts.length) rfl (wAD (f:=KL.encI) (sz:=1) (fun _=>rfl) ap.Starts) (by decide)
 obtain ⟨io,uw,sg,n6⟩:=q
 have n7:sW w U io [bx,bw,be,aU,.blk af 39 ae,.blk ac 39 ab,.blk aa 39 O] aY:=n6
 have q:=n7.freezeR (k:=1) (n:=ap.Splits.length) rfl (wAD (f:=wAC) (sz:=2) (fun _=>rfl) ap.Splits) (by decide)
 obtain ⟨ip,ta,sh,n8⟩:=q
 have n9:sW w U ip [bx,be,aU,.blk af 39 ae,.blk ac 39 ab,.blk aa 39 O] aY:=n8
 have q:=n9.freezeR (k:=1) (n:=ap.Clocks.length) rfl (wAD (f:=wAE) (sz:=3) (fun _=>rfl) ap.Clocks) (by decide)
 obtain ⟨iq,gI,sj,oa⟩:=q
 have oc:sW w U iq [bx,aU,.blk af 39 ae,.blk ac 39 ab,.blk aa 39 O] aY:=oa
 have q:=oc.freezeR (k:=1) (n:=ap.Readings.length) rfl (wAD (f:=wAB) (sz:=4) (fun _=>rfl) ap.Readings) (by decide)
 obtain ⟨ir,cD,sk,od⟩:=q
 have oe:sW w U ir [bx,.blk af 39 ae,.blk ac 39 ab,.blk aa 39 O] aY:=od
 have q:=oe.freezeR (k:=0) (n:=[(⟨3,0,0,false⟩:wAH),(⟨3,0,2,true⟩:wAH)].length) rfl (wAD (f:=wCA) (sz:=4) (fun _=>rfl) [(⟨3,0,0,false⟩:wAH),(⟨3,0,2,true⟩:wAH)]) (by decide)
 obtain ⟨eh,bZ,sl,og⟩:=q
 have oi:sW w U eh [.blk af 39 ae,.blk ac 39 ab,.blk aa 39 O] aY:=og
 have jW:=sg.le ta
 have jX:=jW.le gI
 have jY:=jX.le cD
 have jZ:=jY.le bZ
 have j0:=sh.le gI
 have j5:=j0.le cD
 have j6:=j5.le bZ
 have j7:=sj.le cD
 have j8:=j7.le bZ
 have j9:=sk.le bZ
 have q:=bnd qZ
 obtain ⟨⟨gV,gW⟩,k5,gv⟩:=q
 try dsimp only at gv
 refine zC 0 Z Z Z Z (zD Z Z Tryz.call48 (zB Z (zB Z (zB Z (zB Z zL)))) Z) oi (fun hs=>wIQ ap cX fD cY fE cZ fG c6 fH tv tw [(⟨3,0,0,false⟩:wAH),(⟨3,0,2,true⟩:wAH)] (some ⟨fg,0,none⟩) 2 aY eh hs jZ j6 j8 j9 sl k5) (.inr Z) ?_
 rintro ej tN vg eW uy ol ⟨rfl,rfl⟩
 have om:sW w U ej [.blk af 39 ae,.blk ac 39 ab,.blk aa 39 O] eW:=ol
 refine oM Z Z (oR Z (zV Z Z (v:=jV gV) Z) (oR Z (zV Z Z (v:=jV gW) Z) (oA Z Z (oA Z Z (eN (zJ (yt fun aS aP=>?_)))))))
 have jh:aS 1=.pointer (some ⟨aa,0,none⟩):=(aP 1).trans rfl
 have ji:aS 2=jV cN:=(aP 2).trans rfl
 have jj:aS 3=.pointer (some ⟨ac,0,none⟩):=(aP 3).trans rfl
 have jk:aS 4=jV gT:=(aP 4).trans rfl
 have jl:aS 5=.pointer (some ⟨af,0,none⟩):=(aP 5).trans rfl
 have jm:aS 6=jV gU:=(aP 6).trans rfl
 have jo:aS 7=jV gV:=(aP 7).trans rfl
 have jp:aS 8=jV gW:=(aP 8).trans rfl
 clear aP
 refine rR (.fx 0 (.fx 1 (wFy (.nil)) .stop) .stop) Z (bnK gv fun aq k6 q5=>zC 0 Z Z Z Z (zD Z Z Tryz.call56 zL Z) om (fun hs=>wBh eW ej hs k6) (.inr Z) ?_)
 rintro iu tO vh bk uA oo ⟨da,fI,db,fJ,dd,fK,de,fL,rfl,rfl⟩
 let bM:Res:=.row de fL 115 4 (hD wAB aq.Readings)
 let cf:Res:=.row dd fK 112 3 (hD wAE aq.Clocks)
 let dL:Res:=.row db fJ 39 2 (hD wAC aq.Splits)
 have ot:sW w U iu [.row da fI 3 1 (hD KL.encI aq.Starts),dL,cf,bM,.blk af 39 ae,.blk ac 39 ab,.blk aa 39 O] bk:=oo
 have q:=ot.freezeR (k:=0) (n:=aq.Starts.length) rfl (wAD (f:=KL.encI) (sz:=1) (fun _=>rfl) aq.Starts) (by decide)
 obtain ⟨iv,uB,so,ou⟩:=q
 have ov:sW w U iv [dL,cf,bM,.blk af 39 ae,.blk ac 39 ab,.blk aa 39 O] bk:=ou
 have q:=ov.freezeR (k:=0) (n:=aq.Splits.length) rfl (wAD (f:=wAC) (sz:=2) (fun _=>rfl) aq.Splits) (by decide)
 obtain ⟨iw,tb,sq,ox⟩:=q
 have oy:sW w U iw [cf,bM,.blk af 39 ae,.blk ac 39 ab,.blk aa 39 O] bk:=ox
 have q:=oy.freezeR (k:=0) (n:=aq.Clocks.length) rfl (wAD (f:=wAE) (sz:=3) (fun _=>rfl) aq.Clocks) (by decide)
 obtain ⟨ix,gJ,sr,oz⟩:=q
 have oB:sW w U ix [bM,.blk af 39 ae,.blk ac 39 ab,.blk aa 39 O] bk:=oz
 have q:=oB.freezeR (k:=0) (n:=aq.Readings.length) rfl (wAD (f:=wAB) (sz:=4) (fun _=>rfl) aq.Readings) (by decide)
 obtain ⟨ek,cE,ss,oC⟩:=q
 have oD:sW w U ek [.blk af 39 ae,.blk ac 39 ab,.blk aa 39 O] bk:=oC
 have k7:=so.le tb
 have k8:=k7.le gJ
 have k9:=k8.le cE
 have lb:=sq.le gJ
 have lf:=lb.le cE
 have lg:=sr.le cE
 have q:=bnd q5
 obtain ⟨⟨bE,tx⟩,lh,gw⟩:=q
 try dsimp only at gw
 refine zC 0 Z Z Z Z (zD Z Z Tryz.call40 (zB Z (zB Z zL)) Z) oD (fun hs=>wIS aq da fI db fJ dd fK de fL 2 bk ek hs k9 lf lg ss lh) (.inr Z) ?_
 rintro en tP vi eZ uC oE ⟨ca,cx,rfl,rfl⟩
 let aQ:Res:=.row ca cx 39 2 (hD wAC bE)
 have oG:sW w U en [aQ,.blk af 39 ae,.blk ac 39 ab,.blk aa 39 O] eZ:=oE
 refine oM Z Z (oR Z (zV Z Z (v:=.slice ca bE.length cx) Z) (oR Z (zV Z Z (v:=jV tx) Z) (oA Z Z (oA Z Z (eN (sR (.fx 0 (.fx 1 (wFy (.nil)) .stop) .stop) Z (bnK gw fun au li q6=>zC 0 Z Z Z Z (zD Z Z Tryz.call56 zL Z) oG (fun hs=>wBh eZ en hs li) (.inr Z) ?_)))))))
 rintro iz tQ vj bm uD oI ⟨df,fM,dg,fN,dh,fO,di,fP,rfl,rfl⟩
 let bN:Res:=.row di fP 115 4 (hD wAB au.Readings)
 let cg:Res:=.row dh fO 112 3 (hD wAE au.Clocks)
 let dN:Res:=.row dg fN 39 2 (hD wAC au.Splits)
 have oK:sW w U iz [.row df fM 3 1 (hD KL.encI au.Starts),dN,cg,bN,aQ,.blk af 39 ae,.blk ac 39 ab,.blk aa 39 O] bm:=oI
 have q:=oK.freezeR (k:=0) (n:=au.Starts.length) rfl (wAD (f:=KL.encI) (sz:=1) (fun _=>rfl) au.Starts) (by decide)
 obtain ⟨iA,uE,sv,oO⟩:=q
 have oP:sW w U iA [dN,cg,bN,aQ,.blk af 39 ae,.blk ac 39 ab,.blk aa 39 O] bm:=oO
 have q:=oP.freezeR (k:=0) (n:=au.Splits.length) rfl (wAD (f:=wAC) (sz:=2) (fun _=>rfl) au.Splits) (by decide)
 obtain ⟨iC,te,sw,oQ⟩:=q
 have oS:sW w U iC [cg,bN,aQ,.blk af 39 ae,.blk ac 39 ab,.blk aa 39 O] bm:=oQ
 have q:=oS.freezeR (k:=0) (n:=au.Clocks.length) rfl (wAD (f:=wAE) (sz:=3) (fun _=>rfl) au.Clocks) (by decide)
 obtain ⟨iD,gK,sA,oU⟩:=q
 have oV:sW w U iD [bN,aQ,.blk af 39 ae,.blk ac 39 ab,.blk aa 39 O] bm:=oU
 have q:=oV.freezeR (k:=0) (n:=au.Readings.length) rfl (wAD (f:=wAB) (sz:=4) (fun _=>rfl) au.Readings) (by decide)
 obtain ⟨ep,cG,sB,oW⟩:=q
 have oX:sW w U ep [aQ,.blk af 39 ae,.blk ac 39 ab,.blk aa 39 O] bm:=oW
 have lj:=sv.le te
 have lk:=lj.le gK
 have ll:=lk.le cG
 have lm:=sw.le gK
 have ln:=lm.le cG
 have lp:=sA.le cG
 have q:=bnd q6
 obtain ⟨⟨bF,tz⟩,ls,gx⟩:=q
 try dsimp only at gx
 refine zC 0 Z Z Z Z (zD Z Z Tryz.call22 (zB Z zL) Z) oX (fun hs=>wFk au df fM dg fN dh fO di fP bm ep hs ll ln lp sB ls) (.inr Z) ?_
 rintro ak tR vk i4 uF oZ ⟨cb,cy,rfl,rfl⟩
 let aV:Res:=.row cb cy 29 2 (hD wAT bF)
 have aj:sW w U ak [aV,aQ,.blk af 39 ae,.blk ac 39 ab,.blk aa 39 O] i4:=oZ
 refine oM Z Z (oR Z (zV Z Z (v:=.slice cb bF.length cy) Z) (oR Z (zV Z Z (v:=jV tz) Z) (oA Z Z (oA Z Z (eN (zJ (bnK gx fun jf gF q7=>yX (fun J_ w_=>∃ (U_:PHeap),J_ 110=.bool jf/\PHeap.Le ak U_/\sW w U U_ [.blk af 39 ae,.blk ac 39 ab,.blk aa 39 O] w_) ?_ ?_)))))))
 refine rR (wOz (.fx 45 (.fx 46 (wNv (.fx 51 (.fx 52 (.fx 53 (.fl 54 (.fl 55 .nil)) .stop) .stop) .stop)) .stop) .stop)) Z (oM Z ji (oR Z (Zb Z Z Z) (oM Z Z ?_)))
 by_cases aI:cN=0
 have gy:=gF;rw [if_pos aI] at gy;replace aI:=zM aI
 refine ZE Z Z Z (zN Z Z (ZL (fun h=>h aI.out))) Z jk (zg Z Z Z (zN Z Z (ZL (fun h=>h aI.out))) (fun _=>Zb Z Z Z) (oR Z (zZ Z (ZL (fun h=>h aI.out)) Z) (oM Z Z (ifc gy ?_ ?_))))
 intro a0 q8
 refine ZE Z Z Z (zN Z Z (ZL (fun h=>h a0.out))) Z jm (zg Z Z Z (zN Z Z (ZL (fun h=>h a0.out))) (fun _=>Zb Z Z Z) (oR Z (zZ Z (ZL (fun h=>h a0.out)) Z) (oM Z Z (ifc q8 ?_ ?_))))
 intro a5 q9
 refine ZE Z Z Z (zN Z Z (ZL (fun h=>h a5.out))) Z jp (zg Z Z Z (zN Z Z (ZL (fun h=>h a5.out))) (fun _=>Zb Z Z Z) (oR Z (zZ Z (ZL (fun h=>h a5.out)) Z) (oM Z Z (ifc q9 ?_ ?_))))
 intro a6 rc
 refine ZE Z Z Z (zN Z Z (ZL (fun h=>h a6.out))) Z Z (zg Z Z Z (zN Z Z (ZL (fun h=>h a6.out))) (fun _=>Zb Z Z Z) (oR Z (zZ Z (ZL (fun h=>h a6.out)) Z) (oM Z Z (ifc rc ?_ ?_))))
 intro a7 rd
 refine ZE Z Z Z (zN Z Z (ZL (fun h=>h a7.out))) Z Z (zg Z Z Z (zN Z Z (ZL (fun h=>h a7.out))) (fun _=>Zb Z Z Z) (oR Z (zZ Z (ZL (fun h=>h a7.out)) Z) (oM Z Z (ifc rd ?_ ?_))))
 intro aK re
 refine zx Z Z Z (zN Z Z (ZL (fun h=>h aK.out))) (aj.ldBA (j:=4) Z Z jh Zu zm (vs:=O) Z Z) Z (zg Z Z Z (zN Z Z (ZL (fun h=>h aK.out))) (fun _=>zu (pv:=[(0,jV 2244),(1,jV 2256)]) (z:=B4) (cs:=[jV 2244,jV 2256]) Z (wAG Z (wAG Z wAP)) zz wCn Z Z) (zg Z Z Z (zN Z Z (ZL (fun h=>h aK.out))) (fun _=>ZP (Runs.neS (enc:=wAC) (a:=bG) (b:=(⟨2244,2256⟩:wAN)) Z Z Z wMG wMF) (congrArg hH (decide_not).symm)) (oR Z (zZ Z (ZL (fun h=>h aK.out)) Z) (oM Z Z (ifc re ?_ ?_)))))
 intro aL rf
 refine zx Z Z Z (zN Z Z (ZL (fun h=>h aL.out))) (aj.ldBA (j:=3) Z Z jj Zu zm (vs:=ab) Z Z) Z (zg Z Z Z (zN Z Z (ZL (fun h=>h aL.out))) (fun _=>zu (pv:=[(0,jV 1000),(1,jV 1200)]) (z:=B4) (cs:=[jV 1000,jV 1200]) Z (wAG Z (wAG Z wAP)) zz wCn Z Z) (zg Z Z Z (zN Z Z (ZL (fun h=>h aL.out))) (fun _=>ZP (Runs.neS (enc:=wAC) (a:=bC) (b:=(⟨1000,1200⟩:wAN)) Z Z Z wMG wMF) (congrArg hH (decide_not).symm)) (oR Z (zZ Z (ZL (fun h=>h aL.out)) Z) (oM Z Z (ifc rf ?_ ?_)))))
 intro aM rh
 refine zx Z Z Z (zN Z Z (ZL (fun h=>h aM.out))) (aj.ldBA (j:=2) Z Z jl Zu zm (vs:=ae) Z Z) Z (zg Z Z Z (zN Z Z (ZL (fun h=>h aM.out))) (fun _=>zu (pv:=[(0,jV 247),(1,jV 251)]) (z:=B4) (cs:=[jV 247,jV 251]) Z (wAG Z (wAG Z wAP)) zz wCn Z Z) (zg Z Z Z (zN Z Z (ZL (fun h=>h aM.out))) (fun _=>ZP (Runs.neS (enc:=wAC) (a:=bD) (b:=(⟨247,251⟩:wAN)) Z Z Z wMG wMF) (congrArg hH (decide_not).symm)) (oR Z (zZ Z (ZL (fun h=>h aM.out)) Z) (oM Z Z (ifc rh ?_ ?_)))))
 intro a8 ri
 refine ZE Z Z Z (zN Z Z (ZL (fun h=>h a8.out))) Z jo (zg Z Z Z (zN Z Z (ZL (fun h=>h a8.out))) (fun _=>Zb Z Z Z) (oR Z (zZ Z (ZL (fun h=>h a8.out)) Z) (oM Z Z (ifc ri ?_ ?_))))
 intro ai rj
 refine ZE Z Z Z (zN Z Z (ZL (fun h=>h ai.out))) Z Z (zg Z Z Z (zN Z Z (ZL (fun h=>h ai.out))) (fun _=>zu (pv:=[(0,jV 1),(1,jV 1)]) (z:=B4) (cs:=[jV 1,jV 1]) Z (wAG Z (wAG Z wAP)) zz wCn Z Z) (zg Z Z Z (zN Z Z (ZL (fun h=>h ai.out))) (fun _=>zu (pv:=[(0,jV 2),(1,jV 2)]) (z:=B4) (cs:=[jV 2,jV 2]) Z (wAG Z (wAG Z wAP)) zz wCn Z Z) (ZC (pv:=[(0,.agg #[jV 1,jV 1]),(1,.agg #[jV 2,jV 2])]) (zs:=[jV 0,jV 0,jV 0,jV 0]) (cs:=[jV 1,jV 1,jV 2,jV 2]) Z Z Z (zN Z Z (ZL (fun h=>h ai.out))) Z (wAG Z (wAG Z wAP)) ZG zm zz Z Z Z Z Z aj ?_)))
 intro bT fh o3
 let dO:Res:=.row (some ⟨fh,0,none⟩) 2 39 2 (hD wAC [(⟨1,1⟩:wAN),(⟨2,2⟩:wAN)])
 have o5:sW w U ak [dO,aV,aQ,.blk af 39 ae,.blk ac 39 ab,.blk aa 39 O] bT:=o3
 have q:=o5.freezeR (k:=2) (n:=bE.length) rfl (wAD (f:=wAC) (sz:=2) (fun _=>rfl) bE) (by decide)
 obtain ⟨iE,gM,sD,o6⟩:=q
 have o7:sW w U iE [dO,aV,.blk af 39 ae,.blk ac 39 ab,.blk aa 39 O] bT:=o6
 have q:=o7.freezeR (k:=0) (n:=[(⟨1,1⟩:wAN),(⟨2,2⟩:wAN)].length) rfl (wAD (f:=wAC) (sz:=2) (fun _=>rfl) [(⟨1,1⟩:wAN),(⟨2,2⟩:wAN)]) (by decide)
 obtain ⟨eu,cI,sF,o8⟩:=q
 have o9:sW w U eu [aV,.blk af 39 ae,.blk ac 39 ab,.blk aa 39 O] bT:=o8
 have lu:=sD.le cI
 refine bnK rj fun vC lv rk=>zC 0 Z Z Z (zN Z Z (ZL (fun h=>h ai.out))) (zD Z Z Tryz.call44 (zB Z (zB Z zL)) Z) o9 (fun hs=>wDS bE ca cx [(⟨1,1⟩:wAN),(⟨2,2⟩:wAN)] (some ⟨fh,0,none⟩) 2 bT eu hs lu sF lv) (.inr Z) ?_
 rintro ct tT vl e6 gN pe ⟨rfl,rfl⟩
 have gm:sW w U ct [aV,.blk af 39 ae,.blk ac 39 ab,.blk aa 39 O] e6:=pe
 refine zg Z Z Z (zN Z Z (ZL (fun h=>h ai.out))) (fun _=>ZY Z Z) (oR Z (zZ Z (ZL (fun h=>h ai.out)) Z) (oM Z Z (ifc rk ?_ ?_)))
 intro am rn
 refine ZE Z Z Z (zN Z Z (nC am.out)) Z Z (bnK rn fun br lw ro=>zC 0 Z Z Z (zN Z Z (nC am.out)) (zD Z Z Tryz.call57 (zB Z (zB Z zL)) Z) gm (fun hs=>wBY 0 1 e6 ct hs lw) (.inr Z) ?_)
 rintro ew tU vm i6 tf pg ⟨rfl,rfl⟩
 have ph:sW w U ew [aV,.blk af 39 ae,.blk ac 39 ab,.blk aa 39 O] i6:=pg
 let dP:List Value:=[jV br.Skier,jV br.Mat]
 refine ZC (pv:=[(0,.agg dP.toArray)]) (zs:=B4) (cs:=dP) Z Z Z (zN Z Z (nC am.out)) Z (wAG Z wAP) Zm ZR yC Z Z Z Z Z ph ?_
 intro bU fj pj
 let dQ:Res:=.row (some ⟨fj,0,none⟩) 1 29 2 (hD wAT [br])
 have pk:sW w U ew [dQ,aV,.blk af 39 ae,.blk ac 39 ab,.blk aa 39 O] bU:=pj
 have q:=pk.freezeR (k:=1) (n:=bF.length) rfl (wAD (f:=wAT) (sz:=2) (fun _=>rfl) bF) (by decide)
 obtain ⟨iF,tg,sG,pm⟩:=q
 have pn:sW w U iF [dQ,.blk af 39 ae,.blk ac 39 ab,.blk aa 39 O] bU:=pm
 have q:=pn.freezeR (k:=0) (n:=[br].length) rfl (wAD (f:=wAT) (sz:=2) (fun _=>rfl) [br]) (by decide)
 obtain ⟨ey,gO,sH,po⟩:=q
 have pp:sW w U ey [.blk af 39 ae,.blk ac 39 ab,.blk aa 39 O] bU:=po
 have lz:=sG.le gO
 refine bnK ro fun vD lA rp=>zC 0 Z Z Z (zN Z Z (nC am.out)) (zD Z Z Tryz.call58 (zB Z (zB Z zL)) Z) pp (fun hs=>wES bF cb cy [br] (some ⟨fj,0,none⟩) 1 bU ey hs lz sH lA) (.inr Z) ?_
 rintro eA tV vn i8 th pq ⟨rfl,rfl⟩
 have pu:sW w U eA [.blk af 39 ae,.blk ac 39 ab,.blk aa 39 O] i8:=pq
 refine zg Z Z Z (zN Z Z (nC am.out)) (fun _=>ZY Z Z) (oR Z (zZ Z (nC am.out) Z) (zb ?_))
 cases rp
 exact zF ⟨Z,⟨eA,Z,((((((gM.trans cI).trans gN).trans tf).trans tg).trans gO).trans th),pu⟩⟩
 intro am rq
 refine zw Z Z Z (zO Z Z (nF (am.out)) Z) (ZA Z Z Z (zO Z Z (nF (am.out)) Z) (ZA Z Z Z (zO Z Z (nF (am.out)) Z) (ZA Z Z Z (zO Z Z (nF (am.out)) Z) (zw Z Z Z (zO Z Z (nF (am.out)) Z) (oR Z (zS Z (nF (am.out)) Z) (zb ?_))))))
 cases rq
 exact zF ⟨rfl,⟨ct,rfl,((gM.trans cI).trans gN),(gm.pick [1,2,3] _ (by decide) rfl)⟩⟩
 intro ai rv
 refine oT Z ai (oT Z ai (oT Z ai (ZA Z Z Z (zO Z Z (Zh ai.out) Z) (ZA Z Z Z (zO Z Z (Zh ai.out) Z) (oT Z ai (oR Z (zS Z (Zh ai.out) Z) (oM Z Z (oN Z (ZA Z Z Z (zO Z Z Z Z) (ZA Z Z Z (zO Z Z Z Z) (ZA Z Z Z (zO Z Z Z Z) (oN Z (oR Z (zS Z Z Z) (zb ?_))))))))))))))
 cases rv
 exact zF ⟨rfl,⟨ak,rfl,(zQ _),(aj.pick [2,3,4] _ (by decide) rfl)⟩⟩
 intro a8 rx
 refine oT Z a8 (oT Z a8 (oR Z (zS Z (Zh a8.out) Z) (oM Z Z (oN Z (oN Z (oN Z (ZA Z Z Z (zO Z Z Z Z) (ZA Z Z Z (zO Z Z Z Z) (oN Z (oR Z (zS Z Z Z) (oM Z Z (oN Z (ZA Z Z Z (zO Z Z Z Z) (ZA Z Z Z (zO Z Z Z Z) (ZA Z Z Z (zO Z Z Z Z) (oN Z (oR Z (zS Z Z Z) (zb ?_))))))))))))))))))
 cases rx
 exact zF ⟨rfl,⟨ak,rfl,(zQ _),(aj.pick [2,3,4] _ (by decide) rfl)⟩⟩
 intro aM ry
 refine oT Z aM (oT Z aM (oT Z aM (oR Z (zS Z (Zh aM.out) Z) (oM Z Z (oN Z (oN Z (oR Z (zS Z Z Z) (oM Z Z (oN Z (oN Z (oN Z (ZA Z Z Z (zO Z Z Z Z) (ZA Z Z Z (zO Z Z Z Z) (oN Z (oR Z (zS Z Z Z) (oM Z Z (oN Z (ZA Z Z Z (zO Z Z Z Z) (ZA Z Z Z (zO Z Z Z Z) (ZA Z Z Z (zO Z Z Z Z) (oN Z (oR Z (zS Z Z Z) (zb ?_)))))))))))))))))))))))
 cases ry
 exact zF ⟨rfl,⟨ak,rfl,(zQ _),(aj.pick [2,3,4] _ (by decide) rfl)⟩⟩
 intro aL rz
 refine oT Z aL (oT Z aL (oT Z aL (oR Z (zS Z (Zh aL.out) Z) (oM Z Z (oN Z (oN Z (oN Z (oR Z (zS Z Z Z) (oM Z Z (oN Z (oN Z (oR Z (zS Z Z Z) (oM Z Z (oN Z (oN Z (oN Z (ZA Z Z Z (zO Z Z Z Z) (ZA Z Z Z (zO Z Z Z Z) (oN Z (oR Z (zS Z Z Z) (oM Z Z (oN Z (ZA Z Z Z (zO Z Z Z Z) (ZA Z Z Z (zO Z Z Z Z) (ZA Z Z Z (zO Z Z Z Z) (oN Z (oR Z (zS Z Z Z) (zb ?_))))))))))))))))))))))))))))
 cases rz
 exact zF ⟨rfl,⟨ak,rfl,(zQ _),(aj.pick [2,3,4] _ (by decide) rfl)⟩⟩
 intro aK rA
 refine oT Z aK (oT Z aK (oT Z aK (oR Z (zS Z (Zh aK.out) Z) (oM Z Z (oN Z (oN Z (oN Z (oR Z (zS Z Z Z) (oM Z Z (oN Z (oN Z (oN Z (oR Z (zS Z Z Z) (oM Z Z (oN Z (oN Z (oR Z (zS Z Z Z) (oM Z Z (oN Z (oN Z (oN Z (ZA Z Z Z (zO Z Z Z Z) (ZA Z Z Z (zO Z Z Z Z) (oN Z (oR Z (zS Z Z Z) (oM Z Z (oN Z (ZA Z Z Z (zO Z Z Z Z) (ZA Z Z Z (zO Z Z Z Z) (ZA Z Z Z (zO Z Z Z Z) (oN Z (oR Z (zS Z Z Z) (zb ?_)))))))))))))))))))))))))))))))))
 cases rA
 exact zF ⟨rfl,⟨ak,rfl,(zQ _),(aj.pick [2,3,4] _ (by decide) rfl)⟩⟩
 intro a7 rC
 refine oT Z a7 (oT Z a7 (oR Z (zS Z (Zh a7.out) Z) (oM Z Z (oN Z (oN Z (oN Z (oR Z (zS Z Z Z) (oM Z Z (oN Z (oN Z (oN Z (oR Z (zS Z Z Z) (oM Z Z (oN Z (oN Z (oN Z (oR Z (zS Z Z Z) (oM Z Z (oN Z (oN Z (oR Z (zS Z Z Z) (oM Z Z (oN Z (oN Z (oN Z (ZA Z Z Z (zO Z Z Z Z) (ZA Z Z Z (zO Z Z Z Z) (oN Z (oR Z (zS Z Z Z) (oM Z Z (oN Z (ZA Z Z Z (zO Z Z Z Z) (ZA Z Z Z (zO Z Z Z Z) (ZA Z Z Z (zO Z Z Z Z) (oN Z (oR Z (zS Z Z Z) (zb ?_)))))))))))))))))))))))))))))))))))))
 cases rC
 exact zF ⟨rfl,⟨ak,rfl,(zQ _),(aj.pick [2,3,4] _ (by decide) rfl)⟩⟩
 intro a6 rD
 refine oT Z a6 (oT Z a6 (oR Z (zS Z (Zh a6.out) Z) (oM Z Z (oN Z (oN Z (oR Z (zS Z Z Z) (oM Z Z (oN Z (oN Z (oN Z (oR Z (zS Z Z Z) (oM Z Z (oN Z (oN Z (oN Z (oR Z (zS Z Z Z) (oM Z Z (oN Z (oN Z (oN Z (oR Z (zS Z Z Z) (oM Z Z (oN Z (oN Z (oR Z (zS Z Z Z) (oM Z Z (oN Z (oN Z (oN Z (ZA Z Z Z (zO Z Z Z Z) (ZA Z Z Z (zO Z Z Z Z) (oN Z (oR Z (zS Z Z Z) (oM Z Z (oN Z (ZA Z Z Z (zO Z Z Z Z) (ZA Z Z Z (zO Z Z Z Z) (ZA Z Z Z (zO Z Z Z Z) (oN Z (oR Z (zS Z Z Z) (zb ?_)))))))))))))))))))))))))))))))))))))))))
 cases rD
 exact zF ⟨rfl,⟨ak,rfl,(zQ _),(aj.pick [2,3,4] _ (by decide) rfl)⟩⟩
 intro a5 rE
 refine oT Z a5 (oT Z a5 (oR Z (zS Z (Zh a5.out) Z) (oM Z Z (oN Z (oN Z (oR Z (zS Z Z Z) (oM Z Z (oN Z (oN Z (oR Z (zS Z Z Z) (oM Z Z (oN Z (oN Z (oN Z (oR Z (zS Z Z Z) (oM Z Z (oN Z (oN Z (oN Z (oR Z (zS Z Z Z) (oM Z Z (oN Z (oN Z (oN Z (oR Z (zS Z Z Z) (oM Z Z (oN Z (oN Z (oR Z (zS Z Z Z) (oM Z Z (oN Z (oN Z (oN Z (ZA Z Z Z (zO Z Z Z Z) (ZA Z Z Z (zO Z Z Z Z) (oN Z (oR Z (zS Z Z Z) (oM Z Z (oN Z (ZA Z Z Z (zO Z Z Z Z) (ZA Z Z Z (zO Z Z Z Z) (ZA Z Z Z (zO Z Z Z Z) (oN Z (oR Z (zS Z Z Z) (zb ?_)))))))))))))))))))))))))))))))))))))))))))))
 cases rE
 exact zF ⟨rfl,⟨ak,rfl,(zQ _),(aj.pick [2,3,4] _ (by decide) rfl)⟩⟩
 intro a0 rF
 refine oT Z a0 (oT Z a0 (oR Z (zS Z (Zh a0.out) Z) (oM Z Z (oN Z (oN Z (oR Z (zS Z Z Z) (oM Z Z (oN Z (oN Z (oR Z (zS Z Z Z) (oM Z Z (oN Z (oN Z (oR Z (zS Z Z Z) (oM Z Z (oN Z (oN Z (oN Z (oR Z (zS Z Z Z) (oM Z Z (oN Z (oN Z (oN Z (oR Z (zS Z Z Z) (oM Z Z (oN Z (oN Z (oN Z (oR Z (zS Z Z Z) (oM Z Z (oN Z (oN Z (oR Z (zS Z Z Z) (oM Z Z (oN Z (oN Z (oN Z (ZA Z Z Z (zO Z Z Z Z) (ZA Z Z Z (zO Z Z Z Z) (oN Z (oR Z (zS Z Z Z) (oM Z Z (oN Z (ZA Z Z Z (zO Z Z Z Z) (ZA Z Z Z (zO Z Z Z Z) (ZA Z Z Z (zO Z Z Z Z) (oN Z (oR Z (zS Z Z Z) (zb ?_)))))))))))))))))))))))))))))))))))))))))))))))))
 cases rF
 exact zF ⟨rfl,⟨ak,rfl,(zQ _),(aj.pick [2,3,4] _ (by decide) rfl)⟩⟩
 have gz:=gF;rw [if_neg aI] at gz;replace aI:=zM aI
 refine oT Z aI (oT Z aI (oR Z (zS Z (Zh aI.out) Z) (oM Z Z (oN Z (oN Z (oR Z (zS Z Z Z) (oM Z Z (oN Z (oN Z (oR Z (zS Z Z Z) (oM Z Z (oN Z (oN Z (oR Z (zS Z Z Z) (oM Z Z (oN Z (oN Z (oR Z (zS Z Z Z) (oM Z Z (oN Z (oN Z (oN Z (oR Z (zS Z Z Z) (oM Z Z (oN Z (oN Z (oN Z (oR Z (zS Z Z Z) (oM Z Z (oN Z (oN Z (oN Z (oR Z (zS Z Z Z) (oM Z Z (oN Z (oN Z (oR Z (zS Z Z Z) (oM Z Z (oN Z (oN Z (oN Z (ZA Z Z Z (zO Z Z Z Z) (ZA Z Z Z (zO Z Z Z Z) (oN Z (oR Z (zS Z Z Z) (oM Z Z (oN Z (ZA Z Z Z (zO Z Z Z Z) (ZA Z Z Z (zO Z Z Z Z) (ZA Z Z Z (zO Z Z Z Z) (oN Z (oR Z (zS Z Z Z) (zb ?_)))))))))))))))))))))))))))))))))))))))))))))))))))))
 cases gz
 exact zF ⟨rfl,⟨ak,rfl,(zQ _),(aj.pick [2,3,4] _ (by decide) rfl)⟩⟩
 rintro tC i9 ⟨eB,gk,uG,gp⟩
 refine ifc q7 ?_ ?_
 intro cz rG
 refine ZK (gk.trans (congrArg hH cz.out)) (sR fL1 Z (oA Z Z (eN (zR (zT ?_)))))
 have hE:=nB rG;first | subst r | cases hE
 exact ⟨rfl,_,(ZH rfl),eB,_,(gp.pick [] _ (by decide) rfl),rfl,rfl⟩
 intro cz rH
 refine zr (gk.trans (congrArg hH (nA.2 cz.out))) (kN (sR (.fx 0 (.fx 1 (wFy (.nil)) .stop) .stop) Z (bnK rH fun av lF rI=>zC 0 Z Z Z Z (zD Z Z Tryz.call59 zL Z) gp (fun hs=>wCj i9 eB hs lF) (.inr Z) ?_)))
 rintro iG tW vo bn uH py ⟨dk,fQ,dl,fR,dm,fS,dp,fT,rfl,rfl⟩
 let bO:Res:=.row dp fT 115 4 (hD wAB av.Readings)
 let cj:Res:=.row dm fS 112 3 (hD wAE av.Clocks)
 let dR:Res:=.row dl fR 39 2 (hD wAC av.Splits)
 have pz:sW w U iG [.row dk fQ 3 1 (hD KL.encI av.Starts),dR,cj,bO,.blk af 39 ae,.blk ac 39 ab,.blk aa 39 O] bn:=py
 have q:=pz.freezeR (k:=0) (n:=av.Starts.length) rfl (wAD (f:=KL.encI) (sz:=1) (fun _=>rfl) av.Starts) (by decide)
 obtain ⟨iH,uI,sI,pB⟩:=q
 have pC:sW w U iH [dR,cj,bO,.blk af 39 ae,.blk ac 39 ab,.blk aa 39 O] bn:=pB
 have q:=pC.freezeR (k:=0) (n:=av.Splits.length) rfl (wAD (f:=wAC) (sz:=2) (fun _=>rfl) av.Splits) (by decide)
 obtain ⟨iI,tj,sJ,pD⟩:=q
 have pE:sW w U iI [cj,bO,.blk af 39 ae,.blk ac 39 ab,.blk aa 39 O] bn:=pD
 have q:=pE.freezeR (k:=0) (n:=av.Clocks.length) rfl (wAD (f:=wAE) (sz:=3) (fun _=>rfl) av.Clocks) (by decide)
 obtain ⟨iJ,gP,sK,pF⟩:=q
 have pG:sW w U iJ [bO,.blk af 39 ae,.blk ac 39 ab,.blk aa 39 O] bn:=pF
 have q:=pG.freezeR (k:=0) (n:=av.Readings.length) rfl (wAD (f:=wAB) (sz:=4) (fun _=>rfl) av.Readings) (by decide)
 obtain ⟨eC,cJ,sL,pH⟩:=q
 have pI:sW w U eC [.blk af 39 ae,.blk ac 39 ab,.blk aa 39 O] bn:=pH
 have lH:=sI.le tj
 have lI:=lH.le gP
 have lJ:=lI.le cJ
 have lK:=sJ.le gP
 have lL:=lK.le cJ
 have lM:=sK.le cJ
 have q:=bnd rI
 obtain ⟨⟨tA,gX,gY⟩,lN,gB⟩:=q
 try dsimp only at gB
 refine zC 0 Z Z Z Z (zD Z Z Tryz.call37 (zB Z zL) Z) pI (fun hs=>wIy av dk fQ dl fR dm fS dp fT bn eC hs lJ lL lM sL lN) (.inr Z) ?_
 rintro eD tY vq e8 uJ pJ ⟨dq,fU,jg,dr,fV,rfl,rfl,ug⟩
 let ag:Res:=.row dr fV 3 1 (hD KL.encI gX)
 let ah:Res:=.row dq fU 22 1 jg
 have pK:sW w U eD [ah,ag,.blk af 39 ae,.blk ac 39 ab,.blk aa 39 O] e8:=pJ
 refine oM Z Z (oR Z (zV Z Z (v:=.slice dq tA.length fU) Z) (oR Z (zV Z Z (v:=.slice dr gX.length fV) Z) (oR Z (zV Z Z (v:=jV gY) Z) (oA Z Z (eN (sR (.fx 0 (fC1_4 (.fx 5 (.fx 6 (wMz (.nil)) .stop) .stop)) .stop) Z (bnK gB fun ax lO rJ=>zC 0 Z Z Z Z (zD Z Z Tryz.call59 zL Z) pK (fun hs=>wCj e8 eD hs lO) (.inr Z) ?_)))))))
 rintro eE tZ vt jb uK pL ⟨dt,fW,du,fY,dv,fZ,dw,f5,rfl,rfl⟩
 let bz:Res:=.row dw f5 115 4 (hD wAB ax.Readings)
 let bP:Res:=.row dv fZ 112 3 (hD wAE ax.Clocks)
 let cm:Res:=.row du fY 39 2 (hD wAC ax.Splits)
 let dS:Res:=.row dt fW 3 1 (hD KL.encI ax.Starts)
 have pM:sW w U eE [dS,cm,bP,bz,ah,ag,.blk af 39 ae,.blk ac 39 ab,.blk aa 39 O] jb:=pL
 let dT:List Value:=[jV 0,jV 1,jV 0,.bool true]
 refine oR Z (zu (pv:=[(0,jV 0),(1,jV 1),(3,.bool true)]) (z:=bf) (cs:=dT) Z (wAG Z (wAG Z (wAG Z wAP))) Zw wED Z Z) ?_
 let dU:List Value:=[jV 1,jV 1,jV 0,.bool true]
 refine oR Z (zu (pv:=[(0,jV 1),(1,jV 1),(3,.bool true)]) (z:=bf) (cs:=dU) Z (wAG Z (wAG Z (wAG Z wAP))) Zw wED Z Z) ?_
 let dV:List Value:=[jV 3,jV 0,jV 1,.bool false]
 refine oR Z (zu (pv:=[(0,jV 3),(2,jV 1)]) (z:=bf) (cs:=dV) Z (wAG Z (wAG Z wAP)) Zw wED Z Z) ?_
 let dW:List Value:=[jV 2,jV 0,jV 0,.bool false]
 refine oR Z (zu (pv:=[(0,jV 2)]) (z:=bf) (cs:=dW) Z (wAG Z wAP) Zw wED Z Z) (ZC (pv:=[(0,.agg dT.toArray),(1,.agg dU.toArray),(2,.agg dV.toArray),(3,.agg dW.toArray)]) (zs:=[jV 0,jV 0,jV 0,.bool false,jV 0,jV 0,jV 0,.bool false,jV 0,jV 0,jV 0,.bool false,jV 0,jV 0,jV 0,.bool false]) (cs:=[jV 0,jV 1,jV 0,.bool true,jV 1,jV 1,jV 0,.bool true,jV 3,jV 0,jV 1,.bool false,jV 2,jV 0,jV 0,.bool false]) Z Z Z Z Z (wAG Z (wAG Z (wAG Z (wAG Z wAP)))) yU Zg Zw Z Z Z Z Z pM ?_)
 intro aZ fk pN
 let bA:Res:=.row (some ⟨fk,0,none⟩) 4 93 4 (hD wCA [(⟨0,1,0,true⟩:wAH),(⟨1,1,0,true⟩:wAH),(⟨3,0,1,false⟩:wAH),(⟨2,0,0,false⟩:wAH)])
 have pP:sW w U eE [bA,dS,cm,bP,bz,ah,ag,.blk af 39 ae,.blk ac 39 ab,.blk aa 39 O] aZ:=pN
 have q:=pP.freezeR (k:=1) (n:=ax.Starts.length) rfl (wAD (f:=KL.encI) (sz:=1) (fun _=>rfl) ax.Starts) (by decide)
 obtain ⟨iK,uM,sM,pQ⟩:=q
 have pR:sW w U iK [bA,cm,bP,bz,ah,ag,.blk af 39 ae,.blk ac 39 ab,.blk aa 39 O] aZ:=pQ
 have q:=pR.freezeR (k:=1) (n:=ax.Splits.length) rfl (wAD (f:=wAC) (sz:=2) (fun _=>rfl) ax.Splits) (by decide)
 obtain ⟨iL,tl,sN,pS⟩:=q
 have pU:sW w U iL [bA,bP,bz,ah,ag,.blk af 39 ae,.blk ac 39 ab,.blk aa 39 O] aZ:=pS
 have q:=pU.freezeR (k:=1) (n:=ax.Clocks.length) rfl (wAD (f:=wAE) (sz:=3) (fun _=>rfl) ax.Clocks) (by decide)
 obtain ⟨iM,gQ,sO,pV⟩:=q
 have pW:sW w U iM [bA,bz,ah,ag,.blk af 39 ae,.blk ac 39 ab,.blk aa 39 O] aZ:=pV
 have q:=pW.freezeR (k:=1) (n:=ax.Readings.length) rfl (wAD (f:=wAB) (sz:=4) (fun _=>rfl) ax.Readings) (by decide)
 obtain ⟨iN,cK,sP,pX⟩:=q
 have pY:sW w U iN [bA,ah,ag,.blk af 39 ae,.blk ac 39 ab,.blk aa 39 O] aZ:=pX
 have q:=pY.freezeR (k:=0) (n:=[(⟨0,1,0,true⟩:wAH),(⟨1,1,0,true⟩:wAH),(⟨3,0,1,false⟩:wAH),(⟨2,0,0,false⟩:wAH)].length) rfl (wAD (f:=wCA) (sz:=4) (fun _=>rfl) [(⟨0,1,0,true⟩:wAH),(⟨1,1,0,true⟩:wAH),(⟨3,0,1,false⟩:wAH),(⟨2,0,0,false⟩:wAH)]) (by decide)
 obtain ⟨eF,b5,sQ,pZ⟩:=q
 have p5:sW w U eF [ah,ag,.blk af 39 ae,.blk ac 39 ab,.blk aa 39 O] aZ:=pZ
 have lP:=sM.le tl
 have lQ:=lP.le gQ
 have lR:=lQ.le cK
 have lS:=lR.le b5
 have lT:=sN.le gQ
 have lU:=lT.le cK
 have lV:=lU.le b5
 have lW:=sO.le cK
 have lX:=lW.le b5
 have lY:=sP.le b5
 have q:=bnd rJ
 obtain ⟨⟨gZ,g7⟩,lZ,gC⟩:=q
 try dsimp only at gC
 refine zC 0 Z Z Z Z (zD Z Z Tryz.call51 (zB Z (zB Z zL)) Z) p5 (fun hs=>wHs ax dt fW du fY dv fZ dw f5 [(⟨0,1,0,true⟩:wAH),(⟨1,1,0,true⟩:wAH),(⟨3,0,1,false⟩:wAH),(⟨2,0,0,false⟩:wAH)] (some ⟨fk,0,none⟩) 4 aZ eF hs lS lV lX lY sQ lZ) (.inr Z) ?_
 rintro eG t4 vu fb uN p7 ⟨rfl,rfl⟩
 have p8:sW w U eG [ah,ag,.blk af 39 ae,.blk ac 39 ab,.blk aa 39 O] fb:=p7
 refine oM Z Z (oR Z (zV Z Z (v:=jV gZ) Z) (oR Z (zV Z Z (v:=jV g7) Z) (oA Z Z (oA Z Z (eN (sR (.fx 0 (.fx 1 (wFy (.nil)) .stop) .stop) Z (bnK gC fun ay l0 rK=>zC 0 Z Z Z Z (zD Z Z Tryz.call59 zL Z) p8 (fun hs=>wCj fb eG hs l0) (.inr Z) ?_)))))))
 rintro iO t5 vv bo uO p9 ⟨dx,f6,dy,f7,dz,f8,dA,f9,rfl,rfl⟩
 let bQ:Res:=.row dA f9 115 4 (hD wAB ay.Readings)
 let cn:Res:=.row dz f8 112 3 (hD wAE ay.Clocks)
 let dX:Res:=.row dy f7 39 2 (hD wAC ay.Splits)
 have qa:sW w U iO [.row dx f6 3 1 (hD KL.encI ay.Starts),dX,cn,bQ,ah,ag,.blk af 39 ae,.blk ac 39 ab,.blk aa 39 O] bo:=p9
 have q:=qa.freezeR (k:=0) (n:=ay.Starts.length) rfl (wAD (f:=KL.encI) (sz:=1) (fun _=>rfl) ay.Starts) (by decide)
 obtain ⟨iP,uP,sS,qc⟩:=q
 have qd:sW w U iP [dX,cn,bQ,ah,ag,.blk af 39 ae,.blk ac 39 ab,.blk aa 39 O] bo:=qc
 have q:=qd.freezeR (k:=0) (n:=ay.Splits.length) rfl (wAD (f:=wAC) (sz:=2) (fun _=>rfl) ay.Splits) (by decide)
 obtain ⟨iQ,tm,sT,qe⟩:=q
 have qf:sW w U iQ [cn,bQ,ah,ag,.blk af 39 ae,.blk ac 39 ab,.blk aa 39 O] bo:=qe
 have q:=qf.freezeR (k:=0) (n:=ay.Clocks.length) rfl (wAD (f:=wAE) (sz:=3) (fun _=>rfl) ay.Clocks) (by decide)
 obtain ⟨iR,gR,sU,qi⟩:=q
 have qj:sW w U iR [bQ,ah,ag,.blk af 39 ae,.blk ac 39 ab,.blk aa 39 O] bo:=qi
 have q:=qj.freezeR (k:=0) (n:=ay.Readings.length) rfl (wAD (f:=wAB) (sz:=4) (fun _=>rfl) ay.Readings) (by decide)
 obtain ⟨eH,cL,sV,qk⟩:=q
 have qm:sW w U eH [ah,ag,.blk af 39 ae,.blk ac 39 ab,.blk aa 39 O] bo:=qk
 have l3:=sS.le tm
 have l4:=l3.le gR
 have l5:=l4.le cL
 have l6:=sT.le gR
 have l7:=l6.le cL
 have l8:=sU.le cL
 have q:=bnd rK
 obtain ⟨⟨bs,g8⟩,ma,gD⟩:=q
 try dsimp only at gD
 refine zC 0 Z Z Z Z (zD Z Z Tryz.call24 (zB Z zL) Z) qm (fun hs=>wGv ay dx f6 dy f7 dz f8 dA f9 bo eH hs l5 l7 l8 sV ma) (.inr Z) ?_
 rintro eI t6 vw fd uQ qn ⟨bH,bX,rfl,rfl⟩
 let aR:Res:=.row bH bX 3 1 (hD KL.encI bs)
 have qo:sW w U eI [aR,ah,ag,.blk af 39 ae,.blk ac 39 ab,.blk aa 39 O] fd:=qn
 refine oM Z Z (oR Z (zV Z Z (v:=.slice bH bs.length bX) Z) (oR Z (zV Z Z (v:=jV g8) Z) (oA Z Z (oA Z Z (eN (sR (.fx 0 (.fx 1 (wFy (.nil)) .stop) .stop) Z (bnK gD fun aH mc rM=>zC 0 Z Z Z Z (zD Z Z Tryz.call59 zL Z) qo (fun hs=>wCj fd eI hs mc) (.inr Z) ?_)))))))
 rintro iS t7 vx bp uR qp ⟨dB,ga,dC,gb,dD,ge,dE,gf,rfl,rfl⟩
 let bR:Res:=.row dE gf 115 4 (hD wAB aH.Readings)
 let co:Res:=.row dD ge 112 3 (hD wAE aH.Clocks)
 let dY:Res:=.row dC gb 39 2 (hD wAC aH.Splits)
 have qq:sW w U iS [.row dB ga 3 1 (hD KL.encI aH.Starts),dY,co,bR,aR,ah,ag,.blk af 39 ae,.blk ac 39 ab,.blk aa 39 O] bp:=qp
 have q:=qq.freezeR (k:=0) (n:=aH.Starts.length) rfl (wAD (f:=KL.encI) (sz:=1) (fun _=>rfl) aH.Starts) (by decide)
 obtain ⟨iT,uT,sX,qr⟩:=q
 have qs:sW w U iT [dY,co,bR,aR,ah,ag,.blk af 39 ae,.blk ac 39 ab,.blk aa 39 O] bp:=qr
 have q:=qs.freezeR (k:=0) (n:=aH.Splits.length) rfl (wAD (f:=wAC) (sz:=2) (fun _=>rfl) aH.Splits) (by decide)
 obtain ⟨iU,tn,sY,qt⟩:=q
 have qu:sW w U iU [co,bR,aR,ah,ag,.blk af 39 ae,.blk ac 39 ab,.blk aa 39 O] bp:=qt
 have q:=qu.freezeR (k:=0) (n:=aH.Clocks.length) rfl (wAD (f:=wAE) (sz:=3) (fun _=>rfl) aH.Clocks) (by decide)
 obtain ⟨iV,gS,sZ,qv⟩:=q
 have qw:sW w U iV [bR,aR,ah,ag,.blk af 39 ae,.blk ac 39 ab,.blk aa 39 O] bp:=qv
 have q:=qw.freezeR (k:=0) (n:=aH.Readings.length) rfl (wAD (f:=wAB) (sz:=4) (fun _=>rfl) aH.Readings) (by decide)
 obtain ⟨eK,cM,s3,qx⟩:=q
 have qy:sW w U eK [aR,ah,ag,.blk af 39 ae,.blk ac 39 ab,.blk aa 39 O] bp:=qx
 have md:=sX.le tn
 have me:=md.le gS
 have mf:=me.le cM
 have mg:=sY.le gS
 have mh:=mg.le cM
 have mi:=sZ.le cM
 have q:=bnd rM
 obtain ⟨⟨bt,g9⟩,mj,gE⟩:=q
 try dsimp only at gE
 refine zC 0 Z Z Z Z (zD Z Z Tryz.call27 (zB Z zL) Z) qy (fun hs=>wGw aH dB ga dC gb dD ge dE gf bp eK hs mf mh mi s3 mj) (.inr Z) ?_
 rintro aX t9 vz jc uV qz ⟨bI,bY,rfl,rfl⟩
 let bg:Res:=.row bI bY 3 1 (hD KL.encI bt)
 have bq:sW w U aX [bg,aR,ah,ag,.blk af 39 ae,.blk ac 39 ab,.blk aa 39 O] jc:=qz
 refine oM Z Z (oR Z (zV Z Z (v:=.slice bI bt.length bY) Z) (oR Z (zV Z Z (v:=jV g9) Z) (oA Z Z (oA Z Z (eN (zJ (yt fun aW aT=>?_)))))))
 have jq:aW 2=jV gY:=(aT 2).trans rfl
 have jr:aW 4=jV g7:=(aT 4).trans rfl
 have jt:aW 6=jV g8:=(aT 6).trans rfl
 have ju:aW 8=jV g9:=(aT 8).trans rfl
 have jv:aW 13=jV gZ:=(aT 13).trans rfl
 have jw:aW 14=.slice bH bs.length bX:=(aT 14).trans rfl
 have jx:aW 15=.slice bI bt.length bY:=(aT 15).trans rfl
 clear aT
 refine rR (wOy (.fx 20 (.fx 21 (wNu (.fx 25 (.fx 26 (.fl 27 (.fl 28 .nil)) .stop) .stop)) .stop) .stop)) Z (oM Z jq (oR Z (yV Z Z Z) (oM Z Z (ifc gE ?_ ?_))))
 intro a9 rN
 refine ZE Z Z Z (wT Z a9) Z jr (rU Z (wT Z a9) (yV Z Z Z) (oR Z (zS Z (Zh a9.out) Z) (oM Z Z (ifc rN ?_ ?_))))
 intro ba rO
 refine ZE Z Z Z (wT Z ba) Z jt (rU Z (wT Z ba) (yV Z Z Z) (oR Z (zS Z (Zh ba.out) Z) (oM Z Z (ifc rO ?_ ?_))))
 intro bb rP
 refine ZE Z Z Z (wT Z bb) Z ju (rU Z (wT Z bb) (yV Z Z Z) (oR Z (zS Z (Zh bb.out) Z) (oM Z Z (ifc rP ?_ ?_))))
 intro bc rQ
 refine ZE Z Z Z (wT Z bc) Z jv (rU Z (wT Z bc) (yV Z Z Z) (oR Z (zS Z (Zh bc.out) Z) (oM Z Z (ifc rQ ?_ ?_))))
 intro aN rS
 refine ZE Z Z Z (wT Z aN) Z jw (ZC (pv:=[(0,jV 1)]) (zs:=[jV 0]) (cs:=[jV 1]) Z Z Z (wT Z aN) Z (wAG Z wAP) zG zE zy Z Z Z Z Z bq ?_)
 intro bV fm qB
 let dZ:Res:=.row (some ⟨fm,0,none⟩) 1 3 1 (hD KL.encI [1])
 have qC:sW w U aX [dZ,bg,aR,ah,ag,.blk af 39 ae,.blk ac 39 ab,.blk aa 39 O] bV:=qB
 have q:=qC.freezeR (k:=2) (n:=bs.length) rfl (wAD (f:=KL.encI) (sz:=1) (fun _=>rfl) bs) (by decide)
 obtain ⟨iW,uW,s4,qD⟩:=q
 have qE:sW w U iW [dZ,bg,ah,ag,.blk af 39 ae,.blk ac 39 ab,.blk aa 39 O] bV:=qD
 have q:=qE.freezeR (k:=0) (n:=[1].length) rfl (wAD (f:=KL.encI) (sz:=1) (fun _=>rfl) [1]) (by decide)
 obtain ⟨eL,tp,s5,qF⟩:=q
 have qG:sW w U eL [bg,ah,ag,.blk af 39 ae,.blk ac 39 ab,.blk aa 39 O] bV:=qF
 have mm:=s4.le tp
 refine bnK rS fun vE mn rT=>zC 0 Z Z Z (wT Z aN) (zD Z Z Tryz.call26 (zB Z (zB Z zL)) Z) qG (fun hs=>wBS bs bH bX [1] (some ⟨fm,0,none⟩) 1 bV eL hs mm s5 mn) (.inr Z) ?_
 rintro cw ua vA jd uX qH ⟨rfl,rfl⟩
 have gq:sW w U cw [bg,ah,ag,.blk af 39 ae,.blk ac 39 ab,.blk aa 39 O] jd:=qH
 refine oR Z (zS Z (Zh aN.out) Z) (oM Z Z (ifc rT ?_ ?_))
 intro aO rV
 refine ZE Z Z Z (zN Z Z (congrArg hH aO.out)) Z jx (ZC (pv:=[(0,jV 1)]) (zs:=[jV 0]) (cs:=[jV 1]) Z Z Z (zN Z Z (congrArg hH aO.out)) Z (wAG Z wAP) zG zE zy Z Z Z Z Z gq ?_)
 intro bW fq qJ
 let d3:Res:=.row (some ⟨fq,0,none⟩) 1 3 1 (hD KL.encI [1])
 have qK:sW w U cw [d3,bg,ah,ag,.blk af 39 ae,.blk ac 39 ab,.blk aa 39 O] bW:=qJ
 have q:=qK.freezeR (k:=1) (n:=bt.length) rfl (wAD (f:=KL.encI) (sz:=1) (fun _=>rfl) bt) (by decide)
 obtain ⟨iX,uY,s6,qL⟩:=q
 have qM:sW w U iX [d3,ah,ag,.blk af 39 ae,.blk ac 39 ab,.blk aa 39 O] bW:=qL
 have q:=qM.freezeR (k:=0) (n:=[1].length) rfl (wAD (f:=KL.encI) (sz:=1) (fun _=>rfl) [1]) (by decide)
 obtain ⟨eM,tq,s7,qN⟩:=q
 have qO:sW w U eM [ah,ag,.blk af 39 ae,.blk ac 39 ab,.blk aa 39 O] bW:=qN
 have mo:=s6.le tq
 refine bnK rV fun vF mp rW=>zC 0 Z Z Z (zN Z Z (congrArg hH aO.out)) (zD Z Z Tryz.call26 (zB Z (zB Z zL)) Z) qO (fun hs=>wBS bt bI bY [1] (some ⟨fq,0,none⟩) 1 bW eM hs mo s7 mp) (.inr Z) ?_
 rintro eO ub vB je uZ qP ⟨rfl,rfl⟩
 have qQ:sW w U eO [ah,ag,.blk af 39 ae,.blk ac 39 ab,.blk aa 39 O] je:=qP
 refine oR Z (zS Z (congrArg hH aO.out) Z) (oA Z Z (eN (zR ?_)))
 have hE:=nB rW;first | subst r | cases hE
 exact ⟨rfl,_,(ZH rfl),eO,_,(qQ.pick [] _ (by decide) rfl),rfl,rfl⟩
 intro aO rX
 refine zw Z Z Z (zO Z Z (congrArg hH (nA.2 aO.out)) Z) (ZA Z Z Z (zO Z Z (congrArg hH (nA.2 aO.out)) Z) (ZA Z Z Z (zO Z Z (congrArg hH (nA.2 aO.out)) Z) (oR Z (zZ Z (congrArg hH (nA.2 aO.out)) Z) (oA Z Z (eN (zR ?_))))))
 have hE:=nB rX;first | subst r | cases hE
 exact ⟨rfl,_,(ZH rfl),cw,_,(gq.pick [] _ (by decide) rfl),rfl,rfl⟩
 intro aN rY
 refine oF Z aN (ZA Z Z Z (zO Z Z (ZL aN.out) Z) (ZA Z Z Z (zO Z Z (ZL aN.out) Z) (oR Z (zZ Z (ZL aN.out) Z) (oM Z Z (oN Z (ZA Z Z Z (zO Z Z Z Z) (ZA Z Z Z (zO Z Z Z Z) (oR Z (zZ Z Z Z) (oA Z Z (eN (zR ?_)))))))))))
 have hE:=nB rY;first | subst r | cases hE
 exact ⟨rfl,_,(ZH rfl),aX,_,(bq.pick [] _ (by decide) rfl),rfl,rfl⟩
 intro bc rZ
 refine oF Z bc (oF Z bc (oR Z (zZ Z (ZL bc.out) Z) (oM Z Z (oN Z (ZA Z Z Z (zO Z Z Z Z) (ZA Z Z Z (zO Z Z Z Z) (oR Z (zZ Z Z Z) (oM Z Z (oN Z (ZA Z Z Z (zO Z Z Z Z) (ZA Z Z Z (zO Z Z Z Z) (oR Z (zZ Z Z Z) (oA Z Z (eN (zR ?_)))))))))))))))
 have hE:=nB rZ;first | subst r | cases hE
 exact ⟨rfl,_,(ZH rfl),aX,_,(bq.pick [] _ (by decide) rfl),rfl,rfl⟩
 intro bb r0
 refine oF Z bb (oF Z bb (oR Z (zZ Z (ZL bb.out) Z) (oM Z Z (oN Z (oN Z (oR Z (zZ Z Z Z) (oM Z Z (oN Z (ZA Z Z Z (zO Z Z Z Z) (ZA Z Z Z (zO Z Z Z Z) (oR Z (zZ Z Z Z) (oM Z Z (oN Z (ZA Z Z Z (zO Z Z Z Z) (ZA Z Z Z (zO Z Z Z Z) (oR Z (zZ Z Z Z) (oA Z Z (eN (zR ?_)))))))))))))))))))
 have hE:=nB r0;first | subst r | cases hE
 exact ⟨rfl,_,(ZH rfl),aX,_,(bq.pick [] _ (by decide) rfl),rfl,rfl⟩
 intro ba r6
 refine oF Z ba (oF Z ba (oR Z (zZ Z (ZL ba.out) Z) (oM Z Z (oN Z (oN Z (oR Z (zZ Z Z Z) (oM Z Z (oN Z (oN Z (oR Z (zZ Z Z Z) (oM Z Z (oN Z (ZA Z Z Z (zO Z Z Z Z) (ZA Z Z Z (zO Z Z Z Z) (oR Z (zZ Z Z Z) (oM Z Z (oN Z (ZA Z Z Z (zO Z Z Z Z) (ZA Z Z Z (zO Z Z Z Z) (oR Z (zZ Z Z Z) (oA Z Z (eN (zR ?_)))))))))))))))))))))))
 have hE:=nB r6;first | subst r | cases hE
 exact ⟨rfl,_,(ZH rfl),aX,_,(bq.pick [] _ (by decide) rfl),rfl,rfl⟩
 intro a9 r7
 refine oF Z a9 (oF Z a9 (oR Z (zZ Z (ZL a9.out) Z) (oM Z Z (oN Z (oN Z (oR Z (zZ Z Z Z) (oM Z Z (oN Z (oN Z (oR Z (zZ Z Z Z) (oM Z Z (oN Z (oN Z (oR Z (zZ Z Z Z) (oM Z Z (oN Z (ZA Z Z Z (zO Z Z Z Z) (ZA Z Z Z (zO Z Z Z Z) (oR Z (zZ Z Z Z) (oM Z Z (oN Z (ZA Z Z Z (zO Z Z Z Z) (ZA Z Z Z (zO Z Z Z Z) (oR Z (zZ Z Z Z) (oA Z Z (eN (zR ?_)))))))))))))))))))))))))))
 have hE:=nB r7;first | subst r | cases hE
 exact ⟨rfl,_,(ZH rfl),aX,_,(bq.pick [] _ (by decide) rfl),rfl,rfl⟩
end Go.Proofs.YtlnfbjphfoipaaaGreat
namespace Go.Proofs.YtlnfbjphfoipaaaGreat
open Go.KL
set_option maxHeartbeats 4000000
theorem wDK (O:List Int) (ag:Option Addr) (ah:Nat) (w:World) (U:PHeap) (hS:St0 w U []) (ap:Sl U 1 ag ah O.length (hD KL.encI O)) {r:(List Int)} (hm:wBR O=some r):Gv Tryz.prog 32 [.slice ag O.length ah] w (wCF w [] U (fun U_ L_ v=>∃ (A0:Option Addr) (c0:Nat),v=.slice A0 r.length c0/\L_=[.row A0 c0 3 1 (hD KL.encI r)])):=by
 unfold wBR at hm
 refine Gv.of Tryz.func32 Z Tryz.ntmps32 Tryz.results32 Z (sR fL1 Z (oA Z Z (eN (sR gDw Z (oM Z Z ?_)))))
 have am:=hS.nilrow 3 1
 have af:sW w U U [.row none 0 3 1 (hD KL.encI ([]:List Int))] w:=am
 refine bnK hm fun x4 h5 aq=>yG (j:=0) (enc:=KL.encI) (xs:=([]:List Int)) (ys:=O) (zs:=x4) Z Z Z Z Z yg wHd Z Z Z Z Z Z af Z Z Z (af.srcS ap) (fun _=>Z) (fun _=>Z) h5 Z ?_
 intro A7 c8 W9 an
 have ao:sW w U U [.row A7 c8 3 1 (hD KL.encI x4)] W9:=an
 refine oA Z Z (eN (zR ?_))
 have hE:=nB aq;first | subst r | cases hE
 exact ⟨Z,_,(ZH Z),U,_,ao,A7,c8,Z,Z⟩
theorem wBk (O:List wAN) (ag:Option Addr) (ah:Nat) (w:World) (U:PHeap) (hS:St0 w U []) (ap:Sl U 2 ag ah O.length (hD wAC O)) {r:(List wAN)} (hm:wAv O=some r):Gv Tryz.prog 60 [.slice ag O.length ah] w (wCF w [] U (fun U_ L_ v=>∃ (A0:Option Addr) (c0:Nat),v=.slice A0 r.length c0/\L_=[.row A0 c0 39 2 (hD wAC r)])):=by
 unfold wAv at hm
 refine Gv.of Tryz.func60 Z Tryz.ntmps60 Tryz.results60 Z (sR fL1 Z (oA Z Z (eN (sR gDw Z (oM Z Z ?_)))))
 have am:=hS.nilrow 39 2
 have af:sW w U U [.row none 0 39 2 (hD wAC ([]:List wAN))] w:=am
 refine bnK hm fun x4 h5 aq=>yG (j:=0) (enc:=wAC) (xs:=([]:List wAN)) (ys:=O) (zs:=x4) Z Z Z Z Z Tryz.underlying23 wMl Z Z Z Z Z Z af Z Z Z (af.srcS ap) (fun _=>Z) (fun _=>Z) h5 Z ?_
 intro A7 c8 W9 an
 have ao:sW w U U [.row A7 c8 39 2 (hD wAC x4)] W9:=an
 refine oA Z Z (eN (zR ?_))
 have hE:=nB aq;first | subst r | cases hE
 exact ⟨Z,_,(ZH Z),U,_,ao,A7,c8,Z,Z⟩
theorem wEL (O:List wAd) (ag:Option Addr) (ah:Nat) (w:World) (U:PHeap) (hS:St0 w U []) (ap:Sl U 3 ag ah O.length (hD wAE O)) {r:(List wAd)} (hm:wBU O=some r):Gv Tryz.prog 61 [.slice ag O.length ah] w (wCF w [] U (fun U_ L_ v=>∃ (A0:Option Addr) (c0:Nat),v=.slice A0 r.length c0/\L_=[.row A0 c0 112 3 (hD wAE r)])):=by
 unfold wBU at hm
 refine Gv.of Tryz.func61 Z Tryz.ntmps61 Tryz.results61 Z (sR fL1 Z (oA Z Z (eN (sR gDw Z (oM Z Z ?_)))))
 have am:=hS.nilrow 112 3
 have af:sW w U U [.row none 0 112 3 (hD wAE ([]:List wAd))] w:=am
 refine bnK hm fun x4 h5 aq=>yG (j:=0) (enc:=wAE) (xs:=([]:List wAd)) (ys:=O) (zs:=x4) Z Z Z Z Z Tryz.underlying24 wNK Z Z Z Z Z Z af Z Z Z (af.srcS ap) (fun _=>Z) (fun _=>Z) h5 Z ?_
 intro A7 c8 W9 an
 have ao:sW w U U [.row A7 c8 112 3 (hD wAE x4)] W9:=an
 refine oA Z Z (eN (zR ?_))
 have hE:=nB aq;first | subst r | cases hE
 exact ⟨Z,_,(ZH Z),U,_,ao,A7,c8,Z,Z⟩
theorem wDt (O:List wAJ) (ag:Option Addr) (ah:Nat) (w:World) (U:PHeap) (hS:St0 w U []) (ap:Sl U 4 ag ah O.length (hD wAB O)) {r:(List wAJ)} (hm:wBM O=some r):Gv Tryz.prog 62 [.slice ag O.length ah] w (wCF w [] U (fun U_ L_ v=>∃ (A0:Option Addr) (c0:Nat),v=.slice A0 r.length c0/\L_=[.row A0 c0 115 4 (hD wAB r)])):=by
 unfold wBM at hm
 refine Gv.of Tryz.func62 Z Tryz.ntmps62 Tryz.results62 Z (sR fL1 Z (oA Z Z (eN (sR gDw Z (oM Z Z ?_)))))
 have am:=hS.nilrow 115 4
 have af:sW w U U [.row none 0 115 4 (hD wAB ([]:List wAJ))] w:=am
 refine bnK hm fun x4 h5 aq=>yG (j:=0) (enc:=wAB) (xs:=([]:List wAJ)) (ys:=O) (zs:=x4) Z Z Z Z Z Tryz.underlying25 wJl Z Z Z Z Z Z af Z Z Z (af.srcS ap) (fun _=>Z) (fun _=>Z) h5 Z ?_
 intro A7 c8 W9 an
 have ao:sW w U U [.row A7 c8 115 4 (hD wAB x4)] W9:=an
 refine oA Z Z (eN (zR ?_))
 have hE:=nB aq;first | subst r | cases hE
 exact ⟨Z,_,(ZH Z),U,_,ao,A7,c8,Z,Z⟩
theorem wFc (O:wAA) (ai:Option Addr) (an:Nat) (aj:Option Addr) (ao:Nat) (ak:Option Addr) (ap:Nat) (am:Option Addr) (aq:Nat) (w:World) (U:PHeap) (hS:St0 w U []) (bE:Sl U 1 ai an O.Starts.length (hD KL.encI O.Starts)) (bF:Sl U 2 aj ao O.Splits.length (hD wAC O.Splits)) (bG:Sl U 3 ak ap O.Clocks.length (hD wAE O.Clocks)) (bH:Sl U 4 am aq O.Readings.length (hD wAB O.Readings)) {r:wAA} (hm:wCL O=some r):Gv Tryz.prog 10 [.agg #[.slice ai O.Starts.length an,.slice aj O.Splits.length ao,.slice ak O.Clocks.length ap,.slice am O.Readings.length aq]] w (wCF w [] U (fun U_ L_ v=>∃ (aS:Option Addr) (a8:Nat) (aT:Option Addr) (a9:Nat) (aU:Option Addr) (ba:Nat) (aV:Option Addr) (bb:Nat),v=.agg #[.slice aS r.Starts.length a8,.slice aT r.Splits.length a9,.slice aU r.Clocks.length ba,.slice aV r.Readings.length bb]/\L_=[.row aS a8 3 1 (hD KL.encI r.Starts),.row aT a9 39 2 (hD wAC r.Splits),.row aU ba 112 3 (hD wAE r.Clocks),.row aV bb 115 4 (hD wAB r.Readings)])):=by
 unfold wCL at hm
 refine Gv.of Tryz.func10 Z Tryz.ntmps10 Tryz.results10 Z (sR gDu Z ?_)
 let B0:List Value:=[.slice ai O.Starts.length an,.slice aj O.Splits.length ao,.slice ak O.Clocks.length ap,.slice am O.Readings.length aq]
 refine zq (cs:=B0) rfl rfl rfl rfl rfl rfl (by rfl) hS ?_
 intro W1 b2 bu
 let B1:List Value:=[.slice none 0 0,.slice none 0 0,.slice none 0 0,.slice none 0 0]
 refine zU (cs:=B1) Z Z Z Z Z ym Z bu ?_
 intro W5 b6 bC
 refine eN (zJ (ZI ZD [3,1,2,3,1,2,3,1,2,3,1,2,3,0] (.fl 0 (.fl 1 (.fl 3 (.fl 4 (.fl 6 (.fl 7 (.fl 9 (.fl 10 (.fx 2 (.fx 5 (.fx 8 (.fx 11 (.fl 12 (.fx 13 .nil .stop)) .stop) .stop) .stop) .stop))))))))) (by kernel_rfl) ?_))
 have ac:=bC.drew
 generalize hw_W10:({ W5 with drawn:=W5.drawn + 1 }:World)=be at ac ⊢
 refine oR Z (zH Z Z zP Z zh) (oL Z (ac.ldB (j:=1) Z Z Z zk (v:=.slice ai O.Starts.length an) Z) (oR Z (zH Z Z zP Z Zf) (oL Z (ac.ldB (j:=1) Z Z Z Zl (v:=.slice aj O.Splits.length ao) Z) (oR Z (zH Z Z zP Z yM) (oL Z (ac.ldB (j:=1) Z Z Z yR (v:=.slice ak O.Clocks.length ap) Z) (oR Z (zH Z Z zP Z Zk) (oL Z (ac.ldB (j:=1) Z Z Z Zr (v:=.slice am O.Readings.length aq) Z) (bnK hm fun aO bh bI=>zC 0 Z Z Z Z (zD Z Z Tryz.call32 (zB Z zL) Z) ac (fun hs=>wDK O.Starts ai an be U hs bE bh) (.inr Z) ?_))))))))
 rintro aX bN bT a0 aN bs ⟨au,aH,rfl,rfl⟩
 let B2:Res:=.row au aH 3 1 (hD KL.encI aO)
 have bt:sW w U aX [B2,.blk b6 27 B1,.blk b2 27 B0] a0:=bs
 have bi:=bF.le aN
 refine bnK bI fun aP bj bJ=>zC 0 Z Z Z Z (zD Z Z Tryz.call60 (zB Z zL) Z) bt (fun hs=>wBk O.Splits aj ao a0 aX hs bi bj) (.inr Z) ?_
 rintro aY bO bU a5 bd bv ⟨av,aI,rfl,rfl⟩
 let B3:Res:=.row av aI 39 2 (hD wAC aP)
 have bw:sW w U aY [B3,B2,.blk b6 27 B1,.blk b2 27 B0] a5:=bv
 have bk:=bG.le aN
 have bm:=bk.le bd
 refine bnK bJ fun aQ bn bK=>zC 0 Z Z Z Z (zD Z Z Tryz.call61 (zB Z zL) Z) bw (fun hs=>wEL O.Clocks ak ap a5 aY hs bm bn) (.inr Z) ?_
 rintro aZ bP bV a6 bM bx ⟨ax,aJ,rfl,rfl⟩
 let B4:Res:=.row ax aJ 112 3 (hD wAE aQ)
 have bz:sW w U aZ [B4,B3,B2,.blk b6 27 B1,.blk b2 27 B0] a6:=bx
 have bo:=bH.le aN
 have bp:=bo.le bd
 have bq:=bp.le bM
 refine bnK bK fun aR br bL=>zC 0 Z Z Z Z (zD Z Z Tryz.call62 (zB Z zL) Z) bz (fun hs=>wDt O.Readings am aq a6 aZ hs bq br) (.inr Z) ?_
 rintro aM bQ bW bf bS bA ⟨ay,aK,rfl,rfl⟩
 let B5:Res:=.row ay aK 115 4 (hD wAB aR)
 have bB:sW w U aM [B5,B4,B3,B2,.blk b6 27 B1,.blk b2 27 B0] bf:=bA
 let B6:List Value:=[.slice au aO.length aH,.slice av aP.length aI,.slice ax aQ.length aJ,.slice ay aR.length aK]
 refine oR Z (zu (pv:=[(0,.slice au aO.length aH),(1,.slice av aP.length aI),(2,.slice ax aQ.length aJ),(3,.slice ay aR.length aK)]) (z:=B1) (cs:=B6) Z (wAG Z (wAG Z (wAG Z (wAG Z wAP)))) ym wKH Z Z) (zY (j:=4) (vs:=B6) Z Z Z Z bB Z Z Z Z zc (zA Z) Z Z Z ?_)
 intro bg bD
 have bc:sW w U aM [B5,B4,B3,B2,.blk b6 27 B6,.blk b2 27 B0] bg:=bD
 refine eN (zR ?_)
 cases bL
 exact ⟨rfl,_,(wGy (v:=.agg B6.toArray) ⟨⟨_,rfl,(wBF zn zc (bc.blkAt (k:=4) rfl) (vs:=B6) rfl rfl)⟩,trivial⟩),aM,_,(bc.pick [3,2,1,0] _ (by decide) rfl),au,aH,av,aI,ax,aJ,ay,aK,rfl,rfl⟩
theorem wFv (O:wAA) (aU:Option Addr) (aV:Nat) (aK:Option Addr) (aL:Nat) (a6:Option Addr) (a8:Nat) (a7:Option Addr) (a9:Nat) (w:World) (U:PHeap) (hS:St0 w U []) (cZ:Sl U 1 aU aV O.Starts.length (hD KL.encI O.Starts)) (bR:Sl U 2 aK aL O.Splits.length (hD wAC O.Splits)) (fb:Sl U 3 a6 a8 O.Clocks.length (hD wAE O.Clocks)) (fc:Sl U 4 a7 a9 O.Readings.length (hD wAB O.Readings)) {r:wAK} (hm:wCV O=some r):Gv Tryz.prog 11 [.agg #[.slice aU O.Starts.length aV,.slice aK O.Splits.length aL,.slice a6 O.Clocks.length a8,.slice a7 O.Readings.length a9]] w (wCF w [] U (fun U_ L_ v=>∃ (bX:Option Addr) (cy:Nat) (bY:Option Addr) (cz:Nat) (bZ:Option Addr) (cA:Nat) (b5:Option Addr) (cC:Nat),v=.agg #[.slice bX r.Starts.length cy,.slice bY r.Splits.length cz,.slice bZ r.Clocks.length cA,.slice b5 r.Readings.length cC]/\L_=[.row bX cy 3 1 (hD KL.encI r.Starts),.row bY cz 39 2 (hD wAC r.Splits),.row bZ cA 116 3 (hD wAM r.Clocks),.row b5 cC 117 4 (hD wAF r.Readings)])):=by
 unfold wCV at hm
 refine Gv.of Tryz.func11 Z Tryz.ntmps11 Tryz.results11 Z (sR gDu Z ?_)
 let B0:List Value:=[.slice aU O.Starts.length aV,.slice aK O.Splits.length aL,.slice a6 O.Clocks.length a8,.slice a7 O.Readings.length a9]
 refine zq (cs:=B0) rfl rfl rfl rfl rfl rfl (by rfl) hS ?_
 intro W1 b2 eI
 let B1:List Value:=[.slice none 0 0,.slice none 0 0,.slice none 0 0,.slice none 0 0]
 refine zU (cs:=B1) Z Z Z Z Z yW Z eI ?_
 intro W5 b6 eU
 refine eN ?_
 have q:=bnd hm
 obtain ⟨⟨ap,aq⟩,fA,c6⟩:=q
 try dsimp only at c6
 refine yX (fun J_ w_=>∃ (U_:PHeap) (ai:Nat) (ag:Option Addr) (aj:Nat) (ah:Option Addr) (ak:Nat),J_ 1=.pointer (some ⟨b2,0,none⟩)/\J_ 2=.pointer (some ⟨b6,0,none⟩)/\J_ 3=.pointer (some ⟨ai,0,none⟩)/\PHeap.Le U U_/\sW w U U_ [.blk b6 36 B1,.blk b2 27 B0,.blk ai 36 [.slice ag ap.length aj,.slice ah aq.length ak,.slice none 0 0,.slice none 0 0],.row ag aj 3 1 (hD KL.encI ap),.row ah ak 39 2 (hD wAC aq)] w_) ?_ ?_
 refine bnK fA fun ay cM fz=>bnK fz fun au bO bW=>ZI ZD [3,1,2,3,1,2,3,2,0] (.fl 0 (.fl 1 (.fl 3 (.fl 4 (.fx 2 (.fx 5 (.fl 6 (.fx 7 (.fx 8 .nil .stop) .stop)) (.fx 7 gDz .stop)) (.fx 7 (.fx 2 gDz .stop) .stop)))))) (by kernel_rfl) ?_
 have aZ:=eU.drew
 generalize hw_W57:({ W5 with drawn:=W5.drawn + 1 }:World)=dy at aZ ⊢
 refine oR Z (zH Z Z zP Z zh) (oL Z (aZ.ldB (j:=1) Z Z Z zk (v:=.slice aU O.Starts.length aV) Z) (oR Z (zH Z Z zP Z Zf) (oL Z (aZ.ldB (j:=1) Z Z Z Zl (v:=.slice aK O.Splits.length aL) Z) (ZB ?_ ?_))))
 refine zC 0 Z Z Z Z (zD Z Z Tryz.call32 (zB Z zL) Z) aZ (fun hs=>wDK O.Starts aU aV dy U hs cZ cM) (.inr Z) ?_
 rintro bG fQ gj cw br eS ⟨az,aH,rfl,rfl⟩
 let B2:Res:=.row az aH 3 1 (hD KL.encI ay)
 have cY:sW w U bG [B2,.blk b6 36 B1,.blk b2 27 B0] cw:=eS
 refine ZB ?_ ?_
 have d5:=bR.le br
 refine zC 0 Z Z Z Z (zD Z Z Tryz.call60 (zB Z zL) Z) cY (fun hs=>wBk O.Splits aK aL cw bG hs d5 bO) (.inr Z) ?_
 rintro bH fR gk dz fH eV ⟨bg,bq,rfl,rfl⟩
 let B3:Res:=.row bg bq 39 2 (hD wAC au)
 have eW:sW w U bH [B3,B2,.blk b6 36 B1,.blk b2 27 B0] dz:=eV
 let B4:List Value:=[.slice az ay.length aH,.slice bg au.length bq,.slice none 0 0,.slice none 0 0]
 refine oR Z (zu (pv:=[(0,.slice az ay.length aH),(1,.slice bg au.length bq)]) (z:=B1) (cs:=B4) Z (wAG Z (wAG Z wAP)) yW wGK Z Z) (zU (cs:=B1) Z Z Z Z Z yW Z eW ?_)
 intro f6 cx eZ
 refine zY (j:=0) (vs:=B4) Z Z Z Z eZ Z Z Z Z ZO (zA Z) Z Z Z ?_
 intro dA e6
 have e8:sW w U bH [.blk cx 36 B4,B3,B2,.blk b6 36 B1,.blk b2 27 B0] dA:=e6
 refine zb ?_
 cases bW
 exact zF ⟨rfl,⟨bH,cx,az,aH,bg,bq,rfl,rfl,rfl,(br.trans fH),(e8.pick [3,4,0,2,1] _ (by decide) rfl)⟩⟩
 refine zU (cs:=B1) Z Z Z Z Z yW Z cY ?_
 intro dB bI e9
 have dT:=bR.le br
 refine zC 0 Z Z Z Z (zD Z Z Tryz.call60 (zB Z zL) Z) e9 (fun hs=>wBk O.Splits aK aL dB bG hs dT bO) (.inr Z) ?_
 rintro bE fN gg dg fD ef ⟨bb,bk,rfl,rfl⟩
 let B5:Res:=.row bb bk 39 2 (hD wAC au)
 have eg:sW w U bE [B5,.blk bI 36 B1,B2,.blk b6 36 B1,.blk b2 27 B0] dg:=ef
 let B6:List Value:=[.slice az ay.length aH,.slice bb au.length bk,.slice none 0 0,.slice none 0 0]
 refine oR Z (zu (pv:=[(0,.slice az ay.length aH),(1,.slice bb au.length bk)]) (z:=B1) (cs:=B6) Z (wAG Z (wAG Z wAP)) yW wGK Z Z) (zY (j:=1) (vs:=B6) Z Z Z Z eg Z Z Z Z ZO (zA Z) Z Z Z ?_)
 intro dh eh
 have ej:sW w U bE [B5,.blk bI 36 B6,B2,.blk b6 36 B1,.blk b2 27 B0] dh:=eh
 refine zb ?_
 cases bW
 exact zF ⟨rfl,⟨bE,bI,az,aH,bb,bk,rfl,rfl,rfl,(br.trans fD),(ej.pick [3,4,1,2,0] _ (by decide) rfl)⟩⟩
 refine zU (cs:=B1) Z Z Z Z Z yW Z aZ ?_
 intro di bh ek
 refine zC 0 Z Z Z Z (zD Z Z Tryz.call32 (zB Z zL) Z) ek (fun hs=>wDK O.Starts aU aV di U hs cZ cM) (.inr Z) ?_
 rintro co fO gh ct da en ⟨bc,bm,rfl,rfl⟩
 let B7:Res:=.row bc bm 3 1 (hD KL.encI ay)
 have eo:sW w U co [B7,.blk bh 36 B1,.blk b6 36 B1,.blk b2 27 B0] ct:=en
 have dU:=bR.le da
 refine zC 0 Z Z Z Z (zD Z Z Tryz.call60 (zB Z zL) Z) eo (fun hs=>wBk O.Splits aK aL ct co hs dU bO) (.inr Z) ?_
 rintro bF fP gi dk fE ep ⟨bd,bn,rfl,rfl⟩
 let B8:Res:=.row bd bn 39 2 (hD wAC au)
 have er:sW w U bF [B8,B7,.blk bh 36 B1,.blk b6 36 B1,.blk b2 27 B0] dk:=ep
 let B9:List Value:=[.slice bc ay.length bm,.slice bd au.length bn,.slice none 0 0,.slice none 0 0]
 refine oR Z (zu (pv:=[(0,.slice bc ay.length bm),(1,.slice bd au.length bn)]) (z:=B1) (cs:=B9) Z (wAG Z (wAG Z wAP)) yW wGK Z Z) (zY (j:=2) (vs:=B9) Z Z Z Z er Z Z Z Z ZO (zA Z) Z Z Z ?_)
 intro dl eu
 have ew:sW w U bF [B8,B7,.blk bh 36 B9,.blk b6 36 B1,.blk b2 27 B0] dl:=eu
 refine zb ?_
 cases bW
 exact zF ⟨rfl,⟨bF,bh,bc,bm,bd,bn,rfl,rfl,rfl,(da.trans fE),(ew.pick [3,4,2,1,0] _ (by decide) rfl)⟩⟩
 rintro fI fT ⟨cp,ai,ag,aj,ah,ak,cG,dG,dH,db,cP⟩
 refine zJ (sR fL4 Z (oR Z (zH Z cG zP Z yM) (oL Z (cP.ldB (j:=1) Z Z Z yR (v:=.slice a6 O.Clocks.length a8) Z) (oR Z (zi Z Z Za) (oM Z Z (eN (zX (bnK c6 fun ba fd fm=>?_))))))))
 have q:=wBn fd
 obtain ⟨bU,ff⟩:=q
 replace bU:=zM bU
 let an:Res:=.row ah ak 39 2 (hD wAC aq)
 let ao:Res:=.row ag aj 3 1 (hD KL.encI ap)
 refine CK.forN' (fun a0 aI J_ w_=>∃ (U_:PHeap) (aM:Option Addr) (aR:Nat),J_ 18=jV (↑a0:Int)/\J_ 1=.pointer (some ⟨b2,0,none⟩)/\J_ 2=.pointer (some ⟨b6,0,none⟩)/\J_ 3=.pointer (some ⟨ai,0,none⟩)/\J_ 16=.slice a6 O.Clocks.length a8/\J_ 17=jV (↑O.Clocks.length:Int)/\PHeap.Le cp U_/\sW w U U_ [.blk b6 36 B1,.blk b2 27 B0,ao,an,.row aM aR 116 3 (hD wAM aI),.blk ai 36 [.slice ag ap.length aj,.slice ah aq.length ak,.slice aM aI.length aR,.slice none 0 0]] w_) ff ?_ ?_ ?_
 have ey:=cP.nilrow 116 3
 exact ⟨cp,none,0,rfl,cG,dG,dH,rfl,rfl,(zQ _),(ey.pick [1,2,4,5,0,3] _ (by decide) rfl)⟩
 rintro a0 aI gm fJ fU bS ⟨aX,aM,aR,bM,dI,dJ,bK,cH,cI,dd,cQ⟩ fB
 have cD:Hid ((↑a0:Int) < (↑O.Clocks.length:Int)):=zM (wBQ bS)
 replace bS:=zM bS
 have fj:Hid (w64 ((↑a0:Int) + 1)=(↑(a0 + 1):Int)):=zM (by have h1:=bU.out;have h2:=cD.out;rw [wAY] <;> omega)
 refine sR fL1 Z (oR Z (ze Z bM cI) (eN (zJ (cT Z cD (kN (zJ (zX (sR gEf Z (bnK fB fun am cN fq=>?_)))))))))
 have dV:=fb.le db
 have dW:=dV.le dd
 have q:=dW.el (fun _=>rfl) (wAb cN)
 obtain ⟨f7,ge,d6,d8⟩:=q
 refine oR Z (ZZ Z cH d6 bM Za Zz (wCc cN)) (oL Z (cQ.ldCA (f:=0) d8 Z Z Tryz.isAgg112 Zz (us:=[jV am.Offset.Lo,jV am.Offset.Hi,jV am.Error]) Z Z) ?_)
 let ca:List Value:=[jV 0,jV 0,jV 0]
 refine zU (cs:=ca) Z Z Z Z Z Tryz.zeroValue112 Z cQ ?_
 intro fV bi eA
 let av:List Value:=[jV am.Offset.Lo,jV am.Offset.Hi,jV am.Error]
 refine zY (j:=0) (vs:=av) Z Z Z Z eA Z Z Z Z Zz (zA Z) Z Z Z ?_
 intro dm eB
 let bv:Res:=.blk ai 36 [.slice ag ap.length aj,.slice ah aq.length ak,.slice aM aI.length aR,.slice none 0 0]
 let cb:Res:=.row aM aR 116 3 (hD wAM aI)
 have bP:sW w U aX [.blk bi 112 av,.blk b6 36 B1,.blk b2 27 B0,ao,an,cb,bv] dm:=eB
 refine eN (rR (wDd gEe) Z (oR Z (zH Z bK zW Z yO) (oL Z (bP.ldB (j:=6) Z Z Z yd (v:=.slice aM aI.length aR) Z) (oL Z (bP.ldBA (j:=0) Z Z Z Tryz.isAgg112 Zz (vs:=av) Z Z) (ZC (pv:=[(0,.agg av.toArray)]) (zs:=ca) (cs:=av) Z Z Z Z Z (wAG Z wAP) yH Tryz.sizeOf116 Tryz.zeroValue116 Z Z Z Z Z bP ?_)))))
 intro dp dC eC
 let bw:Res:=.row (some ⟨dC,0,none⟩) 1 116 3 (hD wAM [(⟨am.Offset,am.Error⟩:wBA)])
 have cR:sW w U aX [bw,.blk bi 112 av,.blk b6 36 B1,.blk b2 27 B0,ao,an,cb,bv] dp:=eC
 refine bnK fq fun bs dX ft=>yG (j:=6) (enc:=wAM) (xs:=aI) (ys:=[(⟨am.Offset,am.Error⟩:wBA)]) (zs:=bs) rfl rfl rfl rfl rfl Tryz.underlying33 wNL rfl rfl rfl rfl rfl rfl cR rfl rfl rfl (cR.srcR (j:=0) rfl (by decide) (wAD (f:=wAM) (sz:=3) (fun _=>rfl) [(⟨am.Offset,am.Error⟩:wBA)])) (fun _=>rfl) (fun _=>rfl) dX rfl ?_
 intro be bo dq eD
 let cc:Res:=.row be bo 116 3 (hD wAM bs)
 have eE:sW w U aX [bw,.blk bi 112 av,.blk b6 36 B1,.blk b2 27 B0,ao,an,cc,bv] dq:=eD
 refine oR Z (zH Z bK zW Z yO) (zY (j:=7) (vs:=[.slice be bs.length bo]) Z Z Z Z eE Z Z Z Z yO (zA Z) Z Z Z ?_)
 intro dr eF
 have eG:sW w U aX [bw,.blk bi 112 av,.blk b6 36 B1,.blk b2 27 B0,ao,an,cc,.blk ai 36 [.slice ag ap.length aj,.slice ah aq.length ak,.slice be bs.length bo,.slice none 0 0]] dr:=eF
 refine zb (zl (zF (rR fL2 Z (oR Z (ZP (za Z bM Z) (congrArg (jV) fj.out)) (oM Z Z (zb ?_))))))
 cases ft
 exact zF ⟨rfl,⟨aX,be,bo,rfl,dI,dJ,bK,cH,cI,dd,(eG.pick [2,3,4,5,6,7] _ (by decide) rfl)⟩⟩
 rintro fK fW ⟨cq,aN,aS,dR,dK,dL,dM,f9,dN,fG,cS⟩
 have dE:Hid (¬ ((↑(((↑O.Clocks.length:Int):Int) - 0).toNat:Int) < (↑O.Clocks.length:Int))):=zM (wAq)
 refine sR fL1 Z (oR Z (ze Z dR dN) (eN (zJ (cF Z dE (ZS (zf (zf (ZN (zF (zJ (sR fL4 Z (oR Z (zH Z dK zP Z Zk) (oL Z (cS.ldB (j:=1) Z Z Z Zr (v:=.slice a7 O.Readings.length a9) Z) (oR Z (zi Z Z ZF) (oM Z Z (eN (zX (bnK fm fun df fg fu=>?_))))))))))))))))))
 have q:=wBn fg
 obtain ⟨bV,fh⟩:=q
 replace bV:=zM bV
 let aP:Res:=.row aN aS 116 3 (hD wAM ba)
 refine CK.forN' (fun a5 aJ J_ w_=>∃ (U_:PHeap) (aO:Option Addr) (aT:Nat),J_ 32=jV (↑a5:Int)/\J_ 2=.pointer (some ⟨b6,0,none⟩)/\J_ 3=.pointer (some ⟨ai,0,none⟩)/\J_ 30=.slice a7 O.Readings.length a9/\J_ 31=jV (↑O.Readings.length:Int)/\PHeap.Le cq U_/\sW w U U_ [.blk b6 36 B1,.blk b2 27 B0,ao,an,aP,.row aO aT 117 4 (hD wAF aJ),.blk ai 36 [.slice ag ap.length aj,.slice ah aq.length ak,.slice aN ba.length aS,.slice aO aJ.length aT]] w_) fh ?_ ?_ ?_
 have eH:=cS.nilrow 117 4
 exact ⟨cq,none,0,rfl,dL,dM,rfl,rfl,(zQ _),(eH.pick [1,2,3,4,5,0,6] _ (by decide) rfl)⟩
 rintro a5 aJ gp fL fY bT ⟨aY,aO,aT,bN,dO,bL,cJ,cK,de,cU⟩ fC
 have cE:Hid ((↑a5:Int) < (↑O.Readings.length:Int)):=zM (wBQ bT)
 replace bT:=zM bT
 have fk:Hid (w64 ((↑a5:Int) + 1)=(↑(a5 + 1):Int)):=zM (by have h1:=bV.out;have h2:=cE.out;rw [wAY] <;> omega)
 refine sR fL1 Z (oR Z (ze Z bN cK) (eN (zJ (cT Z cE (kN (zJ (zX (sR gEf Z (bnK fC fun af cO fw=>?_)))))))))
 have dY:=fc.le db
 have dZ:=dY.le fG
 have d3:=dZ.le de
 have q:=d3.el (fun _=>rfl) (wAb cO)
 obtain ⟨f8,gf,d7,d9⟩:=q
 refine oR Z (ZZ Z cJ d7 bN ZF ZW (wCc cO)) (oL Z (cU.ldCA (f:=0) d9 Z Z yb ZW (us:=[jV af.Skier,jV af.Mat,jV af.Clock,jV af.Time]) Z Z) ?_)
 let cd:List Value:=[jV 0,jV 0,jV 0,jV 0]
 refine zU (cs:=cd) Z Z Z Z Z yZ Z cU ?_
 intro fZ bj eJ
 let ax:List Value:=[jV af.Skier,jV af.Mat,jV af.Clock,jV af.Time]
 refine zY (j:=0) (vs:=ax) Z Z Z Z eJ Z Z Z Z ZW (zA Z) Z Z Z ?_
 intro dt eK
 let bx:Res:=.blk ai 36 [.slice ag ap.length aj,.slice ah aq.length ak,.slice aN ba.length aS,.slice aO aJ.length aT]
 let cf:Res:=.row aO aT 117 4 (hD wAF aJ)
 have bQ:sW w U aY [.blk bj 115 ax,.blk b6 36 B1,.blk b2 27 B0,ao,an,aP,cf,bx] dt:=eK
 refine eN (rR (wDd gEe) Z (oR Z (zH Z bL zW Z Zq) (oL Z (bQ.ldB (j:=7) Z Z Z Zy (v:=.slice aO aJ.length aT) Z) (oL Z (bQ.ldBA (j:=0) Z Z Z yb ZW (vs:=ax) Z Z) (ZC (pv:=[(0,.agg ax.toArray)]) (zs:=cd) (cs:=ax) Z Z Z Z Z (wAG Z wAP) ZV yA Tryz.zeroValue117 Z Z Z Z Z bQ ?_)))))
 intro du dD eL
 let bz:Res:=.row (some ⟨dD,0,none⟩) 1 117 4 (hD wAF [(⟨af.Skier,af.Mat,af.Clock,af.Time⟩:wAn)])
 have cV:sW w U aY [bz,.blk bj 115 ax,.blk b6 36 B1,.blk b2 27 B0,ao,an,aP,cf,bx] du:=eL
 refine bnK fw fun bt d4 fy=>yG (j:=7) (enc:=wAF) (xs:=aJ) (ys:=[(⟨af.Skier,af.Mat,af.Clock,af.Time⟩:wAn)]) (zs:=bt) rfl rfl rfl rfl rfl Tryz.underlying34 wJm rfl rfl rfl rfl rfl rfl cV rfl rfl rfl (cV.srcR (j:=0) rfl (by decide) (wAD (f:=wAF) (sz:=4) (fun _=>rfl) [(⟨af.Skier,af.Mat,af.Clock,af.Time⟩:wAn)])) (fun _=>rfl) (fun _=>rfl) d4 rfl ?_
 intro bf bp dv eM
 let cg:Res:=.row bf bp 117 4 (hD wAF bt)
 have eO:sW w U aY [bz,.blk bj 115 ax,.blk b6 36 B1,.blk b2 27 B0,ao,an,aP,cg,bx] dv:=eM
 refine oR Z (zH Z bL zW Z Zq) (zY (j:=8) (vs:=[.slice bf bt.length bp]) Z Z Z Z eO Z Z Z Z Zq (zA Z) Z Z Z ?_)
 intro dw eP
 have eQ:sW w U aY [bz,.blk bj 115 ax,.blk b6 36 B1,.blk b2 27 B0,ao,an,aP,cg,.blk ai 36 [.slice ag ap.length aj,.slice ah aq.length ak,.slice aN ba.length aS,.slice bf bt.length bp]] dw:=eP
 refine zb (zl (zF (rR fL2 Z (oR Z (ZP (za Z bN Z) (congrArg (jV) fk.out)) (oM Z Z (zb ?_))))))
 cases fy
 exact zF ⟨rfl,⟨aY,bf,bp,rfl,dO,bL,cJ,cK,de,(eQ.pick [2,3,4,5,6,7,8] _ (by decide) rfl)⟩⟩
 rintro fM f5 ⟨cr,bu,bJ,dS,cL,dP,ga,dQ,gb,cW⟩
 have dF:Hid (¬ ((↑(((↑O.Readings.length:Int):Int) - 0).toNat:Int) < (↑O.Readings.length:Int))):=zM (wAq)
 refine sR fL1 Z (oR Z (ze Z dS dQ) (eN (zJ (cF Z dF (ZS (zf (zf (ZN (zF (sR gDq Z ?_))))))))))
 let aQ:List Value:=[.slice ag ap.length aj,.slice ah aq.length ak,.slice aN ba.length aS,.slice bu df.length bJ]
 refine oL Z (cW.ldBA (j:=6) Z Z dP ZX ZO (vs:=aQ) Z Z) (zY (j:=0) (vs:=aQ) Z Z Z Z cW Z cL Z Z ZO (zA Z) Z Z Z ?_)
 intro dx eR
 have cX:sW w U cr [.blk b6 36 aQ,.blk b2 27 B0,ao,an,aP,.row bu bJ 117 4 (hD wAF df),.blk ai 36 aQ] dx:=eR
 refine eN (zR ?_)
 cases fu
 exact ⟨rfl,_,(wGy (v:=.agg aQ.toArray) ⟨⟨_,cL,(wBF ZX ZO (cX.blkAt (k:=0) rfl) (vs:=aQ) rfl rfl)⟩,trivial⟩),cr,_,(cX.pick [2,3,4,5] _ (by decide) rfl),ag,aj,ah,ak,aN,aS,bu,bJ,rfl,rfl⟩
theorem wBE (p0:Int) (p1:Int) (p2:Int) (w:World) (U:PHeap) (hS:St0 w U [])  {r:Bool} (hm:wAe p0 p1 p2=some r):Gv Tryz.prog 71 [jV p0,jV p1,jV p2] w (wCF w [] U (fun U_ L_ v=>v=.bool r/\L_=[])):=by
 unfold wAe at hm
 refine Gv.of Tryz.func71 Z Tryz.ntmps71 Tryz.results71 Z (sR fL1 Z (oA Z Z (eN (sR fL9 Z (oM Z Z (oM Z Z (oR Z (ze Z Z Z) (oM Z Z ?_))))))))
 by_cases O:p0 < p1
 have ae:=hm;rw [if_pos O] at ae;replace O:=zM O
 refine oT Z O (oT Z O (oT Z O (oR Z (zS Z (Zh O.out) Z) (oA Z Z (eN (zR ?_))))))
 have hE:=nB ae;first | subst r | cases hE
 exact ⟨Z,_,(ZH Z),U,_,hS,Z,Z⟩
 have aa:=hm;rw [if_neg O] at aa;replace O:=zM O
 refine ZE Z Z Z (wF Z O) Z Z (ZE Z Z Z (wF Z O) Z Z (rU Z (wF Z O) (yQ Z Z Z) (oR Z (zZ Z (ZL O.out) Z) (oA Z Z (eN (zR ?_))))))
 first | (obtain rfl:=nB aa) | cases aa
 exact ⟨Z,_,(ZH Z),U,_,hS,Z,Z⟩
theorem wEZ (p0:wAN) (p1:Int) (p2:Int) (w:World) (U:PHeap) (hS:St0 w U [])  {r:Bool} (hm:wBu p0 p1 p2=some r):Gv Tryz.prog 100 [.agg #[jV p0.Lo,jV p0.Hi],jV p1,jV p2] w (wCF w [] U (fun U_ L_ v=>v=.bool r/\L_=[])):=by
 unfold wBu at hm
 refine Gv.of Tryz.func100 rfl Tryz.ntmps100 Tryz.results100 rfl (sR gDt rfl (zq (cs:=[jV p0.Lo,jV p0.Hi]) rfl rfl rfl rfl rfl rfl (by rfl) hS ?_))
 intro W1 b2 ac
 refine oA Z Z (eN (sR fL18 Z (oR Z (zH Z Z ZJ Z zE) (oL Z (ac.ldB (j:=0) Z Z Z zK (v:=jV p0.Lo) Z) (oR Z (zH Z Z ZJ Z zE) (oL Z (ac.ldB (j:=0) Z Z Z zK (v:=jV p0.Hi) Z) (oR Z (yQ Z Z Z) (oM Z Z ?_))))))))
 by_cases O:p0.Hi < p0.Lo
 have af:=hm;rw [if_pos O] at af;replace O:=zM O
 refine oT Z O (oT Z O (oT Z O (oT Z O (oR Z (zS Z (Zh O.out) Z) (oM Z Z (oN Z (oN Z (oN Z (oN Z (oR Z (zS Z Z Z) (oA Z Z (eN (zR ?_)))))))))))))
 have hE:=nB af;first | subst r | cases hE
 exact ⟨rfl,_,(ZH rfl),U,_,(ac.pick [] _ (by decide) rfl),rfl,rfl⟩
 have ag:=hm;rw [if_neg O] at ag;replace O:=zM O
 refine rU Z (wF Z O) (zH Z Z ZJ Z zE) (zx Z Z Z (wF Z O) (ac.ldB (j:=0) Z Z Z zK (v:=jV p0.Lo) Z) Z (ZE Z Z Z (wF Z O) Z Z (rU Z (wF Z O) (ze Z Z Z) (oR Z (zZ Z (ZL O.out) Z) (oM Z Z (ifc ag ?_ ?_))))))
 intro c8 aj
 refine oT Z c8 (oT Z c8 (oT Z c8 (oT Z c8 (oR Z (zS Z (Zh c8.out) Z) (oA Z Z (eN (zR ?_)))))))
 have hE:=nB aj;first | subst r | cases hE
 exact ⟨rfl,_,(ZH rfl),U,_,(ac.pick [] _ (by decide) rfl),rfl,rfl⟩
 intro c8 ae
 refine rU Z (wF Z c8) (zH Z Z ZJ Z zE) (zx Z Z Z (wF Z c8) (ac.ldB (j:=0) Z Z Z zK (v:=jV p0.Hi) Z) Z (ZE Z Z Z (wF Z c8) Z Z (rU Z (wF Z c8) (yQ Z Z Z) (oR Z (zZ Z (ZL c8.out) Z) (oA Z Z (eN (zR ?_)))))))
 first | (obtain rfl:=nB ae) | cases ae
 exact ⟨rfl,_,(ZH rfl),U,_,(ac.pick [] _ (by decide) rfl),rfl,rfl⟩
theorem wCN (O:wAK) (aH:Option Addr) (aJ:Nat) (aI:Option Addr) (aK:Nat) (au:Option Addr) (ax:Nat) (av:Option Addr) (ay:Nat) (w:World) (U:PHeap) (hS:St0 w U []) (ef:Sl U 1 aH aJ O.Starts.length (hD KL.encI O.Starts)) (eg:Sl U 2 aI aK O.Splits.length (hD wAC O.Splits)) (eh:Sl U 3 au ax O.Clocks.length (hD wAM O.Clocks)) (bZ:Sl U 4 av ay O.Readings.length (hD wAF O.Readings)) {r:Int} (hm:wAt O=some r):Gv Tryz.prog 34 [.agg #[.slice aH O.Starts.length aJ,.slice aI O.Splits.length aK,.slice au O.Clocks.length ax,.slice av O.Readings.length ay]] w (wCF w [] U (fun U_ L_ v=>v=jV r/\L_=[])):=by
 unfold wAt at hm
 refine Gv.of Tryz.func34 Z Tryz.ntmps34 Tryz.results34 Z (sR gDt Z ?_)
 let B0:List Value:=[.slice aH O.Starts.length aJ,.slice aI O.Splits.length aK,.slice au O.Clocks.length ax,.slice av O.Readings.length ay]
 refine zq (cs:=B0) rfl rfl rfl rfl rfl rfl (by rfl) hS ?_
 intro W1 b2 bW
 refine oA Z Z (eN (zJ (sR (wDd (.fx 3 (wPE (.nil)) .stop)) Z (oR Z (zH Z Z zW Z zh) (oL Z (bW.ldB (j:=0) Z Z Z zk (v:=.slice aH O.Starts.length aJ) Z) (oR Z (zi Z Z zG) (bnK hm fun x5 h6 fz=>zC 0 Z Z Z Z (zD Z Z yr (zB Z (zB Z (zB Z zL))) Z) bW (fun hs=>wBE (↑O.Starts.length:Int) 1 8 W1 U hs h6) (.inr Z) ?_)))))))
 rintro U8 L9 gC cG aV dX ⟨rfl,rfl⟩
 have aq:sW w U U8 [.blk b2 36 B0] cG:=dX
 refine oM Z Z (ifc fz ?_ ?_)
 intro ah ew
 refine zw Z Z Z (zO Z Z (congrArg hH ah.out) Z) (zw Z Z Z (zO Z Z (congrArg hH ah.out) Z) (zw Z Z Z (zO Z Z (congrArg hH ah.out) Z) (zw Z Z Z (zO Z Z (congrArg hH ah.out) Z) (oR Z (zS Z (congrArg hH ah.out) Z) (oM Z Z (oN Z (oN Z (oN Z (oN Z (oR Z (zS Z Z Z) (oM Z Z (oN Z (oN Z (oN Z (oN Z (oR Z (zS Z Z Z) (eN (ZK Z (sR fL1 Z (oA Z Z (eN (zR (zT ?_)))))))))))))))))))))))
 cases ew
 exact ⟨rfl,_,(ZH rfl),U8,_,(aq.pick [] _ (by decide) rfl),rfl,rfl⟩
 intro ah eC
 refine zg Z Z Z (zN Z Z (congrArg hH (nA.2 ah.out))) (fun _=>zH Z Z zW Z Zf) (zx Z Z Z (zN Z Z (congrArg hH (nA.2 ah.out))) (aq.ldB (j:=0) Z Z Z Zl (v:=.slice aI O.Splits.length aK) Z) Z (zg Z Z Z (zN Z Z (congrArg hH (nA.2 ah.out))) (fun _=>zi Z Z ZG) (zg Z Z Z (zN Z Z (congrArg hH (nA.2 ah.out))) (fun _=>yQ Z Z Z) (oR Z (zZ Z (congrArg hH (nA.2 ah.out)) Z) (oM Z Z (ifc eC ?_ ?_))))))
 intro ai eH
 refine oT Z ai (oT Z ai (oT Z ai (oT Z ai (oR Z (zS Z (Zh ai.out) Z) (oM Z Z (oN Z (oN Z (oN Z (oN Z (oR Z (zS Z Z Z) (eN (ZK Z (sR fL1 Z (oA Z Z (eN (zR (zT ?_)))))))))))))))))
 cases eH
 exact ⟨rfl,_,(ZH rfl),U8,_,(aq.pick [] _ (by decide) rfl),rfl,rfl⟩
 intro ai eJ
 refine rU Z (wF Z ai) (zH Z Z zW Z yO) (zx Z Z Z (wF Z ai) (aq.ldB (j:=0) Z Z Z yd (v:=.slice au O.Clocks.length ax) Z) Z (rU Z (wF Z ai) (zi Z Z yH) (rU Z (wF Z ai) (yQ Z Z Z) (oR Z (zZ Z (ZL ai.out) Z) (oM Z Z (ifc eJ ?_ ?_))))))
 intro aj eL
 refine oT Z aj (oT Z aj (oT Z aj (oT Z aj (oR Z (zS Z (Zh aj.out) Z) (eN (ZK Z (sR fL1 Z (oA Z Z (eN (zR (zT ?_)))))))))))
 cases eL
 exact ⟨rfl,_,(ZH rfl),U8,_,(aq.pick [] _ (by decide) rfl),rfl,rfl⟩
 intro aj eO
 refine rU Z (wF Z aj) (zH Z Z zW Z Zq) (zx Z Z Z (wF Z aj) (aq.ldB (j:=0) Z Z Z Zy (v:=.slice av O.Readings.length ay) Z) Z (rU Z (wF Z aj) (zi Z Z ZV) (rU Z (wF Z aj) (yQ Z Z Z) (oR Z (zZ Z (ZL aj.out) Z) (eN (ifc eO ?_ ?_))))))
 intro bt eU
 refine cT Z bt (sR fL1 Z (oA Z Z (eN (zR (zT ?_)))))
 cases eU
 exact ⟨rfl,_,(ZH rfl),U8,_,(aq.pick [] _ (by decide) rfl),rfl,rfl⟩
 intro bt eV
 refine cF Z bt (kN (zJ (sR fL1 Z (oA Z Z (eN (zX (ye (fun bL J_ w_=>∃ (U_:PHeap),J_ 1=.pointer (some ⟨b2,0,none⟩)/\J_ 3=jV bL/\PHeap.Le U8 U_/\sW w U U_ [.blk b2 36 B0] w_) eV ?_ ?_)))))))
 exact ⟨U8,Z,Z,(zQ _),aq⟩
 rintro bL gX f6 cL ⟨bn,a5,bz,aN,aT⟩ cw ca
 refine zJ (sR fL5 Z (oM Z bz (oR Z (zH Z a5 zW Z zh) (oL Z (aT.ldB (j:=0) Z Z Z zk (v:=.slice aH O.Starts.length aJ) Z) (oR Z (zi Z Z zG) (oR Z (ze Z Z Z) (eN ?_)))))))
 by_cases ao:bL < (↑O.Starts.length:Int)
 have co:=cw;rw [if_pos ao] at co;replace ao:=zM ao
 refine cT Z ao (kN (zJ (zX (sR (wHD (.fx 5 .nil .stop)) Z (oR Z (zH Z a5 zW Z zh) (oL Z (aT.ldB (j:=0) Z Z Z zk (v:=.slice aH O.Starts.length aJ) Z) (oM Z bz (bnK co fun cC bD fq=>?_))))))))
 have dD:=ef.le aV
 have dE:=dD.le aN
 have q:=dE.el (fun _=>rfl) (wAb bD)
 obtain ⟨gu,gB,dP,dV⟩:=q
 refine oR Z (ZT Z Z dP Z zG zE (wBp bD) (wBx bD)) (oL Z (aT.ldC (f:=0) dV (v:=jV cC) Z Z zK Z) (bnK fq fun gT dF ft=>zC 0 Z Z Z Z (zD Z Z yr (zB Z (zB Z (zB Z zL))) Z) aT (fun hs=>wBE cC 0 360000 cL bn hs dF) (.inr Z) ?_))
 rintro bo gh gK cN fJ d9 ⟨rfl,rfl⟩
 have bY:sW w U bo [.blk b2 36 B0] cN:=d9
 refine eN (ifc ft ?_ ?_)
 intro bv fu
 refine ZK (congrArg hH bv.out) (sR fL1 Z (oA Z Z (eN (zR (zo (zT ?_))))))
 have q:=wAV fu
 obtain ⟨fV,fw,da⟩:=q
 have q:=ca fV da
 obtain rfl:=q
 refine zT (zo (zT ?_))
 cases fw
 exact ⟨rfl,_,(ZH rfl),bo,_,(bY.pick [] _ (by decide) rfl),rfl,rfl⟩
 intro bv fy
 refine zr (congrArg hH (nA.2 bv.out)) (Ze (zl (zF (rR fL3 Z (oM Z bz (oR Z (za Z Z Z) (oA Z Z (zb ?_))))))))
 have q:=nB fy
 obtain rfl:=q
 exact zF ⟨Z,_,Z,⟨bo,a5,Z,(aN.trans fJ),bY⟩⟩
 have cp:=cw;rw [if_neg ao] at cp;replace ao:=zM ao
 refine cF Z ao (ZS (zf ?_))
 have q:=wAV cp
 obtain ⟨fW,fA,db⟩:=q
 have q:=ca fW db
 obtain rfl:=q
 refine zf (ZN (zF (zJ (sR fL1 Z (oA Z Z (eN (zX (ye (fun bM J_ w_=>∃ (U_:PHeap),J_ 1=.pointer (some ⟨b2,0,none⟩)/\J_ 4=jV bM/\PHeap.Le bn U_/\sW w U U_ [.blk b2 36 B0] w_) fA ?_ ?_))))))))
 exact ⟨bn,a5,Z,(zQ _),aT⟩
 rintro bM gY f7 cO ⟨bp,a6,bA,aW,aU⟩ cx cb
 refine zJ (sR fL5 Z (oM Z bA (oR Z (zH Z a6 zW Z Zf) (oL Z (aU.ldB (j:=0) Z Z Z Zl (v:=.slice aI O.Splits.length aK) Z) (oR Z (zi Z Z ZG) (oR Z (ze Z Z Z) (eN ?_)))))))
 by_cases ap:bM < (↑O.Splits.length:Int)
 have cq:=cx;rw [if_pos ap] at cq;replace ap:=zM ap
 refine cT Z ap (kN (zJ (zX (sR (wHD (.fx 5 .nil .stop)) Z (oR Z (zH Z a6 zW Z Zf) (oL Z (aU.ldB (j:=0) Z Z Z Zl (v:=.slice aI O.Splits.length aK) Z) (oM Z bA (bnK cq fun bN bE fB=>?_))))))))
 have dH:=eg.le aV
 have dI:=dH.le aN
 have dJ:=dI.le aW
 have q:=dJ.el (fun _=>rfl) (wAb bE)
 obtain ⟨gv,gw,dK,dQ⟩:=q
 refine oR Z (ZT Z Z dK Z ZG zm (wBp bE) (wBx bE)) (oL Z (aU.ldCA (f:=0) dQ Z Z Zu zm (us:=[jV bN.Lo,jV bN.Hi]) Z Z) (bnK fB fun gL dd ej=>zC 0 Z Z Z Z (zD Z Z Tryz.call100 (zB Z (zB Z (zB Z zL))) Z) aU (fun hs=>wEZ bN 0 360000 cO bp hs dd) (.inr Z) ?_))
 rintro bc f8 gD cE fC dW ⟨rfl,rfl⟩
 have bT:sW w U bc [.blk b2 36 B0] cE:=dW
 refine eN (ifc ej ?_ ?_)
 intro bq ek
 refine ZK (congrArg hH bq.out) (sR fL1 Z (oA Z Z (eN (zR (zo (zT ?_))))))
 have q:=wAV ek
 obtain ⟨fK,en,cP⟩:=q
 have q:=cb fK cP
 obtain rfl:=q
 refine zT (zo (zT ?_))
 cases en
 exact ⟨rfl,_,(ZH rfl),bc,_,(bT.pick [] _ (by decide) rfl),rfl,rfl⟩
 intro bq eo
 refine zr (congrArg hH (nA.2 bq.out)) (Ze (zl (zF (rR fL3 Z (oM Z bA (oR Z (za Z Z Z) (oA Z Z (zb ?_))))))))
 have q:=nB eo
 obtain rfl:=q
 exact zF ⟨Z,_,Z,⟨bc,a6,Z,(aW.trans fC),bT⟩⟩
 have cc:=cx;rw [if_neg ap] at cc;replace ap:=zM ap
 refine cF Z ap (ZS (zf ?_))
 have q:=wAV cc
 obtain ⟨fL,ep,cQ⟩:=q
 have q:=cb fL cQ
 obtain rfl:=q
 refine zf (ZN (zF (zJ (sR fL1 Z (oA Z Z (eN (zX (ye (fun bI J_ w_=>∃ (U_:PHeap),J_ 1=.pointer (some ⟨b2,0,none⟩)/\J_ 5=jV bI/\PHeap.Le bp U_/\sW w U U_ [.blk b2 36 B0] w_) ep ?_ ?_))))))))
 exact ⟨bp,a6,Z,(zQ _),aU⟩
 rintro bI gU fY cH ⟨bd,aP,aZ,bb,aQ⟩ cr bG
 refine zJ (sR fL5 Z (oM Z aZ (oR Z (zH Z aP zW Z yO) (oL Z (aQ.ldB (j:=0) Z Z Z yd (v:=.slice au O.Clocks.length ax) Z) (oR Z (zi Z Z yH) (oR Z (ze Z Z Z) (eN ?_)))))))
 by_cases ak:bI < (↑O.Clocks.length:Int)
 have cd:=cr;rw [if_pos ak] at cd;replace ak:=zM ak
 refine cT Z ak (kN (zJ (zX (sR (wFh (.fx 6 (wLv gDs) .stop)) Z (oR Z (zH Z aP zW Z yO) (oL Z (aQ.ldB (j:=0) Z Z Z yd (v:=.slice au O.Clocks.length ax) Z) (oM Z aZ (bnK cd fun aX aM er=>?_))))))))
 have de:=eh.le aV
 have df:=de.le aN
 have dg:=df.le aW
 have bS:=dg.le bb
 have q:=bS.el (fun _=>rfl) (wAb aM)
 obtain ⟨gm,gx,dL,dR⟩:=q
 refine oR Z (ZT Z Z dL Z yH Tryz.sizeOf116 (wBp aM) (wBx aM)) (oR Z (zH Z Z yq Z zm) (oL Z (aQ.ldCA (f:=0) dR Z Z Zu zm (us:=[jV aX.Offset.Lo,jV aX.Offset.Hi]) Z Z) (bnK er fun gM dh eu=>zC 0 Z Z Z Z (zD Z Z Tryz.call100 (zB Z (zB Z (zB Z zL))) Z) aQ (fun hs=>wEZ aX.Offset (-36000) 36000 cH bd hs dh) (.inr Z) ?_)))
 rintro be f9 gE bO cy dY ⟨rfl,rfl⟩
 have a7:sW w U be [.blk b2 36 B0] bO:=dY
 refine oM Z Z (ifc eu ?_ ?_)
 intro ab ey
 refine zw Z Z Z (zO Z Z (congrArg hH ab.out) Z) (zw Z Z Z (zO Z Z (congrArg hH ab.out) Z) (zw Z Z Z (zO Z Z (congrArg hH ab.out) Z) (zw Z Z Z (zO Z Z (congrArg hH ab.out) Z) (zw Z Z Z (zO Z Z (congrArg hH ab.out) Z) (zw Z Z Z (zO Z Z (congrArg hH ab.out) Z) (ZA Z Z Z (zO Z Z (congrArg hH ab.out) Z) (oR Z (zS Z (congrArg hH ab.out) Z) (eN (ZK Z (sR fL1 Z (oA Z Z (eN (zR (zo (zT ?_)))))))))))))))
 have q:=wAV ey
 obtain ⟨fM,eA,cR⟩:=q
 have q:=bG fM cR
 obtain rfl:=q
 refine zT (zo (zT ?_))
 cases eA
 exact ⟨rfl,_,(ZH rfl),be,_,(a7.pick [] _ (by decide) rfl),rfl,rfl⟩
 intro ab eB
 refine zg Z Z Z (zN Z Z (congrArg hH (nA.2 ab.out))) (fun _=>zH Z aP zW Z yO) (zx Z Z Z (zN Z Z (congrArg hH (nA.2 ab.out))) (a7.ldB (j:=0) Z Z Z yd (v:=.slice au O.Clocks.length ax) Z) Z (ZE Z Z Z (zN Z Z (congrArg hH (nA.2 ab.out))) Z aZ ?_))
 have di:=bS.le cy
 have q:=di.el (fun _=>rfl) (wAb aM)
 obtain ⟨gp,gy,dM,dS⟩:=q
 refine zg Z Z Z (zN Z Z (congrArg hH (nA.2 ab.out))) (fun _=>ZT Z Z dM Z yH Tryz.sizeOf116 (wBp aM) (wBx aM)) (zg Z Z Z (zN Z Z (congrArg hH (nA.2 ab.out))) (fun _=>zH Z Z yq Z zE) (zx Z Z Z (zN Z Z (congrArg hH (nA.2 ab.out))) (a7.ldC (f:=2) dS (v:=jV aX.Error) Z Z zK Z) Z (bnK eB fun gN dk eD=>zC 0 Z Z Z (zN Z Z (congrArg hH (nA.2 ab.out))) (zD Z Z yr (zB Z (zB Z (zB Z zL))) Z) a7 (fun hs=>wBE aX.Error 0 600 bO be hs dk) (.inr Z) ?_)))
 rintro bf ga gF cI fD dZ ⟨rfl,rfl⟩
 have bU:sW w U bf [.blk b2 36 B0] cI:=dZ
 refine oR Z (zZ Z (congrArg hH (nA.2 ab.out)) Z) (eN (ifc eD ?_ ?_))
 intro br eE
 refine ZK (congrArg hH br.out) (sR fL1 Z (oA Z Z (eN (zR (zo (zT ?_))))))
 have q:=wAV eE
 obtain ⟨fN,eF,cS⟩:=q
 have q:=bG fN cS
 obtain rfl:=q
 refine zT (zo (zT ?_))
 cases eF
 exact ⟨rfl,_,(ZH rfl),bf,_,(bU.pick [] _ (by decide) rfl),rfl,rfl⟩
 intro br eG
 refine zr (congrArg hH (nA.2 br.out)) (Ze (zl (zF (rR fL3 Z (oM Z aZ (oR Z (za Z Z Z) (oA Z Z (zb ?_))))))))
 have q:=nB eG
 obtain rfl:=q
 exact zF ⟨Z,_,Z,⟨bf,aP,Z,((bb.trans cy).trans fD),bU⟩⟩
 have cf:=cr;rw [if_neg ak] at cf;replace ak:=zM ak
 refine cF Z ak (ZS (zf ?_))
 have q:=wAV cf
 obtain ⟨fO,eI,cU⟩:=q
 have q:=bG fO cU
 obtain rfl:=q
 refine zf (ZN (zF (zJ (sR fL1 Z (oA Z Z (eN (zX (ye (fun bJ J_ w_=>∃ (U_:PHeap),J_ 1=.pointer (some ⟨b2,0,none⟩)/\J_ 6=jV bJ/\PHeap.Le bd U_/\sW w U U_ [.blk b2 36 B0] w_) eI ?_ ?_))))))))
 exact ⟨bd,aP,Z,(zQ _),aQ⟩
 rintro bJ gV fZ cJ ⟨bg,a0,bw,bH,aR⟩ ct b5
 refine zJ (sR fL5 Z (oM Z bw (oR Z (zH Z a0 zW Z Zq) (oL Z (aR.ldB (j:=0) Z Z Z Zy (v:=.slice av O.Readings.length ay) Z) (oR Z (zi Z Z ZV) (oR Z (ze Z Z Z) (eN ?_)))))))
 by_cases am:bJ < (↑O.Readings.length:Int)
 have cg:=ct;rw [if_pos am] at cg;replace am:=zM am
 refine cT Z am (kN (zJ (zX (sR (wFh (.fx 6 .nil .stop)) Z (oR Z (zH Z a0 zW Z Zq) (oL Z (aR.ldB (j:=0) Z Z Z Zy (v:=.slice av O.Readings.length ay) Z) (oM Z bw (bnK cg fun cA bB eK=>?_))))))))
 have dl:=bZ.le aV
 have dm:=dl.le aN
 have dp:=dm.le aW
 have dq:=dp.le bb
 have dr:=dq.le bH
 have q:=dr.el (fun _=>rfl) (wAb bB)
 obtain ⟨gq,gz,dN,dT⟩:=q
 refine oR Z (ZT Z Z dN Z ZV yA (wBp bB) (wBx bB)) (oR Z (zH Z Z Zt Z zE) (oL Z (aR.ldC (f:=3) dT (v:=jV cA.Time) Z Z zK Z) (bnK eK fun gO dt eM=>zC 0 Z Z Z Z (zD Z Z yr (zB Z (zB Z (zB Z zL))) Z) aR (fun hs=>wBE cA.Time 0 360000 cJ bg hs dt) (.inr Z) ?_)))
 rintro bh gb gG cK fE d3 ⟨rfl,rfl⟩
 have bV:sW w U bh [.blk b2 36 B0] cK:=d3
 refine eN (ifc eM ?_ ?_)
 intro bs eP
 refine ZK (congrArg hH bs.out) (sR fL1 Z (oA Z Z (eN (zR (zo (zT ?_))))))
 have q:=wAV eP
 obtain ⟨fP,eQ,cV⟩:=q
 have q:=b5 fP cV
 obtain rfl:=q
 refine zT (zo (zT ?_))
 cases eQ
 exact ⟨rfl,_,(ZH rfl),bh,_,(bV.pick [] _ (by decide) rfl),rfl,rfl⟩
 intro bs eR
 refine zr (congrArg hH (nA.2 bs.out)) (Ze (zl (zF (rR fL3 Z (oM Z bw (oR Z (za Z Z Z) (oA Z Z (zb ?_))))))))
 have q:=nB eR
 obtain rfl:=q
 exact zF ⟨Z,_,Z,⟨bh,a0,Z,(bH.trans fE),bV⟩⟩
 have cj:=ct;rw [if_neg am] at cj;replace am:=zM am
 refine cF Z am (ZS (zf ?_))
 have q:=wAV cj
 obtain ⟨fQ,eS,cW⟩:=q
 have q:=b5 fQ cW
 obtain rfl:=q
 refine zf (ZN (zF (zJ (sR fL1 Z (oA Z Z (eN (zX (ye (fun bK J_ w_=>∃ (U_:PHeap),J_ 1=.pointer (some ⟨b2,0,none⟩)/\J_ 7=jV bK/\PHeap.Le bg U_/\sW w U U_ [.blk b2 36 B0] w_) eS ?_ ?_))))))))
 exact ⟨bg,a0,Z,(zQ _),aR⟩
 rintro bK gW f5 gj ⟨bi,aL,bx,cz,aS⟩ cu ba
 refine zJ (sR fL5 Z (oM Z bx (oR Z (zH Z aL zW Z Zq) (oL Z (aS.ldB (j:=0) Z Z Z Zy (v:=.slice av O.Readings.length ay) Z) (oR Z (zi Z Z ZV) (oR Z (ze Z Z Z) (eN ?_)))))))
 by_cases an:bK < (↑O.Readings.length:Int)
 have cm:=cu;rw [if_pos an] at cm;replace an:=zM an
 refine cT Z an (kN (zJ (zX (sR (wHD (.fx 5 (.fx 6 .nil .stop) .stop)) Z (oR Z (zH Z aL zW Z Zq) (oL Z (aS.ldB (j:=0) Z Z Z Zy (v:=.slice av O.Readings.length ay) Z) (oM Z bx (bnK cm fun ag bC eW=>?_))))))))
 have du:=bZ.le aV
 have dv:=du.le aN
 have dw:=dv.le aW
 have dx:=dw.le bb
 have dy:=dx.le bH
 have dz:=dy.le cz
 have q:=dz.el (fun _=>rfl) (wAb bC)
 obtain ⟨gt,gA,dO,dU⟩:=q
 refine oR Z (ZT Z Z dO Z ZV yA (wBp bC) (wBx bC)) (oL Z (aS.ldCA (f:=0) dU Z Z Tryz.isAgg117 yA (us:=[jV ag.Skier,jV ag.Mat,jV ag.Clock,jV ag.Time]) Z Z) (zU (cs:=[jV 0,jV 0,jV 0,jV 0]) Z Z Z Z Z Tryz.zeroValue117 Z aS ?_))
 intro gk aY d4
 let B1:List Value:=[jV ag.Skier,jV ag.Mat,jV ag.Clock,jV ag.Time]
 refine zY (j:=0) (vs:=B1) Z Z Z Z d4 Z Z Z Z yA (zA Z) Z Z Z ?_
 intro bP d5
 have bF:sW w U bi [.blk aY 117 B1,.blk b2 36 B0] bP:=d5
 refine eN (sR (wFh (.fx 6 (wKb (.fx 13 (wNs (.fx 22 (.fl 23 .nil) .stop)) .stop)) .stop)) Z (oR Z (zH Z Z Zt Z zE) (oL Z (bF.ldB (j:=0) Z Z Z zK (v:=jV ag.Skier) Z) (oR Z (zH Z aL zW Z zh) (oL Z (bF.ldB (j:=1) Z Z Z zk (v:=.slice aH O.Starts.length aJ) Z) (oR Z (zi Z Z zG) (oR Z (yf Z Z Z) (bnK eW fun gP dA eZ=>zC 0 Z Z Z Z (zD Z Z yr (zB Z (zB Z (zB Z zL))) Z) bF (fun hs=>wBE ag.Skier 0 (w64 ((↑O.Starts.length:Int) - 1)) bP bi hs dA) (.inr Z) ?_))))))))
 rintro bj ge gH bQ fG d6 ⟨rfl,rfl⟩
 have a8:sW w U bj [.blk aY 117 B1,.blk b2 36 B0] bQ:=d6
 refine oM Z Z (ifc eZ ?_ ?_)
 intro af e6
 refine zw Z Z Z (zO Z Z (congrArg hH af.out) Z) (zw Z Z Z (zO Z Z (congrArg hH af.out) Z) (zw Z Z Z (zO Z Z (congrArg hH af.out) Z) (zw Z Z Z (zO Z Z (congrArg hH af.out) Z) (zw Z Z Z (zO Z Z (congrArg hH af.out) Z) (ZA Z Z Z (zO Z Z (congrArg hH af.out) Z) (oR Z (zS Z (congrArg hH af.out) Z) (oM Z Z (oN Z (oN Z (oN Z (oN Z (oN Z (oN Z (ZA Z Z Z (zO Z Z Z Z) (oR Z (zS Z Z Z) (eN (ZK Z (sR fL1 Z (oA Z Z (eN (zR (zo (zT ?_)))))))))))))))))))))))
 have q:=wAV e6
 obtain ⟨fR,e8,cX⟩:=q
 have q:=ba fR cX
 obtain rfl:=q
 refine zT (zo (zT ?_))
 cases e8
 exact ⟨rfl,_,(ZH rfl),bj,_,(a8.pick [] _ (by decide) rfl),rfl,rfl⟩
 intro af e9
 refine zg Z Z Z (zN Z Z (congrArg hH (nA.2 af.out))) (fun _=>zH Z Z Zt Z zE) (zx Z Z Z (zN Z Z (congrArg hH (nA.2 af.out))) (a8.ldB (j:=0) Z Z Z zK (v:=jV ag.Mat) Z) Z (zg Z Z Z (zN Z Z (congrArg hH (nA.2 af.out))) (fun _=>zH Z aL zW Z Zf) (zx Z Z Z (zN Z Z (congrArg hH (nA.2 af.out))) (a8.ldB (j:=1) Z Z Z Zl (v:=.slice aI O.Splits.length aK) Z) Z (zg Z Z Z (zN Z Z (congrArg hH (nA.2 af.out))) (fun _=>zi Z Z ZG) (bnK e9 fun gQ dB fb=>zC 0 Z Z Z (zN Z Z (congrArg hH (nA.2 af.out))) (zD Z Z yr (zB Z (zB Z (zB Z zL))) Z) a8 (fun hs=>wBE ag.Mat 0 (↑O.Splits.length:Int) bQ bj hs dB) (.inr Z) ?_)))))
 rintro bk gf gI bR fH d7 ⟨rfl,rfl⟩
 have a9:sW w U bk [.blk aY 117 B1,.blk b2 36 B0] bR:=d7
 refine oR Z (zZ Z (congrArg hH (nA.2 af.out)) Z) (oM Z Z (ifc fb ?_ ?_))
 intro ac fc
 refine zw Z Z Z (zO Z Z (congrArg hH ac.out) Z) (zw Z Z Z (zO Z Z (congrArg hH ac.out) Z) (zw Z Z Z (zO Z Z (congrArg hH ac.out) Z) (zw Z Z Z (zO Z Z (congrArg hH ac.out) Z) (zw Z Z Z (zO Z Z (congrArg hH ac.out) Z) (zw Z Z Z (zO Z Z (congrArg hH ac.out) Z) (ZA Z Z Z (zO Z Z (congrArg hH ac.out) Z) (oR Z (zS Z (congrArg hH ac.out) Z) (eN (ZK Z (sR fL1 Z (oA Z Z (eN (zR (zo (zT ?_)))))))))))))))
 have q:=wAV fc
 obtain ⟨fS,fd,cY⟩:=q
 have q:=ba fS cY
 obtain rfl:=q
 refine zT (zo (zT ?_))
 cases fd
 exact ⟨rfl,_,(ZH rfl),bk,_,(a9.pick [] _ (by decide) rfl),rfl,rfl⟩
 intro ac ff
 refine zg Z Z Z (zN Z Z (congrArg hH (nA.2 ac.out))) (fun _=>zH Z Z Zt Z zE) (zx Z Z Z (zN Z Z (congrArg hH (nA.2 ac.out))) (a9.ldB (j:=0) Z Z Z zK (v:=jV ag.Clock) Z) Z (zg Z Z Z (zN Z Z (congrArg hH (nA.2 ac.out))) (fun _=>zH Z aL zW Z yO) (zx Z Z Z (zN Z Z (congrArg hH (nA.2 ac.out))) (a9.ldB (j:=1) Z Z Z yd (v:=.slice au O.Clocks.length ax) Z) Z (zg Z Z Z (zN Z Z (congrArg hH (nA.2 ac.out))) (fun _=>zi Z Z yH) (zg Z Z Z (zN Z Z (congrArg hH (nA.2 ac.out))) (fun _=>yf Z Z Z) (bnK ff fun gR dC fg=>zC 0 Z Z Z (zN Z Z (congrArg hH (nA.2 ac.out))) (zD Z Z yr (zB Z (zB Z (zB Z zL))) Z) a9 (fun hs=>wBE ag.Clock 0 (w64 ((↑O.Clocks.length:Int) - 1)) bR bk hs dC) (.inr Z) ?_))))))
 rintro bm gg gJ cM fI d8 ⟨rfl,rfl⟩
 have bX:sW w U bm [.blk aY 117 B1,.blk b2 36 B0] cM:=d8
 refine oR Z (zZ Z (congrArg hH (nA.2 ac.out)) Z) (eN (ifc fg ?_ ?_))
 intro bu fh
 refine ZK (congrArg hH bu.out) (sR fL1 Z (oA Z Z (eN (zR (zo (zT ?_))))))
 have q:=wAV fh
 obtain ⟨fT,fj,cZ⟩:=q
 have q:=ba fT cZ
 obtain rfl:=q
 refine zT (zo (zT ?_))
 cases fj
 exact ⟨rfl,_,(ZH rfl),bm,_,(bX.pick [] _ (by decide) rfl),rfl,rfl⟩
 intro bu fk
 refine zr (congrArg hH (nA.2 bu.out)) (Ze (zl (zF (rR fL3 Z (oM Z bx (oR Z (za Z Z Z) (oA Z Z (zb ?_))))))))
 have q:=nB fk
 obtain rfl:=q
 exact zF ⟨rfl,_,rfl,⟨bm,aL,rfl,(((cz.trans fG).trans fH).trans fI),(bX.pick [1] _ (by decide) rfl)⟩⟩
 have cn:=cu;rw [if_neg an] at cn;replace an:=zM an
 refine cF Z an (ZS (zf ?_))
 have q:=wAV cn
 obtain ⟨fU,fm,c6⟩:=q
 have q:=ba fU c6
 obtain rfl:=q
 refine zf (ZN (zF (sR fL1 Z (oA Z Z (eN (zR ?_))))))
 cases fm
 exact ⟨rfl,_,(ZH rfl),bi,_,(aS.pick [] _ (by decide) rfl),rfl,rfl⟩
end Go.Proofs.YtlnfbjphfoipaaaGreat
