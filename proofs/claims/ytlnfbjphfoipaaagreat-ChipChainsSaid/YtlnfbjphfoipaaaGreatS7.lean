import Derived.Test.YtlnfbjphfoipaaaGreatS5
import Derived.Test.YtlnfbjphfoipaaaGreatS4
import Derived.Test.YtlnfbjphfoipaaaGreatS6
set_option linter.all false
open List renaming flatMap->hD,length_set->nA,getElem_cons_succ->nB,getElem_cons_zero->nD,set->nE,getElem_toArray->nG
open Go.Value renaming bool->hH
open Bool renaming eq_false_iff->hJ
open Option.some renaming inj->hU
namespace Go.Proofs.YtlnfbjphfoipaaaGreat
open Go.KL
def gDp:Sch:=.fx 1 (.fx 2 .nil .stop) .stop
def gDq:Sch:=.fl 0 (.fx 1 .nil .stop)
def gDr:Sch:=.fx 3 (.fl 4 .nil) .stop
def gDs:Sch:=.fx 14 (.fl 15 .nil) .stop
def gDt:Sch:=.fx 1 (.fl 2 .nil) .stop
def gDu:Sch:=.fx 0 (.fl 1 .nil) .stop
def gDv:Sch:=.fx 0 (.fx 1 .nil .stop) .stop
def gDw:Sch:=.fx 6 (.fl 7 .nil) .stop
def gDx:Sch:=.fx 0 (.fl 1 (.fl 2 .nil)) .stop
def gDy:Sch:=.fl 0 gDt
def gDz:Sch:=.fx 11 (.fx 12 (.fl 13 .nil) .stop) .stop
def gEa:Sch:=.fx 9 (.fl 10 (.fl 11 .nil)) .stop
def gEb:Sch:=.fx 2 (.fl 3 (.fl 4 .nil)) .stop
def gEc:Sch:=.fx 6 (.fx 7 (.fl 8 .nil) .stop) .stop
def gEd:Sch:=.fx 5 (.fl 6 (.fx 8 .nil .stop)) .stop
def gEe:Sch:=.fx 10 (.fl 11 (.fl 12 .nil)) .stop
def gEf:Sch:=.fx 6 (.fx 7 (.fl 8 (.fl 9 .nil)) .stop) .stop
def gEg:Sch:=.fl 0 (.fl 1 (.fx 2 (.fl 3 .nil) .stop))
def gEh:Sch:=.fx 10 gDz .stop
def gEi:Sch:=.fx 9 gDz .stop
def gEj:Sch:=.fx 3 (.fx 4 (.fl 5 (.fx 6 .nil .stop)) .stop) .stop
def gEk:Sch:=.fl 0 (.fl 1 (.fx 2 (.fx 3 .nil .stop) .stop))
def gEl:Sch:=.fl 0 (.fl 1 (.fx 2 gDr .stop))
set_option maxHeartbeats 4000000
theorem wDf (O:List wAO) (an:Option Addr) (ap:Nat) (p1:List wAO) (ao:Option Addr) (aq:Nat) (w:World) (φ:PHeap) (hS:St0 w φ []) (aY:Sl φ 2 an ap O.length (hD wAD O)) (aZ:Sl φ 2 ao aq p1.length (hD wAD p1)) {r:Bool} (hm:wBR O p1=some r):Gv Tryz.prog 44 [.slice an O.length ap,.slice ao p1.length aq] w (wCG w [] φ (fun φ_ L_ v=>v=.bool r/\L_=[])):=by
 unfold wBR at hm
 refine Gv.of Tryz.func44 Z Tryz.ntmps44 Tryz.results44 Z (sR fL1 Z (oA Z Z (eN (zL (sR fL5 Z (oM Z Z (oR Z (zi Z Z ZI) (oM Z Z (oR Z (zi Z Z ZI) (oR Z (ZP Z Z Z) (eN ?_)))))))))))
 by_cases c1:(↑O.length:Int)=(↑p1.length:Int)
 have af:=hm;rw [if_pos c1] at af;replace c1:=zN c1
 refine zj (zu (fun h=>h c1.out)) (kN (zL (sR fL3 Z (oM Z Z (oR Z (zi Z Z ZI) (oM Z Z (eN (zY ?_))))))))
 have q:=wCA af
 obtain ⟨r5,ai⟩:=q
 have q:=wCT ai
 obtain ⟨ak,a7⟩:=q
 replace ak:=zN ak
 refine yc (fun k4 _ σ_ w_=>∃ (φ_:PHeap),σ_ 13=jV (↑k4:Int)/\σ_ 0=.slice an O.length ap/\σ_ 1=.slice ao p1.length aq/\σ_ 12=jV (↑O.length:Int)/\PHeap.Le φ φ_/\sW w φ φ_ [] w_) a7 ?_ ?_ ?_
 exact ⟨φ,Z,Z,Z,Z,(zS _),hS⟩
 rintro k4 ⟨⟩ bs bu ax aj ⟨aL,ah,az,aE,aF,am,aW⟩ aK a5
 try dsimp only at aK
 have ay:Hid ((↑k4:Int) < (↑O.length:Int)):=zN (wBO aj)
 replace aj:=zN aj
 have a8:Hid (w64 ((↑k4:Int) + 1)=(↑(k4 + 1):Int)):=zN (by have h1:=ak.out;have h2:=ay.out;rw [wAb] <;> omega)
 refine sR fL1 rfl (za rfl rfl rfl rfl (fun _=>ze rfl ah aF) (eN (zL (cT Z ay (kN (zL (zY (sR fL2 rfl (zw rfl rfl rfl rfl rfl ah (yP rfl rfl rfl rfl rfl rfl (eN (zL (zx zt [3,3,3,1,3,3,3,1,3] fL9 (by kernel_rfl) ?_)))))))))))))
 have ac:=aW.drew
 generalize hw_W25:({ ax with drawn:=ax.drawn + 1 }:World)=bg at ac ⊢
 refine oM Z az (oM Z Z (bnK aK fun au aG a9=>?_))
 have aQ:=aY.le am
 have q:=aQ.el (fun _=>rfl) (wAe aG)
 obtain ⟨bi,bp,aS,aU⟩:=q
 refine oR Z (Zc Z Z aS Z ZI zz (wCa aG)) (oL Z (ac.ldCA (f:=0) aU Z Z yA zz (us:=[jV au.Lo,jV au.Hi]) Z Z) (oM Z aE (oM Z Z (bnK a9 fun av aH ba=>?_))))
 have aR:=aZ.le am
 have q:=aR.el (fun _=>rfl) (wAe aH)
 obtain ⟨bj,bq,aT,aV⟩:=q
 refine oR Z (Zc Z Z aT Z ZI zz (wCa aH)) (oL Z (ac.ldCA (f:=0) aV Z Z yA zz (us:=[jV av.Lo,jV av.Hi]) Z Z) (oR Z (ZU (Runs.neS (enc:=wAD) (a:=au) (b:=av) Z Z Z wMY wMX) (congrArg hH (decide_not).symm)) (eN (ifc ba ?_ ?_))))
 intro ag bb
 refine zj (zu (fun h=>h ag.out)) (Zf (zm (zJ (rR fL2 Z (oR Z (ZU (zh Z ah Z) (congrArg (jV) a8.out)) (oM Z Z (zf ?_)))))))
 have q:=hU bb
 obtain rfl:=q
 exact zJ ⟨Z,_,Z,⟨aL,Z,az,aE,aF,am,ac⟩⟩
 intro ag bc
 refine cT Z ag (sR fL1 Z (oA Z Z (eN (zO (zc (zQ ?_))))))
 have q:=wAS bc
 obtain ⟨be,bd,aN⟩:=q
 have q:=wAt af ai (a5 be aN)
 obtain rfl:=q
 refine zQ (zc (zQ ?_))
 have hE:=hU bd;first | subst r | cases hE
 exact ⟨Z,_,(ZA Z),aL,_,ac,Z,Z⟩
 rintro ⟨⟩ bt bh ⟨bf,aP,bm,bn,aO,bo,aX⟩ a6
 have aI:=wCs af ai a6
 try dsimp only at aI
 have aM:Hid (¬ ((↑(((↑O.length:Int):Int) - 0).toNat:Int) < (↑O.length:Int))):=zN (wAq)
 refine sR fL1 Z (oR Z (ze Z aP aO) (eN (zL (cF Z aM (Za (zq (zq (ZW (zJ (sR fL1 Z (oA Z Z (eN (zO ?_)))))))))))))
 have hE:=hU aI;first | subst r | cases hE
 exact ⟨Z,_,(ZA Z),bf,_,aX,Z,Z⟩
 have aJ:=hm;rw [if_neg c1] at aJ;replace c1:=zN c1
 refine cT Z c1 (sR fL1 Z (oA Z Z (eN (zO (zQ ?_)))))
 have hE:=hU aJ;first | subst r | cases hE
 exact ⟨Z,_,(ZA Z),φ,_,hS,Z,Z⟩
theorem wEl (O:List wAM) (an:Option Addr) (ap:Nat) (p1:List wAM) (ao:Option Addr) (aq:Nat) (w:World) (φ:PHeap) (hS:St0 w φ []) (aY:Sl φ 2 an ap O.length (hD wAY O)) (aZ:Sl φ 2 ao aq p1.length (hD wAY p1)) {r:Bool} (hm:wCZ O p1=some r):Gv Tryz.prog 58 [.slice an O.length ap,.slice ao p1.length aq] w (wCG w [] φ (fun φ_ L_ v=>v=.bool r/\L_=[])):=by
 unfold wCZ at hm
 refine Gv.of Tryz.func58 Z Tryz.ntmps58 Tryz.results58 Z (sR fL1 Z (oA Z Z (eN (zL (sR fL5 Z (oM Z Z (oR Z (zi Z Z Zz) (oM Z Z (oR Z (zi Z Z Zz) (oR Z (ZP Z Z Z) (eN ?_)))))))))))
 by_cases c1:(↑O.length:Int)=(↑p1.length:Int)
 have af:=hm;rw [if_pos c1] at af;replace c1:=zN c1
 refine zj (zu (fun h=>h c1.out)) (kN (zL (sR fL3 Z (oM Z Z (oR Z (zi Z Z Zz) (oM Z Z (eN (zY ?_))))))))
 have q:=wCA af
 obtain ⟨r5,ai⟩:=q
 have q:=wCT ai
 obtain ⟨ak,a7⟩:=q
 replace ak:=zN ak
 refine yc (fun k4 _ σ_ w_=>∃ (φ_:PHeap),σ_ 13=jV (↑k4:Int)/\σ_ 0=.slice an O.length ap/\σ_ 1=.slice ao p1.length aq/\σ_ 12=jV (↑O.length:Int)/\PHeap.Le φ φ_/\sW w φ φ_ [] w_) a7 ?_ ?_ ?_
 exact ⟨φ,Z,Z,Z,Z,(zS _),hS⟩
 rintro k4 ⟨⟩ bs bu ax aj ⟨aL,ah,az,aE,aF,am,aW⟩ aK a5
 try dsimp only at aK
 have ay:Hid ((↑k4:Int) < (↑O.length:Int)):=zN (wBO aj)
 replace aj:=zN aj
 have a8:Hid (w64 ((↑k4:Int) + 1)=(↑(k4 + 1):Int)):=zN (by have h1:=ak.out;have h2:=ay.out;rw [wAb] <;> omega)
 refine sR fL1 rfl (za rfl rfl rfl rfl (fun _=>ze rfl ah aF) (eN (zL (cT Z ay (kN (zL (zY (sR fL2 rfl (zw rfl rfl rfl rfl rfl ah (yP rfl rfl rfl rfl rfl rfl (eN (zL (zx zt [3,3,3,1,3,3,3,1,3] fL9 (by kernel_rfl) ?_)))))))))))))
 have ac:=aW.drew
 generalize hw_W25:({ ax with drawn:=ax.drawn + 1 }:World)=bg at ac ⊢
 refine oM Z az (oM Z Z (bnK aK fun au aG a9=>?_))
 have aQ:=aY.le am
 have q:=aQ.el (fun _=>rfl) (wAe aG)
 obtain ⟨bi,bp,aS,aU⟩:=q
 refine oR Z (Zc Z Z aS Z Zz ZV (wCa aG)) (oL Z (ac.ldCA (f:=0) aU Z Z Zn ZV (us:=[jV au.Skier,jV au.Mat]) Z Z) (oM Z aE (oM Z Z (bnK a9 fun av aH ba=>?_))))
 have aR:=aZ.le am
 have q:=aR.el (fun _=>rfl) (wAe aH)
 obtain ⟨bj,bq,aT,aV⟩:=q
 refine oR Z (Zc Z Z aT Z Zz ZV (wCa aH)) (oL Z (ac.ldCA (f:=0) aV Z Z Zn ZV (us:=[jV av.Skier,jV av.Mat]) Z Z) (oR Z (ZU (Runs.neS (enc:=wAY) (a:=au) (b:=av) Z Z Z wOn wOm) (congrArg hH (decide_not).symm)) (eN (ifc ba ?_ ?_))))
 intro ag bb
 refine zj (zu (fun h=>h ag.out)) (Zf (zm (zJ (rR fL2 Z (oR Z (ZU (zh Z ah Z) (congrArg (jV) a8.out)) (oM Z Z (zf ?_)))))))
 have q:=hU bb
 obtain rfl:=q
 exact zJ ⟨Z,_,Z,⟨aL,Z,az,aE,aF,am,ac⟩⟩
 intro ag bc
 refine cT Z ag (sR fL1 Z (oA Z Z (eN (zO (zc (zQ ?_))))))
 have q:=wAS bc
 obtain ⟨be,bd,aN⟩:=q
 have q:=wAt af ai (a5 be aN)
 obtain rfl:=q
 refine zQ (zc (zQ ?_))
 have hE:=hU bd;first | subst r | cases hE
 exact ⟨Z,_,(ZA Z),aL,_,ac,Z,Z⟩
 rintro ⟨⟩ bt bh ⟨bf,aP,bm,bn,aO,bo,aX⟩ a6
 have aI:=wCs af ai a6
 try dsimp only at aI
 have aM:Hid (¬ ((↑(((↑O.length:Int):Int) - 0).toNat:Int) < (↑O.length:Int))):=zN (wAq)
 refine sR fL1 Z (oR Z (ze Z aP aO) (eN (zL (cF Z aM (Za (zq (zq (ZW (zJ (sR fL1 Z (oA Z Z (eN (zO ?_)))))))))))))
 have hE:=hU aI;first | subst r | cases hE
 exact ⟨Z,_,(ZA Z),bf,_,aX,Z,Z⟩
 have aJ:=hm;rw [if_neg c1] at aJ;replace c1:=zN c1
 refine cT Z c1 (sR fL1 Z (oA Z Z (eN (zO (zQ ?_)))))
 have hE:=hU aJ;first | subst r | cases hE
 exact ⟨Z,_,(ZA Z),φ,_,hS,Z,Z⟩
theorem wCq  (w:World) (φ:PHeap) (hS:St0 w φ [])  {r:wAA} (hm:wBn =some r):Gv Tryz.prog 59 [] w (wCG w [] φ (fun φ_ L_ v=>∃ (aE:Option Addr) (aK:Nat) (aF:Option Addr) (aL:Nat) (aG:Option Addr) (aM:Nat) (aH:Option Addr) (aN:Nat),v=.agg #[.slice aE r.Starts.length aK,.slice aF r.Splits.length aL,.slice aG r.Clocks.length aM,.slice aH r.Readings.length aN]/\L_=[.row aE aK 3 1 (hD KL.encI r.Starts),.row aF aL 39 2 (hD wAD r.Splits),.row aG aM 112 3 (hD wAF r.Clocks),.row aH aN 115 4 (hD wAB r.Readings)])):=by
 unfold wBn at hm
 refine Gv.of Tryz.func59 Z Tryz.ntmps59 Tryz.results59 Z (sR (.fx 0 .nil .stop) Z ?_)
 let B0:List Value:=[.slice none 0 0,.slice none 0 0,.slice none 0 0,.slice none 0 0]
 refine zV (cs:=B0) Z Z Z Z Z yy Z hS ?_
 intro W1 b2 aZ
 refine eN (sR (.fx 0 gDp .stop) Z (bnK hm fun O h6 bb=>zD 0 Z Z Z Z (zE Z Z Tryz.call56 zM Z) aZ (fun hs=>wBw W1 φ hs h6) (.inr Z) ?_))
 rintro ai L9 bg aS bf aW ⟨ak,au,am,av,an,ax,ac,ah,rfl,rfl⟩
 let B1:Res:=.row an ax 112 3 (hD wAF O.Clocks)
 let B2:Res:=.row am av 39 2 (hD wAD O.Splits)
 let B3:Res:=.row ak au 3 1 (hD KL.encI O.Starts)
 let B4:Res:=.row ac ah 115 4 (hD wAB O.Readings)
 have aX:sW w φ ai [B3,B2,B1,B4,.blk b2 27 B0] aS:=aW
 refine zV (cs:=B0) Z Z Z Z Z yy Z aX ?_
 intro bd aq aY
 let B5:List Value:=[.slice ak O.Starts.length au,.slice am O.Splits.length av,.slice an O.Clocks.length ax,.slice ac O.Readings.length ah]
 refine zX (j:=0) (vs:=B5) Z Z Z Z aY Z Z Z Z zZ (zA Z) Z Z Z ?_
 intro aT a5
 have az:sW w φ ai [.blk aq 27 B5,B3,B2,B1,B4,.blk b2 27 B0] aT:=a5
 refine eN (sR (wEF (.fx 4 .nil .stop)) Z (oR Z (zF Z Z zT Z Zr) (oL Z (az.ldB (j:=0) Z Z Z yD (v:=.slice ac O.Readings.length ah) Z) (bnK bb fun _ ay ba=>?_))))
 obtain ⟨be,aO⟩:=az.rowSome (j:=4) rfl (by rw [wAE (f:=wAB) (sz:=4) (fun _=>rfl) O.Readings];have hz:=wAW ay;omega)
 refine oR Z (Zc Z Z aO Z ZN Zb (wAW ay)) (oR Z (zF Z Z Zp Z zC) ?_)
 have a9:=wBK (xs:=O.Readings) (wAW ay)
 refine yw (j:=4) (vs:=[jV 1700]) (cs':=hD wAB (nE O.Readings 1 (⟨(gd O.Readings 1).Skier,(gd O.Readings 1).Mat,(gd O.Readings 1).Clock,1700⟩:wAK))) rfl rfl rfl rfl az rfl aO rfl rfl rfl zC (by rw [wAE (f:=wAB) (sz:=4) (fun _=>rfl)];try (have hz:=wAW ay;show _ + 1 <= _;first | omega | (simp only [Int.toNat_natCast];omega) | (simp only [nG,nB,nD];omega))) rfl (wDV (sz:=4) (fo:=3) (fun _=>rfl) _ _ _ _ a9 (by first | omega | rfl | (simp only [Int.toNat_natCast];omega) | (simp only [nG,nB,nD];omega)) (zA rfl) rfl) rfl ?_
 intro aJ a6
 let B6:Res:=.row ac ah 115 4 (hD wAB (nE O.Readings 1 (⟨(gd O.Readings 1).Skier,(gd O.Readings 1).Mat,(gd O.Readings 1).Clock,1700⟩:wAK)))
 have a7:sW w φ ai [.blk aq 27 B5,B3,B2,B1,B6,.blk b2 27 B0] aJ:=a6
 let B7:List Value:=[.slice ak O.Starts.length au,.slice am O.Splits.length av,.slice an O.Clocks.length ax,.slice ac ((nE O.Readings 1 (⟨(gd O.Readings 1).Skier,(gd O.Readings 1).Mat,(gd O.Readings 1).Clock,1700⟩:wAK)).length) ah]
 have aP:sW w φ ai [.blk aq 27 B7,B3,B2,B1,B6,.blk b2 27 B0] aJ:=by simpa only [B0,B1,B2,B3,B5,B6,B7,nA] using a7
 refine eN (sR gDq Z (oL Z (aP.ldBA (j:=0) Z Z Z zo zZ (vs:=B7) Z Z) (zX (j:=5) (vs:=B7) Z Z Z Z aP Z Z Z Z zZ (zA Z) Z Z Z ?_)))
 intro aU a8
 have aQ:sW w φ ai [.blk aq 27 B7,B3,B2,B1,B6,.blk b2 27 B7] aU:=a8
 refine eN (zO ?_)
 cases ba
 exact ⟨rfl,_,(wHW (v:=.agg B7.toArray) ⟨⟨_,rfl,(wBQ zo zZ (aQ.blkAt (k:=5) rfl) (vs:=B7) rfl rfl)⟩,trivial⟩),ai,_,(aQ.pick [1,2,3,4] _ (by decide) rfl),ak,au,am,av,an,ax,ac,ah,rfl,rfl⟩
theorem wHL (O:wAg) (ai:Nat) (an:Option Addr) (aq:Nat) (ao:Option Addr) (au:Nat) (ap:Option Addr) (av:Nat) (aJ:Option Addr) (aM:Nat) (aa:Nat) (ab:Array MapEntry) (ac:Nat) (aK:Option Addr) (aN:Nat) (p1:List Int) (aL:Option Addr) (aO:Nat) (w:World) (φ:PHeap) (hS:St0 w φ [.blk ai 139 [.slice an O.Race.Starts.length aq,.slice ao O.Race.Splits.length au,.slice ap O.Race.Clocks.length av,.slice aJ O.Race.Readings.length aM,.map (some aa),.slice aK O.edges.length aN],.obj aa (.map ab ac)]) (fg:Sl φ 1 an aq O.Race.Starts.length (hD KL.encI O.Race.Starts)) (fh:Sl φ 2 ao au O.Race.Splits.length (hD wAD O.Race.Splits)) (fj:Sl φ 3 ap av O.Race.Clocks.length (hD wAF O.Race.Clocks)) (fk:Sl φ 4 aJ aM O.Race.Readings.length (hD wAB O.Race.Readings)) (cc:MpR ab wBU wBc O.number) (fm:Sl φ 7 aK aN O.edges.length (hD wAP O.edges)) (bf:Sl φ 1 aL aO p1.length (hD KL.encI p1)) {r:(List (List Int)) × (List Int)} (hm:wEe O p1=some r):Gv Tryz.prog 75 [.pointer (some ⟨ai,0,none⟩),.slice aL p1.length aO] w (wCG w [.blk ai 139 [.slice an O.Race.Starts.length aq,.slice ao O.Race.Splits.length au,.slice ap O.Race.Clocks.length av,.slice aJ O.Race.Readings.length aM,.map (some aa),.slice aK O.edges.length aN],.obj aa (.map ab ac)] φ (fun φ_ L_ v=>∃ (A0:Option Addr) (c0:Nat) (bJ:List Value) (A1:Option Addr) (c1:Nat),v=.tuple #[.slice A0 r.1.length c0,.slice A1 r.2.length c1]/\L_=[.row A0 c0 22 1 bJ,.row A1 c1 3 1 (hD KL.encI r.2),.blk ai 139 [.slice an O.Race.Starts.length aq,.slice ao O.Race.Splits.length au,.slice ap O.Race.Clocks.length av,.slice aJ O.Race.Readings.length aM,.map (some aa),.slice aK O.edges.length aN],.obj aa (.map ab ac)]/\RlL φ_ wMw r.1 bJ)):=by
 unfold wEe at hm
 refine Gv.of Tryz.func75 Z Tryz.ntmps75 Tryz.results75 Z (sR fL2 Z (oA Z Z (oA Z Z (eN (sR fL4 Z (oM Z Z (bnK hm fun x3 h4 eF=>?_)))))))
 have q:=bf.el (fun _=>rfl) (wAe h4)
 obtain ⟨b6,fu,dK,dN⟩:=q
 refine oR Z (Zc Z Z dK Z zK zC (wCa h4)) (oL Z (hS.ldC (f:=0) dN (v:=jV x3) Z Z zG Z) (oA Z Z (eN (sR fL1 Z (oA Z Z (eN (zL (sR fL7 Z (oM Z Z (oR Z (Zt Z Z) (oR Z (zF Z Z ZH Z zZ) (oR Z (zF Z Z zT Z zg) (oL Z (hS.ldB (j:=0) Z Z Z zr (v:=.slice an O.Race.Starts.length aq) Z) (oR Z (zi Z Z zK) (oM Z Z (eN (zY (bnK eF fun eR ej eE=>?_))))))))))))))))))
 have q:=wCC ej
 obtain ⟨bm,ek⟩:=q
 replace bm:=zN bm
 let B0:Res:=.blk ai 139 [.slice an O.Race.Starts.length aq,.slice ao O.Race.Splits.length au,.slice ap O.Race.Clocks.length av,.slice aJ O.Race.Readings.length aM,.map (some aa),.slice aK O.edges.length aN]
 refine CK.forN' (fun ag aH σ_ w_=>∃ (φ_:PHeap) (az:Option Addr) (aF:Nat) (aW:List Value),σ_ 22=jV (↑ag:Int)/\σ_ 0=.pointer (some ⟨ai,0,none⟩)/\σ_ 1=.slice aL p1.length aO/\σ_ 6=jV x3/\σ_ 7=.slice az aH.length aF/\σ_ 21=jV (↑O.Race.Starts.length:Int)/\PHeap.Le φ φ_/\SW w [B0,.obj aa (.map ab ac)] φ φ_ [B0,.obj aa (.map ab ac),.row az aF 22 1 aW] w_/\RlL φ_ wMw aH aW) ek ?_ ?_ ?_
 have d8:=hS.nilrow 22 1
 exact ⟨φ,none,0,[],rfl,rfl,rfl,rfl,rfl,rfl,(zS _),(d8.pick [1,2,0] _ (by decide) rfl),RlL.nil⟩
 rintro ag aH fA fI eY bh ⟨ct,az,aF,aW,a9,bR,dg,dh,di,bS,cn,cb,dH⟩ eK
 have bI:Hid ((↑ag:Int) < (↑O.Race.Starts.length:Int)):=zN (wBO bh)
 replace bh:=zN bh
 have eu:Hid (w64 ((↑ag:Int) + 1)=(↑(ag + 1):Int)):=zN (by have h1:=bm.out;have h2:=bI.out;rw [wAb] <;> omega)
 refine sR fL1 Z (oR Z (ze Z a9 bS) (eN (zL (cT Z bI (kN (zL (zY (sR fL2 Z (oM Z a9 (oA Z Z (eN (sR fL1 Z (oA Z Z (eN (zL (sR fL8 Z (oM Z bR (oR Z (Zt Z Z) (oR Z (zF Z Z ZH Z zZ) (oR Z (zF Z Z zT Z Zm) (oL Z (cb.ldB (j:=0) Z Z Z Zq (v:=.slice ao O.Race.Splits.length au) Z) (oR Z (zi Z Z ZI) (oR Z (zh Z Z Z) (oM Z Z (eN (zY (bnK eK fun ak en eG=>?_)))))))))))))))))))))))))))
 have q:=wCC en
 obtain ⟨bn,eo⟩:=q
 replace bn:=zN bn
 let B1:Res:=.row az aF 22 1 aW
 refine CK.forN' (fun ah aI σ_ w_=>∃ (φ_:PHeap) (aR:Option Addr) (aV:Nat),σ_ 32=jV (↑ah:Int)/\σ_ 0=.pointer (some ⟨ai,0,none⟩)/\σ_ 1=.slice aL p1.length aO/\σ_ 6=jV x3/\σ_ 7=.slice az aH.length aF/\σ_ 8=jV (↑ag:Int)/\σ_ 9=.slice aR aI.length aV/\σ_ 21=jV (↑O.Race.Starts.length:Int)/\σ_ 22=jV (↑ag:Int)/\σ_ 31=jV (w64 ((↑O.Race.Splits.length:Int) + 1))/\PHeap.Le ct φ_/\SW w [B0,.obj aa (.map ab ac)] φ φ_ [B0,.obj aa (.map ab ac),B1,.row aR aV 3 1 (hD KL.encI aI)] w_) eo ?_ ?_ ?_
 have d9:=cb.nilrow 3 1
 exact ⟨ct,none,0,rfl,bR,dg,dh,di,rfl,rfl,bS,a9,rfl,(zS _),(d9.pick [1,2,3,0] _ (by decide) rfl)⟩
 rintro ah aI fB fJ eZ bi ⟨bo,aR,aV,ba,bT,bU,bV,dk,bW,dl,dm,dp,bL,co,aX⟩ eL
 have bC:Hid ((↑ah:Int) < (w64 ((↑O.Race.Splits.length:Int) + 1))):=zN (wBO bi)
 replace bi:=zN bi
 have ep:Hid (w64 ((↑ah:Int) + 1)=(↑(ah + 1):Int)):=zN (by have h1:=bn.out;have h2:=bC.out;rw [wAb] <;> omega)
 refine sR fL1 Z (oR Z (ze Z ba bL) (eN (zL (cT Z bC (kN (zL (zY (sR fL2 Z (oM Z ba (oA Z Z (eN (rR (wPM (.fx 14 (.fx 15 (.fl 16 .nil) .stop) .stop)) Z (oM Z dl (oM Z bU (oM Z bT (oR Z (Zt Z Z) (oR Z (zF Z Z ZH Z Zw) (oL Z (aX.ldB (j:=0) Z Z Z yC (v:=.map (some aa)) Z) (oM Z bW (oM Z Z (oR Z (ZB (pv:=[(0,jV (↑ag:Int)),(1,jV (↑ah:Int))]) (z:=[jV 0,jV 0]) (cs:=[jV (↑ag:Int),jV (↑ah:Int)]) Z (wAG Z (wAG Z wAR)) zd wBv Z Z) (oL Z (aX.lookup1 (j:=1) (mk:=wBU) (mv:=wBc) (a:=(⟨(↑ag:Int),(↑ah:Int)⟩:wAH)) (z:=0) Z Z Z Z (wBj ZS) wDF ZG cc) (bnK eL fun ax bb ew=>?_)))))))))))))))))))))))
 have du:=bf.le cn
 have dv:=du.le co
 have q:=dv.el (fun _=>rfl) (wAe bb)
 obtain ⟨e6,fq,dI,dL⟩:=q
 refine oR Z (ZM Z Z dI Z zK zC (wBV bb) (wBb bb)) (oL Z (aX.ldC (f:=0) dL (v:=jV ax) Z Z zG Z) (oM Z bV (oR Z (yO Z Z Z) (ZR (pv:=[(0,jV (w64 (ax - x3)))]) (zs:=[jV 0]) (cs:=[jV (w64 (ax - x3))]) Z Z Z Z Z (wAG Z wAR) zK zC ZG Z Z Z Z Z aX ?_))))
 intro cw cH dO
 let B2:Res:=.row (some ⟨cH,0,none⟩) 1 3 1 (hD KL.encI [w64 (ax - x3)])
 have bY:SW w [B0,.obj aa (.map ab ac)] φ bo [B2,B0,.obj aa (.map ab ac),B1,.row aR aV 3 1 (hD KL.encI aI)] cw:=dO
 refine bnK ew fun cp dw ey=>yb (j:=4) (enc:=KL.encI) (xs:=aI) (ys:=[w64 (ax - x3)]) (zs:=cp) rfl rfl rfl rfl rfl Tryz.underlying22 wKj rfl rfl rfl rfl rfl rfl bY rfl rfl rfl (bY.srcR (j:=0) rfl (by decide) (wAE (f:=KL.encI) (sz:=1) (fun _=>rfl) [w64 (ax - x3)])) (fun _=>rfl) (fun _=>rfl) dw rfl ?_
 intro br bD cx dP
 have dQ:SW w [B0,.obj aa (.map ab ac)] φ bo [B2,B0,.obj aa (.map ab ac),B1,.row br bD 3 1 (hD KL.encI cp)] cx:=dP
 refine oA Z Z (zf (zm (zJ (rR fL2 Z (oR Z (ZU (zh Z ba Z) (congrArg (jV) ep.out)) (oM Z Z (zf ?_)))))))
 cases ey
 exact zJ ⟨rfl,⟨bo,br,bD,rfl,bT,bU,bV,dk,bW,rfl,dm,dp,bL,co,(dQ.pick [1,2,3,4] _ (by decide) rfl)⟩⟩
 rintro fD cy ⟨fK,aZ,a6,dq,cO,cP,cQ,cR,fb,cS,cU,cV,cW,cf,dR⟩
 have cK:Hid (¬ ((↑((w64 ((↑O.Race.Splits.length:Int) + 1):Int) - 0).toNat:Int) < (w64 ((↑O.Race.Splits.length:Int) + 1)))):=zN (wAq)
 refine sR fL1 Z (oR Z (ze Z dq cW) (eN (zL (cF Z cK (Za (zq (zq (ZW (zJ (rR gEl Z (oM Z cR (oM Z cS ?_))))))))))))
 have q:=dR.freezeR (k:=3) (n:=ak.length) rfl (wAE (f:=KL.encI) (sz:=1) (fun _=>rfl) ak) (by decide)
 obtain ⟨aP,cg,eI,dT⟩:=q
 have dU:SW w [B0,.obj aa (.map ab ac)] φ aP [B0,.obj aa (.map ab ac),B1] cy:=dT
 let B3:List Value:=[.slice aZ ak.length a6]
 refine ZR (pv:=[(0,.slice aZ ak.length a6)]) (zs:=[.slice none 0 0]) (cs:=B3) Z Z Z Z Z (wAG Z wAR) Zg zg Tryz.zeroValue22 Z Z Z Z Z dU ?_
 intro cz cI dS
 have cd:RlL aP wMw [ak] B3:=(RlL.cons (R:=wMw) (x:=ak) (vs:=B3) ⟨aZ,a6,rfl,eI⟩ RlL.nil)
 let B4:Res:=.row (some ⟨cI,0,none⟩) 1 22 1 B3
 have bZ:SW w [B0,.obj aa (.map ab ac)] φ aP [B4,B0,.obj aa (.map ab ac),B1] cz:=dS
 refine bnK eG fun eP dx ez=>?_
 have dy:=dH.le cf
 have dz:=dy.le cg
 refine OKS.appendR (R:=wMw) (j:=3) (xs:=aH) (ys:=[ak]) (zs:=eP) rfl rfl rfl rfl rfl Tryz.underlying49 wMx rfl rfl rfl rfl rfl rfl rfl bZ rfl rfl rfl dz cd (bZ.srcR (j:=0) rfl (by decide) (RlL.len cd)) dx rfl ?_
 intro bs bE bK cA dV eH
 have dW:SW w [B0,.obj aa (.map ab ac)] φ aP [B4,B0,.obj aa (.map ab ac),.row bs bE 22 1 bK] cA:=dV
 refine oA Z Z (zf (zm (zJ (rR fL2 Z (oR Z (ZU (zh Z cV Z) (congrArg (jV) eu.out)) (oM Z Z (zf ?_)))))))
 cases ez
 exact zJ ⟨rfl,⟨aP,bs,bE,bK,rfl,cO,cP,cQ,rfl,cU,((cn.trans cf).trans cg),(dW.pick [1,2,3] _ (by decide) rfl),eH⟩⟩
 rintro fE eW ⟨cr,a5,a7,bF,dr,bM,cX,cY,cZ,c6,eM,b5,dA⟩
 have cL:Hid (¬ ((↑(((↑O.Race.Starts.length:Int):Int) - 0).toNat:Int) < (↑O.Race.Starts.length:Int))):=zN (wAq)
 refine sR fL1 Z (oR Z (ze Z dr c6) (eN (zL (cF Z cL (Za (zq (zq (ZW (zJ (sR fL1 Z (oA Z Z (eN (zL (sR fL7 Z (oM Z bM (oR Z (Zt Z Z) (oR Z (zF Z Z ZH Z zZ) (oR Z (zF Z Z zT Z yQ) (oL Z (b5.ldB (j:=0) Z Z Z yZ (v:=.slice ap O.Race.Clocks.length av) Z) (oR Z (zi Z Z Ze) (oM Z Z (eN (zY (bnK eE fun fC eg eA=>?_))))))))))))))))))))))))
 have q:=wCC eg
 obtain ⟨bj,eh⟩:=q
 replace bj:=zN bj
 let B5:Res:=.row a5 a7 22 1 bF
 refine CK.forN' (fun am aG σ_ w_=>∃ (φ_:PHeap) (aQ:Option Addr) (aU:Nat),σ_ 63=jV (↑am:Int)/\σ_ 0=.pointer (some ⟨ai,0,none⟩)/\σ_ 1=.slice aL p1.length aO/\σ_ 6=jV x3/\σ_ 7=.slice a5 eR.length a7/\σ_ 11=.slice aQ aG.length aU/\σ_ 62=jV (↑O.Race.Clocks.length:Int)/\PHeap.Le cr φ_/\SW w [B0,.obj aa (.map ab ac)] φ φ_ [B0,.obj aa (.map ab ac),B5,.row aQ aU 3 1 (hD KL.encI aG)] w_) eh ?_ ?_ ?_
 have dX:=b5.nilrow 3 1
 exact ⟨cr,none,0,rfl,bM,cX,cY,cZ,rfl,rfl,(zS _),(dX.pick [1,2,3,0] _ (by decide) rfl)⟩
 rintro am aG fz fG bz bg ⟨eS,aQ,aU,a8,bN,bO,bP,da,db,bQ,cj,dY⟩ eJ
 have bG:Hid ((↑am:Int) < (↑O.Race.Clocks.length:Int)):=zN (wBO bg)
 replace bg:=zN bg
 have er:Hid (w64 ((↑am:Int) + 1)=(↑(am + 1):Int)):=zN (by have h1:=bj.out;have h2:=bG.out;rw [wAb] <;> omega)
 refine sR fL1 rfl (za rfl rfl rfl rfl (fun _=>ze rfl a8 bQ) (eN (zL (cT Z bG (kN (zL (zY (sR fL2 rfl (zw rfl rfl rfl rfl rfl a8 (yP rfl rfl rfl rfl rfl rfl (eN (zx zt [3,3,3,3,3,3,1,3,2,1,3,1,3,2,0,3] (wPJ (.fx 8 (wPa (.fx 13 gDs .stop)) .stop)) (by kernel_rfl) ?_))))))))))))
 have bd:=dY.drew
 generalize hw_W242:({ bz with drawn:=bz.drawn + 1 }:World)=cC at bd ⊢
 refine oM Z db (oM Z bP (oM Z bO (oM Z bN (oR Z (Zt Z Z) (oR Z (zF Z Z ZH Z Zw) (oL Z (bd.ldB (j:=0) Z Z Z yC (v:=.map (some aa)) Z) (oM Z Z (bnK eJ fun eQ dB eB=>zD 0 Z Z Z Z (zE Z Z Tryz.call70 (zB Z zM) Z) bd (fun hs=>wDU (↑am:Int) cC eS hs dB) (.inr Z) ?_))))))))
 rintro aY eV fy cD cm dZ ⟨rfl,rfl⟩
 let B6:Res:=.row aQ aU 3 1 (hD KL.encI aG)
 have be:SW w [B0,.obj aa (.map ab ac)] φ aY [B0,.obj aa (.map ab ac),B5,B6] cD:=dZ
 refine oL Z (be.lookup1 (j:=1) (mk:=wBU) (mv:=wBc) (a:=eQ) (z:=0) Z Z Z Z (wBj ZS) wDF ZG cc) (bnK eB fun ay bc eC=>?_)
 have dC:=bf.le eM
 have dD:=dC.le cj
 have dE:=dD.le cm
 have q:=dE.el (fun _=>rfl) (wAe bc)
 obtain ⟨e8,ft,dJ,dM⟩:=q
 refine oR Z (ZM Z Z dJ Z zK zC (wBV bc) (wBb bc)) (oL Z (be.ldC (f:=0) dM (v:=jV ay) Z Z zG Z) (oR Z (yO Z Z Z) (ZR (pv:=[(0,jV (w64 (x3 - ay)))]) (zs:=[jV 0]) (cs:=[jV (w64 (x3 - ay))]) Z Z Z Z Z (wAG Z wAR) zK zC ZG Z Z Z Z Z be ?_)))
 intro cE cJ d4
 let B7:Res:=.row (some ⟨cJ,0,none⟩) 1 3 1 (hD KL.encI [w64 (x3 - ay)])
 have ca:SW w [B0,.obj aa (.map ab ac)] φ aY [B7,B0,.obj aa (.map ab ac),B5,B6] cE:=d4
 refine bnK eC fun cq dF eD=>yb (j:=4) (enc:=KL.encI) (xs:=aG) (ys:=[w64 (x3 - ay)]) (zs:=cq) rfl rfl rfl rfl rfl Tryz.underlying22 wKj rfl rfl rfl rfl rfl rfl ca rfl rfl rfl (ca.srcR (j:=0) rfl (by decide) (wAE (f:=KL.encI) (sz:=1) (fun _=>rfl) [w64 (x3 - ay)])) (fun _=>rfl) (fun _=>rfl) dF rfl ?_
 intro bt bH cG d5
 have d6:SW w [B0,.obj aa (.map ab ac)] φ aY [B7,B0,.obj aa (.map ab ac),B5,.row bt bH 3 1 (hD KL.encI cq)] cG:=d5
 refine oA Z Z (zf (zm (zJ (rR fL2 Z (oR Z (ZU (zh Z a8 Z) (congrArg (jV) er.out)) (oM Z Z (zf ?_)))))))
 cases eD
 exact zJ ⟨rfl,⟨aY,bt,bH,rfl,bN,bO,bP,da,rfl,bQ,(cj.trans cm),(d6.pick [1,2,3,4] _ (by decide) rfl)⟩⟩
 rintro fH eX ⟨eU,cu,cM,dt,fc,fd,ff,dd,de,df,eO,d7⟩
 have cN:Hid (¬ ((↑(((↑O.Race.Clocks.length:Int):Int) - 0).toNat:Int) < (↑O.Race.Clocks.length:Int))):=zN (wAq)
 refine sR fL1 Z (oR Z (ze Z dt df) (eN (zL (cF Z cN (Za (zq (zq (ZW (zJ (sR fL4 Z (oM Z dd (oM Z de (oA Z Z (oA Z Z (eN (zO ?_))))))))))))))))
 have dG:=dA.le eO
 cases eA
 exact ⟨rfl,_,(wDp rfl rfl),eU,_,(d7.pick [2,3,0,1] _ (by decide) rfl),a5,a7,bF,cu,cM,rfl,rfl,dG⟩
theorem wJI (O:wAA) (aG:Option Addr) (aK:Nat) (aH:Option Addr) (aL:Nat) (aI:Option Addr) (aM:Nat) (aJ:Option Addr) (aN:Nat) (w:World) (φ:PHeap) (hS:St0 w φ []) (cx:Sl φ 1 aG aK O.Starts.length (hD KL.encI O.Starts)) (cy:Sl φ 2 aH aL O.Splits.length (hD wAD O.Splits)) (cz:Sl φ 3 aI aM O.Clocks.length (hD wAF O.Clocks)) (cA:Sl φ 4 aJ aN O.Readings.length (hD wAB O.Readings)) {r:(List (List Int)) × (List Int) × Int} (hm:wFg O=some r):Gv Tryz.prog 37 [.agg #[.slice aG O.Starts.length aK,.slice aH O.Splits.length aL,.slice aI O.Clocks.length aM,.slice aJ O.Readings.length aN]] w (wCG w [] φ (fun φ_ L_ v=>∃ (A0:Option Addr) (c0:Nat) (bm:List Value) (A1:Option Addr) (c1:Nat),v=.tuple #[.slice A0 r.1.length c0,.slice A1 r.2.1.length c1,jV r.2.2]/\L_=[.row A0 c0 22 1 bm,.row A1 c1 3 1 (hD KL.encI r.2.1)]/\RlL φ_ wMw r.1 bm)):=by
 unfold wFg at hm
 refine Gv.of Tryz.func37 Z Tryz.ntmps37 Tryz.results37 Z (sR (.fx 0 (fC1_3 (.nil)) .stop) Z ?_)
 let B0:List Value:=[.slice aG O.Starts.length aK,.slice aH O.Splits.length aL,.slice aI O.Clocks.length aM,.slice aJ O.Readings.length aN]
 refine zn (cs:=B0) rfl rfl rfl rfl rfl rfl (by rfl) hS ?_
 intro W1 b2 bu
 refine oA Z Z (oA Z Z (oA Z Z (eN (sR (.fl 0 (.fx 1 (wHE (.nil)) .stop)) Z (oL Z (bu.ldBA (j:=0) Z Z Z zo zZ (vs:=B0) Z Z) ?_)))))
 have q:=bnd hm
 obtain ⟨⟨x5,x6⟩,h7,ao⟩:=q
 try dsimp only at ao
 refine zD 0 Z Z Z Z (zE Z Z Tryz.call80 (zB Z zM) Z) bu (fun hs=>wEZ O aG aK aH aL aI aM aJ aN W1 φ hs cx cy cz cA h7) (.inr Z) ?_
 rintro aO cO cW av cU bt bs
 rcases x5 with _ | ac
 try dsimp only at ao
 obtain ⟨rfl,rfl⟩:=bs
 have cg:sW w φ aO [.blk b2 27 B0] av:=bt
 refine oM Z Z (oR Z (zU Z Z (v:=.pointer none) Z) (oR Z (zU Z Z (v:=jV x6) Z) (oA Z Z (oA Z Z (eN (zL (sR fL2 Z (oM Z Z (oR Z (ZP Z Z Z) (eN (ifc ao ?_ ?_)))))))))))
 intro a7 cE
 refine zj (zu (fun h=>h a7.out)) (kN (sR (.fl 0 (.fx 1 (wMG gEf) .stop)) Z (oM Z Z ?_)))
 cases cE
 intro a7 cG
 refine cT Z a7 (sR fL4 Z (oM Z Z (oA Z Z (oA Z Z (oA Z Z (eN (zO (zQ ?_))))))))
 have cj:=cg.nilrow 22 1
 have cm:=cj.nilrow 3 1
 cases cG
 exact ⟨rfl,_,(wLE rfl rfl rfl),aO,_,(cm.pick [1,0] _ (by decide) rfl),none,0,[],none,0,rfl,rfl,RlL.nil⟩
 try dsimp only at ao
 obtain ⟨ay,aR,aY,aS,aZ,aT,a5,aU,a6,ab,ag,af,au,aE,rfl,rfl,bK,bL,bM,bN,bn⟩:=bs
 let B1:Res:=.blk ay 139 [.slice aR ac.Race.Starts.length aY,.slice aS ac.Race.Splits.length aZ,.slice aT ac.Race.Clocks.length a5,.slice aU ac.Race.Readings.length a6,.map (some ab),.slice au ac.edges.length aE]
 have bv:sW w φ aO [B1,.obj ab (.map ag af),.row au aE 184 7 (hD wAP ac.edges),.blk b2 27 B0] av:=bt
 refine oM Z Z (oR Z (zU Z Z (v:=.pointer (some ⟨ay,0,none⟩)) Z) (oR Z (zU Z Z (v:=jV x6) Z) (oA Z Z (oA Z Z (eN (zL (sR fL2 Z (oM Z Z (oR Z (ZP Z Z Z) (eN (ifc ao ?_ ?_)))))))))))
 intro a8 cH
 refine zj (zu (fun h=>h a8.out)) (kN (sR (.fl 0 (.fx 1 (wMG gEf) .stop)) Z (oM Z Z ?_)))
 have q:=bv.freezeR (k:=2) (n:=ac.edges.length) rfl (wAE (f:=wAP) (sz:=7) (fun _=>rfl) ac.edges) (by decide)
 obtain ⟨bD,aF,bz,cn⟩:=q
 have co:sW w φ bD [B1,.obj ab (.map ag af),.blk b2 27 B0] av:=cn
 have bo:=bK.le aF
 have bp:=bL.le aF
 have bq:=bM.le aF
 have br:=bN.le aF
 have q:=bnd cH
 obtain ⟨⟨ae,cM,cN⟩,bO,bx⟩:=q
 try dsimp only at bx
 refine zD 2 Z Z Z Z (zE Z Z YF (zB Z (zB Z (zB Z zM))) Z) co (fun hs=>wBN ac ay aR aY aS aZ aT a5 aU a6 ab ag af au aE (-1) false av bD hs bo bp bq br bn bz bO) (.inl Z) ?_
 rintro bc cQ cX bG ap cp ⟨aj,an,aV,a9,rfl,rfl⟩
 let B2:Res:=.row aV a9 3 1 (hD KL.encI ae.by_)
 let B3:Res:=.row aj an 3 1 (hD KL.encI ae.far)
 have cq:sW w φ bc [B3,B2,B1,.obj ab (.map ag af),.blk b2 27 B0] bG:=cp
 refine oM Z Z (oR Z (zU Z Z (v:=.agg #[.slice aj ae.far.length an,.slice aV ae.by_.length a9]) Z) (oR Z (zU Z Z (v:=jV cM) Z) (oR Z (zU Z Z (v:=.bool cN) Z) (zV (cs:=[.slice none 0 0,.slice none 0 0]) Z Z Z Z Z Zl Z cq ?_))))
 intro cR az cr
 let B4:List Value:=[.slice aj ae.far.length an,.slice aV ae.by_.length a9]
 refine zX (j:=0) (vs:=B4) Z Z Z Z cr Z Z Z Z Zx (zA Z) Z Z Z ?_
 intro ax ct
 have bb:sW w φ bc [.blk az 133 B4,B3,B2,B1,.obj ab (.map ag af),.blk b2 27 B0] ax:=ct
 refine oA Z Z (oA Z Z (eN (zL (sR fL2 Z (oM Z Z (oR Z (Zk Z Z) (eN (ifc bx ?_ ?_))))))))
 intro ba cI
 refine zj (nC ba.out) (kN (sR (wDK (.fx 3 (wJd (.nil)) .stop)) Z (oM Z Z (oR Z (zF Z Z ZZ Z zg) (oL Z (bb.ldB (j:=0) Z Z Z zr (v:=.slice aj ae.far.length an) Z) ?_)))))
 have q:=bb.freezeR (k:=1) (n:=ae.far.length) rfl (wAE (f:=KL.encI) (sz:=1) (fun _=>rfl) ae.far) (by decide)
 obtain ⟨bd,aq,cJ,cu⟩:=q
 have cw:sW w φ bd [.blk az 133 B4,B2,B1,.obj ab (.map ag af),.blk b2 27 B0] ax:=cu
 have bQ:=bo.le ap
 have bR:=bQ.le aq
 have bS:=bp.le ap
 have bT:=bS.le aq
 have bU:=bq.le ap
 have bV:=bU.le aq
 have bW:=br.le ap
 have bX:=bW.le aq
 have bY:=bz.le ap
 have bH:=bY.le aq
 have q:=bnd cI
 obtain ⟨⟨cK,bA⟩,bI,bw⟩:=q
 try dsimp only at bw
 have bZ:sW w φ bd [B1,.obj ab (.map ag af),.blk az 133 B4,B2,.blk b2 27 B0] ax:=cw.pick [2,3,0,1,4] _ (by decide) rfl
 refine zD 2 Z Z Z Z (zE Z Z Tryz.call75 (zB Z (zB Z zM)) Z) bZ (fun hs=>wHL ac ay aR aY aS aZ aT a5 aU a6 ab ag af au aE ae.far aj an ax bd hs bR bT bV bX bn bH cJ bI) (.inl Z) ?_
 rintro bC cP cV bF cS b5 ⟨aP,aW,bj,aQ,aX,rfl,rfl,bJ⟩
 have ca:sW w φ bC [.row aP aW 22 1 bj,.row aQ aX 3 1 (hD KL.encI bA),B1,.obj ab (.map ag af),.blk az 133 B4,B2,.blk b2 27 B0] bF:=b5
 refine oM Z Z (oR Z (zU Z Z (v:=.slice aP cK.length aW) Z) (oR Z (zU Z Z (v:=.slice aQ bA.length aX) Z) (oA Z Z (oA Z Z (eN (sR fL5 Z (oM Z Z (oM Z Z (oA Z Z (oA Z Z (oA Z Z (eN (zO ?_)))))))))))))
 cases bw
 exact ⟨rfl,_,(wLE rfl rfl rfl),bC,_,(ca.pick [0,1] _ (by decide) rfl),aP,aW,bj,aQ,aX,rfl,rfl,bJ⟩
 intro ba cC
 refine ZD (nF (ba.out)) (sR fL3 Z (oA Z Z (oA Z Z (oA Z Z (eN (zO (zQ ?_)))))))
 have cb:=bb.nilrow 22 1
 have cc:=cb.nilrow 3 1
 cases cC
 exact ⟨rfl,_,(wLE rfl rfl rfl),bc,_,(cc.pick [1,0] _ (by decide) rfl),none,0,[],none,0,rfl,rfl,RlL.nil⟩
 intro a8 cD
 refine cT Z a8 (sR fL4 Z (oM Z Z (oA Z Z (oA Z Z (oA Z Z (eN (zO (zQ ?_))))))))
 have cd:=bv.nilrow 22 1
 have cf:=cd.nilrow 3 1
 cases cD
 exact ⟨rfl,_,(wLE rfl rfl rfl),aO,_,(cf.pick [1,0] _ (by decide) rfl),none,0,[],none,0,rfl,rfl,RlL.nil⟩
end Go.Proofs.YtlnfbjphfoipaaaGreat
namespace Go.Proofs.YtlnfbjphfoipaaaGreat
open Go.KL
set_option maxHeartbeats 4000000
theorem wGH (p0:wAA) (ag:Option Addr) (ak:Nat) (ah:Option Addr) (am:Nat) (ai:Option Addr) (an:Nat) (aj:Option Addr) (ao:Nat) (p1:List wAC) (aU:Option Addr) (aV:Nat) (w:World) (φ:PHeap) (hS:St0 w φ []) (bQ:Sl φ 1 ag ak p0.Starts.length (hD KL.encI p0.Starts)) (bR:Sl φ 2 ah am p0.Splits.length (hD wAD p0.Splits)) (bS:Sl φ 3 ai an p0.Clocks.length (hD wAF p0.Clocks)) (bT:Sl φ 4 aj ao p0.Readings.length (hD wAB p0.Readings)) (eA:Sl φ 4 aU aV p1.length (hD wAJ p1)) {r:Int × Int} (hm:wDS p0 p1=some r):Gv Tryz.prog 51 [.agg #[.slice ag p0.Starts.length ak,.slice ah p0.Splits.length am,.slice ai p0.Clocks.length an,.slice aj p0.Readings.length ao],.slice aU p1.length aV] w (wCG w [] φ (fun φ_ L_ v=>v=.tuple #[jV r.1,jV r.2]/\L_=[])):=by
 unfold wDS at hm
 refine Gv.of Tryz.func51 Z Tryz.ntmps51 Tryz.results51 Z (sR gDx Z ?_)
 let O:List Value:=[.slice ag p0.Starts.length ak,.slice ah p0.Splits.length am,.slice ai p0.Clocks.length an,.slice aj p0.Readings.length ao]
 refine zn (cs:=O) rfl rfl rfl rfl rfl rfl (by rfl) hS ?_
 intro W1 b2 bP
 refine oA Z Z (oA Z Z (eN (zL (sR gDy Z (oL Z (bP.ldBA (j:=0) Z Z Z zo zZ (vs:=O) Z Z) (bnK hm fun x5 h6 eP=>zD 0 Z Z Z Z (zE Z Z Tryz.call33 (zB Z zM) Z) bP (fun hs=>wFB p0 ag ak ah am ai an aj ao W1 φ hs bQ bR bS bT h6) (.inr Z) ?_))))))
 rintro bz L9 fB bG aS dG ⟨rfl,rfl⟩
 have bt:sW w φ bz [.blk b2 27 O] bG:=dG
 refine oA Z Z (eN (sR fL2 Z (oM Z Z (oR Z (ZP Z Z Z) (eN (ifc eP ?_ ?_))))))
 intro bo eB
 refine zj (zu (fun h=>h bo.out)) (kN (zL (sR gEg Z (oL Z (bt.ldBA (j:=0) Z Z Z zo zZ (vs:=O) Z Z) (oM Z Z ?_)))))
 have aE:=bQ.le aS
 have aF:=bR.le aS
 have aG:=bS.le aS
 have aH:=bT.le aS
 have bs:=eA.le aS
 refine bnK eB fun fK cV eC=>zD 0 Z Z Z Z (zE Z Z Tryz.call111 (zB Z (zB Z zM)) Z) bt (fun hs=>wEq p0 ag ak ah am ai an aj ao p1 aU aV bG bz hs aE aF aG aH bs cV) (.inr Z) ?_
 rintro au fc fI bh aa ez ⟨rfl,rfl⟩
 have bv:sW w φ au [.blk b2 27 O] bh:=ez
 refine oA Z Z (eN (sR fL2 Z (oM Z Z (oR Z (ZP Z Z Z) (eN (ifc eC ?_ ?_))))))
 intro bq eL
 refine zj (zu (fun h=>h bq.out)) (kN (zL (sR fL3 Z (oM Z Z (oR Z (zi Z Z ZO) (oR Z (Zy Z Z Z) (eN (ifc eL ?_ ?_))))))))
 intro br eM
 refine cT Z br (sR fL2 Z (oA Z Z (oA Z Z (eN (zO (zQ ?_))))))
 cases eM
 exact ⟨rfl,_,(wDp rfl rfl),au,_,(bv.pick [] _ (by decide) rfl),rfl,rfl⟩
 intro br eO
 refine cF Z br (kN ?_)
 have q:=bnd eO
 obtain ⟨⟨bw,bx⟩,eR,bV⟩:=q
 try dsimp only at bV
 let B1:List Value:=[jV bw,jV bx]
 refine yX (fun σ_ w_=>∃ (φ_:PHeap) (aQ:Nat),σ_ 1=.slice aU p1.length aV/\σ_ 2=.pointer (some ⟨b2,0,none⟩)/\σ_ 8=.pointer (some ⟨aQ,0,none⟩)/\PHeap.Le au φ_/\sW w φ φ_ [.blk b2 27 O,.blk aQ 123 B1] w_) ?_ ?_
 refine bnK eR fun aq bL eQ=>?_
 have q:=bnd eQ
 obtain ⟨⟨ae,af,aX⟩,aR,aI⟩:=q
 try dsimp only at aI
 refine zx zt [1,3,3,1,2,3,3,3,3,2,2,0,0,3] (wEF (.fx 4 (wIM (.fx 9 gEh (.fx 10 gEi .stop))) (.fx 9 (.fx 4 (wIM gEh) (.fx 10 (.fx 4 (wIM gDz) (.stop)) (.stop))) (.fx 10 (.fx 4 (wIM gEi) (.fx 9 (.fx 4 (wIM gDz) (.stop)) (.stop))) (.stop))))) (by kernel_rfl) ?_
 have aN:=bv.drew
 generalize hw_W85:({ bh with drawn:=bh.drawn + 1 }:World)=cD at aN ⊢
 refine oL Z (aN.ldBA (j:=0) Z Z Z zo zZ (vs:=O) Z Z) (oM Z Z ?_)
 have dp:=bs.le aa
 have q:=dp.el (fun _=>rfl) (wAe bL)
 obtain ⟨fy,fA,dv,dw⟩:=q
 refine oR Z (Zc Z Z dv Z ZO ZK (wCa bL)) (oL Z (aN.ldCA (f:=0) dw Z Z Zs ZK (us:=[jV aq.Kind,jV aq.Skier,jV aq.Index,.bool aq.Up]) Z Z) (ZJ ?_ ?_))
 have dq:=aE.le aa
 have dr:=aF.le aa
 have dt:=aG.le aa
 have du:=aH.le aa
 refine zD 0 Z Z Z Z (zE Z Z Tryz.call107 (zB Z (zB Z zM)) Z) aN (fun hs=>wCN p0 ag ak ah am ai an aj ao aq cD au hs dq dr dt du aR) (.inr Z) ?_
 rintro aK fg fC bY bW dx ⟨rfl,rfl⟩
 have bM:sW w φ aK [.blk b2 27 O] bY:=dx
 refine oM Z Z (oR Z (zU Z Z (v:=.agg #[jV ae.skier,jV ae.mat]) Z) (oR Z (zU Z Z (v:=.agg #[jV af.skier,jV af.mat]) Z) (oR Z (zU Z Z (v:=jV aX) Z) (ZJ ?_ ?_))))
 let B2:List Value:=[jV 0,jV 0]
 refine zV (cs:=B2) Z Z Z Z Z zd Z bM ?_
 intro fh bi dy
 refine zV (cs:=B2) Z Z Z Z Z zd Z dy ?_
 intro fj bH dz
 let B3:List Value:=[jV ae.skier,jV ae.mat]
 refine zX (j:=1) (vs:=B3) Z Z Z Z dz Z Z Z Z zH (zA Z) Z Z Z ?_
 intro bZ dA
 have dB:sW w φ aK [.blk bH 123 B2,.blk bi 123 B3,.blk b2 27 O] bZ:=dA
 let B4:List Value:=[jV af.skier,jV af.mat]
 refine zX (j:=0) (vs:=B4) Z Z Z Z dB Z Z Z Z zH (zA Z) Z Z Z ?_
 intro b5 dC
 have dD:sW w φ aK [.blk bH 123 B4,.blk bi 123 B3,.blk b2 27 O] b5:=dC
 refine oA Z Z (zf ?_)
 cases aI
 exact zJ ⟨rfl,⟨aK,bi,rfl,rfl,rfl,bW,(dD.pick [2,1] _ (by decide) rfl)⟩⟩
 let B5:List Value:=[jV 0,jV 0]
 refine zV (cs:=B5) Z Z Z Z Z zd Z bM ?_
 intro fk bI dE
 refine zV (cs:=B5) Z Z Z Z Z zd Z dE ?_
 intro fm bj dF
 let B6:List Value:=[jV ae.skier,jV ae.mat]
 refine zX (j:=0) (vs:=B6) Z Z Z Z dF Z Z Z Z zH (zA Z) Z Z Z ?_
 intro ca dH
 have dI:sW w φ aK [.blk bj 123 B6,.blk bI 123 B5,.blk b2 27 O] ca:=dH
 let B7:List Value:=[jV af.skier,jV af.mat]
 refine zX (j:=1) (vs:=B7) Z Z Z Z dI Z Z Z Z zH (zA Z) Z Z Z ?_
 intro cb dJ
 have dK:sW w φ aK [.blk bj 123 B6,.blk bI 123 B7,.blk b2 27 O] cb:=dJ
 refine oA Z Z (zf ?_)
 cases aI
 exact zJ ⟨rfl,⟨aK,bj,rfl,rfl,rfl,bW,(dK.pick [2,0] _ (by decide) rfl)⟩⟩
 refine ZJ ?_ ?_
 let B8:List Value:=[jV 0,jV 0]
 refine zV (cs:=B8) Z Z Z Z Z zd Z aN ?_
 intro cc ay bN
 refine ZJ ?_ ?_
 have cI:=aE.le aa
 have cJ:=aF.le aa
 have cK:=aG.le aa
 have cL:=aH.le aa
 refine zD 0 Z Z Z Z (zE Z Z Tryz.call107 (zB Z (zB Z zM)) Z) bN (fun hs=>wCN p0 ag ak ah am ai an aj ao aq cc au hs cI cJ cK cL aR) (.inr Z) ?_
 rintro aZ e6 fD cd eS dL ⟨rfl,rfl⟩
 have dM:sW w φ aZ [.blk ay 123 B8,.blk b2 27 O] cd:=dL
 refine oM Z Z (oR Z (zU Z Z (v:=.agg #[jV ae.skier,jV ae.mat]) Z) (oR Z (zU Z Z (v:=.agg #[jV af.skier,jV af.mat]) Z) (oR Z (zU Z Z (v:=jV aX) Z) (zV (cs:=B8) Z Z Z Z Z zd Z dM ?_))))
 intro fq bJ dN
 let B9:List Value:=[jV ae.skier,jV ae.mat]
 refine zX (j:=1) (vs:=B9) Z Z Z Z dN Z Z Z Z zH (zA Z) Z Z Z ?_
 intro cf dO
 have dP:sW w φ aZ [.blk bJ 123 B8,.blk ay 123 B9,.blk b2 27 O] cf:=dO
 let bA:List Value:=[jV af.skier,jV af.mat]
 refine zX (j:=0) (vs:=bA) Z Z Z Z dP Z Z Z Z zH (zA Z) Z Z Z ?_
 intro cg dQ
 have dR:sW w φ aZ [.blk bJ 123 bA,.blk ay 123 B9,.blk b2 27 O] cg:=dQ
 refine oA Z Z (zf ?_)
 cases aI
 exact zJ ⟨rfl,⟨aZ,ay,rfl,rfl,rfl,eS,(dR.pick [2,1] _ (by decide) rfl)⟩⟩
 refine zV (cs:=B8) Z Z Z Z Z zd Z bN ?_
 intro cj bm dS
 have cM:=aE.le aa
 have cN:=aF.le aa
 have cO:=aG.le aa
 have cP:=aH.le aa
 refine zD 0 Z Z Z Z (zE Z Z Tryz.call107 (zB Z (zB Z zM)) Z) dS (fun hs=>wCN p0 ag ak ah am ai an aj ao aq cj au hs cM cN cO cP aR) (.inr Z) ?_
 rintro a5 e8 fE cm eU dT ⟨rfl,rfl⟩
 have dU:sW w φ a5 [.blk bm 123 B8,.blk ay 123 B8,.blk b2 27 O] cm:=dT
 refine oM Z Z (oR Z (zU Z Z (v:=.agg #[jV ae.skier,jV ae.mat]) Z) (oR Z (zU Z Z (v:=.agg #[jV af.skier,jV af.mat]) Z) (oR Z (zU Z Z (v:=jV aX) Z) ?_)))
 let a8:List Value:=[jV ae.skier,jV ae.mat]
 refine zX (j:=1) (vs:=a8) Z Z Z Z dU Z Z Z Z zH (zA Z) Z Z Z ?_
 intro cn dV
 have dW:sW w φ a5 [.blk bm 123 B8,.blk ay 123 a8,.blk b2 27 O] cn:=dV
 let bB:List Value:=[jV af.skier,jV af.mat]
 refine zX (j:=0) (vs:=bB) Z Z Z Z dW Z Z Z Z zH (zA Z) Z Z Z ?_
 intro co dX
 have dY:sW w φ a5 [.blk bm 123 bB,.blk ay 123 a8,.blk b2 27 O] co:=dX
 refine oA Z Z (zf ?_)
 cases aI
 exact zJ ⟨rfl,⟨a5,ay,rfl,rfl,rfl,eU,(dY.pick [2,1] _ (by decide) rfl)⟩⟩
 let av:List Value:=[jV 0,jV 0]
 refine zV (cs:=av) Z Z Z Z Z zd Z aN ?_
 intro cp aL bO
 refine ZJ ?_ ?_
 have cQ:=aE.le aa
 have cR:=aF.le aa
 have cS:=aG.le aa
 have cU:=aH.le aa
 refine zD 0 Z Z Z Z (zE Z Z Tryz.call107 (zB Z (zB Z zM)) Z) bO (fun hs=>wCN p0 ag ak ah am ai an aj ao aq cp au hs cQ cR cS cU aR) (.inr Z) ?_
 rintro a6 e9 fG cq eV dZ ⟨rfl,rfl⟩
 have d4:sW w φ a6 [.blk aL 123 av,.blk b2 27 O] cq:=dZ
 refine oM Z Z (oR Z (zU Z Z (v:=.agg #[jV ae.skier,jV ae.mat]) Z) (oR Z (zU Z Z (v:=.agg #[jV af.skier,jV af.mat]) Z) (oR Z (zU Z Z (v:=jV aX) Z) (zV (cs:=av) Z Z Z Z Z zd Z d4 ?_))))
 intro ft bn d5
 let a9:List Value:=[jV ae.skier,jV ae.mat]
 refine zX (j:=0) (vs:=a9) Z Z Z Z d5 Z Z Z Z zH (zA Z) Z Z Z ?_
 intro cr d6
 have d7:sW w φ a6 [.blk bn 123 a9,.blk aL 123 av,.blk b2 27 O] cr:=d6
 let bC:List Value:=[jV af.skier,jV af.mat]
 refine zX (j:=1) (vs:=bC) Z Z Z Z d7 Z Z Z Z zH (zA Z) Z Z Z ?_
 intro ct d8
 have d9:sW w φ a6 [.blk bn 123 a9,.blk aL 123 bC,.blk b2 27 O] ct:=d8
 refine oA Z Z (zf ?_)
 cases aI
 exact zJ ⟨rfl,⟨a6,bn,rfl,rfl,rfl,eV,(d9.pick [2,0] _ (by decide) rfl)⟩⟩
 refine zV (cs:=av) Z Z Z Z Z zd Z bO ?_
 intro cu aY eg
 have cW:=aE.le aa
 have cX:=aF.le aa
 have cY:=aG.le aa
 have cZ:=aH.le aa
 refine zD 0 Z Z Z Z (zE Z Z Tryz.call107 (zB Z (zB Z zM)) Z) eg (fun hs=>wCN p0 ag ak ah am ai an aj ao aq cu au hs cW cX cY cZ aR) (.inr Z) ?_
 rintro a7 fb fH cw eW eh ⟨rfl,rfl⟩
 have ej:sW w φ a7 [.blk aY 123 av,.blk aL 123 av,.blk b2 27 O] cw:=eh
 refine oM Z Z (oR Z (zU Z Z (v:=.agg #[jV ae.skier,jV ae.mat]) Z) (oR Z (zU Z Z (v:=.agg #[jV af.skier,jV af.mat]) Z) (oR Z (zU Z Z (v:=jV aX) Z) ?_)))
 let ba:List Value:=[jV ae.skier,jV ae.mat]
 refine zX (j:=0) (vs:=ba) Z Z Z Z ej Z Z Z Z zH (zA Z) Z Z Z ?_
 intro cx ek
 have en:sW w φ a7 [.blk aY 123 ba,.blk aL 123 av,.blk b2 27 O] cx:=ek
 let bD:List Value:=[jV af.skier,jV af.mat]
 refine zX (j:=1) (vs:=bD) Z Z Z Z en Z Z Z Z zH (zA Z) Z Z Z ?_
 intro cy eo
 have ep:sW w φ a7 [.blk aY 123 ba,.blk aL 123 bD,.blk b2 27 O] cy:=eo
 refine oA Z Z (zf ?_)
 cases aI
 exact zJ ⟨rfl,⟨a7,aY,rfl,rfl,rfl,eW,(ep.pick [2,0] _ (by decide) rfl)⟩⟩
 rintro fM cz ⟨eZ,aQ,cG,cH,bK,aT,bu⟩
 refine sR (wDK (.fx 3 (fC4_7 (.fx 8 gEa .stop)) .stop)) Z (oL Z (bu.ldBA (j:=0) Z Z cH zo zZ (vs:=O) Z Z) (oL Z (bu.ldBA (j:=1) Z Z bK zl zH (vs:=B1) Z Z) (oM Z cG ?_)))
 have c6:=aE.le aa
 have da:=c6.le aT
 have db:=aF.le aa
 have dd:=db.le aT
 have de:=aG.le aa
 have df:=de.le aT
 have dg:=aH.le aa
 have dh:=dg.le aT
 have di:=bs.le aa
 have dk:=di.le aT
 have q:=bnd bV
 obtain ⟨⟨aW,eX,eY⟩,dl,bU⟩:=q
 try dsimp only at bU
 refine zD 0 Z Z Z Z (zE Z Z Tryz.call112 (zB Z (zB Z (zB Z zM))) Z) bu (fun hs=>wDZ p0 ag ak ah am ai an aj ao (⟨bw,bx⟩:wAH) p1 aU aV cz eZ hs da dd df dh dk dl) (.inr Z) ?_
 rintro aO fd fJ cA fz er ⟨rfl,rfl⟩
 have eu:sW w φ aO [.blk b2 27 O,.blk aQ 123 B1] cA:=er
 refine oM Z Z (oR Z (zU Z Z (v:=.agg #[jV aW.skier,jV aW.mat]) Z) (oR Z (zU Z Z (v:=jV eX) Z) (oR Z (zU Z Z (v:=.bool eY) Z) (zV (cs:=[jV 0,jV 0]) Z Z Z Z Z zd Z eu ?_))))
 intro fu cE ew
 let bb:List Value:=[jV aW.skier,jV aW.mat]
 refine zX (j:=0) (vs:=bb) Z Z Z Z ew Z Z Z Z zH (zA Z) Z Z Z ?_
 intro cC ey
 have aM:sW w φ aO [.blk cE 123 bb,.blk b2 27 O,.blk aQ 123 B1] cC:=ey
 refine oA Z Z (oA Z Z (eN (zL (sR fL11 Z (oM Z Z (oR Z (Zk Z Z) (oM Z Z (ifc bU ?_ ?_))))))))
 intro ap eD
 refine ZE Z Z Z (zI Z Z (nC ap.out)) (aM.ldBA (j:=0) Z Z Z zl zH (vs:=bb) Z Z) Z (ZE Z Z Z (zI Z Z (nC ap.out)) (aM.ldBA (j:=2) Z Z bK zl zH (vs:=B1) Z Z) Z (za Z Z Z (zI Z Z (nC ap.out)) (fun _=>ZU (Runs.neS (enc:=wCP) (a:=aW) (b:=(⟨bw,bx⟩:wAH)) Z Z Z wLc wLb) (congrArg hH (decide_not).symm)) (oR Z (zW Z (nC ap.out) Z) (oM Z Z (ifc eD ?_ ?_)))))
 intro az eE
 refine zw Z Z Z (zI Z Z (zu (fun h=>h az.out))) Z Z (za Z Z Z (zI Z Z (zu (fun h=>h az.out))) (fun _=>Runs.geq Z Z Z) (oR Z (zW Z (zu (fun h=>h az.out)) Z) (eN (ifc eE ?_ ?_))))
 intro bp eF
 refine cT Z bp (sR fL2 Z (oA Z Z (oA Z Z (eN (zO (zQ ?_))))))
 cases eF
 exact ⟨rfl,_,(wDp rfl rfl),aO,_,(aM.pick [] _ (by decide) rfl),rfl,rfl⟩
 intro bp eG
 refine cF Z bp (kN (sR fL3 Z (oM Z Z (oA Z Z (oA Z Z (eN (zO ?_)))))))
 cases eG
 exact ⟨rfl,_,(wDp rfl rfl),aO,_,(aM.pick [] _ (by decide) rfl),rfl,rfl⟩
 intro az eH
 refine oT Z az (oT Z az (oR Z (zR Z (Zd az.out) Z) (eN (ZD Z (sR fL2 Z (oA Z Z (oA Z Z (eN (zO (zQ ?_))))))))))
 cases eH
 exact ⟨rfl,_,(wDp rfl rfl),aO,_,(aM.pick [] _ (by decide) rfl),rfl,rfl⟩
 intro ap eI
 refine zy Z Z Z (zP Z Z (nF (ap.out)) Z) (zy Z Z Z (zP Z Z (nF (ap.out)) Z) (zy Z Z Z (zP Z Z (nF (ap.out)) Z) (oR Z (zR Z (nF (ap.out)) Z) (oM Z Z (oN Z (oN Z (oR Z (zR Z Z Z) (eN (ZD Z (sR fL2 Z (oA Z Z (oA Z Z (eN (zO (zQ ?_)))))))))))))))
 cases eI
 exact ⟨rfl,_,(wDp rfl rfl),aO,_,(aM.pick [] _ (by decide) rfl),rfl,rfl⟩
 intro bq eJ
 refine cT Z bq (sR fL3 Z (oM Z Z (oA Z Z (oA Z Z (eN (zO (zQ ?_)))))))
 cases eJ
 exact ⟨rfl,_,(wDp rfl rfl),au,_,(bv.pick [] _ (by decide) rfl),rfl,rfl⟩
 intro bo eK
 refine cT Z bo (sR fL3 Z (oM Z Z (oA Z Z (oA Z Z (eN (zO (zQ ?_)))))))
 cases eK
 exact ⟨rfl,_,(wDp rfl rfl),bz,_,(bt.pick [] _ (by decide) rfl),rfl,rfl⟩
theorem wIE (p0:Int) (O:wAK) (p2:Int) (ae:Nat) (w:World) (φ:PHeap) (hS:St0 w φ []) (af:Cl φ ae 0 [jV p2]) {r:Bool} (hm:wDt p0 O p2=some r):Gv Tryz.prog 83 [jV p0,.agg #[jV O.Skier,jV O.Mat,jV O.Clock,jV O.Time],.pointer (some ⟨ae,0,none⟩)] w (wCG w [] φ (fun φ_ L_ v=>v=.bool r/\L_=[])):=by
 unfold wDt at hm
 refine Gv.of Tryz.func83 rfl Tryz.ntmps83 Tryz.results83 rfl (sR gDu rfl (zn (cs:=[jV O.Skier,jV O.Mat,jV O.Clock,jV O.Time]) rfl rfl rfl rfl rfl rfl (by rfl) hS ?_))
 intro W1 b2 ab
 refine oA Z Z (eN (sR fL4 Z (oM Z Z (oL Z (ab.ldC (f:=0) af (v:=jV p2) Z Z zG Z) (oR Z (Zy Z Z Z) (oA Z Z (eN (zO ?_))))))))
 first | (obtain rfl:=hU hm) | cases hm
 exact ⟨rfl,_,(ZA rfl),φ,_,(ab.pick [] _ (by decide) rfl),rfl,rfl⟩
theorem wED (O:wAA) (ai:Option Addr) (am:Nat) (aj:Option Addr) (an:Nat) (ak:Option Addr) (ao:Nat) (az:Option Addr) (aE:Nat) (p1:((Int × wAK)->Option Bool)) (a6:Value) (w:World) (φ:PHeap) (hS:St0 w φ []) (cL:Sl φ 1 ai am O.Starts.length (hD KL.encI O.Starts)) (cM:Sl φ 2 aj an O.Splits.length (hD wAD O.Splits)) (cN:Sl φ 3 ak ao O.Clocks.length (hD wAF O.Clocks)) (cO:Sl φ 4 az aE O.Readings.length (hD wAB O.Readings)) (cP:FnOK Tryz.prog φ a6 wMV wMW p1) {r:wAg} (hm:wCh O p1=some r):Gv Tryz.prog 82 [.agg #[.slice ai O.Starts.length am,.slice aj O.Splits.length an,.slice ak O.Clocks.length ao,.slice az O.Readings.length aE],a6] w (wCG w [] φ (fun φ_ L_ v=>∃ (b0:Nat) (A0p00:Option Addr) (c0p00:Nat) (A0p01:Option Addr) (c0p01:Nat) (A0p02:Option Addr) (c0p02:Nat) (A0p03:Option Addr) (c0p03:Nat) (m0p1:Nat) (es0p1:Array MapEntry) (ck0p1:Nat) (A0p2:Option Addr) (c0p2:Nat),v=.pointer (some ⟨b0,0,none⟩)/\L_=[.blk b0 139 [.slice A0p00 r.Race.Starts.length c0p00,.slice A0p01 r.Race.Splits.length c0p01,.slice A0p02 r.Race.Clocks.length c0p02,.slice A0p03 r.Race.Readings.length c0p03,.map (some m0p1),.slice A0p2 r.edges.length c0p2],.obj m0p1 (.map es0p1 ck0p1),.row A0p2 c0p2 184 7 (hD wAP r.edges)]/\Sl φ_ 1 A0p00 c0p00 r.Race.Starts.length (hD KL.encI r.Race.Starts)/\Sl φ_ 2 A0p01 c0p01 r.Race.Splits.length (hD wAD r.Race.Splits)/\Sl φ_ 3 A0p02 c0p02 r.Race.Clocks.length (hD wAF r.Race.Clocks)/\Sl φ_ 4 A0p03 c0p03 r.Race.Readings.length (hD wAB r.Race.Readings)/\MpR es0p1 wBU wBc r.number)):=by
 unfold wCh at hm
 refine Gv.of Tryz.func82 Z Tryz.ntmps82 Tryz.results82 Z (sR gDu Z ?_)
 let B0:List Value:=[.slice ai O.Starts.length am,.slice aj O.Splits.length an,.slice ak O.Clocks.length ao,.slice az O.Readings.length aE]
 refine zn (cs:=B0) rfl rfl rfl rfl rfl rfl (by rfl) hS ?_
 intro W1 b2 bu
 refine yP rfl rfl rfl rfl rfl rfl (eN (sR (wDK gDr) rfl (za rfl rfl rfl rfl (fun _=>zF rfl rfl zT rfl Zr) (ZE rfl rfl rfl rfl (bu.ldB (j:=0) rfl rfl rfl yD (v:=.slice az O.Readings.length aE) rfl) rfl (za rfl rfl rfl rfl (fun _=>zi rfl rfl ZN) (bnK hm fun x5 h6 cY=>OKS.makeSliceZ (sz:=4) (enc:=wAB) (z:=(⟨0,0,0,0⟩:wAK)) (v:=jV 0) rfl rfl rfl rfl rfl (wBj ZN) wJo rfl rfl rfl rfl (by decide) (by decide) rfl rfl h6 bu ?_))))))
 intro W8 b9 cp
 have aT:sW w φ φ [.row (some ⟨b9,0,none⟩) x5.length 115 4 (hD wAB x5),.blk b2 27 B0] W8:=cp
 refine yP rfl rfl rfl rfl rfl rfl (eN (sR (wDK (.fx 3 .nil .stop)) rfl (zw rfl rfl rfl rfl rfl rfl (za rfl rfl rfl rfl (fun _=>zF rfl rfl zT rfl Zr) (ZE rfl rfl rfl rfl (aT.ldB (j:=1) rfl rfl rfl yD (v:=.slice az O.Readings.length aE) rfl) rfl (bnK cY fun ap ca cW=>OKS.copyM (j:=0) (f:=wAB) (m:=x5) (ys:=O.Readings) (z:=ap) (a:=0) (n:=x5.length) rfl rfl rfl rfl rfl rfl ZN Zb aT rfl (fun _=>rfl) (fun _=>rfl) rfl ca rfl (by simp) (.inr (by simp)) rfl (aT.srcS cO) rfl ?_))))))
 intro bH cy aV
 let B1:Res:=.row (some ⟨b9,0,none⟩) x5.length 115 4 (hD wAB ap)
 have bt:sW w φ φ [B1,.blk b2 27 B0] bH:=cy
 refine eN (sR (wDK (.fx 3 .nil .stop)) rfl (zw rfl rfl rfl rfl rfl (Eq.trans (b:=(.slice (some ⟨b9,0,none⟩) x5.length x5.length:Value)) (c:=(.slice (some ⟨b9,0,none⟩) ap.length x5.length:Value)) rfl (by rw [aV])) ?_))
 have dd:=bt.rowCap (j:=0) rfl (by decide) (wAE (f:=wAB) (sz:=4) (fun _=>rfl) ap)
 refine za (v:=.slice (some ⟨b9,0,none⟩) 0 x5.length) Z Z Z Z (fun _=>ZU (Runs.slc (sz:=4) (a:=0) (b:=0) Z Z (.inr ⟨Z,Z⟩) (.inl ⟨_,Z,Z⟩) ZN Zb (Int.le_refl _) (Int.le_refl _) (Int.natCast_nonneg _) dd) slc0) (oR Z (zF Z Z zT Z Zr) (zX (j:=1) (vs:=[.slice (some ⟨b9,0,none⟩) 0 x5.length]) Z Z Z Z bt Z Z Z Z Zr (zA Z) Z Z Z ?_))
 intro bI cz
 have cA:sW w φ φ [B1,.blk b2 27 [.slice ai O.Starts.length am,.slice aj O.Splits.length an,.slice ak O.Clocks.length ao,.slice (some ⟨b9,0,none⟩) 0 x5.length]] bI:=cz
 refine eN (zL (sR fL3 rfl (zw rfl rfl rfl rfl rfl (Eq.trans (b:=(.slice (some ⟨b9,0,none⟩) x5.length x5.length:Value)) (c:=(.slice (some ⟨b9,0,none⟩) ap.length x5.length:Value)) rfl (by rw [aV])) (za rfl rfl rfl rfl (fun _=>zi rfl rfl ZN) (zw rfl rfl rfl rfl rfl rfl (eN (zY ?_)))))))
 have q:=bnd cW
 obtain ⟨⟨dz,df⟩,cQ,bA⟩:=q
 try dsimp only at bA
 have q:=wCC cQ
 obtain ⟨aW,cR⟩:=q
 replace aW:=zN aW
 refine CK.forN' (fun ae (ac,ah) σ_ w_=>∃ (φ_:PHeap),σ_ 21=jV (↑ae:Int)/\σ_ 1=a6/\σ_ 2=.pointer (some ⟨b2,0,none⟩)/\σ_ 19=.slice (some ⟨b9,0,none⟩) ac.length x5.length/\σ_ 20=jV (↑ap.length:Int)/\PHeap.Le φ φ_/\sW w φ φ_ [.row (some ⟨b9,0,none⟩) x5.length 115 4 (hD wAB ac),.blk b2 27 [.slice ai O.Starts.length am,.slice aj O.Splits.length an,.slice ak O.Clocks.length ao,.slice (some ⟨b9,0,none⟩) ah x5.length]] w_/\ac.length=x5.length) cR ?_ ?_ ?_
 exact ⟨φ,Z,Z,Z,Z,Z,(zS _),cA,aV⟩
 rintro ae ⟨ac,ah⟩ dy dA dm aU ⟨dh,ay,aQ,aH,aR,aS,aZ,bv,bq⟩ bB
 try dsimp only at bB
 have bn:Hid ((↑ae:Int) < (↑ap.length:Int)):=zN (wBO aU)
 replace aU:=zN aU
 have bz:Hid (w64 ((↑ae:Int) + 1)=(↑(ae + 1):Int)):=zN (by have h1:=aW.out;have h2:=bn.out;rw [wAb] <;> omega)
 refine sR fL1 Z (oR Z (ze Z ay aS) (eN (zL (cT Z bn (kN (zL (zY (sR (wDK (.fx 3 (.fl 4 (.fx 5 .nil .stop)) .stop)) Z (oM Z ay (bnK bB fun _ br cX=>oR Z (Zc Z aR Z ay ZN Zb (wAW br)) ?_))))))))))
 have cS:=wBK (xs:=ac) (wAW br)
 let B2:List Value:=[jV ((gd ac ae).Skier),jV ((gd ac ae).Mat),jV ((gd ac ae).Clock),jV ((gd ac ae).Time)]
 refine ZE rfl rfl rfl rfl (bv.ldRA (j:=0) rfl rfl rfl rfl yf Zb (vs:=B2) (wGM (sz:=4) (fun _=>rfl) _ _ _ cS (by first | omega | rfl | simp) rfl) rfl) rfl ?_
 let B3:List Value:=[jV 0,jV 0,jV 0,jV 0]
 refine zV (cs:=B3) Z Z Z Z Z yd Z bv ?_
 intro dp ax cC
 refine oA Z Z (zX (j:=0) (vs:=B2) Z Z Z Z cC Z Z Z Z Zb (zA Z) Z Z Z ?_)
 intro bJ cD
 let B4:Res:=.blk b2 27 [.slice ai O.Starts.length am,.slice aj O.Splits.length an,.slice ak O.Clocks.length ao,.slice (some ⟨b9,0,none⟩) ah x5.length]
 let B5:Res:=.row (some ⟨b9,0,none⟩) x5.length 115 4 (hD wAB ac)
 have bw:sW w φ dh [.blk ax 115 B2,B5,B4] bJ:=cD
 refine eN (sR (wDK gDr) Z (oM Z aQ (oM Z Z (oL Z (bw.ldBA (j:=0) Z Z Z yf Zb (vs:=B2) Z Z) (bnK cX fun dx cm cZ=>?_)))))
 have cn:=cP.le aZ
 refine OKS.callV (a:=((↑ae:Int),(gd ac ae))) Z Z Z Z Z Z (zB Z (zB Z zM)) bw cn Z cm ?_
 rintro av dk dw bK bC cE ⟨rfl,rfl⟩
 have aI:sW w φ av [.blk ax 115 B2,B5,B4] bK:=cE
 refine oR Z (Zk Z Z) (eN (ifc cZ ?_ ?_))
 intro aP c6
 refine zj (nC aP.out) (Zf (zm (zJ (rR fL2 Z (oR Z (ZU (zh Z ay Z) (congrArg (jV) bz.out)) (oM Z Z (zf ?_)))))))
 cases c6
 exact zJ ⟨rfl,⟨av,rfl,aQ,aH,aR,aS,(aZ.trans bC),(aI.pick [1,2] _ (by decide) rfl),bq⟩⟩
 intro aP da
 refine ZD (nF (aP.out)) (rR (wDK gEj) Z (oR Z (zF Z aH zT Z Zr) (oL Z (aI.ldB (j:=2) Z Z Z yD (v:=.slice (some ⟨b9,0,none⟩) ah x5.length) Z) (oL Z (aI.ldBA (j:=0) Z Z Z yf Zb (vs:=B2) Z Z) (ZR (pv:=[(0,.agg B2.toArray)]) (zs:=B3) (cs:=B2) Z Z Z Z Z (wAG Z wAR) ZN Zb yd Z Z Z Z Z aI ?_)))))
 intro bM bP cG
 let B6:Res:=.row (some ⟨bP,0,none⟩) 1 115 4 (hD wAB [(gd ac ae)])
 have bx:sW w φ av [B6,.blk ax 115 B2,B5,B4] bM:=cG
 refine bnK da fun _ co db=>OKS.appendP (j:=2) (k:=ah) (enc:=wAB) (m:=ac) (v:=(gd ac ae)) rfl rfl rfl rfl rfl Tryz.underlying25 wJo rfl rfl bx rfl rfl rfl (bx.srcR (j:=0) rfl (by decide) (wAE (f:=wAB) (sz:=4) (fun _=>rfl) [(gd ac ae)])) (fun _=>rfl) (fun _=>rfl) co rfl ?_
 intro bN cH
 let B7:Res:=.row (some ⟨b9,0,none⟩) x5.length 115 4 (hD wAB (nE ac ah (gd ac ae)))
 have cI:sW w φ av [B6,.blk ax 115 B2,B7,B4] bN:=cH
 refine oR Z (zF Z aH zT Z Zr) (zX (j:=3) (vs:=[.slice (some ⟨b9,0,none⟩) (ah + 1) x5.length]) Z Z Z Z cI Z Z Z Z Zr (zA Z) Z Z Z ?_)
 intro bO cJ
 have cK:sW w φ av [B6,.blk ax 115 B2,B7,.blk b2 27 [.slice ai O.Starts.length am,.slice aj O.Splits.length an,.slice ak O.Clocks.length ao,.slice (some ⟨b9,0,none⟩) (ah + 1) x5.length]] bO:=cJ
 refine zf (zm (zJ (rR fL2 Z (oR Z (ZU (zh Z ay Z) (congrArg (jV) bz.out)) (oM Z Z (zf ?_))))))
 cases db
 exact zJ ⟨rfl,⟨av,rfl,aQ,aH,(Eq.trans (b:=(.slice (some ⟨b9,0,none⟩) ac.length x5.length:Value)) (c:=(.slice (some ⟨b9,0,none⟩) ((nE ac ah (gd ac ae)).length) x5.length:Value)) aR (by simp only [nA])),aS,(aZ.trans bC),(cK.pick [2,3] _ (by decide) rfl),(nA.trans bq)⟩⟩
 rintro dB aN ⟨dg,bT,dq,bR,dr,bS,aX,cq,dt⟩
 have bQ:Hid (¬ ((↑(((↑ap.length:Int):Int) - 0).toNat:Int) < (↑ap.length:Int))):=zN (wAq)
 refine sR fL1 Z (oR Z (ze Z bT bS) (eN (zL (cF Z bQ (Za (zq (zq (ZW (zJ (sR gDy Z (bnK bA fun aq bp cU=>?_)))))))))))
 obtain rfl:aq.length=df:=wOc bp
 have cr:=cq.cutRowC (enc:=wAB) (k:=0) rfl bp
 let B8:List Value:=[.slice ai O.Starts.length am,.slice aj O.Splits.length an,.slice ak O.Clocks.length ao,.slice (some ⟨b9,0,none⟩) aq.length x5.length]
 have bs:sW w φ dg [.row (some ⟨b9,0,none⟩) x5.length 115 4 (hD wAB aq),.blk b2 27 B8] aN:=cr
 refine oL Z (bs.ldBA (j:=1) Z Z bR zo zZ (vs:=B8) Z Z) ?_
 have q:=bs.freezeR (k:=0) (n:=aq.length) rfl (wAE (f:=wAB) (sz:=4) (fun _=>rfl) aq) (by decide)
 obtain ⟨bE,aY,de,ct⟩:=q
 have cu:sW w φ bE [.blk b2 27 B8] aN:=ct
 have bU:=cL.le aX
 have bV:=bU.le aY
 have bW:=cM.le aX
 have bX:=bW.le aY
 have bY:=cN.le aX
 have bZ:=bY.le aY
 refine bnK cU fun au b5 cV=>zD 0 Z Z Z Z (zE Z Z Tryz.call124 (zB Z zM) Z) cu (fun hs=>wGg (⟨O.Starts,O.Splits,O.Clocks,aq⟩:wAA) ai am aj an ak ao (some ⟨b9,0,none⟩) x5.length aN bE hs bV bX bZ de b5) (.inr Z) ?_
 rintro bF di dv bG du cw ⟨bf,a7,bg,a8,bh,a9,bi,ba,bj,a5,bo,bm,aJ,aO,rfl,rfl,cb,cc,cd,cf,cg⟩
 have cx:sW w φ bF [.blk bf 139 [.slice a7 au.Race.Starts.length bg,.slice a8 au.Race.Splits.length bh,.slice a9 au.Race.Clocks.length bi,.slice ba au.Race.Readings.length bj,.map (some a5),.slice aJ au.edges.length aO],.obj a5 (.map bo bm),.row aJ aO 184 7 (hD wAP au.edges),.blk b2 27 B8] bG:=cw
 refine oA Z Z (eN (zO ?_))
 have hE:=hU cV;first | subst r | cases hE
 exact ⟨rfl,_,(ZA rfl),bF,_,(cx.pick [0,1,2] _ (by decide) rfl),bf,a7,bg,a8,bh,a9,bi,ba,bj,a5,bo,bm,aJ,aO,rfl,rfl,cb,cc,cd,cf,cg⟩
theorem wIF (p0:Int) (p1:wAK) (p2:Int) (ai:Nat) (p3:Int) (aj:Nat) (w:World) (φ:PHeap) (hS:St0 w φ []) (ak:Cl φ ai 0 [jV p2]) (am:Cl φ aj 0 [jV p3]) {r:Bool} (hm:wDu p0 p1 p2 p3=some r):Gv Tryz.prog 84 [jV p0,.agg #[jV p1.Skier,jV p1.Mat,jV p1.Clock,jV p1.Time],.pointer (some ⟨ai,0,none⟩),.pointer (some ⟨aj,0,none⟩)] w (wCG w [] φ (fun φ_ L_ v=>v=.bool r/\L_=[])):=by
 unfold wDu at hm
 refine Gv.of Tryz.func84 rfl Tryz.ntmps84 Tryz.results84 rfl (sR gDu rfl (zn (cs:=[jV p1.Skier,jV p1.Mat,jV p1.Clock,jV p1.Time]) rfl rfl rfl rfl rfl rfl (by rfl) hS ?_))
 intro W1 b2 ab
 refine oA Z Z (eN (sR fL9 Z (oM Z Z (oL Z (ab.ldC (f:=0) ak (v:=jV p2) Z Z zG Z) (oR Z (Zy Z Z Z) (oM Z Z ?_))))))
 by_cases O:p0=p2
 have ah:=hm;rw [if_pos O] at ah;replace O:=zN O
 refine oT Z O (oT Z O (oT Z O (oR Z (zR Z (Zd O.out) Z) (oA Z Z (eN (zO ?_))))))
 have hE:=hU ah;first | subst r | cases hE
 exact ⟨rfl,_,(ZA rfl),φ,_,(ab.pick [] _ (by decide) rfl),rfl,rfl⟩
 have ae:=hm;rw [if_neg O] at ae;replace O:=zN O
 refine zw Z Z Z (wF Z O) Z Z (ZE Z Z Z (wF Z O) (ab.ldC (f:=0) am (v:=jV p3) Z Z zG Z) Z (rU Z (wF Z O) (Zy Z Z Z) (oR Z (zW Z (zu O.out) Z) (oA Z Z (eN (zO ?_))))))
 first | (obtain rfl:=hU ae) | cases ae
 exact ⟨rfl,_,(ZA rfl),φ,_,(ab.pick [] _ (by decide) rfl),rfl,rfl⟩
theorem wJJ (O:wAA) (aQ:Option Addr) (aT:Nat) (aR:Option Addr) (aU:Nat) (aS:Option Addr) (aV:Nat) (am:Option Addr) (an:Nat) (w:World) (φ:PHeap) (hS:St0 w φ []) (bU:Sl φ 1 aQ aT O.Starts.length (hD KL.encI O.Starts)) (bV:Sl φ 2 aR aU O.Splits.length (hD wAD O.Splits)) (bW:Sl φ 3 aS aV O.Clocks.length (hD wAF O.Clocks)) (bX:Sl φ 4 am an O.Readings.length (hD wAB O.Readings)) {r:(List Int) × Int} (hm:wFh O=some r):Gv Tryz.prog 24 [.agg #[.slice aQ O.Starts.length aT,.slice aR O.Splits.length aU,.slice aS O.Clocks.length aV,.slice am O.Readings.length an]] w (wCG w [] φ (fun φ_ L_ v=>∃ (A0:Option Addr) (c0:Nat),v=.tuple #[.slice A0 r.1.length c0,jV r.2]/\L_=[.row A0 c0 3 1 (hD KL.encI r.1)])):=by
 unfold wFh at hm
 refine Gv.of Tryz.func24 Z Tryz.ntmps24 Tryz.results24 Z (sR gDx Z ?_)
 let B0:List Value:=[.slice aQ O.Starts.length aT,.slice aR O.Splits.length aU,.slice aS O.Clocks.length aV,.slice am O.Readings.length an]
 refine zn (cs:=B0) rfl rfl rfl rfl rfl rfl (by rfl) hS ?_
 intro W1 b2 di
 refine oA Z Z (oA Z Z (eN (CK.scope (sR (.fl 0 (.fx 1 (wHE (.nil)) .stop)) Z (oL Z (di.ldBA (j:=0) Z Z Z zo zZ (vs:=B0) Z Z) ?_)))))
 have q:=bnd hm
 obtain ⟨⟨x5,x6⟩,h7,a7⟩:=q
 try dsimp only at a7
 refine zD 0 Z Z Z Z (zE Z Z Tryz.call80 (zB Z zM) Z) di (fun hs=>wEZ O aQ aT aR aU aS aV am an W1 φ hs bU bV bW bX h7) (.inr Z) ?_
 rintro bt jc jw bf ay df de
 rcases x5 with _ | ap
 try dsimp only at a7
 obtain ⟨rfl,rfl⟩:=de
 have gT:sW w φ bt [.blk b2 27 B0] bf:=df
 refine oM Z Z (oR Z (zU Z Z (v:=.pointer none) Z) (oR Z (zU Z Z (v:=jV x6) Z) (oA Z Z (oA Z Z (eN (zL (zY (sR fL3 Z (oM Z Z (oR Z (ZP Z Z Z) (oA Z Z (eN (ifc a7 ?_ ?_)))))))))))))
 intro bI iH
 refine zj (zu (fun h=>h bI.out)) (sR gDy Z (oM Z Z ?_))
 cases iH
 intro bI iI
 refine cT Z bI (sR fL3 Z (oM Z Z (oA Z Z (oA Z Z (eN (zO (zc (zQ (wFs ?_)))))))))
 have gY:=gT.nilrow 3 1
 cases iI
 exact ⟨rfl,_,(wDp rfl rfl),bt,_,(gY.pick [0] _ (by decide) rfl),none,0,rfl,rfl⟩
 try dsimp only at a7
 obtain ⟨bC,co,cL,cp,cM,cq,cN,cr,cP,ac,af,ae,bv,bH,rfl,rfl,gh,gi,gj,gk,gp⟩:=de
 let B1:Res:=.blk bC 139 [.slice co ap.Race.Starts.length cL,.slice cp ap.Race.Splits.length cM,.slice cq ap.Race.Clocks.length cN,.slice cr ap.Race.Readings.length cP,.map (some ac),.slice bv ap.edges.length bH]
 have dl:sW w φ bt [B1,.obj ac (.map af ae),.row bv bH 184 7 (hD wAP ap.edges),.blk b2 27 B0] bf:=df
 refine oM Z Z (oR Z (zU Z Z (v:=.pointer (some ⟨bC,0,none⟩)) Z) (oR Z (zU Z Z (v:=jV x6) Z) (oA Z Z (oA Z Z (eN (zL (zY (sR fL3 Z (oM Z Z (oR Z (ZP Z Z Z) (oA Z Z (eN (ifc a7 ?_ ?_)))))))))))))
 intro bL iQ
 refine zj (zu (fun h=>h bL.out)) (sR gDy Z (oM Z Z ?_))
 have q:=dl.freezeR (k:=2) (n:=ap.edges.length) rfl (wAE (f:=wAP) (sz:=7) (fun _=>rfl) ap.edges) (by decide)
 obtain ⟨dF,ak,iV,ik⟩:=q
 have il:sW w φ dF [B1,.obj ac (.map af ae),.blk b2 27 B0] bf:=ik
 have gq:=gh.le ak
 have gt:=gi.le ak
 have gu:=gj.le ak
 have gv:=gk.le ak
 refine bnK iQ fun jE gw iR=>zD 2 Z Z Z Z (zE Z Z Tryz.call81 (zB Z zM) Z) il (fun hs=>wCf ap bC co cL cp cM cq cN cr cP ac af ae bv bH bf dF hs gq gt gu gv gp iV gw) (.inl Z) ?_
 rintro bs jh jB dO aE im ⟨rfl,rfl⟩
 have bR:sW w φ bs [B1,.obj ac (.map af ae),.blk b2 27 B0] dO:=im
 refine oA Z Z (eN (ifc iR ?_ ?_))
 intro bM iS
 refine ZD (congrArg hH bM.out) (sR fL2 Z (oA Z Z (oA Z Z (eN (zO (zc (zQ (wFs ?_))))))))
 have io:=bR.nilrow 3 1
 cases iS
 exact ⟨rfl,_,(wDp rfl rfl),bs,_,(io.pick [0] _ (by decide) rfl),none,0,rfl,rfl⟩
 intro bM cb
 refine zj (congrArg hH (hJ.2 bM.out)) (Zf (zm (zJ (sR fL1 Z (oA Z Z (eN (zL (sR fL4 Z (oR Z (zF Z Z zT Z Zr) (oL Z (bR.ldB (j:=2) Z Z Z yD (v:=.slice am O.Readings.length an) Z) (oR Z (zi Z Z ZN) (oM Z Z (eN (zY ?_))))))))))))))
 have q:=wCA cb
 obtain ⟨jv,bT⟩:=q
 have q:=wCT bT
 obtain ⟨ca,iz⟩:=q
 replace ca:=zN ca
 refine yc (fun aj _ σ_ w_=>∃ (φ_:PHeap),σ_ 25=jV (↑aj:Int)/\σ_ 1=.pointer (some ⟨b2,0,none⟩)/\σ_ 6=.slice none 0 0/\σ_ 24=jV (↑O.Readings.length:Int)/\PHeap.Le bs φ_/\sW w φ φ_ [B1,.obj ac (.map af ae),.blk b2 27 B0] w_) iz ?_ ?_ ?_
 exact ⟨bs,Z,Z,Z,Z,(zS _),bR⟩
 rintro aj ⟨⟩ jH jM jp bZ ⟨jb,bP,da,d5,db,bb,ip⟩ dx iw
 try dsimp only at dx
 have cV:Hid ((↑aj:Int) < (↑O.Readings.length:Int)):=zN (wBO bZ)
 replace bZ:=zN bZ
 have iA:Hid (w64 ((↑aj:Int) + 1)=(↑(aj + 1):Int)):=zN (by have h1:=ca.out;have h2:=cV.out;rw [wAb] <;> omega)
 refine sR fL1 Z (oR Z (ze Z bP db) (eN (zL (cT Z cV (kN (zL (zY (sR (.fl 0 gDp) Z (oM Z bP (zV (cs:=[jV 0]) Z Z Z Z Z ZG Z ip ?_))))))))))
 intro jq aL iq
 let B2:List Value:=[jV (↑aj:Int)]
 refine zX (j:=0) (vs:=B2) Z Z Z Z iq Z Z Z Z zC (zA Z) Z Z Z ?_
 intro bB ir
 have dm:sW w φ jb [.blk aL 3 B2,B1,.obj ac (.map af ae),.blk b2 27 B0] bB:=ir
 refine eN (sR gEk Z (oL Z (dm.ldBA (j:=3) Z Z da zo zZ (vs:=B0) Z Z) ?_))
 have q:=dm.freeze (k:=0) rfl
 obtain ⟨bo,a8,aM,gA⟩:=q
 replace aM:=Cl.of aM
 have gB:sW w φ bo [B1,.obj ac (.map af ae),.blk b2 27 B0] bB:=gA
 replace aM:Cl bo aL 0 B2:=aM
 refine oR Z (YC Z zM (zB Z zM)) ?_
 have d8:=bU.le ay
 have d9:=d8.le ak
 have eg:=d9.le aE
 have eh:=eg.le bb
 have ej:=eh.le a8
 have ek:=bV.le ay
 have en:=ek.le ak
 have eo:=en.le aE
 have ep:=eo.le bb
 have er:=ep.le a8
 have eu:=bW.le ay
 have ew:=eu.le ak
 have ey:=ew.le aE
 have ez:=ey.le bb
 have eA:=ez.le a8
 have eB:=bX.le ay
 have eC:=eB.le ak
 have eD:=eC.le aE
 have eE:=eD.le bb
 have eF:=eE.le a8
 have gy:FnOK Tryz.prog bo (.func (.func 83) #[] #[.pointer (some ⟨aL,0,none⟩)]) wMV wMW (fun x=>wDt x.1 x.2 (↑aj:Int)):=⟨83,[],[.pointer (some ⟨aL,0,none⟩)],rfl,Tryz.call83,fun cd w1 x y vs le hs ha hm=>by obtain rfl:=ha;exact wIE x.1 x.2 (↑aj:Int) aL w1 cd hs (aM.le le) hm⟩
 refine bnK dx fun ao eG iB=>zD 0 Z Z Z Z (zE Z Z Tryz.call82 (zB Z (zB Z zM)) Z) gB (fun hs=>wED O aQ aT aR aU aS aV am an (fun x=>wDt x.1 x.2 (↑aj:Int)) (.func (.func 83) #[] #[.pointer (some ⟨aL,0,none⟩)]) bB bo hs ej er eA eF gy eG) (.inr Z) ?_
 rintro i6 jd jx bz dy gC ⟨cA,cg,cH,cj,cI,cm,cJ,cn,cK,aP,aY,aX,bu,bF,rfl,rfl,eH,eI,eJ,eK,eL⟩
 let B3:Res:=.blk cA 139 [.slice cg ao.Race.Starts.length cH,.slice cj ao.Race.Splits.length cI,.slice cm ao.Race.Clocks.length cJ,.slice cn ao.Race.Readings.length cK,.map (some aP),.slice bu ao.edges.length bF]
 have gD:sW w φ i6 [B3,.obj aP (.map aY aX),.row bu bF 184 7 (hD wAP ao.edges),B1,.obj ac (.map af ae),.blk b2 27 B0] bz:=gC
 have q:=gD.freezeR (k:=2) (n:=ao.edges.length) rfl (wAE (f:=wAP) (sz:=7) (fun _=>rfl) ao.edges) (by decide)
 obtain ⟨dB,aN,iT,gE⟩:=q
 have gF:sW w φ dB [B3,.obj aP (.map aY aX),B1,.obj ac (.map af ae),.blk b2 27 B0] bz:=gE
 have eM:=eH.le aN
 have eO:=eI.le aN
 have eP:=eJ.le aN
 have eQ:=eK.le aN
 refine bnK iB fun jC eR iC=>zD 2 Z Z Z Z (zE Z Z Tryz.call81 (zB Z zM) Z) gF (fun hs=>wCf ao cA cg cH cj cI cm cJ cn cK aP aY aX bu bF bz dB hs eM eO eP eQ eL iT eR) (.inl Z) ?_
 rintro bp je jy dH dz gG ⟨rfl,rfl⟩
 have bQ:sW w φ bp [B3,.obj aP (.map aY aX),B1,.obj ac (.map af ae),.blk b2 27 B0] dH:=gG
 refine eN (ifc iC ?_ ?_)
 intro bG iD
 refine ZD (congrArg hH bG.out) (sR (.fl 0 (.fx 1 (.fl 2 (.fl 3 .nil)) .stop)) Z ?_)
 have eS:=aM.le dy
 have eU:=eS.le aN
 have eV:=eU.le dz
 refine oL Z (bQ.ldC (f:=0) eV (v:=jV (↑aj:Int)) Z Z zG Z) (ZR (pv:=[(0,jV (↑aj:Int))]) (zs:=[jV 0]) (cs:=B2) Z Z Z Z Z (wAG Z wAR) zK zC ZG Z Z Z Z Z bQ ?_)
 intro dI cC gH
 have gI:sW w φ bp [.row (some ⟨cC,0,none⟩) 1 3 1 (hD KL.encI [(↑aj:Int)]),B3,.obj aP (.map aY aX),B1,.obj ac (.map af ae),.blk b2 27 B0] dI:=gH
 refine oA Z Z (oA Z Z (eN (zO (zc (zQ ?_)))))
 have q:=wAS iD
 obtain ⟨iW,iE,dR⟩:=q
 have q:=wAt cb bT (iw iW dR)
 obtain rfl:=q
 refine zQ (zc (zQ (wFs ?_)))
 cases iE
 exact ⟨rfl,_,(wDp rfl rfl),bp,_,(gI.pick [0] _ (by decide) rfl),(some ⟨cC,0,none⟩),1,rfl,rfl⟩
 intro bG iF
 refine zj (congrArg hH (hJ.2 bG.out)) (Zf (zm (zJ (rR fL2 Z (oR Z (ZU (zh Z bP Z) (congrArg (jV) iA.out)) (oM Z Z (zf ?_)))))))
 have q:=hU iF
 obtain rfl:=q
 exact zJ ⟨rfl,_,rfl,⟨bp,rfl,da,d5,db,((((bb.trans a8).trans dy).trans aN).trans dz),(bQ.pick [2,3,4] _ (by decide) rfl)⟩⟩
 rintro ⟨⟩ jI ji ⟨dC,d6,cW,dV,dW,bj,dg⟩ it
 have bi:=wCs cb bT it
 try dsimp only at bi
 have dP:Hid (¬ ((↑(((↑O.Readings.length:Int):Int) - 0).toNat:Int) < (↑O.Readings.length:Int))):=zN (wAq)
 refine sR fL1 Z (oR Z (ze Z d6 dW) (eN (zL (cF Z dP (Za (zq (zq (ZW (zJ (zL (CK.label (zJ (zL (sR fL4 Z (oR Z (zF Z cW zT Z Zr) (oL Z (dg.ldB (j:=2) Z Z Z yD (v:=.slice am O.Readings.length an) Z) (oR Z (zi Z Z ZN) (oM Z Z (eN (zY ?_))))))))))))))))))))
 have q:=wCA bi
 obtain ⟨ju,bS⟩:=q
 have q:=wCT bS
 obtain ⟨b5,iy⟩:=q
 replace b5:=zN b5
 refine yc (fun ai _ σ_ w_=>∃ (φ_:PHeap),σ_ 38=jV (↑ai:Int)/\σ_ 1=.pointer (some ⟨b2,0,none⟩)/\σ_ 6=.slice none 0 0/\σ_ 37=jV (↑O.Readings.length:Int)/\PHeap.Le dC φ_/\sW w φ φ_ [B1,.obj ac (.map af ae),.blk b2 27 B0] w_) iy ?_ ?_ ?_
 exact ⟨dC,Z,cW,dV,Z,(zS _),dg⟩
 rintro ai ⟨⟩ jF jJ jj bY ⟨dD,bO,dX,dY,cX,a9,gJ⟩ dv iu
 try dsimp only at dv
 have cO:Hid ((↑ai:Int) < (↑O.Readings.length:Int)):=zN (wBO bY)
 replace bY:=zN bY
 have dq:Hid (w64 ((↑ai:Int) + 1)=(↑(ai + 1):Int)):=zN (by have h1:=b5.out;have h2:=cO.out;rw [wAb] <;> omega)
 refine sR fL1 Z (oR Z (ze Z bO cX) (eN (zL (cT Z cO (kN (zL (zY (sR (.fl 0 gDp) Z (oM Z bO (zV (cs:=[jV 0]) Z Z Z Z Z ZG Z gJ ?_))))))))))
 intro jk au gK
 let B4:List Value:=[jV (↑ai:Int)]
 refine zX (j:=0) (vs:=B4) Z Z Z Z gK Z Z Z Z zC (zA Z) Z Z Z ?_
 intro dJ gL
 have dh:sW w φ dD [.blk au 3 B4,B1,.obj ac (.map af ae),.blk b2 27 B0] dJ:=gL
 refine eN (sR gEk Z (oL Z (dh.ldB (j:=0) Z Z Z zG (v:=jV (↑ai:Int)) Z) (oR Z (ZU (zh Z Z Z) (congrArg (jV) dq.out)) (zV (cs:=[jV 0]) Z Z Z Z Z ZG Z dh ?_))))
 intro jl bD gM
 let B5:List Value:=[jV (↑(ai + 1):Int)]
 refine zX (j:=0) (vs:=B5) Z Z Z Z gM Z Z Z Z zC (zA Z) Z Z Z ?_
 intro cy gN
 have gO:sW w φ dD [.blk bD 3 B5,.blk au 3 B4,B1,.obj ac (.map af ae),.blk b2 27 B0] cy:=gN
 refine eN (zY ?_)
 have q:=gO.freeze (k:=1) rfl
 obtain ⟨bq,ba,aZ,gP⟩:=q
 replace aZ:=Cl.of aZ
 have gQ:sW w φ bq [.blk bD 3 B5,B1,.obj ac (.map af ae),.blk b2 27 B0] cy:=gP
 replace aZ:Cl bq au 0 B4:=aZ
 refine YI (fun ah σ_ w_=>∃ (φ_:PHeap) (av:Nat),σ_ 1=.pointer (some ⟨b2,0,none⟩)/\σ_ 6=.slice none 0 0/\σ_ 8=.pointer (some ⟨au,0,none⟩)/\σ_ 9=.pointer (some ⟨av,0,none⟩)/\σ_ 37=jV (↑O.Readings.length:Int)/\σ_ 38=jV (↑ai:Int)/\PHeap.Le bq φ_/\sW w φ φ_ [B1,.obj ac (.map af ae),.blk b2 27 B0,.blk av 3 [jV ah]] w_) dv ?_ ?_
 exact ⟨bq,bD,dX,dY,rfl,rfl,cX,bO,(zS _),(gQ.pick [1,2,3,0] _ (by decide) rfl)⟩
 rintro ah jG jK cz ⟨i8,av,bg,cY,bN,bh,cZ,c6,aJ,a5⟩ dw dp
 refine zL (sR fL5 Z (oL Z (a5.ldB (j:=3) Z Z bh zG (v:=jV ah) Z) (oR Z (zF Z bg zT Z Zr) (oL Z (a5.ldB (j:=2) Z Z Z yD (v:=.slice am O.Readings.length an) Z) (oR Z (zi Z Z ZN) (oR Z (ze Z Z Z) (eN ?_)))))))
 by_cases ax:ah < (↑O.Readings.length:Int)
 have dr:=dw;rw [if_pos ax] at dr;replace ax:=zN ax
 refine cT Z ax (kN (zL (zY (sR gEk Z (oL Z (a5.ldBA (j:=2) Z Z bg zo zZ (vs:=B0) Z Z) ?_)))))
 have q:=a5.freeze (k:=3) rfl
 obtain ⟨br,aO,aI,gR⟩:=q
 replace aI:=Cl.of aI
 have gS:sW w φ br [B1,.obj ac (.map af ae),.blk b2 27 B0] cz:=gR
 replace aI:Cl br av 0 [jV ah]:=aI
 refine oR Z (YC Z zM (zB bN (zB bh zM))) ?_
 have eW:=bU.le ay
 have eX:=eW.le ak
 have eY:=eX.le aE
 have eZ:=eY.le bj
 have e6:=eZ.le a9
 have e8:=e6.le ba
 have e9:=e8.le aJ
 have fb:=e9.le aO
 have fc:=bV.le ay
 have fd:=fc.le ak
 have ff:=fd.le aE
 have fg:=ff.le bj
 have fh:=fg.le a9
 have fj:=fh.le ba
 have fk:=fj.le aJ
 have fm:=fk.le aO
 have fq:=bW.le ay
 have ft:=fq.le ak
 have fu:=ft.le aE
 have fy:=fu.le bj
 have fz:=fy.le a9
 have fA:=fz.le ba
 have fB:=fA.le aJ
 have fC:=fB.le aO
 have fD:=bX.le ay
 have fE:=fD.le ak
 have fG:=fE.le aE
 have fH:=fG.le bj
 have fI:=fH.le a9
 have fJ:=fI.le ba
 have fK:=fJ.le aJ
 have fL:=fK.le aO
 have fM:=aZ.le aJ
 have dd:=fM.le aO
 have gz:FnOK Tryz.prog br (.func (.func 84) #[] #[.pointer (some ⟨au,0,none⟩),.pointer (some ⟨av,0,none⟩)]) wMV wMW (fun x=>wDu x.1 x.2 (↑ai:Int) ah):=⟨84,[],[.pointer (some ⟨au,0,none⟩),.pointer (some ⟨av,0,none⟩)],rfl,Tryz.call84,fun cd w1 x y vs le hs ha hm=>by obtain rfl:=ha;exact wIF x.1 x.2 (↑ai:Int) au ah av w1 cd hs (dd.le le) (aI.le le) hm⟩
 refine bnK dr fun aq fN iG=>zD 0 Z Z Z Z (zE Z Z Tryz.call82 (zB Z (zB Z zM)) Z) gS (fun hs=>wED O aQ aT aR aU aS aV am an (fun x=>wDu x.1 x.2 (↑ai:Int) ah) (.func (.func 84) #[] #[.pointer (some ⟨au,0,none⟩),.pointer (some ⟨av,0,none⟩)]) cz br hs fb fm fC fL gz fN) (.inr Z) ?_
 rintro i9 jf jz bA bm gU ⟨cD,ct,cQ,cu,cR,cw,cS,cx,cU,aF,aH,aG,bw,bJ,rfl,rfl,fO,fP,fQ,fR,fS⟩
 let B6:Res:=.blk cD 139 [.slice ct aq.Race.Starts.length cQ,.slice cu aq.Race.Splits.length cR,.slice cw aq.Race.Clocks.length cS,.slice cx aq.Race.Readings.length cU,.map (some aF),.slice bw aq.edges.length bJ]
 have gV:sW w φ i9 [B6,.obj aF (.map aH aG),.row bw bJ 184 7 (hD wAP aq.edges),B1,.obj ac (.map af ae),.blk b2 27 B0] bA:=gU
 have q:=gV.freezeR (k:=2) (n:=aq.edges.length) rfl (wAE (f:=wAP) (sz:=7) (fun _=>rfl) aq.edges) (by decide)
 obtain ⟨dE,az,iU,gW⟩:=q
 have gX:sW w φ dE [B6,.obj aF (.map aH aG),B1,.obj ac (.map af ae),.blk b2 27 B0] bA:=gW
 have fT:=fO.le az
 have fU:=fP.le az
 have fV:=fQ.le az
 have fW:=fR.le az
 refine bnK iG fun jD fY iJ=>zD 2 Z Z Z Z (zE Z Z Tryz.call81 (zB Z zM) Z) gX (fun hs=>wCf aq cD ct cQ cu cR cw cS cx cU aF aH aG bw bJ bA dE hs fT fU fV fW fS iU fY) (.inl Z) ?_
 rintro aW jg jA dK bn gZ ⟨rfl,rfl⟩
 have a6:sW w φ aW [B6,.obj aF (.map aH aG),B1,.obj ac (.map af ae),.blk b2 27 B0] dK:=gZ
 refine eN (ifc iJ ?_ ?_)
 intro bK iK
 refine ZD (congrArg hH bK.out) (sR gEg Z ?_)
 have fZ:=dd.le bm
 have f4:=fZ.le az
 have f5:=f4.le bn
 refine oL Z (a6.ldC (f:=0) f5 (v:=jV (↑ai:Int)) Z bN zG Z) ?_
 have f6:=aI.le bm
 have f8:=f6.le az
 have f9:=f8.le bn
 refine oL Z (a6.ldC (f:=0) f9 (v:=jV ah) Z bh zG Z) (ZR (pv:=[(0,jV (↑ai:Int)),(1,jV ah)]) (zs:=[jV 0,jV 0]) (cs:=[jV (↑ai:Int),jV ah]) Z Z Z Z Z (wAG Z (wAG Z wAR)) zK zC ZG Z Z Z Z Z a6 ?_)
 intro dL cE g7
 have g8:sW w φ aW [.row (some ⟨cE,0,none⟩) 2 3 1 (hD KL.encI [(↑ai:Int),ah]),B6,.obj aF (.map aH aG),B1,.obj ac (.map af ae),.blk b2 27 B0] dL:=g7
 refine oA Z Z (eN (Za (wIV (zq ?_))))
 have q:=wAS iK
 obtain ⟨iX,iL,dS⟩:=q
 have q:=dp iX dS
 obtain rfl:=q
 refine zq (wIV (wIV (zq ?_)))
 have q:=wAS iL
 obtain ⟨iY,iM,dT⟩:=q
 have q:=wAt bi bS (iu iY dT)
 obtain rfl:=q
 refine zq (ZW (zJ (zL (sR fL3 rfl (zw rfl rfl rfl rfl rfl rfl (za rfl rfl rfl rfl (fun _=>zi rfl rfl zK) (za rfl rfl rfl rfl (fun _=>Zy rfl rfl rfl) (eN (zj (zu (by decide)) (kN (sR fL3 rfl (zw rfl rfl rfl rfl rfl rfl (yP rfl rfl rfl rfl rfl rfl (yP rfl rfl rfl rfl rfl rfl (eN (zO (wFs ?_)))))))))))))))))
 cases iM
 exact ⟨rfl,_,(wDp rfl rfl),aW,_,(g8.pick [0] _ (by decide) rfl),(some ⟨cE,0,none⟩),2,rfl,rfl⟩
 intro bK iN
 refine zj (congrArg hH (hJ.2 bK.out)) (Zf (zm (zJ (zL (sR fL1 Z ?_)))))
 have ga:=aI.le bm
 have ge:=ga.le az
 have gg:=ge.le bn
 refine oL Z (a6.ldC (f:=0) gg (v:=jV ah) Z bh zG Z) (eN (rR gDv Z (zV (cs:=[jV 0]) Z Z Z Z Z ZG Z a6 ?_)))
 intro jm bE g9
 refine zX (j:=0) (vs:=[jV ah]) Z Z Z Z g9 Z Z Z Z zC (zA Z) Z Z Z ?_
 intro dM ib
 have dk:sW w φ aW [.blk bE 3 [jV ah],B6,.obj aF (.map aH aG),B1,.obj ac (.map af ae),.blk b2 27 B0] dM:=ib
 refine eN (rR (.fl 0 (.fl 1 (.fx 2 .nil .stop))) Z (oL Z (dk.ldB (j:=0) Z Z Z zG (v:=jV ah) Z) (oR Z (zh Z Z Z) (zX (j:=0) (vs:=[jV (w64 (ah + 1))]) Z Z Z Z dk Z Z Z Z zC (zA Z) Z Z Z ?_))))
 intro dN ic
 have ie:sW w φ aW [.blk bE 3 [jV (w64 (ah + 1))],B6,.obj aF (.map aH aG),B1,.obj ac (.map af ae),.blk b2 27 B0] dN:=ic
 refine zf ?_
 have q:=hU iN
 obtain rfl:=q
 exact zJ ⟨rfl,_,rfl,⟨aW,bE,bg,cY,bN,rfl,cZ,c6,((((aJ.trans aO).trans bm).trans az).trans bn),(ie.pick [3,4,5,0] _ (by decide) rfl)⟩⟩
 have dt:=dw;rw [if_neg ax] at dt;replace ax:=zN ax
 refine cF Z ax (Za (zq ?_))
 have q:=wAS dt
 obtain ⟨iZ,iO,dU⟩:=q
 have q:=dp iZ dU
 obtain rfl:=q
 refine zq (ZW (zm (zJ (rR fL2 Z (oR Z (ZU (zh Z c6 Z) (congrArg (jV) dq.out)) (oM Z Z (zf ?_)))))))
 have q:=hU iO
 obtain rfl:=q
 exact zJ ⟨rfl,_,rfl,⟨i8,rfl,bg,cY,cZ,((a9.trans ba).trans aJ),(a5.pick [0,1,2] _ (by decide) rfl)⟩⟩
 rintro ⟨⟩ jL jo ⟨ja,d7,jr,dZ,d4,jt,ig⟩ iv
 have du:=wCs bi bS iv
 try dsimp only at du
 have dQ:Hid (¬ ((↑(((↑O.Readings.length:Int):Int) - 0).toNat:Int) < (↑O.Readings.length:Int))):=zN (wAq)
 refine sR fL1 rfl (za rfl rfl rfl rfl (fun _=>ze rfl d7 d4) (eN (zL (cF Z dQ (Za (zq (zq (ZW (zJ (zL (sR fL3 rfl (zw rfl rfl rfl rfl rfl dZ (za rfl rfl rfl rfl (fun _=>zi rfl rfl zK) (za rfl rfl rfl rfl (fun _=>Zy rfl rfl rfl) (eN (ZD (Zd (by decide)) (sR fL2 rfl (yP rfl rfl rfl rfl rfl rfl (yP rfl rfl rfl rfl rfl rfl (eN (zO (zQ (wFs ?_)))))))))))))))))))))))
 have ii:=ig.nilrow 3 1
 cases du
 exact ⟨rfl,_,(wDp rfl rfl),ja,_,(ii.pick [0] _ (by decide) rfl),none,0,rfl,rfl⟩
 intro bL iP
 refine cT Z bL (sR fL3 Z (oM Z Z (oA Z Z (oA Z Z (eN (zO (zc (zQ (wFs ?_)))))))))
 have ij:=dl.nilrow 3 1
 cases iP
 exact ⟨rfl,_,(wDp rfl rfl),bt,_,(ij.pick [0] _ (by decide) rfl),none,0,rfl,rfl⟩
end Go.Proofs.YtlnfbjphfoipaaaGreat
namespace Go.Proofs.YtlnfbjphfoipaaaGreat
open Go.KL
set_option maxHeartbeats 4000000
theorem wIG (p0:Int) (O:wAK) (p2:Int) (ae:Nat) (w:World) (φ:PHeap) (hS:St0 w φ []) (af:Cl φ ae 0 [jV p2]) {r:Bool} (hm:wDv p0 O p2=some r):Gv Tryz.prog 86 [jV p0,.agg #[jV O.Skier,jV O.Mat,jV O.Clock,jV O.Time],.pointer (some ⟨ae,0,none⟩)] w (wCG w [] φ (fun φ_ L_ v=>v=.bool r/\L_=[])):=by
 unfold wDv at hm
 refine Gv.of Tryz.func86 rfl Tryz.ntmps86 Tryz.results86 rfl (sR gDu rfl (zn (cs:=[jV O.Skier,jV O.Mat,jV O.Clock,jV O.Time]) rfl rfl rfl rfl rfl rfl (by rfl) hS ?_))
 intro W1 b2 aa
 refine oA Z Z (eN (sR fL5 Z (oR Z (zF Z Z Zp Z zC) (oL Z (aa.ldB (j:=0) Z Z Z zG (v:=jV O.Skier) Z) (oL Z (aa.ldC (f:=0) af (v:=jV p2) Z Z zG Z) (oR Z (Zy Z Z Z) (oA Z Z (eN (zO ?_)))))))))
 first | (obtain rfl:=hU hm) | cases hm
 exact ⟨rfl,_,(ZA rfl),φ,_,(aa.pick [] _ (by decide) rfl),rfl,rfl⟩
theorem wJK (O:wAA) (az:Option Addr) (aE:Nat) (aK:Option Addr) (aN:Nat) (aL:Option Addr) (aO:Nat) (aM:Option Addr) (aP:Nat) (w:World) (φ:PHeap) (hS:St0 w φ []) (bU:Sl φ 1 az aE O.Starts.length (hD KL.encI O.Starts)) (bV:Sl φ 2 aK aN O.Splits.length (hD wAD O.Splits)) (bW:Sl φ 3 aL aO O.Clocks.length (hD wAF O.Clocks)) (bX:Sl φ 4 aM aP O.Readings.length (hD wAB O.Readings)) {r:(List Int) × Int} (hm:wFi O=some r):Gv Tryz.prog 27 [.agg #[.slice az O.Starts.length aE,.slice aK O.Splits.length aN,.slice aL O.Clocks.length aO,.slice aM O.Readings.length aP]] w (wCG w [] φ (fun φ_ L_ v=>∃ (A0:Option Addr) (c0:Nat),v=.tuple #[.slice A0 r.1.length c0,jV r.2]/\L_=[.row A0 c0 3 1 (hD KL.encI r.1)])):=by
 unfold wFi at hm
 refine Gv.of Tryz.func27 Z Tryz.ntmps27 Tryz.results27 Z (sR gDx Z ?_)
 let B0:List Value:=[.slice az O.Starts.length aE,.slice aK O.Splits.length aN,.slice aL O.Clocks.length aO,.slice aM O.Readings.length aP]
 refine zn (cs:=B0) rfl rfl rfl rfl rfl rfl (by rfl) hS ?_
 intro W1 b2 bS
 refine oA Z Z (oA Z Z (eN (sR (.fl 0 (.fx 1 (wHE (.nil)) .stop)) Z (oL Z (bS.ldBA (j:=0) Z Z Z zo zZ (vs:=B0) Z Z) ?_))))
 have q:=bnd hm
 obtain ⟨⟨x5,x6⟩,h7,aI⟩:=q
 try dsimp only at aI
 refine zD 0 Z Z Z Z (zE Z Z Tryz.call80 (zB Z zM) Z) bS (fun hs=>wEZ O az aE aK aN aL aO aM aP W1 φ hs bU bV bW bX h7) (.inr Z) ?_
 rintro aY ez eI aS aU bQ bO
 rcases x5 with _ | aj
 try dsimp only at aI
 obtain ⟨rfl,rfl⟩:=bO
 have dM:sW w φ aY [.blk b2 27 B0] aS:=bQ
 refine oM Z Z (oR Z (zU Z Z (v:=.pointer none) Z) (oR Z (zU Z Z (v:=jV x6) Z) (oA Z Z (oA Z Z (eN (zL (zY (sR fL3 Z (oM Z Z (oR Z (ZP Z Z Z) (oA Z Z (eN (ifc aI ?_ ?_)))))))))))))
 intro bc d5
 refine zj (zu (fun h=>h bc.out)) (sR gDy Z (oM Z Z ?_))
 cases d5
 intro bc d6
 refine cT Z bc (sR fL3 Z (oM Z Z (oA Z Z (oA Z Z (eN (zO (zc (zQ ?_))))))))
 have dN:=dM.nilrow 3 1
 cases d6
 exact ⟨rfl,_,(wDp rfl rfl),aY,_,(dN.pick [0] _ (by decide) rfl),none,0,rfl,rfl⟩
 try dsimp only at aI
 obtain ⟨a8,bt,bI,bv,bJ,bw,bK,bz,bM,ae,ag,af,a5,bb,rfl,rfl,dh,di,dk,dl,dm⟩:=bO
 let B1:Res:=.blk a8 139 [.slice bt aj.Race.Starts.length bI,.slice bv aj.Race.Splits.length bJ,.slice bw aj.Race.Clocks.length bK,.slice bz aj.Race.Readings.length bM,.map (some ae),.slice a5 aj.edges.length bb]
 have bT:sW w φ aY [B1,.obj ae (.map ag af),.row a5 bb 184 7 (hD wAP aj.edges),.blk b2 27 B0] aS:=bQ
 refine oM Z Z (oR Z (zU Z Z (v:=.pointer (some ⟨a8,0,none⟩)) Z) (oR Z (zU Z Z (v:=jV x6) Z) (oA Z Z (oA Z Z (eN (zL (zY (sR fL3 Z (oM Z Z (oR Z (ZP Z Z Z) (oA Z Z (eN (ifc aI ?_ ?_)))))))))))))
 intro bd d7
 refine zj (zu (fun h=>h bd.out)) (sR gDy Z (oM Z Z ?_))
 have q:=bT.freezeR (k:=2) (n:=aj.edges.length) rfl (wAE (f:=wAP) (sz:=7) (fun _=>rfl) aj.edges) (by decide)
 obtain ⟨cb,ak,ek,dO⟩:=q
 have dP:sW w φ cb [B1,.obj ae (.map ag af),.blk b2 27 B0] aS:=dO
 have dp:=dh.le ak
 have dq:=di.le ak
 have dr:=dk.le ak
 have dt:=dl.le ak
 refine bnK d7 fun eO du d8=>zD 2 Z Z Z Z (zE Z Z Tryz.call81 (zB Z zM) Z) dP (fun hs=>wCf aj a8 bt bI bv bJ bw bK bz bM ae ag af a5 bb aS cb hs dp dq dr dt dm ek du) (.inl Z) ?_
 rintro aX eC eL cm aV dQ ⟨rfl,rfl⟩
 have bi:sW w φ aX [B1,.obj ae (.map ag af),.blk b2 27 B0] cm:=dQ
 refine oA Z Z (eN (ifc d8 ?_ ?_))
 intro be d9
 refine ZD (congrArg hH be.out) (sR fL2 Z (oA Z Z (oA Z Z (eN (zO (zc (zQ ?_)))))))
 have dR:=bi.nilrow 3 1
 cases d9
 exact ⟨rfl,_,(wDp rfl rfl),aX,_,(dR.pick [0] _ (by decide) rfl),none,0,rfl,rfl⟩
 intro be eg
 refine zj (congrArg hH (hJ.2 be.out)) (Zf (zm (zJ (sR fL1 Z (oA Z Z (eN (zL (sR fL4 Z (oR Z (zF Z Z zT Z zg) (oL Z (bi.ldB (j:=2) Z Z Z zr (v:=.slice az O.Starts.length aE) Z) (oR Z (zi Z Z zK) (oM Z Z (eN (zY (bnK eg fun eQ dT eh=>?_)))))))))))))))
 have q:=wCC dT
 obtain ⟨bm,dU⟩:=q
 replace bm:=zN bm
 refine CK.forN' (fun ab aJ σ_ w_=>∃ (φ_:PHeap) (aF:Option Addr) (aH:Nat),σ_ 24=jV (↑ab:Int)/\σ_ 1=.pointer (some ⟨b2,0,none⟩)/\σ_ 6=.slice aF aJ.length aH/\σ_ 23=jV (↑O.Starts.length:Int)/\PHeap.Le aX φ_/\sW w φ φ_ [B1,.obj ae (.map ag af),.blk b2 27 B0,.row aF aH 3 1 (hD KL.encI aJ)] w_) dU ?_ ?_ ?_
 have dS:=bi.nilrow 3 1
 exact ⟨aX,none,0,rfl,rfl,rfl,rfl,(zS _),(dS.pick [1,2,3,0] _ (by decide) rfl)⟩
 rintro ab aJ eP eS eF bj ⟨eu,aF,aH,aT,bf,bN,bg,ax,dx⟩ en
 have bD:Hid ((↑ab:Int) < (↑O.Starts.length:Int)):=zN (wBO bj)
 replace bj:=zN bj
 have bY:Hid (w64 ((↑ab:Int) + 1)=(↑(ab + 1):Int)):=zN (by have h1:=bm.out;have h2:=bD.out;rw [wAb] <;> omega)
 refine sR fL1 Z (oR Z (ze Z aT bg) (eN (zL (cT Z bD (kN (zL (zY (sR (.fl 0 gDp) Z (oM Z aT (zV (cs:=[jV 0]) Z Z Z Z Z ZG Z dx ?_))))))))))
 intro eD ap dy
 let B2:List Value:=[jV (↑ab:Int)]
 refine zX (j:=0) (vs:=B2) Z Z Z Z dy Z Z Z Z zC (zA Z) Z Z Z ?_
 intro a6 dz
 let B3:Res:=.row aF aH 3 1 (hD KL.encI aJ)
 have bP:sW w φ eu [.blk ap 3 B2,B1,.obj ae (.map ag af),.blk b2 27 B0,B3] a6:=dz
 refine eN (sR (.fl 0 (.fl 1 gEb)) Z (oL Z (bP.ldBA (j:=3) Z Z bf zo zZ (vs:=B0) Z Z) ?_))
 have q:=bP.freeze (k:=0) rfl
 obtain ⟨aW,ay,av,dA⟩:=q
 replace av:=Cl.of av
 have dB:sW w φ aW [B1,.obj ae (.map ag af),.blk b2 27 B0,B3] a6:=dA
 replace av:Cl aW ap 0 B2:=av
 refine oR Z (YC Z zM (zB Z zM)) ?_
 have cu:=bU.le aU
 have cw:=cu.le ak
 have cx:=cw.le aV
 have cy:=cx.le ax
 have cz:=cy.le ay
 have cA:=bV.le aU
 have cC:=cA.le ak
 have cD:=cC.le aV
 have cE:=cD.le ax
 have cG:=cE.le ay
 have cH:=bW.le aU
 have cI:=cH.le ak
 have cJ:=cI.le aV
 have cK:=cJ.le ax
 have cL:=cK.le ay
 have cM:=bX.le aU
 have cN:=cM.le ak
 have cO:=cN.le aV
 have cP:=cO.le ax
 have cQ:=cP.le ay
 have dw:FnOK Tryz.prog aW (.func (.func 86) #[] #[.pointer (some ⟨ap,0,none⟩)]) wMV wMW (fun x=>wDv x.1 x.2 (↑ab:Int)):=⟨86,[],[.pointer (some ⟨ap,0,none⟩)],rfl,Tryz.call86,fun er w1 x y vs le hs ha hm=>by obtain rfl:=ha;exact wIG x.1 x.2 (↑ab:Int) ap w1 er hs (av.le le) hm⟩
 refine bnK en fun ai cR dV=>zD 0 Z Z Z Z (zE Z Z Tryz.call82 (zB Z (zB Z zM)) Z) dB (fun hs=>wED O az aE aK aN aL aO aM aP (fun x=>wDv x.1 x.2 (↑ab:Int)) (.func (.func 86) #[] #[.pointer (some ⟨ap,0,none⟩)]) a6 aW hs cz cG cL cQ dw cR) (.inr Z) ?_
 rintro ew eA eJ a7 bn dC ⟨bB,bq,bE,br,bF,bs,bG,bu,bH,an,au,aq,aZ,a9,rfl,rfl,cS,cU,cV,cW,cX⟩
 let B4:Res:=.blk bB 139 [.slice bq ai.Race.Starts.length bE,.slice br ai.Race.Splits.length bF,.slice bs ai.Race.Clocks.length bG,.slice bu ai.Race.Readings.length bH,.map (some an),.slice aZ ai.edges.length a9]
 have dD:sW w φ ew [B4,.obj an (.map au aq),.row aZ a9 184 7 (hD wAP ai.edges),B1,.obj ae (.map ag af),.blk b2 27 B0,B3] a7:=dC
 refine oR Z (YC Z (zB Z zM) zM) (oA Z Z (eN (sR gDq Z (oM Z Z ?_))))
 have q:=dD.freezeR (k:=2) (n:=ai.edges.length) rfl (wAE (f:=wAP) (sz:=7) (fun _=>rfl) ai.edges) (by decide)
 obtain ⟨ca,am,ej,dE⟩:=q
 have dF:sW w φ ca [B4,.obj an (.map au aq),B1,.obj ae (.map ag af),.blk b2 27 B0,B3] a7:=dE
 have cY:=cS.le am
 have cZ:=cU.le am
 have c6:=cV.le am
 have da:=cW.le am
 refine bnK dV fun eM db dW=>zD 2 Z Z Z Z (zE Z Z Tryz.call81 zM Z) dF (fun hs=>wCf ai bB bq bE br bF bs bG bu bH an au aq aZ a9 a7 ca hs cY cZ c6 da cX ej db) (.inl Z) ?_
 rintro aQ eB eK cf bo dG ⟨rfl,rfl⟩
 have bh:sW w φ aQ [B4,.obj an (.map au aq),B1,.obj ae (.map ag af),.blk b2 27 B0,B3] cf:=dG
 refine eN (ifc dW ?_ ?_)
 intro ba dX
 refine ZD (congrArg hH ba.out) (rR gEl Z (oM Z bN ?_))
 have dd:=av.le bn
 have de:=dd.le am
 have df:=de.le bo
 refine oL Z (bh.ldC (f:=0) df (v:=jV (↑ab:Int)) Z Z zG Z) (ZR (pv:=[(0,jV (↑ab:Int))]) (zs:=[jV 0]) (cs:=B2) Z Z Z Z Z (wAG Z wAR) zK zC ZG Z Z Z Z Z bh ?_)
 intro cg cn dH
 let B5:Res:=.row (some ⟨cn,0,none⟩) 1 3 1 (hD KL.encI [(↑ab:Int)])
 have bR:sW w φ aQ [B5,B4,.obj an (.map au aq),B1,.obj ae (.map ag af),.blk b2 27 B0,B3] cg:=dH
 refine bnK dX fun bZ dg dY=>yb (j:=6) (enc:=KL.encI) (xs:=aJ) (ys:=[(↑ab:Int)]) (zs:=bZ) rfl rfl rfl rfl rfl Tryz.underlying22 wKj rfl rfl rfl rfl rfl rfl bR rfl rfl rfl (bR.srcR (j:=0) rfl (by decide) (wAE (f:=KL.encI) (sz:=1) (fun _=>rfl) [(↑ab:Int)])) (fun _=>rfl) (fun _=>rfl) dg rfl ?_
 intro bx bL cj dI
 have dJ:sW w φ aQ [B5,B4,.obj an (.map au aq),B1,.obj ae (.map ag af),.blk b2 27 B0,.row bx bL 3 1 (hD KL.encI bZ)] cj:=dI
 refine oA Z Z (zf (zm (zJ (rR fL2 Z (oR Z (ZU (zh Z aT Z) (congrArg (jV) bY.out)) (oM Z Z (zf ?_)))))))
 cases dY
 exact zJ ⟨rfl,⟨aQ,bx,bL,rfl,bf,rfl,bg,((((ax.trans ay).trans bn).trans am).trans bo),(dJ.pick [3,4,5,6] _ (by decide) rfl)⟩⟩
 intro ba dZ
 refine zj (congrArg hH (hJ.2 ba.out)) (Zf (zm (zJ (rR fL2 Z (oR Z (ZU (zh Z aT Z) (congrArg (jV) bY.out)) (oM Z Z (zf ?_)))))))
 cases dZ
 exact zJ ⟨rfl,⟨aQ,aF,aH,rfl,bf,bN,bg,((((ax.trans ay).trans bn).trans am).trans bo),(bh.pick [2,3,4,5] _ (by decide) rfl)⟩⟩
 rintro eR eE ⟨ey,cc,co,ct,eG,cq,cr,eH,dK⟩
 have cp:Hid (¬ ((↑(((↑O.Starts.length:Int):Int) - 0).toNat:Int) < (↑O.Starts.length:Int))):=zN (wAq)
 refine sR fL1 Z (oR Z (ze Z ct cr) (eN (zL (cF Z cp (Za (zq (zq (ZW (zJ (sR fL3 Z (oM Z cq (oA Z Z (oA Z Z (eN (zO ?_)))))))))))))))
 cases eh
 exact ⟨rfl,_,(wDp rfl rfl),ey,_,(dK.pick [3] _ (by decide) rfl),cc,co,rfl,rfl⟩
 intro bd d4
 refine cT Z bd (sR fL3 Z (oM Z Z (oA Z Z (oA Z Z (eN (zO (zc (zQ ?_))))))))
 have dL:=bT.nilrow 3 1
 cases d4
 exact ⟨rfl,_,(wDp rfl rfl),aY,_,(dL.pick [0] _ (by decide) rfl),none,0,rfl,rfl⟩
theorem wDW (O:List Int) (an:Option Addr) (ap:Nat) (p1:List Int) (ao:Option Addr) (aq:Nat) (w:World) (φ:PHeap) (hS:St0 w φ []) (aW:Sl φ 1 an ap O.length (hD KL.encI O)) (aX:Sl φ 1 ao aq p1.length (hD KL.encI p1)) {r:Bool} (hm:wBe O p1=some r):Gv Tryz.prog 26 [.slice an O.length ap,.slice ao p1.length aq] w (wCG w [] φ (fun φ_ L_ v=>v=.bool r/\L_=[])):=by
 unfold wBe at hm
 refine Gv.of Tryz.func26 Z Tryz.ntmps26 Tryz.results26 Z (sR fL1 Z (oA Z Z (eN (zL (sR fL5 Z (oM Z Z (oR Z (zi Z Z zK) (oM Z Z (oR Z (zi Z Z zK) (oR Z (ZP Z Z Z) (eN ?_)))))))))))
 by_cases c1:(↑O.length:Int)=(↑p1.length:Int)
 have af:=hm;rw [if_pos c1] at af;replace c1:=zN c1
 refine zj (zu (fun h=>h c1.out)) (kN (zL (sR fL3 Z (oM Z Z (oR Z (zi Z Z zK) (oM Z Z (eN (zY ?_))))))))
 have q:=wCA af
 obtain ⟨r5,ai⟩:=q
 have q:=wCT ai
 obtain ⟨ak,a5⟩:=q
 replace ak:=zN ak
 refine yc (fun k4 _ σ_ w_=>∃ (φ_:PHeap),σ_ 13=jV (↑k4:Int)/\σ_ 0=.slice an O.length ap/\σ_ 1=.slice ao p1.length aq/\σ_ 12=jV (↑O.length:Int)/\PHeap.Le φ φ_/\sW w φ φ_ [] w_) a5 ?_ ?_ ?_
 exact ⟨φ,Z,Z,Z,Z,(zS _),hS⟩
 rintro k4 ⟨⟩ bs bu au aj ⟨aJ,ah,ax,ay,az,am,aU⟩ aI aY
 try dsimp only at aI
 have av:Hid ((↑k4:Int) < (↑O.length:Int)):=zN (wBO aj)
 replace aj:=zN aj
 have a6:Hid (w64 ((↑k4:Int) + 1)=(↑(k4 + 1):Int)):=zN (by have h1:=ak.out;have h2:=av.out;rw [wAb] <;> omega)
 refine sR fL1 rfl (za rfl rfl rfl rfl (fun _=>ze rfl ah az) (eN (zL (cT Z av (kN (zL (zY (sR fL2 rfl (zw rfl rfl rfl rfl rfl ah (yP rfl rfl rfl rfl rfl rfl (eN (zL (zx zt [3,3,3,1,3,3,3,1,3] fL9 (by kernel_rfl) ?_)))))))))))))
 have ac:=aU.drew
 generalize hw_W25:({ au with drawn:=au.drawn + 1 }:World)=bg at ac ⊢
 refine oM Z ax (oM Z Z (bnK aI fun bd aE a7=>?_))
 have aO:=aW.le am
 have q:=aO.el (fun _=>rfl) (wAe aE)
 obtain ⟨bi,bp,aQ,aS⟩:=q
 refine oR Z (Zc Z Z aQ Z zK zC (wCa aE)) (oL Z (ac.ldC (f:=0) aS (v:=jV bd) Z Z zG Z) (oM Z ay (oM Z Z (bnK a7 fun be aF a8=>?_))))
 have aP:=aX.le am
 have q:=aP.el (fun _=>rfl) (wAe aF)
 obtain ⟨bj,bq,aR,aT⟩:=q
 refine oR Z (Zc Z Z aR Z zK zC (wCa aF)) (oL Z (ac.ldC (f:=0) aT (v:=jV be) Z Z zG Z) (oR Z (ZP Z Z Z) (eN (ifc a8 ?_ ?_))))
 intro ag a9
 refine zj (zu (fun h=>h ag.out)) (Zf (zm (zJ (rR fL2 Z (oR Z (ZU (zh Z ah Z) (congrArg (jV) a6.out)) (oM Z Z (zf ?_)))))))
 have q:=hU a9
 obtain rfl:=q
 exact zJ ⟨Z,_,Z,⟨aJ,Z,ax,ay,az,am,ac⟩⟩
 intro ag ba
 refine cT Z ag (sR fL1 Z (oA Z Z (eN (zO (zc (zQ ?_))))))
 have q:=wAS ba
 obtain ⟨bc,bb,aL⟩:=q
 have q:=wAt af ai (aY bc aL)
 obtain rfl:=q
 refine zQ (zc (zQ ?_))
 have hE:=hU bb;first | subst r | cases hE
 exact ⟨Z,_,(ZA Z),aJ,_,ac,Z,Z⟩
 rintro ⟨⟩ bt bh ⟨bf,aN,bm,bn,aM,bo,aV⟩ aZ
 have aG:=wCs af ai aZ
 try dsimp only at aG
 have aK:Hid (¬ ((↑(((↑O.length:Int):Int) - 0).toNat:Int) < (↑O.length:Int))):=zN (wAq)
 refine sR fL1 Z (oR Z (ze Z aN aM) (eN (zL (cF Z aK (Za (zq (zq (ZW (zJ (sR fL1 Z (oA Z Z (eN (zO ?_)))))))))))))
 have hE:=hU aG;first | subst r | cases hE
 exact ⟨Z,_,(ZA Z),bf,_,aV,Z,Z⟩
 have aH:=hm;rw [if_neg c1] at aH;replace c1:=zN c1
 refine cT Z c1 (sR fL1 Z (oA Z Z (eN (zO (zQ ?_)))))
 have hE:=hU aH;first | subst r | cases hE
 exact ⟨Z,_,(ZA Z),φ,_,hS,Z,Z⟩
theorem wCv  (w:World) (φ:PHeap) (hS:St0 w φ [])  {r:Bool} (hm:wBI =some r):Gv Tryz.prog 9 [] w (wCG w [] φ (fun φ_ L_ v=>v=.bool r/\L_=[])):=by
 unfold wBI at hm
 refine Gv.of Tryz.func9 Z Tryz.ntmps9 Tryz.results9 Z (sR fL1 Z (oA Z Z (eN (sR (.fx 0 (.fx 1 (.fx 2 (wKB gEc) .stop) .stop) .stop) Z (bnK hm fun x1 h2 qp=>zD 0 Z Z Z Z (zE Z Z Tryz.call56 zM Z) hS (fun hs=>wBw w φ hs h2) (.inr Z) ?_)))))
 rintro gL L5 v6 W7 u9 pZ ⟨cN,eE,cO,eF,cP,eG,cQ,eL,rfl,rfl⟩
 let B0:Res:=.row cQ eL 115 4 (hD wAB x1.Readings)
 let B1:Res:=.row cP eG 112 3 (hD wAF x1.Clocks)
 let B2:Res:=.row cO eF 39 2 (hD wAD x1.Splits)
 let B3:Res:=.row cN eE 3 1 (hD KL.encI x1.Starts)
 have me:sW w φ gL [B3,B2,B1,B0] W7:=pZ
 refine bnK qp fun sM jb qm=>zD 0 Z Z Z Z (zE Z Z Tryz.call57 (zB Z (zB Z zM)) Z) me (fun hs=>wBl 0 2 W7 gL hs jb) (.inr Z) ?_
 rintro s6 tV vq bh uI mH ⟨rfl,rfl⟩
 have mJ:sW w φ s6 [B3,B2,B1,B0] bh:=mH
 have q:=mJ.freezeR (k:=0) (n:=x1.Starts.length) rfl (wAE (f:=KL.encI) (sz:=1) (fun _=>rfl) x1.Starts) (by decide)
 obtain ⟨tb,uK,rH,mN⟩:=q
 have mR:sW w φ tb [B2,B1,B0] bh:=mN
 have q:=mR.freezeR (k:=0) (n:=x1.Splits.length) rfl (wAE (f:=wAD) (sz:=2) (fun _=>rfl) x1.Splits) (by decide)
 obtain ⟨th,sw,rM,m0⟩:=q
 have m5:sW w φ th [B1,B0] bh:=m0
 have q:=m5.freezeR (k:=0) (n:=x1.Clocks.length) rfl (wAE (f:=wAF) (sz:=3) (fun _=>rfl) x1.Clocks) (by decide)
 obtain ⟨tn,f8,rS,n8⟩:=q
 have oa:sW w φ tn [B0] bh:=n8
 have q:=oa.freezeR (k:=0) (n:=x1.Readings.length) rfl (wAE (f:=wAB) (sz:=4) (fun _=>rfl) x1.Readings) (by decide)
 obtain ⟨gN,cz,rV,oj⟩:=q
 have om:sW w φ gN [] bh:=oj
 have jL:=rH.le sw
 have jM:=jL.le f8
 have jP:=jM.le cz
 have jQ:=rM.le f8
 have jR:=jQ.le cz
 have jS:=rS.le cz
 have q:=bnd qm
 obtain ⟨⟨bF,cH⟩,jU,fR⟩:=q
 try dsimp only at fR
 refine zD 0 Z Z Z Z (zE Z Z Tryz.call12 (zB Z (zB Z zM)) Z) om (fun hs=>wHG x1 cN eE cO eF cP eG cQ eL sM bh gN hs jP jR jS rV jU) (.inr Z) ?_
 rintro cL ub vD io uW oX ⟨rfl,rfl⟩
 have o5:sW w φ cL [] io:=oX
 refine oM Z Z (oR Z (zU Z Z (v:=.agg #[jV bF.Lo,jV bF.Hi]) Z) (oR Z (zU Z Z (v:=jV cH) Z) ?_))
 let B4:List Value:=[jV 0,jV 0]
 refine zV (cs:=B4) Z Z Z Z Z ZX Z o5 ?_
 intro uu aa pg
 let O:List Value:=[jV bF.Lo,jV bF.Hi]
 refine zX (j:=0) (vs:=O) Z Z Z Z pg Z Z Z Z zz (zA Z) Z Z Z ?_
 intro er pn
 have py:sW w φ cL [.blk aa 39 O] er:=pn
 refine oA Z Z (eN (sR (.fx 0 (.fx 1 (.fx 2 (wKB gEc) .stop) .stop) .stop) Z (bnK fR fun ay lv qV=>zD 0 Z Z Z Z (zE Z Z Tryz.call56 zM Z) py (fun hs=>wBw er cL hs lv) (.inr Z) ?_)))
 rintro g7 uj vJ ew vb pR ⟨dE,fB,dF,fC,dG,fD,dH,fE,rfl,rfl⟩
 let B6:Res:=.row dH fE 115 4 (hD wAB ay.Readings)
 let B7:Res:=.row dG fD 112 3 (hD wAF ay.Clocks)
 let B8:Res:=.row dF fC 39 2 (hD wAD ay.Splits)
 let B9:Res:=.row dE fB 3 1 (hD KL.encI ay.Starts)
 have qe:sW w φ g7 [B9,B8,B7,B6,.blk aa 39 O] ew:=pR
 refine bnK qV fun sT iM qf=>zD 0 Z Z Z Z (zE Z Z Tryz.call57 (zB Z (zB Z zM)) Z) qe (fun hs=>wBl 0 1 ew g7 hs iM) (.inr Z) ?_
 rintro sU tN vh bf uw lI ⟨rfl,rfl⟩
 have lJ:sW w φ sU [B9,B8,B7,B6,.blk aa 39 O] bf:=lI
 have q:=lJ.freezeR (k:=0) (n:=ay.Starts.length) rfl (wAE (f:=KL.encI) (sz:=1) (fun _=>rfl) ay.Starts) (by decide)
 obtain ⟨sV,ux,rn,lK⟩:=q
 have lL:sW w φ sV [B8,B7,B6,.blk aa 39 O] bf:=lK
 have q:=lL.freezeR (k:=0) (n:=ay.Splits.length) rfl (wAE (f:=wAD) (sz:=2) (fun _=>rfl) ay.Splits) (by decide)
 obtain ⟨sX,sr,rp,lM⟩:=q
 have lN:sW w φ sX [B7,B6,.blk aa 39 O] bf:=lM
 have q:=lN.freezeR (k:=0) (n:=ay.Clocks.length) rfl (wAE (f:=wAF) (sz:=3) (fun _=>rfl) ay.Clocks) (by decide)
 obtain ⟨sY,fY,rq,lO⟩:=q
 have lP:sW w φ sY [B6,.blk aa 39 O] bf:=lO
 have q:=lP.freezeR (k:=0) (n:=ay.Readings.length) rfl (wAE (f:=wAB) (sz:=4) (fun _=>rfl) ay.Readings) (by decide)
 obtain ⟨gA,ct,rv,lQ⟩:=q
 have lR:sW w φ gA [.blk aa 39 O] bf:=lQ
 have iN:=rn.le sr
 have iO:=iN.le fY
 have iP:=iO.le ct
 have iQ:=rp.le fY
 have iR:=iQ.le ct
 have iS:=rq.le ct
 have q:=bnd qf
 obtain ⟨⟨bB,gk⟩,iT,fK⟩:=q
 try dsimp only at fK
 refine zD 0 Z Z Z Z (zE Z Z Tryz.call12 (zB Z (zB Z zM)) Z) lR (fun hs=>wHG ay dE fB dF fC dG fD dH fE sT bf gA hs iP iR iS rv iT) (.inr Z) ?_
 rintro cI tO vi ie uy lS ⟨rfl,rfl⟩
 have lT:sW w φ cI [.blk aa 39 O] ie:=lS
 refine oM Z Z (oR Z (zU Z Z (v:=.agg #[jV bB.Lo,jV bB.Hi]) Z) (oR Z (zU Z Z (v:=jV gk) Z) (zV (cs:=B4) Z Z Z Z Z ZX Z lT ?_)))
 intro uq ac lU
 let ab:List Value:=[jV bB.Lo,jV bB.Hi]
 refine zX (j:=0) (vs:=ab) Z Z Z Z lU Z Z Z Z zz (zA Z) Z Z Z ?_
 intro d5 lV
 have lW:sW w φ cI [.blk ac 39 ab,.blk aa 39 O] d5:=lV
 refine oA Z Z (eN (sR (.fx 0 (.fx 1 (.fx 2 (.fx 3 (wPR (.fx 7 (.fx 8 (.fl 9 .nil) .stop) .stop)) .stop) .stop) .stop) .stop) Z (bnK fK fun an iU qh=>zD 0 Z Z Z Z (zE Z Z Tryz.call56 zM Z) lW (fun hs=>wBw d5 cI hs iU) (.inr Z) ?_)))
 rintro gB tP vj d6 uz lX ⟨cR,eH,cS,eI,cU,eJ,cV,eK,rfl,rfl⟩
 let bb:Res:=.row cV eK 115 4 (hD wAB an.Readings)
 let bu:Res:=.row cU eJ 112 3 (hD wAF an.Clocks)
 let bJ:Res:=.row cS eI 39 2 (hD wAD an.Splits)
 let cb:Res:=.row cR eH 3 1 (hD KL.encI an.Starts)
 have lY:sW w φ gB [cb,bJ,bu,bb,.blk ac 39 ab,.blk aa 39 O] d6:=lX
 refine bnK qh fun sK iV qi=>zD 0 Z Z Z Z (zE Z Z Tryz.call57 (zB Z (zB Z zM)) Z) lY (fun hs=>wBl 0 2 d6 gB hs iV) (.inr Z) ?_
 rintro gC tQ vk d7 uA lZ ⟨rfl,rfl⟩
 have l0:sW w φ gC [cb,bJ,bu,bb,.blk ac 39 ab,.blk aa 39 O] d7:=lZ
 refine bnK qi fun sL iW qj=>zD 0 Z Z Z Z (zE Z Z Tryz.call57 (zB Z (zB Z zM)) Z) l0 (fun hs=>wBl 1 2 d7 gC hs iW) (.inr Z) ?_
 rintro sZ tR vl bg uB l3 ⟨rfl,rfl⟩
 have l4:sW w φ sZ [cb,bJ,bu,bb,.blk ac 39 ab,.blk aa 39 O] bg:=l3
 have q:=l4.freezeR (k:=0) (n:=an.Starts.length) rfl (wAE (f:=KL.encI) (sz:=1) (fun _=>rfl) an.Starts) (by decide)
 obtain ⟨s3,uC,rx,l5⟩:=q
 have l6:sW w φ s3 [bJ,bu,bb,.blk ac 39 ab,.blk aa 39 O] bg:=l5
 have q:=l6.freezeR (k:=0) (n:=an.Splits.length) rfl (wAE (f:=wAD) (sz:=2) (fun _=>rfl) an.Splits) (by decide)
 obtain ⟨s4,ss,ry,l7⟩:=q
 have l8:sW w φ s4 [bu,bb,.blk ac 39 ab,.blk aa 39 O] bg:=l7
 have q:=l8.freezeR (k:=0) (n:=an.Clocks.length) rfl (wAE (f:=wAF) (sz:=3) (fun _=>rfl) an.Clocks) (by decide)
 obtain ⟨s5,fZ,rz,ma⟩:=q
 have mb:sW w φ s5 [bb,.blk ac 39 ab,.blk aa 39 O] bg:=ma
 have q:=mb.freezeR (k:=0) (n:=an.Readings.length) rfl (wAE (f:=wAB) (sz:=4) (fun _=>rfl) an.Readings) (by decide)
 obtain ⟨gD,cu,rA,mc⟩:=q
 have md:sW w φ gD [.blk ac 39 ab,.blk aa 39 O] bg:=mc
 have iY:=rx.le ss
 have iZ:=iY.le fZ
 have i4:=iZ.le cu
 have i6:=ry.le fZ
 have i8:=i6.le cu
 have i9:=rz.le cu
 have q:=bnd qj
 obtain ⟨⟨bC,gp⟩,ja,fL⟩:=q
 try dsimp only at fL
 refine zD 0 Z Z Z Z (zE Z Z Tryz.call16 (zB Z (zB Z (zB Z zM))) Z) md (fun hs=>wKk an cR eH cS eI cU eJ cV eK sK sL bg gD hs i4 i8 i9 rA ja) (.inr Z) ?_
 rintro cJ tS vm ig uD mf ⟨rfl,rfl⟩
 have mg:sW w φ cJ [.blk ac 39 ab,.blk aa 39 O] ig:=mf
 refine oM Z Z (oR Z (zU Z Z (v:=.agg #[jV bC.Lo,jV bC.Hi]) Z) (oR Z (zU Z Z (v:=jV gp) Z) (zV (cs:=B4) Z Z Z Z Z ZX Z mg ?_)))
 intro ur af mh
 let ae:List Value:=[jV bC.Lo,jV bC.Hi]
 refine zX (j:=0) (vs:=ae) Z Z Z Z mh Z Z Z Z zz (zA Z) Z Z Z ?_
 intro d8 mi
 have mj:sW w φ cJ [.blk af 39 ae,.blk ac 39 ab,.blk aa 39 O] d8:=mi
 refine oA Z Z (eN (sR (.fx 0 (.fx 1 (.fx 2 (.fl 3 (.fl 4 (.fx 5 (.fx 6 (wNO (.nil)) .stop) .stop))) .stop) .stop) .stop) Z (bnK fL fun ao jc qk=>zD 0 Z Z Z Z (zE Z Z Tryz.call56 zM Z) mj (fun hs=>wBw d8 cJ hs jc) (.inr Z) ?_)))
 rintro gE tT vn d9 uE ml ⟨cW,eM,cX,eO,cY,eP,cZ,eQ,rfl,rfl⟩
 let aR:Res:=.row cZ eQ 115 4 (hD wAB ao.Readings)
 let bc:Res:=.row cY eP 112 3 (hD wAF ao.Clocks)
 let bv:Res:=.row cX eO 39 2 (hD wAD ao.Splits)
 let bK:Res:=.row cW eM 3 1 (hD KL.encI ao.Starts)
 have mo:sW w φ gE [bK,bv,bc,aR,.blk af 39 ae,.blk ac 39 ab,.blk aa 39 O] d9:=ml
 refine bnK qk fun sN jd qn=>zD 0 Z Z Z Z (zE Z Z Tryz.call57 (zB Z (zB Z zM)) Z) mo (fun hs=>wBl 0 2 d9 gE hs jd) (.inr Z) ?_
 rintro gF tU vo eg uF mp ⟨rfl,rfl⟩
 have mq:sW w φ gF [bK,bv,bc,aR,.blk af 39 ae,.blk ac 39 ab,.blk aa 39 O] eg:=mp
 refine bnK qn fun sO je qo=>zD 0 Z Z Z Z (zE Z Z Tryz.call57 (zB Z (zB Z zM)) Z) mq (fun hs=>wBl 1 2 eg gF hs je) (.inr Z) ?_
 rintro gG tW vp ii uG mr ⟨rfl,rfl⟩
 have ms:sW w φ gG [bK,bv,bc,aR,.blk af 39 ae,.blk ac 39 ab,.blk aa 39 O] ii:=mr
 let bd:List Value:=[jV 0,jV 0,jV 0,.bool false]
 let dI:List Value:=[jV 3,jV 0,jV 0,.bool false]
 refine oR Z (ZB (pv:=[(0,jV 3)]) (z:=bd) (cs:=dI) Z (wAG Z wAR) Zv wEV Z Z) ?_
 let dJ:List Value:=[jV 3,jV 0,jV 2,.bool true]
 refine oR Z (ZB (pv:=[(0,jV 3),(2,jV 2),(3,.bool true)]) (z:=bd) (cs:=dJ) Z (wAG Z (wAG Z (wAG Z wAR))) Zv wEV Z Z) (ZR (pv:=[(0,.agg dI.toArray),(1,.agg dJ.toArray)]) (zs:=[jV 0,jV 0,jV 0,.bool false,jV 0,jV 0,jV 0,.bool false]) (cs:=[jV 3,jV 0,jV 0,.bool false,jV 3,jV 0,jV 2,.bool true]) Z Z Z Z Z (wAG Z (wAG Z wAR)) ZO ZK Zv Z Z Z Z Z ms ?_)
 intro aT ey mu
 let bw:Res:=.row (some ⟨ey,0,none⟩) 2 93 4 (hD wAJ [(⟨3,0,0,false⟩:wAC),(⟨3,0,2,true⟩:wAC)])
 have mw:sW w φ gG [bw,bK,bv,bc,aR,.blk af 39 ae,.blk ac 39 ab,.blk aa 39 O] aT:=mu
 have q:=mw.freezeR (k:=1) (n:=ao.Starts.length) rfl (wAE (f:=KL.encI) (sz:=1) (fun _=>rfl) ao.Starts) (by decide)
 obtain ⟨s7,uH,rC,my⟩:=q
 have mz:sW w φ s7 [bw,bv,bc,aR,.blk af 39 ae,.blk ac 39 ab,.blk aa 39 O] aT:=my
 have q:=mz.freezeR (k:=1) (n:=ao.Splits.length) rfl (wAE (f:=wAD) (sz:=2) (fun _=>rfl) ao.Splits) (by decide)
 obtain ⟨s8,su,rD,mA⟩:=q
 have mB:sW w φ s8 [bw,bc,aR,.blk af 39 ae,.blk ac 39 ab,.blk aa 39 O] aT:=mA
 have q:=mB.freezeR (k:=1) (n:=ao.Clocks.length) rfl (wAE (f:=wAF) (sz:=3) (fun _=>rfl) ao.Clocks) (by decide)
 obtain ⟨s9,f4,rE,mC⟩:=q
 have mD:sW w φ s9 [bw,aR,.blk af 39 ae,.blk ac 39 ab,.blk aa 39 O] aT:=mC
 have q:=mD.freezeR (k:=1) (n:=ao.Readings.length) rfl (wAE (f:=wAB) (sz:=4) (fun _=>rfl) ao.Readings) (by decide)
 obtain ⟨ta,cw,rF,mE⟩:=q
 have mF:sW w φ ta [bw,.blk af 39 ae,.blk ac 39 ab,.blk aa 39 O] aT:=mE
 have q:=mF.freezeR (k:=0) (n:=[(⟨3,0,0,false⟩:wAC),(⟨3,0,2,true⟩:wAC)].length) rfl (wAE (f:=wAJ) (sz:=4) (fun _=>rfl) [(⟨3,0,0,false⟩:wAC),(⟨3,0,2,true⟩:wAC)]) (by decide)
 obtain ⟨gH,bY,rG,mG⟩:=q
 have mI:sW w φ gH [.blk af 39 ae,.blk ac 39 ab,.blk aa 39 O] aT:=mG
 have jf:=rC.le su
 have jg:=jf.le f4
 have jh:=jg.le cw
 have ji:=jh.le bY
 have jj:=rD.le f4
 have jk:=jj.le cw
 have jl:=jk.le bY
 have jm:=rE.le cw
 have jo:=jm.le bY
 have jp:=rF.le bY
 have q:=bnd qo
 obtain ⟨⟨gq,gt⟩,jq,fM⟩:=q
 try dsimp only at fM
 refine zD 0 Z Z Z Z (zE Z Z Tryz.call48 (zB Z (zB Z (zB Z (zB Z zM)))) Z) mI (fun hs=>wGi ao cW eM cX eO cY eP cZ eQ sN sO [(⟨3,0,0,false⟩:wAC),(⟨3,0,2,true⟩:wAC)] (some ⟨ey,0,none⟩) 2 aT gH hs ji jl jo jp rG jq) (.inr Z) ?_
 rintro gI tX vr eh uJ mK ⟨rfl,rfl⟩
 have mL:sW w φ gI [.blk af 39 ae,.blk ac 39 ab,.blk aa 39 O] eh:=mK
 refine oM Z Z (oR Z (zU Z Z (v:=jV gq) Z) (oR Z (zU Z Z (v:=jV gt) Z) (oA Z Z (oA Z Z (eN (zL (yR fun aQ aM=>?_)))))))
 have iw:aQ 1=.pointer (some ⟨aa,0,none⟩):=(aM 1).trans rfl
 have iy:aQ 2=jV cH:=(aM 2).trans rfl
 have iz:aQ 3=.pointer (some ⟨ac,0,none⟩):=(aM 3).trans rfl
 have iA:aQ 4=jV gk:=(aM 4).trans rfl
 have iB:aQ 5=.pointer (some ⟨af,0,none⟩):=(aM 5).trans rfl
 have iC:aQ 6=jV gp:=(aM 6).trans rfl
 have iD:aQ 7=jV gq:=(aM 7).trans rfl
 have iE:aQ 8=jV gt:=(aM 8).trans rfl
 clear aM
 refine rR (.fx 0 (.fx 1 (wHE (.nil)) .stop) .stop) Z (bnK fM fun ap jr qq=>zD 0 Z Z Z Z (zE Z Z Tryz.call56 zM Z) mL (fun hs=>wBw eh gI hs jr) (.inr Z) ?_)
 rintro tc tY vt bi uL mM ⟨c6,eR,da,eS,db,eU,dd,eV,rfl,rfl⟩
 let bL:Res:=.row dd eV 115 4 (hD wAB ap.Readings)
 let cd:Res:=.row db eU 112 3 (hD wAF ap.Clocks)
 let dK:Res:=.row da eS 39 2 (hD wAD ap.Splits)
 have mO:sW w φ tc [.row c6 eR 3 1 (hD KL.encI ap.Starts),dK,cd,bL,.blk af 39 ae,.blk ac 39 ab,.blk aa 39 O] bi:=mM
 have q:=mO.freezeR (k:=0) (n:=ap.Starts.length) rfl (wAE (f:=KL.encI) (sz:=1) (fun _=>rfl) ap.Starts) (by decide)
 obtain ⟨te,uM,rI,mP⟩:=q
 have mQ:sW w φ te [dK,cd,bL,.blk af 39 ae,.blk ac 39 ab,.blk aa 39 O] bi:=mP
 have q:=mQ.freezeR (k:=0) (n:=ap.Splits.length) rfl (wAE (f:=wAD) (sz:=2) (fun _=>rfl) ap.Splits) (by decide)
 obtain ⟨tf,sv,rJ,mS⟩:=q
 have mT:sW w φ tf [cd,bL,.blk af 39 ae,.blk ac 39 ab,.blk aa 39 O] bi:=mS
 have q:=mT.freezeR (k:=0) (n:=ap.Clocks.length) rfl (wAE (f:=wAF) (sz:=3) (fun _=>rfl) ap.Clocks) (by decide)
 obtain ⟨tg,f5,rK,mU⟩:=q
 have mV:sW w φ tg [bL,.blk af 39 ae,.blk ac 39 ab,.blk aa 39 O] bi:=mU
 have q:=mV.freezeR (k:=0) (n:=ap.Readings.length) rfl (wAE (f:=wAB) (sz:=4) (fun _=>rfl) ap.Readings) (by decide)
 obtain ⟨gJ,cx,rL,mW⟩:=q
 have mX:sW w φ gJ [.blk af 39 ae,.blk ac 39 ab,.blk aa 39 O] bi:=mW
 have jt:=rI.le sv
 have ju:=jt.le f5
 have jv:=ju.le cx
 have jw:=rJ.le f5
 have jx:=jw.le cx
 have jy:=rK.le cx
 have q:=bnd qq
 obtain ⟨⟨bD,sP⟩,jz,fN⟩:=q
 try dsimp only at fN
 refine zD 0 Z Z Z Z (zE Z Z Tryz.call40 (zB Z (zB Z zM)) Z) mX (fun hs=>wId ap c6 eR da eS db eU dd eV 2 bi gJ hs jv jx jy rL jz) (.inr Z) ?_
 rintro gK tZ vu ej uN mY ⟨b5,cp,rfl,rfl⟩
 let aN:Res:=.row b5 cp 39 2 (hD wAD bD)
 have mZ:sW w φ gK [aN,.blk af 39 ae,.blk ac 39 ab,.blk aa 39 O] ej:=mY
 refine oM Z Z (oR Z (zU Z Z (v:=.slice b5 bD.length cp) Z) (oR Z (zU Z Z (v:=jV sP) Z) (oA Z Z (oA Z Z (eN (sR (.fx 0 (.fx 1 (wHE (.nil)) .stop) .stop) Z (bnK fN fun aq jA qr=>zD 0 Z Z Z Z (zE Z Z Tryz.call56 zM Z) mZ (fun hs=>wBw ej gK hs jA) (.inr Z) ?_)))))))
 rintro tj t4 vv bj uO m4 ⟨de,eW,df,eX,dg,eY,dh,eZ,rfl,rfl⟩
 let bM:Res:=.row dh eZ 115 4 (hD wAB aq.Readings)
 let cf:Res:=.row dg eY 112 3 (hD wAF aq.Clocks)
 let dM:Res:=.row df eX 39 2 (hD wAD aq.Splits)
 have m6:sW w φ tj [.row de eW 3 1 (hD KL.encI aq.Starts),dM,cf,bM,aN,.blk af 39 ae,.blk ac 39 ab,.blk aa 39 O] bj:=m4
 have q:=m6.freezeR (k:=0) (n:=aq.Starts.length) rfl (wAE (f:=KL.encI) (sz:=1) (fun _=>rfl) aq.Starts) (by decide)
 obtain ⟨tm,uP,rN,m7⟩:=q
 have m8:sW w φ tm [dM,cf,bM,aN,.blk af 39 ae,.blk ac 39 ab,.blk aa 39 O] bj:=m7
 have q:=m8.freezeR (k:=0) (n:=aq.Splits.length) rfl (wAE (f:=wAD) (sz:=2) (fun _=>rfl) aq.Splits) (by decide)
 obtain ⟨tp,sA,rO,m9⟩:=q
 have n3:sW w φ tp [cf,bM,aN,.blk af 39 ae,.blk ac 39 ab,.blk aa 39 O] bj:=m9
 have q:=n3.freezeR (k:=0) (n:=aq.Clocks.length) rfl (wAE (f:=wAF) (sz:=3) (fun _=>rfl) aq.Clocks) (by decide)
 obtain ⟨tq,f6,rP,n4⟩:=q
 have n5:sW w φ tq [bM,aN,.blk af 39 ae,.blk ac 39 ab,.blk aa 39 O] bj:=n4
 have q:=n5.freezeR (k:=0) (n:=aq.Readings.length) rfl (wAE (f:=wAB) (sz:=4) (fun _=>rfl) aq.Readings) (by decide)
 obtain ⟨gM,cy,rQ,n6⟩:=q
 have n7:sW w φ gM [aN,.blk af 39 ae,.blk ac 39 ab,.blk aa 39 O] bj:=n6
 have jB:=rN.le sA
 have jC:=jB.le f6
 have jD:=jC.le cy
 have jE:=rO.le f6
 have jF:=jE.le cy
 have jG:=rP.le cy
 have q:=bnd qr
 obtain ⟨⟨bE,sQ⟩,jH,fO⟩:=q
 try dsimp only at fO
 refine zD 0 Z Z Z Z (zE Z Z Tryz.call22 (zB Z zM) Z) n7 (fun hs=>wID aq de eW df eX dg eY dh eZ bj gM hs jD jF jG rQ jH) (.inr Z) ?_
 rintro aE t5 vw ij uQ n9 ⟨ca,cq,rfl,rfl⟩
 let aS:Res:=.row ca cq 29 2 (hD wAY bE)
 have aj:sW w φ aE [aS,aN,.blk af 39 ae,.blk ac 39 ab,.blk aa 39 O] ij:=n9
 refine oM Z Z (oR Z (zU Z Z (v:=.slice ca bE.length cq) Z) (oR Z (zU Z Z (v:=jV sQ) Z) (oA Z Z (oA Z Z (eN (zL (bnK fO fun iu fW qs=>yX (fun σ_ w_=>∃ (φ_:PHeap),σ_ 110=.bool iu/\PHeap.Le aE φ_/\sW w φ φ_ [.blk af 39 ae,.blk ac 39 ab,.blk aa 39 O] w_) ?_ ?_)))))))
 refine rR (wPO (.fx 45 (.fx 46 (wOO (.fx 51 (.fx 52 (.fx 53 (.fl 54 (.fl 55 .nil)) .stop) .stop) .stop)) .stop) .stop)) Z (oM Z iy (oR Z (ZP Z Z Z) (oM Z Z ?_)))
 by_cases aF:cH=0
 have fP:=fW;rw [if_pos aF] at fP;replace aF:=zN aF
 refine zw Z Z Z (zI Z Z (zu (fun h=>h aF.out))) Z iA (za Z Z Z (zI Z Z (zu (fun h=>h aF.out))) (fun _=>ZP Z Z Z) (oR Z (zW Z (zu (fun h=>h aF.out)) Z) (oM Z Z (ifc fP ?_ ?_))))
 intro aV qt
 refine zw Z Z Z (zI Z Z (zu (fun h=>h aV.out))) Z iC (za Z Z Z (zI Z Z (zu (fun h=>h aV.out))) (fun _=>ZP Z Z Z) (oR Z (zW Z (zu (fun h=>h aV.out)) Z) (oM Z Z (ifc qt ?_ ?_))))
 intro aW qu
 refine zw Z Z Z (zI Z Z (zu (fun h=>h aW.out))) Z iE (za Z Z Z (zI Z Z (zu (fun h=>h aW.out))) (fun _=>ZP Z Z Z) (oR Z (zW Z (zu (fun h=>h aW.out)) Z) (oM Z Z (ifc qu ?_ ?_))))
 intro aX qv
 refine zw Z Z Z (zI Z Z (zu (fun h=>h aX.out))) Z Z (za Z Z Z (zI Z Z (zu (fun h=>h aX.out))) (fun _=>ZP Z Z Z) (oR Z (zW Z (zu (fun h=>h aX.out)) Z) (oM Z Z (ifc qv ?_ ?_))))
 intro aY qw
 refine zw Z Z Z (zI Z Z (zu (fun h=>h aY.out))) Z Z (za Z Z Z (zI Z Z (zu (fun h=>h aY.out))) (fun _=>ZP Z Z Z) (oR Z (zW Z (zu (fun h=>h aY.out)) Z) (oM Z Z (ifc qw ?_ ?_))))
 intro aH qx
 refine ZE Z Z Z (zI Z Z (zu (fun h=>h aH.out))) (aj.ldBA (j:=4) Z Z iw yA zz (vs:=O) Z Z) Z (za Z Z Z (zI Z Z (zu (fun h=>h aH.out))) (fun _=>ZB (pv:=[(0,jV 2244),(1,jV 2256)]) (z:=B4) (cs:=[jV 2244,jV 2256]) Z (wAG Z (wAG Z wAR)) ZX wCu Z Z) (za Z Z Z (zI Z Z (zu (fun h=>h aH.out))) (fun _=>ZU (Runs.neS (enc:=wAD) (a:=bF) (b:=(⟨2244,2256⟩:wAO)) Z Z Z wMY wMX) (congrArg hH (decide_not).symm)) (oR Z (zW Z (zu (fun h=>h aH.out)) Z) (oM Z Z (ifc qx ?_ ?_)))))
 intro aI qy
 refine ZE Z Z Z (zI Z Z (zu (fun h=>h aI.out))) (aj.ldBA (j:=3) Z Z iz yA zz (vs:=ab) Z Z) Z (za Z Z Z (zI Z Z (zu (fun h=>h aI.out))) (fun _=>ZB (pv:=[(0,jV 1000),(1,jV 1200)]) (z:=B4) (cs:=[jV 1000,jV 1200]) Z (wAG Z (wAG Z wAR)) ZX wCu Z Z) (za Z Z Z (zI Z Z (zu (fun h=>h aI.out))) (fun _=>ZU (Runs.neS (enc:=wAD) (a:=bB) (b:=(⟨1000,1200⟩:wAO)) Z Z Z wMY wMX) (congrArg hH (decide_not).symm)) (oR Z (zW Z (zu (fun h=>h aI.out)) Z) (oM Z Z (ifc qy ?_ ?_)))))
 intro aJ qz
 refine ZE Z Z Z (zI Z Z (zu (fun h=>h aJ.out))) (aj.ldBA (j:=2) Z Z iB yA zz (vs:=ae) Z Z) Z (za Z Z Z (zI Z Z (zu (fun h=>h aJ.out))) (fun _=>ZB (pv:=[(0,jV 247),(1,jV 251)]) (z:=B4) (cs:=[jV 247,jV 251]) Z (wAG Z (wAG Z wAR)) ZX wCu Z Z) (za Z Z Z (zI Z Z (zu (fun h=>h aJ.out))) (fun _=>ZU (Runs.neS (enc:=wAD) (a:=bC) (b:=(⟨247,251⟩:wAO)) Z Z Z wMY wMX) (congrArg hH (decide_not).symm)) (oR Z (zW Z (zu (fun h=>h aJ.out)) Z) (oM Z Z (ifc qz ?_ ?_)))))
 intro aZ qA
 refine zw Z Z Z (zI Z Z (zu (fun h=>h aZ.out))) Z iD (za Z Z Z (zI Z Z (zu (fun h=>h aZ.out))) (fun _=>ZP Z Z Z) (oR Z (zW Z (zu (fun h=>h aZ.out)) Z) (oM Z Z (ifc qA ?_ ?_))))
 intro ai qB
 refine zw Z Z Z (zI Z Z (zu (fun h=>h ai.out))) Z Z (za Z Z Z (zI Z Z (zu (fun h=>h ai.out))) (fun _=>ZB (pv:=[(0,jV 1),(1,jV 1)]) (z:=B4) (cs:=[jV 1,jV 1]) Z (wAG Z (wAG Z wAR)) ZX wCu Z Z) (za Z Z Z (zI Z Z (zu (fun h=>h ai.out))) (fun _=>ZB (pv:=[(0,jV 2),(1,jV 2)]) (z:=B4) (cs:=[jV 2,jV 2]) Z (wAG Z (wAG Z wAR)) ZX wCu Z Z) (ZR (pv:=[(0,.agg #[jV 1,jV 1]),(1,.agg #[jV 2,jV 2])]) (zs:=[jV 0,jV 0,jV 0,jV 0]) (cs:=[jV 1,jV 1,jV 2,jV 2]) Z Z Z (zI Z Z (zu (fun h=>h ai.out))) Z (wAG Z (wAG Z wAR)) ZI zz ZX Z Z Z Z Z aj ?_)))
 intro bS ez oc
 let dN:Res:=.row (some ⟨ez,0,none⟩) 2 39 2 (hD wAD [(⟨1,1⟩:wAO),(⟨2,2⟩:wAO)])
 have od:sW w φ aE [dN,aS,aN,.blk af 39 ae,.blk ac 39 ab,.blk aa 39 O] bS:=oc
 have q:=od.freezeR (k:=2) (n:=bD.length) rfl (wAE (f:=wAD) (sz:=2) (fun _=>rfl) bD) (by decide)
 obtain ⟨tr,f9,rT,oe⟩:=q
 have og:sW w φ tr [dN,aS,.blk af 39 ae,.blk ac 39 ab,.blk aa 39 O] bS:=oe
 have q:=og.freezeR (k:=0) (n:=[(⟨1,1⟩:wAO),(⟨2,2⟩:wAO)].length) rfl (wAE (f:=wAD) (sz:=2) (fun _=>rfl) [(⟨1,1⟩:wAO),(⟨2,2⟩:wAO)]) (by decide)
 obtain ⟨gO,cA,rW,oh⟩:=q
 have oi:sW w φ gO [aS,.blk af 39 ae,.blk ac 39 ab,.blk aa 39 O] bS:=oh
 have jI:=rT.le cA
 refine bnK qB fun vN jJ qC=>zD 0 Z Z Z (zI Z Z (zu (fun h=>h ai.out))) (zE Z Z Tryz.call44 (zB Z (zB Z zM)) Z) oi (fun hs=>wDf bD b5 cp [(⟨1,1⟩:wAO),(⟨2,2⟩:wAO)] (some ⟨ez,0,none⟩) 2 bS gO hs jI rW jJ) (.inr Z) ?_
 rintro cK t7 vx ek ga ol ⟨rfl,rfl⟩
 have fH:sW w φ cK [aS,.blk af 39 ae,.blk ac 39 ab,.blk aa 39 O] ek:=ol
 refine za Z Z Z (zI Z Z (zu (fun h=>h ai.out))) (fun _=>Zk Z Z) (oR Z (zW Z (zu (fun h=>h ai.out)) Z) (oM Z Z (ifc qC ?_ ?_)))
 intro ak qD
 refine zw Z Z Z (zI Z Z (nC ak.out)) Z Z (bnK qD fun bq jK qE=>zD 0 Z Z Z (zI Z Z (nC ak.out)) (zE Z Z Tryz.call57 (zB Z (zB Z zM)) Z) fH (fun hs=>wBl 0 1 ek cK hs jK) (.inr Z) ?_)
 rintro gP t8 vy ik sB oo ⟨rfl,rfl⟩
 have oq:sW w φ gP [aS,.blk af 39 ae,.blk ac 39 ab,.blk aa 39 O] ik:=oo
 let dO:List Value:=[jV bq.Skier,jV bq.Mat]
 refine ZR (pv:=[(0,.agg dO.toArray)]) (zs:=B4) (cs:=dO) Z Z Z (zI Z Z (nC ak.out)) Z (wAG Z wAR) Zz ZV yG Z Z Z Z Z oq ?_
 intro bT eA ot
 let dP:Res:=.row (some ⟨eA,0,none⟩) 1 29 2 (hD wAY [bq])
 have ou:sW w φ gP [dP,aS,.blk af 39 ae,.blk ac 39 ab,.blk aa 39 O] bT:=ot
 have q:=ou.freezeR (k:=1) (n:=bE.length) rfl (wAE (f:=wAY) (sz:=2) (fun _=>rfl) bE) (by decide)
 obtain ⟨tt,sC,rX,ov⟩:=q
 have ow:sW w φ tt [dP,.blk af 39 ae,.blk ac 39 ab,.blk aa 39 O] bT:=ov
 have q:=ow.freezeR (k:=0) (n:=[bq].length) rfl (wAE (f:=wAY) (sz:=2) (fun _=>rfl) [bq]) (by decide)
 obtain ⟨gQ,ge,rY,ox⟩:=q
 have oy:sW w φ gQ [.blk af 39 ae,.blk ac 39 ab,.blk aa 39 O] bT:=ox
 have jN:=rX.le ge
 refine bnK qE fun vO jO qF=>zD 0 Z Z Z (zI Z Z (nC ak.out)) (zE Z Z Tryz.call58 (zB Z (zB Z zM)) Z) oy (fun hs=>wEl bE ca cq [bq] (some ⟨eA,0,none⟩) 1 bT gQ hs jN rY jO) (.inr Z) ?_
 rintro gR t9 vz il sD oz ⟨rfl,rfl⟩
 have oB:sW w φ gR [.blk af 39 ae,.blk ac 39 ab,.blk aa 39 O] il:=oz
 refine za Z Z Z (zI Z Z (nC ak.out)) (fun _=>Zk Z Z) (oR Z (zW Z (nC ak.out) Z) (zf ?_))
 cases qF
 exact zJ ⟨Z,⟨gR,Z,((((((f9.trans cA).trans ga).trans sB).trans sC).trans ge).trans sD),oB⟩⟩
 intro ak qG
 refine zy Z Z Z (zP Z Z (nF (ak.out)) Z) (ZC Z Z Z (zP Z Z (nF (ak.out)) Z) (ZC Z Z Z (zP Z Z (nF (ak.out)) Z) (ZC Z Z Z (zP Z Z (nF (ak.out)) Z) (zy Z Z Z (zP Z Z (nF (ak.out)) Z) (oR Z (zR Z (nF (ak.out)) Z) (zf ?_))))))
 cases qG
 exact zJ ⟨rfl,⟨cK,rfl,((f9.trans cA).trans ga),(fH.pick [1,2,3] _ (by decide) rfl)⟩⟩
 intro ai qH
 refine oT Z ai (oT Z ai (oT Z ai (ZC Z Z Z (zP Z Z (Zd ai.out) Z) (ZC Z Z Z (zP Z Z (Zd ai.out) Z) (oT Z ai (oR Z (zR Z (Zd ai.out) Z) (oM Z Z (oN Z (ZC Z Z Z (zP Z Z Z Z) (ZC Z Z Z (zP Z Z Z Z) (ZC Z Z Z (zP Z Z Z Z) (oN Z (oR Z (zR Z Z Z) (zf ?_))))))))))))))
 cases qH
 exact zJ ⟨rfl,⟨aE,rfl,(zS _),(aj.pick [2,3,4] _ (by decide) rfl)⟩⟩
 intro aZ qI
 refine oT Z aZ (oT Z aZ (oR Z (zR Z (Zd aZ.out) Z) (oM Z Z (oN Z (oN Z (oN Z (ZC Z Z Z (zP Z Z Z Z) (ZC Z Z Z (zP Z Z Z Z) (oN Z (oR Z (zR Z Z Z) (oM Z Z (oN Z (ZC Z Z Z (zP Z Z Z Z) (ZC Z Z Z (zP Z Z Z Z) (ZC Z Z Z (zP Z Z Z Z) (oN Z (oR Z (zR Z Z Z) (zf ?_))))))))))))))))))
 cases qI
 exact zJ ⟨rfl,⟨aE,rfl,(zS _),(aj.pick [2,3,4] _ (by decide) rfl)⟩⟩
 intro aJ qJ
 refine oT Z aJ (oT Z aJ (oT Z aJ (oR Z (zR Z (Zd aJ.out) Z) (oM Z Z (oN Z (oN Z (oR Z (zR Z Z Z) (oM Z Z (oN Z (oN Z (oN Z (ZC Z Z Z (zP Z Z Z Z) (ZC Z Z Z (zP Z Z Z Z) (oN Z (oR Z (zR Z Z Z) (oM Z Z (oN Z (ZC Z Z Z (zP Z Z Z Z) (ZC Z Z Z (zP Z Z Z Z) (ZC Z Z Z (zP Z Z Z Z) (oN Z (oR Z (zR Z Z Z) (zf ?_)))))))))))))))))))))))
 cases qJ
 exact zJ ⟨rfl,⟨aE,rfl,(zS _),(aj.pick [2,3,4] _ (by decide) rfl)⟩⟩
 intro aI qK
 refine oT Z aI (oT Z aI (oT Z aI (oR Z (zR Z (Zd aI.out) Z) (oM Z Z (oN Z (oN Z (oN Z (oR Z (zR Z Z Z) (oM Z Z (oN Z (oN Z (oR Z (zR Z Z Z) (oM Z Z (oN Z (oN Z (oN Z (ZC Z Z Z (zP Z Z Z Z) (ZC Z Z Z (zP Z Z Z Z) (oN Z (oR Z (zR Z Z Z) (oM Z Z (oN Z (ZC Z Z Z (zP Z Z Z Z) (ZC Z Z Z (zP Z Z Z Z) (ZC Z Z Z (zP Z Z Z Z) (oN Z (oR Z (zR Z Z Z) (zf ?_))))))))))))))))))))))))))))
 cases qK
 exact zJ ⟨rfl,⟨aE,rfl,(zS _),(aj.pick [2,3,4] _ (by decide) rfl)⟩⟩
 intro aH qL
 refine oT Z aH (oT Z aH (oT Z aH (oR Z (zR Z (Zd aH.out) Z) (oM Z Z (oN Z (oN Z (oN Z (oR Z (zR Z Z Z) (oM Z Z (oN Z (oN Z (oN Z (oR Z (zR Z Z Z) (oM Z Z (oN Z (oN Z (oR Z (zR Z Z Z) (oM Z Z (oN Z (oN Z (oN Z (ZC Z Z Z (zP Z Z Z Z) (ZC Z Z Z (zP Z Z Z Z) (oN Z (oR Z (zR Z Z Z) (oM Z Z (oN Z (ZC Z Z Z (zP Z Z Z Z) (ZC Z Z Z (zP Z Z Z Z) (ZC Z Z Z (zP Z Z Z Z) (oN Z (oR Z (zR Z Z Z) (zf ?_)))))))))))))))))))))))))))))))))
 cases qL
 exact zJ ⟨rfl,⟨aE,rfl,(zS _),(aj.pick [2,3,4] _ (by decide) rfl)⟩⟩
 intro aY qM
 refine oT Z aY (oT Z aY (oR Z (zR Z (Zd aY.out) Z) (oM Z Z (oN Z (oN Z (oN Z (oR Z (zR Z Z Z) (oM Z Z (oN Z (oN Z (oN Z (oR Z (zR Z Z Z) (oM Z Z (oN Z (oN Z (oN Z (oR Z (zR Z Z Z) (oM Z Z (oN Z (oN Z (oR Z (zR Z Z Z) (oM Z Z (oN Z (oN Z (oN Z (ZC Z Z Z (zP Z Z Z Z) (ZC Z Z Z (zP Z Z Z Z) (oN Z (oR Z (zR Z Z Z) (oM Z Z (oN Z (ZC Z Z Z (zP Z Z Z Z) (ZC Z Z Z (zP Z Z Z Z) (ZC Z Z Z (zP Z Z Z Z) (oN Z (oR Z (zR Z Z Z) (zf ?_)))))))))))))))))))))))))))))))))))))
 cases qM
 exact zJ ⟨rfl,⟨aE,rfl,(zS _),(aj.pick [2,3,4] _ (by decide) rfl)⟩⟩
 intro aX qN
 refine oT Z aX (oT Z aX (oR Z (zR Z (Zd aX.out) Z) (oM Z Z (oN Z (oN Z (oR Z (zR Z Z Z) (oM Z Z (oN Z (oN Z (oN Z (oR Z (zR Z Z Z) (oM Z Z (oN Z (oN Z (oN Z (oR Z (zR Z Z Z) (oM Z Z (oN Z (oN Z (oN Z (oR Z (zR Z Z Z) (oM Z Z (oN Z (oN Z (oR Z (zR Z Z Z) (oM Z Z (oN Z (oN Z (oN Z (ZC Z Z Z (zP Z Z Z Z) (ZC Z Z Z (zP Z Z Z Z) (oN Z (oR Z (zR Z Z Z) (oM Z Z (oN Z (ZC Z Z Z (zP Z Z Z Z) (ZC Z Z Z (zP Z Z Z Z) (ZC Z Z Z (zP Z Z Z Z) (oN Z (oR Z (zR Z Z Z) (zf ?_)))))))))))))))))))))))))))))))))))))))))
 cases qN
 exact zJ ⟨rfl,⟨aE,rfl,(zS _),(aj.pick [2,3,4] _ (by decide) rfl)⟩⟩
 intro aW qO
 refine oT Z aW (oT Z aW (oR Z (zR Z (Zd aW.out) Z) (oM Z Z (oN Z (oN Z (oR Z (zR Z Z Z) (oM Z Z (oN Z (oN Z (oR Z (zR Z Z Z) (oM Z Z (oN Z (oN Z (oN Z (oR Z (zR Z Z Z) (oM Z Z (oN Z (oN Z (oN Z (oR Z (zR Z Z Z) (oM Z Z (oN Z (oN Z (oN Z (oR Z (zR Z Z Z) (oM Z Z (oN Z (oN Z (oR Z (zR Z Z Z) (oM Z Z (oN Z (oN Z (oN Z (ZC Z Z Z (zP Z Z Z Z) (ZC Z Z Z (zP Z Z Z Z) (oN Z (oR Z (zR Z Z Z) (oM Z Z (oN Z (ZC Z Z Z (zP Z Z Z Z) (ZC Z Z Z (zP Z Z Z Z) (ZC Z Z Z (zP Z Z Z Z) (oN Z (oR Z (zR Z Z Z) (zf ?_)))))))))))))))))))))))))))))))))))))))))))))
 cases qO
 exact zJ ⟨rfl,⟨aE,rfl,(zS _),(aj.pick [2,3,4] _ (by decide) rfl)⟩⟩
 intro aV qP
 refine oT Z aV (oT Z aV (oR Z (zR Z (Zd aV.out) Z) (oM Z Z (oN Z (oN Z (oR Z (zR Z Z Z) (oM Z Z (oN Z (oN Z (oR Z (zR Z Z Z) (oM Z Z (oN Z (oN Z (oR Z (zR Z Z Z) (oM Z Z (oN Z (oN Z (oN Z (oR Z (zR Z Z Z) (oM Z Z (oN Z (oN Z (oN Z (oR Z (zR Z Z Z) (oM Z Z (oN Z (oN Z (oN Z (oR Z (zR Z Z Z) (oM Z Z (oN Z (oN Z (oR Z (zR Z Z Z) (oM Z Z (oN Z (oN Z (oN Z (ZC Z Z Z (zP Z Z Z Z) (ZC Z Z Z (zP Z Z Z Z) (oN Z (oR Z (zR Z Z Z) (oM Z Z (oN Z (ZC Z Z Z (zP Z Z Z Z) (ZC Z Z Z (zP Z Z Z Z) (ZC Z Z Z (zP Z Z Z Z) (oN Z (oR Z (zR Z Z Z) (zf ?_)))))))))))))))))))))))))))))))))))))))))))))))))
 cases qP
 exact zJ ⟨rfl,⟨aE,rfl,(zS _),(aj.pick [2,3,4] _ (by decide) rfl)⟩⟩
 have fQ:=fW;rw [if_neg aF] at fQ;replace aF:=zN aF
 refine oT Z aF (oT Z aF (oR Z (zR Z (Zd aF.out) Z) (oM Z Z (oN Z (oN Z (oR Z (zR Z Z Z) (oM Z Z (oN Z (oN Z (oR Z (zR Z Z Z) (oM Z Z (oN Z (oN Z (oR Z (zR Z Z Z) (oM Z Z (oN Z (oN Z (oR Z (zR Z Z Z) (oM Z Z (oN Z (oN Z (oN Z (oR Z (zR Z Z Z) (oM Z Z (oN Z (oN Z (oN Z (oR Z (zR Z Z Z) (oM Z Z (oN Z (oN Z (oN Z (oR Z (zR Z Z Z) (oM Z Z (oN Z (oN Z (oR Z (zR Z Z Z) (oM Z Z (oN Z (oN Z (oN Z (ZC Z Z Z (zP Z Z Z Z) (ZC Z Z Z (zP Z Z Z Z) (oN Z (oR Z (zR Z Z Z) (oM Z Z (oN Z (ZC Z Z Z (zP Z Z Z Z) (ZC Z Z Z (zP Z Z Z Z) (ZC Z Z Z (zP Z Z Z Z) (oN Z (oR Z (zR Z Z Z) (zf ?_)))))))))))))))))))))))))))))))))))))))))))))))))))))
 cases fQ
 exact zJ ⟨rfl,⟨aE,rfl,(zS _),(aj.pick [2,3,4] _ (by decide) rfl)⟩⟩
 rintro vR im ⟨gS,fG,uR,fI⟩
 refine ifc qs ?_ ?_
 intro cr qQ
 refine ZD (fG.trans (congrArg hH cr.out)) (sR fL1 Z (oA Z Z (eN (zO (zQ ?_)))))
 have hE:=hU qQ;first | subst r | cases hE
 exact ⟨rfl,_,(ZA rfl),gS,_,(fI.pick [] _ (by decide) rfl),rfl,rfl⟩
 intro cr qR
 refine zj (fG.trans (congrArg hH (hJ.2 cr.out))) (kN (sR (.fx 0 (.fx 1 (wHE (.nil)) .stop) .stop) Z (bnK qR fun au jT qS=>zD 0 Z Z Z Z (zE Z Z Tryz.call59 zM Z) fI (fun hs=>wCq im gS hs jT) (.inr Z) ?_)))
 rintro tu ua vA bm uS oC ⟨di,e6,dk,e8,dl,e9,dm,fb,rfl,rfl⟩
 let bN:Res:=.row dm fb 115 4 (hD wAB au.Readings)
 let cg:Res:=.row dl e9 112 3 (hD wAF au.Clocks)
 let dQ:Res:=.row dk e8 39 2 (hD wAD au.Splits)
 have oD:sW w φ tu [.row di e6 3 1 (hD KL.encI au.Starts),dQ,cg,bN,.blk af 39 ae,.blk ac 39 ab,.blk aa 39 O] bm:=oC
 have q:=oD.freezeR (k:=0) (n:=au.Starts.length) rfl (wAE (f:=KL.encI) (sz:=1) (fun _=>rfl) au.Starts) (by decide)
 obtain ⟨tv,uT,rZ,oE⟩:=q
 have oG:sW w φ tv [dQ,cg,bN,.blk af 39 ae,.blk ac 39 ab,.blk aa 39 O] bm:=oE
 have q:=oG.freezeR (k:=0) (n:=au.Splits.length) rfl (wAE (f:=wAD) (sz:=2) (fun _=>rfl) au.Splits) (by decide)
 obtain ⟨tw,sE,r0,oH⟩:=q
 have oI:sW w φ tw [cg,bN,.blk af 39 ae,.blk ac 39 ab,.blk aa 39 O] bm:=oH
 have q:=oI.freezeR (k:=0) (n:=au.Clocks.length) rfl (wAE (f:=wAF) (sz:=3) (fun _=>rfl) au.Clocks) (by decide)
 obtain ⟨tx,gg,r6,oJ⟩:=q
 have oK:sW w φ tx [bN,.blk af 39 ae,.blk ac 39 ab,.blk aa 39 O] bm:=oJ
 have q:=oK.freezeR (k:=0) (n:=au.Readings.length) rfl (wAE (f:=wAB) (sz:=4) (fun _=>rfl) au.Readings) (by decide)
 obtain ⟨gT,cC,r7,oO⟩:=q
 have oP:sW w φ gT [.blk af 39 ae,.blk ac 39 ab,.blk aa 39 O] bm:=oO
 have jW:=rZ.le sE
 have jX:=jW.le gg
 have jY:=jX.le cC
 have jZ:=r0.le gg
 have j0:=jZ.le cC
 have j5:=r6.le cC
 have q:=bnd qS
 obtain ⟨⟨sS,gu,gv⟩,j6,fS⟩:=q
 try dsimp only at fS
 refine zD 0 Z Z Z Z (zE Z Z Tryz.call37 (zB Z zM) Z) oP (fun hs=>wJI au di e6 dk e8 dl e9 dm fb bm gT hs jY j0 j5 r7 j6) (.inr Z) ?_
 rintro gU ud vC en uU oQ ⟨dp,fc,iv,dq,fd,rfl,rfl,uv⟩
 let ag:Res:=.row dq fd 3 1 (hD KL.encI gu)
 let ah:Res:=.row dp fc 22 1 iv
 have oS:sW w φ gU [ah,ag,.blk af 39 ae,.blk ac 39 ab,.blk aa 39 O] en:=oQ
 refine oM Z Z (oR Z (zU Z Z (v:=.slice dp sS.length fc) Z) (oR Z (zU Z Z (v:=.slice dq gu.length fd) Z) (oR Z (zU Z Z (v:=jV gv) Z) (oA Z Z (eN (sR (.fx 0 (fC1_4 (.fx 5 (.fx 6 (wNO (.nil)) .stop) .stop)) .stop) Z (bnK fS fun av j7 qT=>zD 0 Z Z Z Z (zE Z Z Tryz.call59 zM Z) oS (fun hs=>wCq en gU hs j7) (.inr Z) ?_)))))))
 rintro gV ue vE ip uV oU ⟨dr,ff,dt,fg,du,fh,dv,fj,rfl,rfl⟩
 let bx:Res:=.row dv fj 115 4 (hD wAB av.Readings)
 let bO:Res:=.row du fh 112 3 (hD wAF av.Clocks)
 let cj:Res:=.row dt fg 39 2 (hD wAD av.Splits)
 let dR:Res:=.row dr ff 3 1 (hD KL.encI av.Starts)
 have oV:sW w φ gV [dR,cj,bO,bx,ah,ag,.blk af 39 ae,.blk ac 39 ab,.blk aa 39 O] ip:=oU
 let dS:List Value:=[jV 0,jV 1,jV 0,.bool true]
 refine oR Z (ZB (pv:=[(0,jV 0),(1,jV 1),(3,.bool true)]) (z:=bd) (cs:=dS) Z (wAG Z (wAG Z (wAG Z wAR))) Zv wEV Z Z) ?_
 let dT:List Value:=[jV 1,jV 1,jV 0,.bool true]
 refine oR Z (ZB (pv:=[(0,jV 1),(1,jV 1),(3,.bool true)]) (z:=bd) (cs:=dT) Z (wAG Z (wAG Z (wAG Z wAR))) Zv wEV Z Z) ?_
 let dU:List Value:=[jV 3,jV 0,jV 1,.bool false]
 refine oR Z (ZB (pv:=[(0,jV 3),(2,jV 1)]) (z:=bd) (cs:=dU) Z (wAG Z (wAG Z wAR)) Zv wEV Z Z) ?_
 let dV:List Value:=[jV 2,jV 0,jV 0,.bool false]
 refine oR Z (ZB (pv:=[(0,jV 2)]) (z:=bd) (cs:=dV) Z (wAG Z wAR) Zv wEV Z Z) (ZR (pv:=[(0,.agg dS.toArray),(1,.agg dT.toArray),(2,.agg dU.toArray),(3,.agg dV.toArray)]) (zs:=[jV 0,jV 0,jV 0,.bool false,jV 0,jV 0,jV 0,.bool false,jV 0,jV 0,jV 0,.bool false,jV 0,jV 0,jV 0,.bool false]) (cs:=[jV 0,jV 1,jV 0,.bool true,jV 1,jV 1,jV 0,.bool true,jV 3,jV 0,jV 1,.bool false,jV 2,jV 0,jV 0,.bool false]) Z Z Z Z Z (wAG Z (wAG Z (wAG Z (wAG Z wAR)))) ZO ZK Zv Z Z Z Z Z oV ?_)
 intro aU eB oW
 let bz:Res:=.row (some ⟨eB,0,none⟩) 4 93 4 (hD wAJ [(⟨0,1,0,true⟩:wAC),(⟨1,1,0,true⟩:wAC),(⟨3,0,1,false⟩:wAC),(⟨2,0,0,false⟩:wAC)])
 have oY:sW w φ gV [bz,dR,cj,bO,bx,ah,ag,.blk af 39 ae,.blk ac 39 ab,.blk aa 39 O] aU:=oW
 have q:=oY.freezeR (k:=1) (n:=av.Starts.length) rfl (wAE (f:=KL.encI) (sz:=1) (fun _=>rfl) av.Starts) (by decide)
 obtain ⟨tz,uX,r8,oZ⟩:=q
 have o0:sW w φ tz [bz,cj,bO,bx,ah,ag,.blk af 39 ae,.blk ac 39 ab,.blk aa 39 O] aU:=oZ
 have q:=o0.freezeR (k:=1) (n:=av.Splits.length) rfl (wAE (f:=wAD) (sz:=2) (fun _=>rfl) av.Splits) (by decide)
 obtain ⟨tA,sF,r9,o3⟩:=q
 have o6:sW w φ tA [bz,bO,bx,ah,ag,.blk af 39 ae,.blk ac 39 ab,.blk aa 39 O] aU:=o3
 have q:=o6.freezeR (k:=1) (n:=av.Clocks.length) rfl (wAE (f:=wAF) (sz:=3) (fun _=>rfl) av.Clocks) (by decide)
 obtain ⟨tB,gh,sa,o7⟩:=q
 have o8:sW w φ tB [bz,bx,ah,ag,.blk af 39 ae,.blk ac 39 ab,.blk aa 39 O] aU:=o7
 have q:=o8.freezeR (k:=1) (n:=av.Readings.length) rfl (wAE (f:=wAB) (sz:=4) (fun _=>rfl) av.Readings) (by decide)
 obtain ⟨tC,cD,sb,o9⟩:=q
 have pd:sW w φ tC [bz,ah,ag,.blk af 39 ae,.blk ac 39 ab,.blk aa 39 O] aU:=o9
 have q:=pd.freezeR (k:=0) (n:=[(⟨0,1,0,true⟩:wAC),(⟨1,1,0,true⟩:wAC),(⟨3,0,1,false⟩:wAC),(⟨2,0,0,false⟩:wAC)].length) rfl (wAE (f:=wAJ) (sz:=4) (fun _=>rfl) [(⟨0,1,0,true⟩:wAC),(⟨1,1,0,true⟩:wAC),(⟨3,0,1,false⟩:wAC),(⟨2,0,0,false⟩:wAC)]) (by decide)
 obtain ⟨gW,bZ,sc,pe⟩:=q
 have pf:sW w φ gW [ah,ag,.blk af 39 ae,.blk ac 39 ab,.blk aa 39 O] aU:=pe
 have j8:=r8.le sF
 have j9:=j8.le gh
 have k5:=j9.le cD
 have k6:=k5.le bZ
 have k7:=r9.le gh
 have k8:=k7.le cD
 have lb:=k8.le bZ
 have lf:=sa.le cD
 have lg:=lf.le bZ
 have lh:=sb.le bZ
 have q:=bnd qT
 obtain ⟨⟨gw,gx⟩,li,fT⟩:=q
 try dsimp only at fT
 refine zD 0 Z Z Z Z (zE Z Z Tryz.call51 (zB Z (zB Z zM)) Z) pf (fun hs=>wGH av dr ff dt fg du fh dv fj [(⟨0,1,0,true⟩:wAC),(⟨1,1,0,true⟩:wAC),(⟨3,0,1,false⟩:wAC),(⟨2,0,0,false⟩:wAC)] (some ⟨eB,0,none⟩) 4 aU gW hs k6 lb lg lh sc li) (.inr Z) ?_
 rintro gX uf vF ep uY ph ⟨rfl,rfl⟩
 have pj:sW w φ gX [ah,ag,.blk af 39 ae,.blk ac 39 ab,.blk aa 39 O] ep:=ph
 refine oM Z Z (oR Z (zU Z Z (v:=jV gw) Z) (oR Z (zU Z Z (v:=jV gx) Z) (oA Z Z (oA Z Z (eN (sR (.fx 0 (.fx 1 (wHE (.nil)) .stop) .stop) Z (bnK fT fun ax lj qU=>zD 0 Z Z Z Z (zE Z Z Tryz.call59 zM Z) pj (fun hs=>wCq ep gX hs lj) (.inr Z) ?_)))))))
 rintro tD ug vG bn uZ pk ⟨dw,fk,dx,fm,dy,fq,dz,ft,rfl,rfl⟩
 let bP:Res:=.row dz ft 115 4 (hD wAB ax.Readings)
 let cm:Res:=.row dy fq 112 3 (hD wAF ax.Clocks)
 let dW:Res:=.row dx fm 39 2 (hD wAD ax.Splits)
 have pm:sW w φ tD [.row dw fk 3 1 (hD KL.encI ax.Starts),dW,cm,bP,ah,ag,.blk af 39 ae,.blk ac 39 ab,.blk aa 39 O] bn:=pk
 have q:=pm.freezeR (k:=0) (n:=ax.Starts.length) rfl (wAE (f:=KL.encI) (sz:=1) (fun _=>rfl) ax.Starts) (by decide)
 obtain ⟨tE,u0,sd,po⟩:=q
 have pp:sW w φ tE [dW,cm,bP,ah,ag,.blk af 39 ae,.blk ac 39 ab,.blk aa 39 O] bn:=po
 have q:=pp.freezeR (k:=0) (n:=ax.Splits.length) rfl (wAE (f:=wAD) (sz:=2) (fun _=>rfl) ax.Splits) (by decide)
 obtain ⟨tF,sG,se,pq⟩:=q
 have pu:sW w φ tF [cm,bP,ah,ag,.blk af 39 ae,.blk ac 39 ab,.blk aa 39 O] bn:=pq
 have q:=pu.freezeR (k:=0) (n:=ax.Clocks.length) rfl (wAE (f:=wAF) (sz:=3) (fun _=>rfl) ax.Clocks) (by decide)
 obtain ⟨tG,gi,sf,pz⟩:=q
 have pB:sW w φ tG [bP,ah,ag,.blk af 39 ae,.blk ac 39 ab,.blk aa 39 O] bn:=pz
 have q:=pB.freezeR (k:=0) (n:=ax.Readings.length) rfl (wAE (f:=wAB) (sz:=4) (fun _=>rfl) ax.Readings) (by decide)
 obtain ⟨gY,cE,sg,pC⟩:=q
 have pD:sW w φ gY [ah,ag,.blk af 39 ae,.blk ac 39 ab,.blk aa 39 O] bn:=pC
 have lk:=sd.le sG
 have ll:=lk.le gi
 have lm:=ll.le cE
 have ln:=se.le gi
 have lp:=ln.le cE
 have ls:=sf.le cE
 have q:=bnd qU
 obtain ⟨⟨br,gy⟩,lu,fU⟩:=q
 try dsimp only at fU
 refine zD 0 Z Z Z Z (zE Z Z Tryz.call24 (zB Z zM) Z) pD (fun hs=>wJJ ax dw fk dx fm dy fq dz ft bn gY hs lm lp ls sg lu) (.inr Z) ?_
 rintro gZ uh vH eu u7 pE ⟨bG,bW,rfl,rfl⟩
 let aO:Res:=.row bG bW 3 1 (hD KL.encI br)
 have pF:sW w φ gZ [aO,ah,ag,.blk af 39 ae,.blk ac 39 ab,.blk aa 39 O] eu:=pE
 refine oM Z Z (oR Z (zU Z Z (v:=.slice bG br.length bW) Z) (oR Z (zU Z Z (v:=jV gy) Z) (oA Z Z (oA Z Z (eN (sR (.fx 0 (.fx 1 (wHE (.nil)) .stop) .stop) Z (bnK fU fun az lw qW=>zD 0 Z Z Z Z (zE Z Z Tryz.call59 zM Z) pF (fun hs=>wCq eu gZ hs lw) (.inr Z) ?_)))))))
 rintro tH ui vI bo u8 pG ⟨dA,fu,dB,fy,dC,fz,dD,fA,rfl,rfl⟩
 let bQ:Res:=.row dD fA 115 4 (hD wAB az.Readings)
 let cn:Res:=.row dC fz 112 3 (hD wAF az.Clocks)
 let dX:Res:=.row dB fy 39 2 (hD wAD az.Splits)
 have pH:sW w φ tH [.row dA fu 3 1 (hD KL.encI az.Starts),dX,cn,bQ,aO,ah,ag,.blk af 39 ae,.blk ac 39 ab,.blk aa 39 O] bo:=pG
 have q:=pH.freezeR (k:=0) (n:=az.Starts.length) rfl (wAE (f:=KL.encI) (sz:=1) (fun _=>rfl) az.Starts) (by decide)
 obtain ⟨tI,va,sh,pI⟩:=q
 have pJ:sW w φ tI [dX,cn,bQ,aO,ah,ag,.blk af 39 ae,.blk ac 39 ab,.blk aa 39 O] bo:=pI
 have q:=pJ.freezeR (k:=0) (n:=az.Splits.length) rfl (wAE (f:=wAD) (sz:=2) (fun _=>rfl) az.Splits) (by decide)
 obtain ⟨tJ,sH,sj,pK⟩:=q
 have pL:sW w φ tJ [cn,bQ,aO,ah,ag,.blk af 39 ae,.blk ac 39 ab,.blk aa 39 O] bo:=pK
 have q:=pL.freezeR (k:=0) (n:=az.Clocks.length) rfl (wAE (f:=wAF) (sz:=3) (fun _=>rfl) az.Clocks) (by decide)
 obtain ⟨tK,gj,sk,pM⟩:=q
 have pN:sW w φ tK [bQ,aO,ah,ag,.blk af 39 ae,.blk ac 39 ab,.blk aa 39 O] bo:=pM
 have q:=pN.freezeR (k:=0) (n:=az.Readings.length) rfl (wAE (f:=wAB) (sz:=4) (fun _=>rfl) az.Readings) (by decide)
 obtain ⟨g8,cG,sl,pO⟩:=q
 have pP:sW w φ g8 [aO,ah,ag,.blk af 39 ae,.blk ac 39 ab,.blk aa 39 O] bo:=pO
 have lx:=sh.le sH
 have ly:=lx.le gj
 have lz:=ly.le cG
 have lA:=sj.le gj
 have lB:=lA.le cG
 have lC:=sk.le cG
 have q:=bnd qW
 obtain ⟨⟨bs,gz⟩,lD,fV⟩:=q
 try dsimp only at fV
 refine zD 0 Z Z Z Z (zE Z Z Tryz.call27 (zB Z zM) Z) pP (fun hs=>wJK az dA fu dB fy dC fz dD fA bo g8 hs lz lB lC sl lD) (.inr Z) ?_
 rintro ba uk vK iq vc pQ ⟨bH,bX,rfl,rfl⟩
 let be:Res:=.row bH bX 3 1 (hD KL.encI bs)
 have bp:sW w φ ba [be,aO,ah,ag,.blk af 39 ae,.blk ac 39 ab,.blk aa 39 O] iq:=pQ
 refine oM Z Z (oR Z (zU Z Z (v:=.slice bH bs.length bX) Z) (oR Z (zU Z Z (v:=jV gz) Z) (oA Z Z (oA Z Z (eN (zL (yR fun a9 aP=>?_)))))))
 have iF:a9 2=jV gv:=(aP 2).trans rfl
 have iG:a9 4=jV gx:=(aP 4).trans rfl
 have iH:a9 6=jV gy:=(aP 6).trans rfl
 have iI:a9 8=jV gz:=(aP 8).trans rfl
 have iJ:a9 13=jV gw:=(aP 13).trans rfl
 have iK:a9 14=.slice bG br.length bW:=(aP 14).trans rfl
 have iL:a9 15=.slice bH bs.length bX:=(aP 15).trans rfl
 clear aP
 refine rR (wPN (.fx 20 (.fx 21 (wON (.fx 25 (.fx 26 (.fl 27 (.fl 28 .nil)) .stop) .stop)) .stop) .stop)) Z (oM Z iF (oR Z (Zy Z Z Z) (oM Z Z (ifc fV ?_ ?_))))
 intro a5 qX
 refine zw Z Z Z (wT Z a5) Z iG (rU Z (wT Z a5) (Zy Z Z Z) (oR Z (zR Z (Zd a5.out) Z) (oM Z Z (ifc qX ?_ ?_))))
 intro a6 qY
 refine zw Z Z Z (wT Z a6) Z iH (rU Z (wT Z a6) (Zy Z Z Z) (oR Z (zR Z (Zd a6.out) Z) (oM Z Z (ifc qY ?_ ?_))))
 intro a7 qZ
 refine zw Z Z Z (wT Z a7) Z iI (rU Z (wT Z a7) (Zy Z Z Z) (oR Z (zR Z (Zd a7.out) Z) (oM Z Z (ifc qZ ?_ ?_))))
 intro a8 q0
 refine zw Z Z Z (wT Z a8) Z iJ (rU Z (wT Z a8) (Zy Z Z Z) (oR Z (zR Z (Zd a8.out) Z) (oM Z Z (ifc q0 ?_ ?_))))
 intro aK q6
 refine zw Z Z Z (wT Z aK) Z iK (ZR (pv:=[(0,jV 1)]) (zs:=[jV 0]) (cs:=[jV 1]) Z Z Z (wT Z aK) Z (wAG Z wAR) zK zC ZG Z Z Z Z Z bp ?_)
 intro bU eC pS
 let dY:Res:=.row (some ⟨eC,0,none⟩) 1 3 1 (hD KL.encI [1])
 have pT:sW w φ ba [dY,be,aO,ah,ag,.blk af 39 ae,.blk ac 39 ab,.blk aa 39 O] bU:=pS
 have q:=pT.freezeR (k:=2) (n:=br.length) rfl (wAE (f:=KL.encI) (sz:=1) (fun _=>rfl) br) (by decide)
 obtain ⟨tL,vd,sm,pU⟩:=q
 have pV:sW w φ tL [dY,be,ah,ag,.blk af 39 ae,.blk ac 39 ab,.blk aa 39 O] bU:=pU
 have q:=pV.freezeR (k:=0) (n:=[1].length) rfl (wAE (f:=KL.encI) (sz:=1) (fun _=>rfl) [1]) (by decide)
 obtain ⟨g9,sI,sn,pW⟩:=q
 have pX:sW w φ g9 [be,ah,ag,.blk af 39 ae,.blk ac 39 ab,.blk aa 39 O] bU:=pW
 have lE:=sm.le sI
 refine bnK q6 fun vP lF q7=>zD 0 Z Z Z (wT Z aK) (zE Z Z Tryz.call26 (zB Z (zB Z zM)) Z) pX (fun hs=>wDW br bG bW [1] (some ⟨eC,0,none⟩) 1 bU g9 hs lE sn lF) (.inr Z) ?_
 rintro cM um vL ir ve pY ⟨rfl,rfl⟩
 have fJ:sW w φ cM [be,ah,ag,.blk af 39 ae,.blk ac 39 ab,.blk aa 39 O] ir:=pY
 refine oR Z (zR Z (Zd aK.out) Z) (oM Z Z (ifc q7 ?_ ?_))
 intro aL q8
 refine zw Z Z Z (zI Z Z (congrArg hH aL.out)) Z iL (ZR (pv:=[(0,jV 1)]) (zs:=[jV 0]) (cs:=[jV 1]) Z Z Z (zI Z Z (congrArg hH aL.out)) Z (wAG Z wAR) zK zC ZG Z Z Z Z Z fJ ?_)
 intro bV eD p6
 let dZ:Res:=.row (some ⟨eD,0,none⟩) 1 3 1 (hD KL.encI [1])
 have p7:sW w φ cM [dZ,be,ah,ag,.blk af 39 ae,.blk ac 39 ab,.blk aa 39 O] bV:=p6
 have q:=p7.freezeR (k:=1) (n:=bs.length) rfl (wAE (f:=KL.encI) (sz:=1) (fun _=>rfl) bs) (by decide)
 obtain ⟨tM,vf,so,p8⟩:=q
 have p9:sW w φ tM [dZ,ah,ag,.blk af 39 ae,.blk ac 39 ab,.blk aa 39 O] bV:=p8
 have q:=p9.freezeR (k:=0) (n:=[1].length) rfl (wAE (f:=KL.encI) (sz:=1) (fun _=>rfl) [1]) (by decide)
 obtain ⟨ib,sJ,sq,qa⟩:=q
 have qb:sW w φ ib [ah,ag,.blk af 39 ae,.blk ac 39 ab,.blk aa 39 O] bV:=qa
 have lG:=so.le sJ
 refine bnK q8 fun vQ lH q9=>zD 0 Z Z Z (zI Z Z (congrArg hH aL.out)) (zE Z Z Tryz.call26 (zB Z (zB Z zM)) Z) qb (fun hs=>wDW bs bH bX [1] (some ⟨eD,0,none⟩) 1 bV ib hs lG sq lH) (.inr Z) ?_
 rintro ic uo vM it vg qc ⟨rfl,rfl⟩
 have qd:sW w φ ic [ah,ag,.blk af 39 ae,.blk ac 39 ab,.blk aa 39 O] it:=qc
 refine oR Z (zR Z (congrArg hH aL.out) Z) (oA Z Z (eN (zO ?_)))
 have hE:=hU q9;first | subst r | cases hE
 exact ⟨rfl,_,(ZA rfl),ic,_,(qd.pick [] _ (by decide) rfl),rfl,rfl⟩
 intro aL rc
 refine zy Z Z Z (zP Z Z (congrArg hH (hJ.2 aL.out)) Z) (ZC Z Z Z (zP Z Z (congrArg hH (hJ.2 aL.out)) Z) (ZC Z Z Z (zP Z Z (congrArg hH (hJ.2 aL.out)) Z) (oR Z (zW Z (congrArg hH (hJ.2 aL.out)) Z) (oA Z Z (eN (zO ?_))))))
 have hE:=hU rc;first | subst r | cases hE
 exact ⟨rfl,_,(ZA rfl),cM,_,(fJ.pick [] _ (by decide) rfl),rfl,rfl⟩
 intro aK rd
 refine oF Z aK (ZC Z Z Z (zP Z Z (zu aK.out) Z) (ZC Z Z Z (zP Z Z (zu aK.out) Z) (oR Z (zW Z (zu aK.out) Z) (oM Z Z (oN Z (ZC Z Z Z (zP Z Z Z Z) (ZC Z Z Z (zP Z Z Z Z) (oR Z (zW Z Z Z) (oA Z Z (eN (zO ?_)))))))))))
 have hE:=hU rd;first | subst r | cases hE
 exact ⟨rfl,_,(ZA rfl),ba,_,(bp.pick [] _ (by decide) rfl),rfl,rfl⟩
 intro a8 rf
 refine oF Z a8 (oF Z a8 (oR Z (zW Z (zu a8.out) Z) (oM Z Z (oN Z (ZC Z Z Z (zP Z Z Z Z) (ZC Z Z Z (zP Z Z Z Z) (oR Z (zW Z Z Z) (oM Z Z (oN Z (ZC Z Z Z (zP Z Z Z Z) (ZC Z Z Z (zP Z Z Z Z) (oR Z (zW Z Z Z) (oA Z Z (eN (zO ?_)))))))))))))))
 have hE:=hU rf;first | subst r | cases hE
 exact ⟨rfl,_,(ZA rfl),ba,_,(bp.pick [] _ (by decide) rfl),rfl,rfl⟩
 intro a7 rh
 refine oF Z a7 (oF Z a7 (oR Z (zW Z (zu a7.out) Z) (oM Z Z (oN Z (oN Z (oR Z (zW Z Z Z) (oM Z Z (oN Z (ZC Z Z Z (zP Z Z Z Z) (ZC Z Z Z (zP Z Z Z Z) (oR Z (zW Z Z Z) (oM Z Z (oN Z (ZC Z Z Z (zP Z Z Z Z) (ZC Z Z Z (zP Z Z Z Z) (oR Z (zW Z Z Z) (oA Z Z (eN (zO ?_)))))))))))))))))))
 have hE:=hU rh;first | subst r | cases hE
 exact ⟨rfl,_,(ZA rfl),ba,_,(bp.pick [] _ (by decide) rfl),rfl,rfl⟩
 intro a6 ri
 refine oF Z a6 (oF Z a6 (oR Z (zW Z (zu a6.out) Z) (oM Z Z (oN Z (oN Z (oR Z (zW Z Z Z) (oM Z Z (oN Z (oN Z (oR Z (zW Z Z Z) (oM Z Z (oN Z (ZC Z Z Z (zP Z Z Z Z) (ZC Z Z Z (zP Z Z Z Z) (oR Z (zW Z Z Z) (oM Z Z (oN Z (ZC Z Z Z (zP Z Z Z Z) (ZC Z Z Z (zP Z Z Z Z) (oR Z (zW Z Z Z) (oA Z Z (eN (zO ?_)))))))))))))))))))))))
 have hE:=hU ri;first | subst r | cases hE
 exact ⟨rfl,_,(ZA rfl),ba,_,(bp.pick [] _ (by decide) rfl),rfl,rfl⟩
 intro a5 rk
 refine oF Z a5 (oF Z a5 (oR Z (zW Z (zu a5.out) Z) (oM Z Z (oN Z (oN Z (oR Z (zW Z Z Z) (oM Z Z (oN Z (oN Z (oR Z (zW Z Z Z) (oM Z Z (oN Z (oN Z (oR Z (zW Z Z Z) (oM Z Z (oN Z (ZC Z Z Z (zP Z Z Z Z) (ZC Z Z Z (zP Z Z Z Z) (oR Z (zW Z Z Z) (oM Z Z (oN Z (ZC Z Z Z (zP Z Z Z Z) (ZC Z Z Z (zP Z Z Z Z) (oR Z (zW Z Z Z) (oA Z Z (eN (zO ?_)))))))))))))))))))))))))))
 have hE:=hU rk;first | subst r | cases hE
 exact ⟨rfl,_,(ZA rfl),ba,_,(bp.pick [] _ (by decide) rfl),rfl,rfl⟩
end Go.Proofs.YtlnfbjphfoipaaaGreat
namespace Go.Proofs.YtlnfbjphfoipaaaGreat
open Go.KL
set_option maxHeartbeats 4000000
theorem wDX (O:List Int) (ag:Option Addr) (ah:Nat) (w:World) (φ:PHeap) (hS:St0 w φ []) (ap:Sl φ 1 ag ah O.length (hD KL.encI O)) {r:(List Int)} (hm:wBf O=some r):Gv Tryz.prog 32 [.slice ag O.length ah] w (wCG w [] φ (fun φ_ L_ v=>∃ (A0:Option Addr) (c0:Nat),v=.slice A0 r.length c0/\L_=[.row A0 c0 3 1 (hD KL.encI r)])):=by
 unfold wBf at hm
 refine Gv.of Tryz.func32 Z Tryz.ntmps32 Tryz.results32 Z (sR fL1 Z (oA Z Z (eN (sR gDy Z (oM Z Z ?_)))))
 have am:=hS.nilrow 3 1
 have af:sW w φ φ [.row none 0 3 1 (hD KL.encI ([]:List Int))] w:=am
 refine bnK hm fun x4 h5 aq=>yb (j:=0) (enc:=KL.encI) (xs:=([]:List Int)) (ys:=O) (zs:=x4) Z Z Z Z Z Tryz.underlying22 wKj Z Z Z Z Z Z af Z Z Z (af.srcS ap) (fun _=>Z) (fun _=>Z) h5 Z ?_
 intro A7 c8 W9 an
 have ao:sW w φ φ [.row A7 c8 3 1 (hD KL.encI x4)] W9:=an
 refine oA Z Z (eN (zO ?_))
 have hE:=hU aq;first | subst r | cases hE
 exact ⟨Z,_,(ZA Z),φ,_,ao,A7,c8,Z,Z⟩
theorem wBx (O:List wAO) (ag:Option Addr) (ah:Nat) (w:World) (φ:PHeap) (hS:St0 w φ []) (ap:Sl φ 2 ag ah O.length (hD wAD O)) {r:(List wAO)} (hm:wBA O=some r):Gv Tryz.prog 60 [.slice ag O.length ah] w (wCG w [] φ (fun φ_ L_ v=>∃ (A0:Option Addr) (c0:Nat),v=.slice A0 r.length c0/\L_=[.row A0 c0 39 2 (hD wAD r)])):=by
 unfold wBA at hm
 refine Gv.of Tryz.func60 Z Tryz.ntmps60 Tryz.results60 Z (sR fL1 Z (oA Z Z (eN (sR gDy Z (oM Z Z ?_)))))
 have am:=hS.nilrow 39 2
 have af:sW w φ φ [.row none 0 39 2 (hD wAD ([]:List wAO))] w:=am
 refine bnK hm fun x4 h5 aq=>yb (j:=0) (enc:=wAD) (xs:=([]:List wAO)) (ys:=O) (zs:=x4) Z Z Z Z Z Tryz.underlying23 wMy Z Z Z Z Z Z af Z Z Z (af.srcS ap) (fun _=>Z) (fun _=>Z) h5 Z ?_
 intro A7 c8 W9 an
 have ao:sW w φ φ [.row A7 c8 39 2 (hD wAD x4)] W9:=an
 refine oA Z Z (eN (zO ?_))
 have hE:=hU aq;first | subst r | cases hE
 exact ⟨Z,_,(ZA Z),φ,_,ao,A7,c8,Z,Z⟩
theorem wEf (O:List wAi) (ag:Option Addr) (ah:Nat) (w:World) (φ:PHeap) (hS:St0 w φ []) (ap:Sl φ 3 ag ah O.length (hD wAF O)) {r:(List wAi)} (hm:wBh O=some r):Gv Tryz.prog 61 [.slice ag O.length ah] w (wCG w [] φ (fun φ_ L_ v=>∃ (A0:Option Addr) (c0:Nat),v=.slice A0 r.length c0/\L_=[.row A0 c0 112 3 (hD wAF r)])):=by
 unfold wBh at hm
 refine Gv.of Tryz.func61 Z Tryz.ntmps61 Tryz.results61 Z (sR fL1 Z (oA Z Z (eN (sR gDy Z (oM Z Z ?_)))))
 have am:=hS.nilrow 112 3
 have af:sW w φ φ [.row none 0 112 3 (hD wAF ([]:List wAi))] w:=am
 refine bnK hm fun x4 h5 aq=>yb (j:=0) (enc:=wAF) (xs:=([]:List wAi)) (ys:=O) (zs:=x4) Z Z Z Z Z Tryz.underlying24 wNa Z Z Z Z Z Z af Z Z Z (af.srcS ap) (fun _=>Z) (fun _=>Z) h5 Z ?_
 intro A7 c8 W9 an
 have ao:sW w φ φ [.row A7 c8 112 3 (hD wAF x4)] W9:=an
 refine oA Z Z (eN (zO ?_))
 have hE:=hU aq;first | subst r | cases hE
 exact ⟨Z,_,(ZA Z),φ,_,ao,A7,c8,Z,Z⟩
theorem wEL (O:List wAK) (ag:Option Addr) (ah:Nat) (w:World) (φ:PHeap) (hS:St0 w φ []) (ap:Sl φ 4 ag ah O.length (hD wAB O)) {r:(List wAK)} (hm:wBZ O=some r):Gv Tryz.prog 62 [.slice ag O.length ah] w (wCG w [] φ (fun φ_ L_ v=>∃ (A0:Option Addr) (c0:Nat),v=.slice A0 r.length c0/\L_=[.row A0 c0 115 4 (hD wAB r)])):=by
 unfold wBZ at hm
 refine Gv.of Tryz.func62 Z Tryz.ntmps62 Tryz.results62 Z (sR fL1 Z (oA Z Z (eN (sR gDy Z (oM Z Z ?_)))))
 have am:=hS.nilrow 115 4
 have af:sW w φ φ [.row none 0 115 4 (hD wAB ([]:List wAK))] w:=am
 refine bnK hm fun x4 h5 aq=>yb (j:=0) (enc:=wAB) (xs:=([]:List wAK)) (ys:=O) (zs:=x4) Z Z Z Z Z Tryz.underlying25 wJo Z Z Z Z Z Z af Z Z Z (af.srcS ap) (fun _=>Z) (fun _=>Z) h5 Z ?_
 intro A7 c8 W9 an
 have ao:sW w φ φ [.row A7 c8 115 4 (hD wAB x4)] W9:=an
 refine oA Z Z (eN (zO ?_))
 have hE:=hU aq;first | subst r | cases hE
 exact ⟨Z,_,(ZA Z),φ,_,ao,A7,c8,Z,Z⟩
theorem wFz (O:wAA) (ai:Option Addr) (an:Nat) (aj:Option Addr) (ao:Nat) (ak:Option Addr) (ap:Nat) (am:Option Addr) (aq:Nat) (w:World) (φ:PHeap) (hS:St0 w φ []) (bD:Sl φ 1 ai an O.Starts.length (hD KL.encI O.Starts)) (bE:Sl φ 2 aj ao O.Splits.length (hD wAD O.Splits)) (bF:Sl φ 3 ak ap O.Clocks.length (hD wAF O.Clocks)) (bG:Sl φ 4 am aq O.Readings.length (hD wAB O.Readings)) {r:wAA} (hm:wCU O=some r):Gv Tryz.prog 10 [.agg #[.slice ai O.Starts.length an,.slice aj O.Splits.length ao,.slice ak O.Clocks.length ap,.slice am O.Readings.length aq]] w (wCG w [] φ (fun φ_ L_ v=>∃ (aP:Option Addr) (aY:Nat) (aQ:Option Addr) (aZ:Nat) (aR:Option Addr) (a5:Nat) (aS:Option Addr) (a6:Nat),v=.agg #[.slice aP r.Starts.length aY,.slice aQ r.Splits.length aZ,.slice aR r.Clocks.length a5,.slice aS r.Readings.length a6]/\L_=[.row aP aY 3 1 (hD KL.encI r.Starts),.row aQ aZ 39 2 (hD wAD r.Splits),.row aR a5 112 3 (hD wAF r.Clocks),.row aS a6 115 4 (hD wAB r.Readings)])):=by
 unfold wCU at hm
 refine Gv.of Tryz.func10 Z Tryz.ntmps10 Tryz.results10 Z (sR gDv Z ?_)
 let B0:List Value:=[.slice ai O.Starts.length an,.slice aj O.Splits.length ao,.slice ak O.Clocks.length ap,.slice am O.Readings.length aq]
 refine zn (cs:=B0) rfl rfl rfl rfl rfl rfl (by rfl) hS ?_
 intro W1 b2 bt
 let B1:List Value:=[.slice none 0 0,.slice none 0 0,.slice none 0 0,.slice none 0 0]
 refine zV (cs:=B1) Z Z Z Z Z yy Z bt ?_
 intro W5 b6 bB
 refine eN (zL (zx zt [3,1,2,3,1,2,3,1,2,3,1,2,3,0] (.fl 0 (.fl 1 (.fl 3 (.fl 4 (.fl 6 (.fl 7 (.fl 9 (.fl 10 (.fx 2 (.fx 5 (.fx 8 (.fx 11 (.fl 12 (.fx 13 .nil .stop)) .stop) .stop) .stop) .stop))))))))) (by kernel_rfl) ?_))
 have ac:=bB.drew
 generalize hw_W10:({ W5 with drawn:=W5.drawn + 1 }:World)=bc at ac ⊢
 refine oR Z (zF Z Z zT Z zg) (oL Z (ac.ldB (j:=1) Z Z Z zr (v:=.slice ai O.Starts.length an) Z) (oR Z (zF Z Z zT Z Zm) (oL Z (ac.ldB (j:=1) Z Z Z Zq (v:=.slice aj O.Splits.length ao) Z) (oR Z (zF Z Z zT Z yQ) (oL Z (ac.ldB (j:=1) Z Z Z yZ (v:=.slice ak O.Clocks.length ap) Z) (oR Z (zF Z Z zT Z Zr) (oL Z (ac.ldB (j:=1) Z Z Z yD (v:=.slice am O.Readings.length aq) Z) (bnK hm fun aK bf bH=>zD 0 Z Z Z Z (zE Z Z Tryz.call32 (zB Z zM) Z) ac (fun hs=>wDX O.Starts ai an bc φ hs bD bf) (.inr Z) ?_))))))))
 rintro a9 bM bS aU aJ br ⟨au,aE,rfl,rfl⟩
 let B2:Res:=.row au aE 3 1 (hD KL.encI aK)
 have bs:sW w φ a9 [B2,.blk b6 27 B1,.blk b2 27 B0] aU:=br
 have bg:=bE.le aJ
 refine bnK bH fun aL bh bI=>zD 0 Z Z Z Z (zE Z Z Tryz.call60 (zB Z zM) Z) bs (fun hs=>wBx O.Splits aj ao aU a9 hs bg bh) (.inr Z) ?_
 rintro ba bN bT aV a8 bu ⟨av,aF,rfl,rfl⟩
 let B3:Res:=.row av aF 39 2 (hD wAD aL)
 have bv:sW w φ ba [B3,B2,.blk b6 27 B1,.blk b2 27 B0] aV:=bu
 have bi:=bF.le aJ
 have bj:=bi.le a8
 refine bnK bI fun aM bm bJ=>zD 0 Z Z Z Z (zE Z Z Tryz.call61 (zB Z zM) Z) bv (fun hs=>wEf O.Clocks ak ap aV ba hs bj bm) (.inr Z) ?_
 rintro bb bO bU aW bL bw ⟨ax,aG,rfl,rfl⟩
 let B4:Res:=.row ax aG 112 3 (hD wAF aM)
 have bx:sW w φ bb [B4,B3,B2,.blk b6 27 B1,.blk b2 27 B0] aW:=bw
 have bn:=bG.le aJ
 have bo:=bn.le a8
 have bp:=bo.le bL
 refine bnK bJ fun aN bq bK=>zD 0 Z Z Z Z (zE Z Z Tryz.call62 (zB Z zM) Z) bx (fun hs=>wEL O.Readings am aq aW bb hs bp bq) (.inr Z) ?_
 rintro aO bP bV bd bR bz ⟨ay,aH,rfl,rfl⟩
 let B5:Res:=.row ay aH 115 4 (hD wAB aN)
 have bA:sW w φ aO [B5,B4,B3,B2,.blk b6 27 B1,.blk b2 27 B0] bd:=bz
 let B6:List Value:=[.slice au aK.length aE,.slice av aL.length aF,.slice ax aM.length aG,.slice ay aN.length aH]
 refine oR Z (ZB (pv:=[(0,.slice au aK.length aE),(1,.slice av aL.length aF),(2,.slice ax aM.length aG),(3,.slice ay aN.length aH)]) (z:=B1) (cs:=B6) Z (wAG Z (wAG Z (wAG Z (wAG Z wAR)))) yy wKJ Z Z) (zX (j:=4) (vs:=B6) Z Z Z Z bA Z Z Z Z zZ (zA Z) Z Z Z ?_)
 intro be bC
 have a7:sW w φ aO [B5,B4,B3,B2,.blk b6 27 B6,.blk b2 27 B0] be:=bC
 refine eN (zO ?_)
 cases bK
 exact ⟨rfl,_,(wHW (v:=.agg B6.toArray) ⟨⟨_,rfl,(wBQ zo zZ (a7.blkAt (k:=4) rfl) (vs:=B6) rfl rfl)⟩,trivial⟩),aO,_,(a7.pick [3,2,1,0] _ (by decide) rfl),au,aE,av,aF,ax,aG,ay,aH,rfl,rfl⟩
theorem wEm (O:List wAC) (ag:Option Addr) (ah:Nat) (w:World) (φ:PHeap) (hS:St0 w φ []) (ap:Sl φ 4 ag ah O.length (hD wAJ O)) {r:(List wAC)} (hm:wBM O=some r):Gv Tryz.prog 47 [.slice ag O.length ah] w (wCG w [] φ (fun φ_ L_ v=>∃ (A0:Option Addr) (c0:Nat),v=.slice A0 r.length c0/\L_=[.row A0 c0 93 4 (hD wAJ r)])):=by
 unfold wBM at hm
 refine Gv.of Tryz.func47 Z Tryz.ntmps47 Tryz.results47 Z (sR fL1 Z (oA Z Z (eN (sR gDy Z (oM Z Z ?_)))))
 have am:=hS.nilrow 93 4
 have af:sW w φ φ [.row none 0 93 4 (hD wAJ ([]:List wAC))] w:=am
 refine bnK hm fun x4 h5 aq=>yb (j:=0) (enc:=wAJ) (xs:=([]:List wAC)) (ys:=O) (zs:=x4) Z Z Z Z Z Tryz.underlying89 wMz Z Z Z Z Z Z af Z Z Z (af.srcS ap) (fun _=>Z) (fun _=>Z) h5 Z ?_
 intro A7 c8 W9 an
 have ao:sW w φ φ [.row A7 c8 93 4 (hD wAJ x4)] W9:=an
 refine oA Z Z (eN (zO ?_))
 have hE:=hU aq;first | subst r | cases hE
 exact ⟨Z,_,(ZA Z),φ,_,ao,A7,c8,Z,Z⟩
theorem wGQ (O:wAA) (aR:Option Addr) (aS:Nat) (aH:Option Addr) (aI:Nat) (aX:Option Addr) (aZ:Nat) (aY:Option Addr) (a5:Nat) (w:World) (φ:PHeap) (hS:St0 w φ []) (cU:Sl φ 1 aR aS O.Starts.length (hD KL.encI O.Starts)) (bM:Sl φ 2 aH aI O.Splits.length (hD wAD O.Splits)) (e8:Sl φ 3 aX aZ O.Clocks.length (hD wAF O.Clocks)) (e9:Sl φ 4 aY a5 O.Readings.length (hD wAB O.Readings)) {r:wAI} (hm:wCi O=some r):Gv Tryz.prog 11 [.agg #[.slice aR O.Starts.length aS,.slice aH O.Splits.length aI,.slice aX O.Clocks.length aZ,.slice aY O.Readings.length a5]] w (wCG w [] φ (fun φ_ L_ v=>∃ (bW:Option Addr) (cr:Nat) (bX:Option Addr) (ct:Nat) (bY:Option Addr) (cu:Nat) (bZ:Option Addr) (cw:Nat),v=.agg #[.slice bW r.Starts.length cr,.slice bX r.Splits.length ct,.slice bY r.Clocks.length cu,.slice bZ r.Readings.length cw]/\L_=[.row bW cr 3 1 (hD KL.encI r.Starts),.row bX ct 39 2 (hD wAD r.Splits),.row bY cu 116 3 (hD wAN r.Clocks),.row bZ cw 117 4 (hD wAL r.Readings)])):=by
 unfold wCi at hm
 refine Gv.of Tryz.func11 Z Tryz.ntmps11 Tryz.results11 Z (sR gDv Z ?_)
 let B0:List Value:=[.slice aR O.Starts.length aS,.slice aH O.Splits.length aI,.slice aX O.Clocks.length aZ,.slice aY O.Readings.length a5]
 refine zn (cs:=B0) rfl rfl rfl rfl rfl rfl (by rfl) hS ?_
 intro W1 b2 eI
 let B1:List Value:=[.slice none 0 0,.slice none 0 0,.slice none 0 0,.slice none 0 0]
 refine zV (cs:=B1) Z Z Z Z Z yq Z eI ?_
 intro W5 b6 eU
 refine eN ?_
 have q:=bnd hm
 obtain ⟨⟨ap,aq⟩,fz,cV⟩:=q
 try dsimp only at cV
 refine yX (fun σ_ w_=>∃ (φ_:PHeap) (ai:Nat) (ag:Option Addr) (aj:Nat) (ah:Option Addr) (ak:Nat),σ_ 1=.pointer (some ⟨b2,0,none⟩)/\σ_ 2=.pointer (some ⟨b6,0,none⟩)/\σ_ 3=.pointer (some ⟨ai,0,none⟩)/\PHeap.Le φ φ_/\sW w φ φ_ [.blk b6 36 B1,.blk b2 27 B0,.blk ai 36 [.slice ag ap.length aj,.slice ah aq.length ak,.slice none 0 0,.slice none 0 0],.row ag aj 3 1 (hD KL.encI ap),.row ah ak 39 2 (hD wAD aq)] w_) ?_ ?_
 refine bnK fz fun ay cH fy=>bnK fy fun au bJ bR=>zx zt [3,1,2,3,1,2,3,2,0] (.fl 0 (.fl 1 (.fl 3 (.fl 4 (.fx 2 (.fx 5 (.fl 6 (.fx 7 (.fx 8 .nil .stop) .stop)) (.fx 7 gEd .stop)) (.fx 7 (.fx 2 gEd .stop) .stop)))))) (by kernel_rfl) ?_
 have aU:=eU.drew
 generalize hw_W57:({ W5 with drawn:=W5.drawn + 1 }:World)=dx at aU ⊢
 refine oR Z (zF Z Z zT Z zg) (oL Z (aU.ldB (j:=1) Z Z Z zr (v:=.slice aR O.Starts.length aS) Z) (oR Z (zF Z Z zT Z Zm) (oL Z (aU.ldB (j:=1) Z Z Z Zq (v:=.slice aH O.Splits.length aI) Z) (ZJ ?_ ?_))))
 refine zD 0 Z Z Z Z (zE Z Z Tryz.call32 (zB Z zM) Z) aU (fun hs=>wDX O.Starts aR aS dx φ hs cU cH) (.inr Z) ?_
 rintro bU fK ge cp bq eS ⟨az,aE,rfl,rfl⟩
 let B2:Res:=.row az aE 3 1 (hD KL.encI ay)
 have cS:sW w φ bU [B2,.blk b6 36 B1,.blk b2 27 B0] cp:=eS
 refine ZJ ?_ ?_
 have d5:=bM.le bq
 refine zD 0 Z Z Z Z (zE Z Z Tryz.call60 (zB Z zM) Z) cS (fun hs=>wBx O.Splits aH aI cp bU hs d5 bJ) (.inr Z) ?_
 rintro bV fL gg dy fG eV ⟨be,bp,rfl,rfl⟩
 let B3:Res:=.row be bp 39 2 (hD wAD au)
 have eW:sW w φ bV [B3,B2,.blk b6 36 B1,.blk b2 27 B0] dy:=eV
 let B4:List Value:=[.slice az ay.length aE,.slice be au.length bp,.slice none 0 0,.slice none 0 0]
 refine oR Z (ZB (pv:=[(0,.slice az ay.length aE),(1,.slice be au.length bp)]) (z:=B1) (cs:=B4) Z (wAG Z (wAG Z wAR)) yq wIb Z Z) (zV (cs:=B1) Z Z Z Z Z yq Z eW ?_)
 intro fU cq eX
 refine zX (j:=0) (vs:=B4) Z Z Z Z eX Z Z Z Z ZF (zA Z) Z Z Z ?_
 intro dz eY
 have eZ:sW w φ bV [.blk cq 36 B4,B3,B2,.blk b6 36 B1,.blk b2 27 B0] dz:=eY
 refine zf ?_
 cases bR
 exact zJ ⟨rfl,⟨bV,cq,az,aE,be,bp,rfl,rfl,rfl,(bq.trans fG),(eZ.pick [3,4,0,2,1] _ (by decide) rfl)⟩⟩
 refine zV (cs:=B1) Z Z Z Z Z yq Z cS ?_
 intro dA bD e6
 have dS:=bM.le bq
 refine zD 0 Z Z Z Z (zE Z Z Tryz.call60 (zB Z zM) Z) e6 (fun hs=>wBx O.Splits aH aI dA bU hs dS bJ) (.inr Z) ?_
 rintro bS fH f8 df fC eg ⟨a9,bi,rfl,rfl⟩
 let B5:Res:=.row a9 bi 39 2 (hD wAD au)
 have eh:sW w φ bS [B5,.blk bD 36 B1,B2,.blk b6 36 B1,.blk b2 27 B0] df:=eg
 let B6:List Value:=[.slice az ay.length aE,.slice a9 au.length bi,.slice none 0 0,.slice none 0 0]
 refine oR Z (ZB (pv:=[(0,.slice az ay.length aE),(1,.slice a9 au.length bi)]) (z:=B1) (cs:=B6) Z (wAG Z (wAG Z wAR)) yq wIb Z Z) (zX (j:=1) (vs:=B6) Z Z Z Z eh Z Z Z Z ZF (zA Z) Z Z Z ?_)
 intro dg ej
 have ek:sW w φ bS [B5,.blk bD 36 B6,B2,.blk b6 36 B1,.blk b2 27 B0] dg:=ej
 refine zf ?_
 cases bR
 exact zJ ⟨rfl,⟨bS,bD,az,aE,a9,bi,rfl,rfl,rfl,(bq.trans fC),(ek.pick [3,4,1,2,0] _ (by decide) rfl)⟩⟩
 refine zV (cs:=B1) Z Z Z Z Z yq Z aU ?_
 intro dh bf en
 refine zD 0 Z Z Z Z (zE Z Z Tryz.call32 (zB Z zM) Z) en (fun hs=>wDX O.Starts aR aS dh φ hs cU cH) (.inr Z) ?_
 rintro da fI f9 cn cW eo ⟨ba,bj,rfl,rfl⟩
 let B7:Res:=.row ba bj 3 1 (hD KL.encI ay)
 have ep:sW w φ da [B7,.blk bf 36 B1,.blk b6 36 B1,.blk b2 27 B0] cn:=eo
 have dT:=bM.le cW
 refine zD 0 Z Z Z Z (zE Z Z Tryz.call60 (zB Z zM) Z) ep (fun hs=>wBx O.Splits aH aI cn da hs dT bJ) (.inr Z) ?_
 rintro bT fJ ga di fD er ⟨bb,bm,rfl,rfl⟩
 let B8:Res:=.row bb bm 39 2 (hD wAD au)
 have eu:sW w φ bT [B8,B7,.blk bf 36 B1,.blk b6 36 B1,.blk b2 27 B0] di:=er
 let B9:List Value:=[.slice ba ay.length bj,.slice bb au.length bm,.slice none 0 0,.slice none 0 0]
 refine oR Z (ZB (pv:=[(0,.slice ba ay.length bj),(1,.slice bb au.length bm)]) (z:=B1) (cs:=B9) Z (wAG Z (wAG Z wAR)) yq wIb Z Z) (zX (j:=2) (vs:=B9) Z Z Z Z eu Z Z Z Z ZF (zA Z) Z Z Z ?_)
 intro dk ew
 have ey:sW w φ bT [B8,B7,.blk bf 36 B9,.blk b6 36 B1,.blk b2 27 B0] dk:=ew
 refine zf ?_
 cases bR
 exact zJ ⟨rfl,⟨bT,bf,ba,bj,bb,bm,rfl,rfl,rfl,(cW.trans fD),(ey.pick [3,4,2,1,0] _ (by decide) rfl)⟩⟩
 rintro gj fN ⟨db,ai,ag,aj,ah,ak,cz,dF,dG,cX,cK⟩
 refine zL (sR fL4 Z (oR Z (zF Z cz zT Z yQ) (oL Z (cK.ldB (j:=1) Z Z Z yZ (v:=.slice aX O.Clocks.length aZ) Z) (oR Z (zi Z Z Ze) (oM Z Z (eN (zY (bnK cV fun a6 fb fj=>?_))))))))
 have q:=wCC fb
 obtain ⟨bP,fc⟩:=q
 replace bP:=zN bP
 let an:Res:=.row ah ak 39 2 (hD wAD aq)
 let ao:Res:=.row ag aj 3 1 (hD KL.encI ap)
 refine CK.forN' (fun aV aF σ_ w_=>∃ (φ_:PHeap) (aJ:Option Addr) (aO:Nat),σ_ 18=jV (↑aV:Int)/\σ_ 1=.pointer (some ⟨b2,0,none⟩)/\σ_ 2=.pointer (some ⟨b6,0,none⟩)/\σ_ 3=.pointer (some ⟨ai,0,none⟩)/\σ_ 16=.slice aX O.Clocks.length aZ/\σ_ 17=jV (↑O.Clocks.length:Int)/\PHeap.Le db φ_/\sW w φ φ_ [.blk b6 36 B1,.blk b2 27 B0,ao,an,.row aJ aO 116 3 (hD wAN aF),.blk ai 36 [.slice ag ap.length aj,.slice ah aq.length ak,.slice aJ aF.length aO,.slice none 0 0]] w_) fc ?_ ?_ ?_
 have ez:=cK.nilrow 116 3
 exact ⟨db,none,0,rfl,cz,dF,dG,rfl,rfl,(zS _),(ez.pick [1,2,4,5,0,3] _ (by decide) rfl)⟩
 rintro aV aF gh gk fO bN ⟨a7,aJ,aO,bH,dH,dI,bF,cA,cC,cY,cL⟩ fA
 have cx:Hid ((↑aV:Int) < (↑O.Clocks.length:Int)):=zN (wBO bN)
 replace bN:=zN bN
 have fg:Hid (w64 ((↑aV:Int) + 1)=(↑(aV + 1):Int)):=zN (by have h1:=bP.out;have h2:=cx.out;rw [wAb] <;> omega)
 refine sR fL1 Z (oR Z (ze Z bH cC) (eN (zL (cT Z cx (kN (zL (zY (sR gEk Z (bnK fA fun am cI fk=>?_)))))))))
 have dU:=e8.le cX
 have dV:=dU.le cY
 have q:=dV.el (fun _=>rfl) (wAe cI)
 obtain ⟨fV,f5,d6,d8⟩:=q
 refine oR Z (Zc Z cA d6 bH Ze yE (wCa cI)) (oL Z (cL.ldCA (f:=0) d8 Z Z Tryz.isAgg112 yE (us:=[jV am.Offset.Lo,jV am.Offset.Hi,jV am.Error]) Z Z) ?_)
 let b5:List Value:=[jV 0,jV 0,jV 0]
 refine zV (cs:=b5) Z Z Z Z Z Tryz.zeroValue112 Z cL ?_
 intro fP bg eA
 let av:List Value:=[jV am.Offset.Lo,jV am.Offset.Hi,jV am.Error]
 refine zX (j:=0) (vs:=av) Z Z Z Z eA Z Z Z Z yE (zA Z) Z Z Z ?_
 intro dl eB
 let bu:Res:=.blk ai 36 [.slice ag ap.length aj,.slice ah aq.length ak,.slice aJ aF.length aO,.slice none 0 0]
 let ca:Res:=.row aJ aO 116 3 (hD wAN aF)
 have bK:sW w φ a7 [.blk bg 112 av,.blk b6 36 B1,.blk b2 27 B0,ao,an,ca,bu] dl:=eB
 refine eN (rR (wDK gEj) Z (oR Z (zF Z bF zb Z yF) (oL Z (bK.ldB (j:=6) Z Z Z yT (v:=.slice aJ aF.length aO) Z) (oL Z (bK.ldBA (j:=0) Z Z Z Tryz.isAgg112 yE (vs:=av) Z Z) (ZR (pv:=[(0,.agg av.toArray)]) (zs:=b5) (cs:=av) Z Z Z Z Z (wAG Z wAR) Zo yo Tryz.zeroValue116 Z Z Z Z Z bK ?_)))))
 intro dm dB eC
 let bv:Res:=.row (some ⟨dB,0,none⟩) 1 116 3 (hD wAN [(⟨am.Offset,am.Error⟩:wBH)])
 have cM:sW w φ a7 [bv,.blk bg 112 av,.blk b6 36 B1,.blk b2 27 B0,ao,an,ca,bu] dm:=eC
 refine bnK fk fun br dW fm=>yb (j:=6) (enc:=wAN) (xs:=aF) (ys:=[(⟨am.Offset,am.Error⟩:wBH)]) (zs:=br) rfl rfl rfl rfl rfl Tryz.underlying33 wNb rfl rfl rfl rfl rfl rfl cM rfl rfl rfl (cM.srcR (j:=0) rfl (by decide) (wAE (f:=wAN) (sz:=3) (fun _=>rfl) [(⟨am.Offset,am.Error⟩:wBH)])) (fun _=>rfl) (fun _=>rfl) dW rfl ?_
 intro bc bn dp eD
 let cb:Res:=.row bc bn 116 3 (hD wAN br)
 have eE:sW w φ a7 [bv,.blk bg 112 av,.blk b6 36 B1,.blk b2 27 B0,ao,an,cb,bu] dp:=eD
 refine oR Z (zF Z bF zb Z yF) (zX (j:=7) (vs:=[.slice bc br.length bn]) Z Z Z Z eE Z Z Z Z yF (zA Z) Z Z Z ?_)
 intro dq eF
 have eG:sW w φ a7 [bv,.blk bg 112 av,.blk b6 36 B1,.blk b2 27 B0,ao,an,cb,.blk ai 36 [.slice ag ap.length aj,.slice ah aq.length ak,.slice bc br.length bn,.slice none 0 0]] dq:=eF
 refine zf (zm (zJ (rR fL2 Z (oR Z (ZU (zh Z bH Z) (congrArg (jV) fg.out)) (oM Z Z (zf ?_))))))
 cases fm
 exact zJ ⟨rfl,⟨a7,bc,bn,rfl,dH,dI,bF,cA,cC,cY,(eG.pick [2,3,4,5,6,7] _ (by decide) rfl)⟩⟩
 rintro gp fQ ⟨dd,aK,aP,dQ,dJ,dK,dL,fY,dM,fE,cN⟩
 have dD:Hid (¬ ((↑(((↑O.Clocks.length:Int):Int) - 0).toNat:Int) < (↑O.Clocks.length:Int))):=zN (wAq)
 refine sR fL1 Z (oR Z (ze Z dQ dM) (eN (zL (cF Z dD (Za (zq (zq (ZW (zJ (zL (sR fL4 Z (oR Z (zF Z dJ zT Z Zr) (oL Z (cN.ldB (j:=1) Z Z Z yD (v:=.slice aY O.Readings.length a5) Z) (oR Z (zi Z Z ZN) (oM Z Z (eN (zY (bnK fj fun c6 fd fq=>?_))))))))))))))))))
 have q:=wCC fd
 obtain ⟨bQ,ff⟩:=q
 replace bQ:=zN bQ
 let aM:Res:=.row aK aP 116 3 (hD wAN a6)
 refine CK.forN' (fun aW aG σ_ w_=>∃ (φ_:PHeap) (aL:Option Addr) (aQ:Nat),σ_ 32=jV (↑aW:Int)/\σ_ 2=.pointer (some ⟨b6,0,none⟩)/\σ_ 3=.pointer (some ⟨ai,0,none⟩)/\σ_ 30=.slice aY O.Readings.length a5/\σ_ 31=jV (↑O.Readings.length:Int)/\PHeap.Le dd φ_/\sW w φ φ_ [.blk b6 36 B1,.blk b2 27 B0,ao,an,aM,.row aL aQ 117 4 (hD wAL aG),.blk ai 36 [.slice ag ap.length aj,.slice ah aq.length ak,.slice aK a6.length aP,.slice aL aG.length aQ]] w_) ff ?_ ?_ ?_
 have eH:=cN.nilrow 117 4
 exact ⟨dd,none,0,rfl,dK,dL,rfl,rfl,(zS _),(eH.pick [1,2,3,4,5,0,6] _ (by decide) rfl)⟩
 rintro aW aG gi gq fR bO ⟨a8,aL,aQ,bI,dN,bG,cD,cE,cZ,cO⟩ fB
 have cy:Hid ((↑aW:Int) < (↑O.Readings.length:Int)):=zN (wBO bO)
 replace bO:=zN bO
 have fh:Hid (w64 ((↑aW:Int) + 1)=(↑(aW + 1):Int)):=zN (by have h1:=bQ.out;have h2:=cy.out;rw [wAb] <;> omega)
 refine sR fL1 Z (oR Z (ze Z bI cE) (eN (zL (cT Z cy (kN (zL (zY (sR gEk Z (bnK fB fun af cJ ft=>?_)))))))))
 have dX:=e9.le cX
 have dY:=dX.le fE
 have dZ:=dY.le cZ
 have q:=dZ.el (fun _=>rfl) (wAe cJ)
 obtain ⟨fW,f6,d7,d9⟩:=q
 refine oR Z (Zc Z cD d7 bI ZN Zb (wCa cJ)) (oL Z (cO.ldCA (f:=0) d9 Z Z yf Zb (us:=[jV af.Skier,jV af.Mat,jV af.Clock,jV af.Time]) Z Z) ?_)
 let cc:List Value:=[jV 0,jV 0,jV 0,jV 0]
 refine zV (cs:=cc) Z Z Z Z Z yd Z cO ?_
 intro fS bh eJ
 let ax:List Value:=[jV af.Skier,jV af.Mat,jV af.Clock,jV af.Time]
 refine zX (j:=0) (vs:=ax) Z Z Z Z eJ Z Z Z Z Zb (zA Z) Z Z Z ?_
 intro dr eK
 let bw:Res:=.blk ai 36 [.slice ag ap.length aj,.slice ah aq.length ak,.slice aK a6.length aP,.slice aL aG.length aQ]
 let cd:Res:=.row aL aQ 117 4 (hD wAL aG)
 have bL:sW w φ a8 [.blk bh 115 ax,.blk b6 36 B1,.blk b2 27 B0,ao,an,aM,cd,bw] dr:=eK
 refine eN (rR (wDK gEj) Z (oR Z (zF Z bG zb Z yh) (oL Z (bL.ldB (j:=7) Z Z Z yv (v:=.slice aL aG.length aQ) Z) (oL Z (bL.ldBA (j:=0) Z Z Z yf Zb (vs:=ax) Z Z) (ZR (pv:=[(0,.agg ax.toArray)]) (zs:=cc) (cs:=ax) Z Z Z Z Z (wAG Z wAR) yL yi Tryz.zeroValue117 Z Z Z Z Z bL ?_)))))
 intro dt dC eL
 let bx:Res:=.row (some ⟨dC,0,none⟩) 1 117 4 (hD wAL [(⟨af.Skier,af.Mat,af.Clock,af.Time⟩:wAy)])
 have cP:sW w φ a8 [bx,.blk bh 115 ax,.blk b6 36 B1,.blk b2 27 B0,ao,an,aM,cd,bw] dt:=eL
 refine bnK ft fun bs d4 fu=>yb (j:=7) (enc:=wAL) (xs:=aG) (ys:=[(⟨af.Skier,af.Mat,af.Clock,af.Time⟩:wAy)]) (zs:=bs) rfl rfl rfl rfl rfl Tryz.underlying34 wNc rfl rfl rfl rfl rfl rfl cP rfl rfl rfl (cP.srcR (j:=0) rfl (by decide) (wAE (f:=wAL) (sz:=4) (fun _=>rfl) [(⟨af.Skier,af.Mat,af.Clock,af.Time⟩:wAy)])) (fun _=>rfl) (fun _=>rfl) d4 rfl ?_
 intro bd bo du eM
 let cf:Res:=.row bd bo 117 4 (hD wAL bs)
 have eO:sW w φ a8 [bx,.blk bh 115 ax,.blk b6 36 B1,.blk b2 27 B0,ao,an,aM,cf,bw] du:=eM
 refine oR Z (zF Z bG zb Z yh) (zX (j:=8) (vs:=[.slice bd bs.length bo]) Z Z Z Z eO Z Z Z Z yh (zA Z) Z Z Z ?_)
 intro dv eP
 have eQ:sW w φ a8 [bx,.blk bh 115 ax,.blk b6 36 B1,.blk b2 27 B0,ao,an,aM,cf,.blk ai 36 [.slice ag ap.length aj,.slice ah aq.length ak,.slice aK a6.length aP,.slice bd bs.length bo]] dv:=eP
 refine zf (zm (zJ (rR fL2 Z (oR Z (ZU (zh Z bI Z) (congrArg (jV) fh.out)) (oM Z Z (zf ?_))))))
 cases fu
 exact zJ ⟨rfl,⟨a8,bd,bo,rfl,dN,bG,cD,cE,cZ,(eQ.pick [2,3,4,5,6,7,8] _ (by decide) rfl)⟩⟩
 rintro gt fT ⟨de,bt,bE,dR,cG,dO,fZ,dP,f4,cQ⟩
 have dE:Hid (¬ ((↑(((↑O.Readings.length:Int):Int) - 0).toNat:Int) < (↑O.Readings.length:Int))):=zN (wAq)
 refine sR fL1 Z (oR Z (ze Z dR dP) (eN (zL (cF Z dE (Za (zq (zq (ZW (zJ (sR gDq Z ?_))))))))))
 let aN:List Value:=[.slice ag ap.length aj,.slice ah aq.length ak,.slice aK a6.length aP,.slice bt c6.length bE]
 refine oL Z (cQ.ldBA (j:=6) Z Z dO ZQ ZF (vs:=aN) Z Z) (zX (j:=0) (vs:=aN) Z Z Z Z cQ Z cG Z Z ZF (zA Z) Z Z Z ?_)
 intro dw eR
 have cR:sW w φ de [.blk b6 36 aN,.blk b2 27 B0,ao,an,aM,.row bt bE 117 4 (hD wAL c6),.blk ai 36 aN] dw:=eR
 refine eN (zO ?_)
 cases fq
 exact ⟨rfl,_,(wHW (v:=.agg aN.toArray) ⟨⟨_,cG,(wBQ ZQ ZF (cR.blkAt (k:=0) rfl) (vs:=aN) rfl rfl)⟩,trivial⟩),de,_,(cR.pick [2,3,4,5] _ (by decide) rfl),ag,aj,ah,ak,aK,aP,bt,bE,rfl,rfl⟩
theorem wCX (p0:List wAC) (ap:Option Addr) (aq:Nat) (w:World) (φ:PHeap) (hS:St0 w φ []) (be:Sl φ 4 ap aq p0.length (hD wAJ p0)) {r:(List wAd)} (hm:wAr p0=some r):Gv Tryz.prog 50 [.slice ap p0.length aq] w (wCG w [] φ (fun φ_ L_ v=>∃ (A0:Option Addr) (c0:Nat),v=.slice A0 r.length c0/\L_=[.row A0 c0 179 4 (hD wAT r)])):=by
 unfold wAr at hm
 refine Gv.of Tryz.func50 Z Tryz.ntmps50 Tryz.results50 Z (sR fL1 Z (oA Z Z (eN (sR fL1 Z (oA Z Z (eN (zL (sR fL3 Z (oM Z Z (oR Z (zi Z Z ZO) (oM Z Z (eN (zY (bnK hm fun bx bf bi=>?_))))))))))))))
 have q:=wCC bf
 obtain ⟨ao,bg⟩:=q
 replace ao:=zN ao
 refine CK.forN' (fun ae af σ_ w_=>∃ (φ_:PHeap) (ag:Option Addr) (ah:Nat),σ_ 8=jV (↑ae:Int)/\σ_ 3=.slice ag af.length ah/\σ_ 6=.slice ap p0.length aq/\σ_ 7=jV (↑p0.length:Int)/\PHeap.Le φ φ_/\sW w φ φ_ [.row ag ah 179 4 (hD wAT af)] w_) bg ?_ ?_ ?_
 have a7:=hS.nilrow 179 4
 exact ⟨φ,none,0,Z,Z,Z,Z,(zS _),a7⟩
 rintro ae af bw bz bp an ⟨ai,ag,ah,am,aU,aG,aH,aL,aJ⟩ bn
 have aE:Hid ((↑ae:Int) < (↑p0.length:Int)):=zN (wBO an)
 replace an:=zN an
 have bh:Hid (w64 ((↑ae:Int) + 1)=(↑(ae + 1):Int)):=zN (by have h1:=ao.out;have h2:=aE.out;rw [wAb] <;> omega)
 refine sR fL1 Z (oR Z (ze Z am aH) (eN (zL (cT Z aE (kN (zL (zY (sR gEk Z (bnK bn fun O aI bj=>?_)))))))))
 have aY:=be.le aL
 have q:=aY.el (fun _=>rfl) (wAe aI)
 obtain ⟨bs,bv,a5,a6⟩:=q
 refine oR Z (Zc Z aG a5 am ZO ZK (wCa aI)) (oL Z (aJ.ldCA (f:=0) a6 Z Z Zs ZK (us:=[jV O.Kind,jV O.Skier,jV O.Index,.bool O.Up]) Z Z) ?_)
 let B0:List Value:=[jV 0,jV 0,jV 0,.bool false]
 refine zV (cs:=B0) Z Z Z Z Z Zv Z aJ ?_
 intro bq ak a8
 let B1:List Value:=[jV O.Kind,jV O.Skier,jV O.Index,.bool O.Up]
 refine zX (j:=0) (vs:=B1) Z Z Z Z a8 Z Z Z Z ZK (zA Z) Z Z Z ?_
 intro aO a9
 let B2:Res:=.row ag ah 179 4 (hD wAT af)
 have ac:sW w φ ai [.blk ak 93 B1,B2] aO:=a9
 refine eN (rR (wLD (.fx 10 (.fx 11 (.fl 12 .nil) .stop) .stop)) Z (oM Z aU (oR Z (zF Z Z zk Z yJ) (oL Z (ac.ldB (j:=0) Z Z Z yS (v:=jV O.Kind) Z) (oR Z (zF Z Z zk Z zC) (oL Z (ac.ldB (j:=0) Z Z Z zG (v:=jV O.Skier) Z) (oR Z (zF Z Z zk Z zC) (oL Z (ac.ldB (j:=0) Z Z Z zG (v:=jV O.Index) Z) (oR Z (zF Z Z zk Z YB) (oL Z (ac.ldB (j:=0) Z Z Z YE (v:=.bool O.Up) Z) (oR Z (ZB (pv:=[(0,jV O.Kind),(1,jV O.Skier),(2,jV O.Index),(3,.bool O.Up)]) (z:=B0) (cs:=B1) Z (wAG Z (wAG Z (wAG Z (wAG Z wAR)))) Tryz.zeroValue179 wLY Z Z) (ZR (pv:=[(0,.agg B1.toArray)]) (zs:=B0) (cs:=B1) Z Z Z Z Z (wAG Z wAR) yM YA Tryz.zeroValue179 Z Z Z Z Z ac ?_))))))))))))
 intro aP aR ba
 let B3:Res:=.row (some ⟨aR,0,none⟩) 1 179 4 (hD wAT [(⟨O.Kind,O.Skier,O.Index,O.Up⟩:wAd)])
 have aK:sW w φ ai [B3,.blk ak 93 B1,B2] aP:=ba
 refine bnK bj fun aM aZ bm=>yb (j:=2) (enc:=wAT) (xs:=af) (ys:=[(⟨O.Kind,O.Skier,O.Index,O.Up⟩:wAd)]) (zs:=aM) rfl rfl rfl rfl rfl Tryz.underlying97 wNd rfl rfl rfl rfl rfl rfl aK rfl rfl rfl (aK.srcR (j:=0) rfl (by decide) (wAE (f:=wAT) (sz:=4) (fun _=>rfl) [(⟨O.Kind,O.Skier,O.Index,O.Up⟩:wAd)])) (fun _=>rfl) (fun _=>rfl) aZ rfl ?_
 intro av aF aQ bb
 have bc:sW w φ ai [B3,.blk ak 93 B1,.row av aF 179 4 (hD wAT aM)] aQ:=bb
 refine oA Z Z (zf (zm (zJ (rR fL2 Z (oR Z (ZU (zh Z am Z) (congrArg (jV) bh.out)) (oM Z Z (zf ?_)))))))
 cases bm
 exact zJ ⟨rfl,⟨ai,av,aF,rfl,rfl,aG,aH,aL,(bc.pick [2] _ (by decide) rfl)⟩⟩
 rintro bA br ⟨bo,aN,aS,aX,aV,bt,aW,bu,bd⟩
 have aT:Hid (¬ ((↑(((↑p0.length:Int):Int) - 0).toNat:Int) < (↑p0.length:Int))):=zN (wAq)
 refine sR fL1 Z (oR Z (ze Z aX aW) (eN (zL (cF Z aT (Za (zq (zq (ZW (zJ (sR fL2 Z (oM Z aV (oA Z Z (eN (zO ?_))))))))))))))
 have hE:=hU bi;first | subst r | cases hE
 exact ⟨Z,_,(ZA Z),bo,_,bd,aN,aS,Z,Z⟩
theorem wAj (p0:Int) (p1:Int) (p2:Int) (w:World) (φ:PHeap) (hS:St0 w φ [])  {r:Bool} (hm:wAZ p0 p1 p2=some r):Gv Tryz.prog 71 [jV p0,jV p1,jV p2] w (wCG w [] φ (fun φ_ L_ v=>v=.bool r/\L_=[])):=by
 unfold wAZ at hm
 refine Gv.of Tryz.func71 Z Tryz.ntmps71 Tryz.results71 Z (sR fL1 Z (oA Z Z (eN (sR fL9 Z (oM Z Z (oM Z Z (oR Z (ze Z Z Z) (oM Z Z ?_))))))))
 by_cases O:p0 < p1
 have ae:=hm;rw [if_pos O] at ae;replace O:=zN O
 refine oT Z O (oT Z O (oT Z O (oR Z (zR Z (Zd O.out) Z) (oA Z Z (eN (zO ?_))))))
 have hE:=hU ae;first | subst r | cases hE
 exact ⟨Z,_,(ZA Z),φ,_,hS,Z,Z⟩
 have aa:=hm;rw [if_neg O] at aa;replace O:=zN O
 refine zw Z Z Z (wF Z O) Z Z (zw Z Z Z (wF Z O) Z Z (rU Z (wF Z O) (yI Z Z Z) (oR Z (zW Z (zu O.out) Z) (oA Z Z (eN (zO ?_))))))
 first | (obtain rfl:=hU aa) | cases aa
 exact ⟨Z,_,(ZA Z),φ,_,hS,Z,Z⟩
theorem wEr (p0:wAO) (p1:Int) (p2:Int) (w:World) (φ:PHeap) (hS:St0 w φ [])  {r:Bool} (hm:wCJ p0 p1 p2=some r):Gv Tryz.prog 100 [.agg #[jV p0.Lo,jV p0.Hi],jV p1,jV p2] w (wCG w [] φ (fun φ_ L_ v=>v=.bool r/\L_=[])):=by
 unfold wCJ at hm
 refine Gv.of Tryz.func100 rfl Tryz.ntmps100 Tryz.results100 rfl (sR gDu rfl (zn (cs:=[jV p0.Lo,jV p0.Hi]) rfl rfl rfl rfl rfl rfl (by rfl) hS ?_))
 intro W1 b2 ac
 refine oA Z Z (eN (sR fL18 Z (oR Z (zF Z Z ZT Z zC) (oL Z (ac.ldB (j:=0) Z Z Z zG (v:=jV p0.Lo) Z) (oR Z (zF Z Z ZT Z zC) (oL Z (ac.ldB (j:=0) Z Z Z zG (v:=jV p0.Hi) Z) (oR Z (yI Z Z Z) (oM Z Z ?_))))))))
 by_cases O:p0.Hi < p0.Lo
 have af:=hm;rw [if_pos O] at af;replace O:=zN O
 refine oT Z O (oT Z O (oT Z O (oT Z O (oR Z (zR Z (Zd O.out) Z) (oM Z Z (oN Z (oN Z (oN Z (oN Z (oR Z (zR Z Z Z) (oA Z Z (eN (zO ?_)))))))))))))
 have hE:=hU af;first | subst r | cases hE
 exact ⟨rfl,_,(ZA rfl),φ,_,(ac.pick [] _ (by decide) rfl),rfl,rfl⟩
 have ag:=hm;rw [if_neg O] at ag;replace O:=zN O
 refine rU Z (wF Z O) (zF Z Z ZT Z zC) (ZE Z Z Z (wF Z O) (ac.ldB (j:=0) Z Z Z zG (v:=jV p0.Lo) Z) Z (zw Z Z Z (wF Z O) Z Z (rU Z (wF Z O) (ze Z Z Z) (oR Z (zW Z (zu O.out) Z) (oM Z Z (ifc ag ?_ ?_))))))
 intro c8 aj
 refine oT Z c8 (oT Z c8 (oT Z c8 (oT Z c8 (oR Z (zR Z (Zd c8.out) Z) (oA Z Z (eN (zO ?_)))))))
 have hE:=hU aj;first | subst r | cases hE
 exact ⟨rfl,_,(ZA rfl),φ,_,(ac.pick [] _ (by decide) rfl),rfl,rfl⟩
 intro c8 ae
 refine rU Z (wF Z c8) (zF Z Z ZT Z zC) (ZE Z Z Z (wF Z c8) (ac.ldB (j:=0) Z Z Z zG (v:=jV p0.Hi) Z) Z (zw Z Z Z (wF Z c8) Z Z (rU Z (wF Z c8) (yI Z Z Z) (oR Z (zW Z (zu c8.out) Z) (oA Z Z (eN (zO ?_)))))))
 first | (obtain rfl:=hU ae) | cases ae
 exact ⟨rfl,_,(ZA rfl),φ,_,(ac.pick [] _ (by decide) rfl),rfl,rfl⟩
end Go.Proofs.YtlnfbjphfoipaaaGreat
namespace Go.Proofs.YtlnfbjphfoipaaaGreat
open Go.KL
set_option maxHeartbeats 4000000
theorem wCw (O:wAI) (az:Option Addr) (aF:Nat) (aE:Option Addr) (aG:Nat) (au:Option Addr) (ax:Nat) (av:Option Addr) (ay:Nat) (w:World) (φ:PHeap) (hS:St0 w φ []) (eg:Sl φ 1 az aF O.Starts.length (hD KL.encI O.Starts)) (eh:Sl φ 2 aE aG O.Splits.length (hD wAD O.Splits)) (ej:Sl φ 3 au ax O.Clocks.length (hD wAN O.Clocks)) (bY:Sl φ 4 av ay O.Readings.length (hD wAL O.Readings)) {r:Int} (hm:wBJ O=some r):Gv Tryz.prog 34 [.agg #[.slice az O.Starts.length aF,.slice aE O.Splits.length aG,.slice au O.Clocks.length ax,.slice av O.Readings.length ay]] w (wCG w [] φ (fun φ_ L_ v=>v=jV r/\L_=[])):=by
 unfold wBJ at hm
 refine Gv.of Tryz.func34 Z Tryz.ntmps34 Tryz.results34 Z (sR gDu Z ?_)
 let B0:List Value:=[.slice az O.Starts.length aF,.slice aE O.Splits.length aG,.slice au O.Clocks.length ax,.slice av O.Readings.length ay]
 refine zn (cs:=B0) rfl rfl rfl rfl rfl rfl (by rfl) hS ?_
 intro W1 b2 bV
 refine oA Z Z (eN (zL (sR (wDK (.fx 3 (wPW (.nil)) .stop)) Z (oR Z (zF Z Z zb Z zg) (oL Z (bV.ldB (j:=0) Z Z Z zr (v:=.slice az O.Starts.length aF) Z) (oR Z (zi Z Z zK) (bnK hm fun x5 h6 fy=>zD 0 Z Z Z Z (zE Z Z ye (zB Z (zB Z (zB Z zM))) Z) bV (fun hs=>wAj (↑O.Starts.length:Int) 1 8 W1 φ hs h6) (.inr Z) ?_)))))))
 rintro aH L9 gz cE aS dW ⟨rfl,rfl⟩
 have aq:sW w φ aH [.blk b2 36 B0] cE:=dW
 refine oM Z Z (ifc fy ?_ ?_)
 intro ah ey
 refine zy Z Z Z (zP Z Z (congrArg hH ah.out) Z) (zy Z Z Z (zP Z Z (congrArg hH ah.out) Z) (zy Z Z Z (zP Z Z (congrArg hH ah.out) Z) (zy Z Z Z (zP Z Z (congrArg hH ah.out) Z) (oR Z (zR Z (congrArg hH ah.out) Z) (oM Z Z (oN Z (oN Z (oN Z (oN Z (oR Z (zR Z Z Z) (oM Z Z (oN Z (oN Z (oN Z (oN Z (oR Z (zR Z Z Z) (eN (ZD Z (sR fL1 Z (oA Z Z (eN (zO (zQ ?_)))))))))))))))))))))))
 cases ey
 exact ⟨rfl,_,(ZA rfl),aH,_,(aq.pick [] _ (by decide) rfl),rfl,rfl⟩
 intro ah eC
 refine za Z Z Z (zI Z Z (congrArg hH (hJ.2 ah.out))) (fun _=>zF Z Z zb Z Zm) (ZE Z Z Z (zI Z Z (congrArg hH (hJ.2 ah.out))) (aq.ldB (j:=0) Z Z Z Zq (v:=.slice aE O.Splits.length aG) Z) Z (za Z Z Z (zI Z Z (congrArg hH (hJ.2 ah.out))) (fun _=>zi Z Z ZI) (za Z Z Z (zI Z Z (congrArg hH (hJ.2 ah.out))) (fun _=>yI Z Z Z) (oR Z (zW Z (congrArg hH (hJ.2 ah.out)) Z) (oM Z Z (ifc eC ?_ ?_))))))
 intro ai eH
 refine oT Z ai (oT Z ai (oT Z ai (oT Z ai (oR Z (zR Z (Zd ai.out) Z) (oM Z Z (oN Z (oN Z (oN Z (oN Z (oR Z (zR Z Z Z) (eN (ZD Z (sR fL1 Z (oA Z Z (eN (zO (zQ ?_)))))))))))))))))
 cases eH
 exact ⟨rfl,_,(ZA rfl),aH,_,(aq.pick [] _ (by decide) rfl),rfl,rfl⟩
 intro ai eJ
 refine rU Z (wF Z ai) (zF Z Z zb Z yF) (ZE Z Z Z (wF Z ai) (aq.ldB (j:=0) Z Z Z yT (v:=.slice au O.Clocks.length ax) Z) Z (rU Z (wF Z ai) (zi Z Z Zo) (rU Z (wF Z ai) (yI Z Z Z) (oR Z (zW Z (zu ai.out) Z) (oM Z Z (ifc eJ ?_ ?_))))))
 intro aj eL
 refine oT Z aj (oT Z aj (oT Z aj (oT Z aj (oR Z (zR Z (Zd aj.out) Z) (eN (ZD Z (sR fL1 Z (oA Z Z (eN (zO (zQ ?_)))))))))))
 cases eL
 exact ⟨rfl,_,(ZA rfl),aH,_,(aq.pick [] _ (by decide) rfl),rfl,rfl⟩
 intro aj eO
 refine rU Z (wF Z aj) (zF Z Z zb Z yh) (ZE Z Z Z (wF Z aj) (aq.ldB (j:=0) Z Z Z yv (v:=.slice av O.Readings.length ay) Z) Z (rU Z (wF Z aj) (zi Z Z yL) (rU Z (wF Z aj) (yI Z Z Z) (oR Z (zW Z (zu aj.out) Z) (eN (ifc eO ?_ ?_))))))
 intro bd eU
 refine cT Z bd (sR fL1 Z (oA Z Z (eN (zO (zQ ?_)))))
 cases eU
 exact ⟨rfl,_,(ZA rfl),aH,_,(aq.pick [] _ (by decide) rfl),rfl,rfl⟩
 intro bd eV
 refine cF Z bd (kN (zL (sR fL1 Z (oA Z Z (eN (zY (YI (fun bw σ_ w_=>∃ (φ_:PHeap),σ_ 1=.pointer (some ⟨b2,0,none⟩)/\σ_ 3=jV bw/\PHeap.Le aH φ_/\sW w φ φ_ [.blk b2 36 B0] w_) eV ?_ ?_)))))))
 exact ⟨aH,Z,Z,(zS _),aq⟩
 rintro bw gU gZ cK ⟨bK,aY,bi,aK,aQ⟩ cu b5
 refine zL (sR fL5 Z (oM Z bi (oR Z (zF Z aY zb Z zg) (oL Z (aQ.ldB (j:=0) Z Z Z zr (v:=.slice az O.Starts.length aF) Z) (oR Z (zi Z Z zK) (oR Z (ze Z Z Z) (eN ?_)))))))
 by_cases ao:bw < (↑O.Starts.length:Int)
 have cn:=cu;rw [if_pos ao] at cn;replace ao:=zN ao
 refine cT Z ao (kN (zL (zY (sR (wGD (.fx 5 .nil .stop)) Z (oR Z (zF Z aY zb Z zg) (oL Z (aQ.ldB (j:=0) Z Z Z zr (v:=.slice az O.Starts.length aF) Z) (oM Z bi (bnK cn fun cA bo fk=>?_))))))))
 have dC:=eg.le aS
 have dD:=dC.le aK
 have q:=dD.el (fun _=>rfl) (wAe bo)
 obtain ⟨gp,gy,dO,dU⟩:=q
 refine oR Z (ZM Z Z dO Z zK zC (wBV bo) (wBb bo)) (oL Z (aQ.ldC (f:=0) dU (v:=jV cA) Z Z zG Z) (bnK fk fun gQ dE fm=>zD 0 Z Z Z Z (zE Z Z ye (zB Z (zB Z (zB Z zM))) Z) aQ (fun hs=>wAj cA 0 360000 cK bK hs dE) (.inr Z) ?_))
 rintro bL f9 gH cM fI d9 ⟨rfl,rfl⟩
 have bX:sW w φ bL [.blk b2 36 B0] cM:=d9
 refine eN (ifc fm ?_ ?_)
 intro bf fq
 refine ZD (congrArg hH bf.out) (sR fL1 Z (oA Z Z (eN (zO (zc (zQ ?_))))))
 have q:=wAS fq
 obtain ⟨fU,ft,c6⟩:=q
 have q:=b5 fU c6
 obtain rfl:=q
 refine zQ (zc (zQ ?_))
 cases ft
 exact ⟨rfl,_,(ZA rfl),bL,_,(bX.pick [] _ (by decide) rfl),rfl,rfl⟩
 intro bf fu
 refine zj (congrArg hH (hJ.2 bf.out)) (Zf (zm (zJ (rR fL3 Z (oM Z bi (oR Z (zh Z Z Z) (oA Z Z (zf ?_))))))))
 have q:=hU fu
 obtain rfl:=q
 exact zJ ⟨Z,_,Z,⟨bL,aY,Z,(aK.trans fI),bX⟩⟩
 have co:=cu;rw [if_neg ao] at co;replace ao:=zN ao
 refine cF Z ao (Za (zq ?_))
 have q:=wAS co
 obtain ⟨fV,fz,da⟩:=q
 have q:=b5 fV da
 obtain rfl:=q
 refine zq (ZW (zJ (zL (sR fL1 Z (oA Z Z (eN (zY (YI (fun bx σ_ w_=>∃ (φ_:PHeap),σ_ 1=.pointer (some ⟨b2,0,none⟩)/\σ_ 4=jV bx/\PHeap.Le bK φ_/\sW w φ φ_ [.blk b2 36 B0] w_) fz ?_ ?_))))))))
 exact ⟨bK,aY,Z,(zS _),aQ⟩
 rintro bx gV g7 cN ⟨bM,aZ,bj,aT,aR⟩ cw ca
 refine zL (sR fL5 Z (oM Z bj (oR Z (zF Z aZ zb Z Zm) (oL Z (aR.ldB (j:=0) Z Z Z Zq (v:=.slice aE O.Splits.length aG) Z) (oR Z (zi Z Z ZI) (oR Z (ze Z Z Z) (eN ?_)))))))
 by_cases ap:bx < (↑O.Splits.length:Int)
 have cp:=cw;rw [if_pos ap] at cp;replace ap:=zN ap
 refine cT Z ap (kN (zL (zY (sR (wGD (.fx 5 .nil .stop)) Z (oR Z (zF Z aZ zb Z Zm) (oL Z (aR.ldB (j:=0) Z Z Z Zq (v:=.slice aE O.Splits.length aG) Z) (oM Z bj (bnK cp fun bz bp fA=>?_))))))))
 have dG:=eh.le aS
 have dH:=dG.le aK
 have dI:=dH.le aT
 have q:=dI.el (fun _=>rfl) (wAe bp)
 obtain ⟨gq,gt,dJ,dP⟩:=q
 refine oR Z (ZM Z Z dJ Z ZI zz (wBV bp) (wBb bp)) (oL Z (aR.ldCA (f:=0) dP Z Z yA zz (us:=[jV bz.Lo,jV bz.Hi]) Z Z) (bnK fA fun gI db ek=>zD 0 Z Z Z Z (zE Z Z Tryz.call100 (zB Z (zB Z (zB Z zM))) Z) aR (fun hs=>wEr bz 0 360000 cN bM hs db) (.inr Z) ?_))
 rintro bA fW gA cD fB dV ⟨rfl,rfl⟩
 have bS:sW w φ bA [.blk b2 36 B0] cD:=dV
 refine eN (ifc ek ?_ ?_)
 intro ba en
 refine ZD (congrArg hH ba.out) (sR fL1 Z (oA Z Z (eN (zO (zc (zQ ?_))))))
 have q:=wAS en
 obtain ⟨fJ,eo,cO⟩:=q
 have q:=ca fJ cO
 obtain rfl:=q
 refine zQ (zc (zQ ?_))
 cases eo
 exact ⟨rfl,_,(ZA rfl),bA,_,(bS.pick [] _ (by decide) rfl),rfl,rfl⟩
 intro ba ep
 refine zj (congrArg hH (hJ.2 ba.out)) (Zf (zm (zJ (rR fL3 Z (oM Z bj (oR Z (zh Z Z Z) (oA Z Z (zf ?_))))))))
 have q:=hU ep
 obtain rfl:=q
 exact zJ ⟨Z,_,Z,⟨bA,aZ,Z,(aT.trans fB),bS⟩⟩
 have cb:=cw;rw [if_neg ap] at cb;replace ap:=zN ap
 refine cF Z ap (Za (zq ?_))
 have q:=wAS cb
 obtain ⟨fK,er,cP⟩:=q
 have q:=ca fK cP
 obtain rfl:=q
 refine zq (ZW (zJ (zL (sR fL1 Z (oA Z Z (eN (zY (YI (fun bt σ_ w_=>∃ (φ_:PHeap),σ_ 1=.pointer (some ⟨b2,0,none⟩)/\σ_ 5=jV bt/\PHeap.Le bM φ_/\sW w φ φ_ [.blk b2 36 B0] w_) er ?_ ?_))))))))
 exact ⟨bM,aZ,Z,(zS _),aR⟩
 rintro bt gR gW cG ⟨bB,aM,aW,a9,aN⟩ cq br
 refine zL (sR fL5 Z (oM Z aW (oR Z (zF Z aM zb Z yF) (oL Z (aN.ldB (j:=0) Z Z Z yT (v:=.slice au O.Clocks.length ax) Z) (oR Z (zi Z Z Zo) (oR Z (ze Z Z Z) (eN ?_)))))))
 by_cases ak:bt < (↑O.Clocks.length:Int)
 have cc:=cq;rw [if_pos ak] at cc;replace ak:=zN ak
 refine cT Z ak (kN (zL (zY (sR (wGE (.fx 6 (wKa gDs) .stop)) Z (oR Z (zF Z aM zb Z yF) (oL Z (aN.ldB (j:=0) Z Z Z yT (v:=.slice au O.Clocks.length ax) Z) (oM Z aW (bnK cc fun aU aJ eu=>?_))))))))
 have dd:=ej.le aS
 have de:=dd.le aK
 have df:=de.le aT
 have bR:=df.le a9
 have q:=bR.el (fun _=>rfl) (wAe aJ)
 obtain ⟨gh,gu,dK,dQ⟩:=q
 refine oR Z (ZM Z Z dK Z Zo yo (wBV aJ) (wBb aJ)) (oR Z (zF Z Z yV Z zz) (oL Z (aN.ldCA (f:=0) dQ Z Z yA zz (us:=[jV aU.Offset.Lo,jV aU.Offset.Hi]) Z Z) (bnK eu fun gJ dg ew=>zD 0 Z Z Z Z (zE Z Z Tryz.call100 (zB Z (zB Z (zB Z zM))) Z) aN (fun hs=>wEr aU.Offset (-36000) 36000 cG bB hs dg) (.inr Z) ?_)))
 rintro bC fY gB bN cx dX ⟨rfl,rfl⟩
 have a5:sW w φ bC [.blk b2 36 B0] bN:=dX
 refine oM Z Z (ifc ew ?_ ?_)
 intro ab ez
 refine zy Z Z Z (zP Z Z (congrArg hH ab.out) Z) (zy Z Z Z (zP Z Z (congrArg hH ab.out) Z) (zy Z Z Z (zP Z Z (congrArg hH ab.out) Z) (zy Z Z Z (zP Z Z (congrArg hH ab.out) Z) (zy Z Z Z (zP Z Z (congrArg hH ab.out) Z) (zy Z Z Z (zP Z Z (congrArg hH ab.out) Z) (ZC Z Z Z (zP Z Z (congrArg hH ab.out) Z) (oR Z (zR Z (congrArg hH ab.out) Z) (eN (ZD Z (sR fL1 Z (oA Z Z (eN (zO (zc (zQ ?_)))))))))))))))
 have q:=wAS ez
 obtain ⟨fL,eA,cQ⟩:=q
 have q:=br fL cQ
 obtain rfl:=q
 refine zQ (zc (zQ ?_))
 cases eA
 exact ⟨rfl,_,(ZA rfl),bC,_,(a5.pick [] _ (by decide) rfl),rfl,rfl⟩
 intro ab eB
 refine za Z Z Z (zI Z Z (congrArg hH (hJ.2 ab.out))) (fun _=>zF Z aM zb Z yF) (ZE Z Z Z (zI Z Z (congrArg hH (hJ.2 ab.out))) (a5.ldB (j:=0) Z Z Z yT (v:=.slice au O.Clocks.length ax) Z) Z (zw Z Z Z (zI Z Z (congrArg hH (hJ.2 ab.out))) Z aW ?_))
 have dh:=bR.le cx
 have q:=dh.el (fun _=>rfl) (wAe aJ)
 obtain ⟨gi,gv,dL,dR⟩:=q
 refine za Z Z Z (zI Z Z (congrArg hH (hJ.2 ab.out))) (fun _=>ZM Z Z dL Z Zo yo (wBV aJ) (wBb aJ)) (za Z Z Z (zI Z Z (congrArg hH (hJ.2 ab.out))) (fun _=>zF Z Z yV Z zC) (ZE Z Z Z (zI Z Z (congrArg hH (hJ.2 ab.out))) (a5.ldC (f:=2) dR (v:=jV aU.Error) Z Z zG Z) Z (bnK eB fun gK di eD=>zD 0 Z Z Z (zI Z Z (congrArg hH (hJ.2 ab.out))) (zE Z Z ye (zB Z (zB Z (zB Z zM))) Z) a5 (fun hs=>wAj aU.Error 0 600 bN bC hs di) (.inr Z) ?_)))
 rintro bD fZ gC cH fC dY ⟨rfl,rfl⟩
 have bT:sW w φ bD [.blk b2 36 B0] cH:=dY
 refine oR Z (zW Z (congrArg hH (hJ.2 ab.out)) Z) (eN (ifc eD ?_ ?_))
 intro bb eE
 refine ZD (congrArg hH bb.out) (sR fL1 Z (oA Z Z (eN (zO (zc (zQ ?_))))))
 have q:=wAS eE
 obtain ⟨fM,eF,cR⟩:=q
 have q:=br fM cR
 obtain rfl:=q
 refine zQ (zc (zQ ?_))
 cases eF
 exact ⟨rfl,_,(ZA rfl),bD,_,(bT.pick [] _ (by decide) rfl),rfl,rfl⟩
 intro bb eG
 refine zj (congrArg hH (hJ.2 bb.out)) (Zf (zm (zJ (rR fL3 Z (oM Z aW (oR Z (zh Z Z Z) (oA Z Z (zf ?_))))))))
 have q:=hU eG
 obtain rfl:=q
 exact zJ ⟨Z,_,Z,⟨bD,aM,Z,((a9.trans cx).trans fC),bT⟩⟩
 have cd:=cq;rw [if_neg ak] at cd;replace ak:=zN ak
 refine cF Z ak (Za (zq ?_))
 have q:=wAS cd
 obtain ⟨fN,eI,cS⟩:=q
 have q:=br fN cS
 obtain rfl:=q
 refine zq (ZW (zJ (zL (sR fL1 Z (oA Z Z (eN (zY (YI (fun bu σ_ w_=>∃ (φ_:PHeap),σ_ 1=.pointer (some ⟨b2,0,none⟩)/\σ_ 6=jV bu/\PHeap.Le bB φ_/\sW w φ φ_ [.blk b2 36 B0] w_) eI ?_ ?_))))))))
 exact ⟨bB,aM,Z,(zS _),aN⟩
 rintro bu gS gX cI ⟨bE,aX,bg,bs,aO⟩ cr bZ
 refine zL (sR fL5 Z (oM Z bg (oR Z (zF Z aX zb Z yh) (oL Z (aO.ldB (j:=0) Z Z Z yv (v:=.slice av O.Readings.length ay) Z) (oR Z (zi Z Z yL) (oR Z (ze Z Z Z) (eN ?_)))))))
 by_cases am:bu < (↑O.Readings.length:Int)
 have cf:=cr;rw [if_pos am] at cf;replace am:=zN am
 refine cT Z am (kN (zL (zY (sR (wGE (.fx 6 .nil .stop)) Z (oR Z (zF Z aX zb Z yh) (oL Z (aO.ldB (j:=0) Z Z Z yv (v:=.slice av O.Readings.length ay) Z) (oM Z bg (bnK cf fun cz bm eK=>?_))))))))
 have dk:=bY.le aS
 have dl:=dk.le aK
 have dm:=dl.le aT
 have dp:=dm.le a9
 have dq:=dp.le bs
 have q:=dq.el (fun _=>rfl) (wAe bm)
 obtain ⟨gj,gw,dM,dS⟩:=q
 refine oR Z (ZM Z Z dM Z yL yi (wBV bm) (wBb bm)) (oR Z (zF Z Z Zi Z zC) (oL Z (aO.ldC (f:=3) dS (v:=jV cz.Time) Z Z zG Z) (bnK eK fun gL dr eM=>zD 0 Z Z Z Z (zE Z Z ye (zB Z (zB Z (zB Z zM))) Z) aO (fun hs=>wAj cz.Time 0 360000 cI bE hs dr) (.inr Z) ?_)))
 rintro bF f4 gD cJ fD dZ ⟨rfl,rfl⟩
 have bU:sW w φ bF [.blk b2 36 B0] cJ:=dZ
 refine eN (ifc eM ?_ ?_)
 intro bc eP
 refine ZD (congrArg hH bc.out) (sR fL1 Z (oA Z Z (eN (zO (zc (zQ ?_))))))
 have q:=wAS eP
 obtain ⟨fO,eQ,cU⟩:=q
 have q:=bZ fO cU
 obtain rfl:=q
 refine zQ (zc (zQ ?_))
 cases eQ
 exact ⟨rfl,_,(ZA rfl),bF,_,(bU.pick [] _ (by decide) rfl),rfl,rfl⟩
 intro bc eR
 refine zj (congrArg hH (hJ.2 bc.out)) (Zf (zm (zJ (rR fL3 Z (oM Z bg (oR Z (zh Z Z Z) (oA Z Z (zf ?_))))))))
 have q:=hU eR
 obtain rfl:=q
 exact zJ ⟨Z,_,Z,⟨bF,aX,Z,(bs.trans fD),bU⟩⟩
 have cg:=cr;rw [if_neg am] at cg;replace am:=zN am
 refine cF Z am (Za (zq ?_))
 have q:=wAS cg
 obtain ⟨fP,eS,cV⟩:=q
 have q:=bZ fP cV
 obtain rfl:=q
 refine zq (ZW (zJ (zL (sR fL1 Z (oA Z Z (eN (zY (YI (fun bv σ_ w_=>∃ (φ_:PHeap),σ_ 1=.pointer (some ⟨b2,0,none⟩)/\σ_ 7=jV bv/\PHeap.Le bE φ_/\sW w φ φ_ [.blk b2 36 B0] w_) eS ?_ ?_))))))))
 exact ⟨bE,aX,Z,(zS _),aO⟩
 rintro bv gT gY ge ⟨bG,aI,bh,cy,aP⟩ ct a8
 refine zL (sR fL5 Z (oM Z bh (oR Z (zF Z aI zb Z yh) (oL Z (aP.ldB (j:=0) Z Z Z yv (v:=.slice av O.Readings.length ay) Z) (oR Z (zi Z Z yL) (oR Z (ze Z Z Z) (eN ?_)))))))
 by_cases an:bv < (↑O.Readings.length:Int)
 have cj:=ct;rw [if_pos an] at cj;replace an:=zN an
 refine cT Z an (kN (zL (zY (sR (wGD (.fx 5 (.fx 6 .nil .stop) .stop)) Z (oR Z (zF Z aI zb Z yh) (oL Z (aP.ldB (j:=0) Z Z Z yv (v:=.slice av O.Readings.length ay) Z) (oM Z bh (bnK cj fun ag bn eW=>?_))))))))
 have dt:=bY.le aS
 have du:=dt.le aK
 have dv:=du.le aT
 have dw:=dv.le a9
 have dx:=dw.le bs
 have dy:=dx.le cy
 have q:=dy.el (fun _=>rfl) (wAe bn)
 obtain ⟨gk,gx,dN,dT⟩:=q
 refine oR Z (ZM Z Z dN Z yL yi (wBV bn) (wBb bn)) (oL Z (aP.ldCA (f:=0) dT Z Z Tryz.isAgg117 yi (us:=[jV ag.Skier,jV ag.Mat,jV ag.Clock,jV ag.Time]) Z Z) (zV (cs:=[jV 0,jV 0,jV 0,jV 0]) Z Z Z Z Z Tryz.zeroValue117 Z aP ?_))
 intro gg aV d4
 let B1:List Value:=[jV ag.Skier,jV ag.Mat,jV ag.Clock,jV ag.Time]
 refine zX (j:=0) (vs:=B1) Z Z Z Z d4 Z Z Z Z yi (zA Z) Z Z Z ?_
 intro bO d5
 have bq:sW w φ bG [.blk aV 117 B1,.blk b2 36 B0] bO:=d5
 refine eN (sR (wGE (.fx 6 (wJe (.fx 13 (wOJ (.fx 22 (.fl 23 .nil) .stop)) .stop)) .stop)) Z (oR Z (zF Z Z Zi Z zC) (oL Z (bq.ldB (j:=0) Z Z Z zG (v:=jV ag.Skier) Z) (oR Z (zF Z aI zb Z zg) (oL Z (bq.ldB (j:=1) Z Z Z zr (v:=.slice az O.Starts.length aF) Z) (oR Z (zi Z Z zK) (oR Z (yO Z Z Z) (bnK eW fun gM dz eX=>zD 0 Z Z Z Z (zE Z Z ye (zB Z (zB Z (zB Z zM))) Z) bq (fun hs=>wAj ag.Skier 0 (w64 ((↑O.Starts.length:Int) - 1)) bO bG hs dz) (.inr Z) ?_))))))))
 rintro bH f5 gE bP fE d6 ⟨rfl,rfl⟩
 have a6:sW w φ bH [.blk aV 117 B1,.blk b2 36 B0] bP:=d6
 refine oM Z Z (ifc eX ?_ ?_)
 intro af eY
 refine zy Z Z Z (zP Z Z (congrArg hH af.out) Z) (zy Z Z Z (zP Z Z (congrArg hH af.out) Z) (zy Z Z Z (zP Z Z (congrArg hH af.out) Z) (zy Z Z Z (zP Z Z (congrArg hH af.out) Z) (zy Z Z Z (zP Z Z (congrArg hH af.out) Z) (ZC Z Z Z (zP Z Z (congrArg hH af.out) Z) (oR Z (zR Z (congrArg hH af.out) Z) (oM Z Z (oN Z (oN Z (oN Z (oN Z (oN Z (oN Z (ZC Z Z Z (zP Z Z Z Z) (oR Z (zR Z Z Z) (eN (ZD Z (sR fL1 Z (oA Z Z (eN (zO (zc (zQ ?_)))))))))))))))))))))))
 have q:=wAS eY
 obtain ⟨fQ,eZ,cW⟩:=q
 have q:=a8 fQ cW
 obtain rfl:=q
 refine zQ (zc (zQ ?_))
 cases eZ
 exact ⟨rfl,_,(ZA rfl),bH,_,(a6.pick [] _ (by decide) rfl),rfl,rfl⟩
 intro af e6
 refine za Z Z Z (zI Z Z (congrArg hH (hJ.2 af.out))) (fun _=>zF Z Z Zi Z zC) (ZE Z Z Z (zI Z Z (congrArg hH (hJ.2 af.out))) (a6.ldB (j:=0) Z Z Z zG (v:=jV ag.Mat) Z) Z (za Z Z Z (zI Z Z (congrArg hH (hJ.2 af.out))) (fun _=>zF Z aI zb Z Zm) (ZE Z Z Z (zI Z Z (congrArg hH (hJ.2 af.out))) (a6.ldB (j:=1) Z Z Z Zq (v:=.slice aE O.Splits.length aG) Z) Z (za Z Z Z (zI Z Z (congrArg hH (hJ.2 af.out))) (fun _=>zi Z Z ZI) (bnK e6 fun gN dA e8=>zD 0 Z Z Z (zI Z Z (congrArg hH (hJ.2 af.out))) (zE Z Z ye (zB Z (zB Z (zB Z zM))) Z) a6 (fun hs=>wAj ag.Mat 0 (↑O.Splits.length:Int) bP bH hs dA) (.inr Z) ?_)))))
 rintro bI f6 gF bQ fG d7 ⟨rfl,rfl⟩
 have a7:sW w φ bI [.blk aV 117 B1,.blk b2 36 B0] bQ:=d7
 refine oR Z (zW Z (congrArg hH (hJ.2 af.out)) Z) (oM Z Z (ifc e8 ?_ ?_))
 intro ac e9
 refine zy Z Z Z (zP Z Z (congrArg hH ac.out) Z) (zy Z Z Z (zP Z Z (congrArg hH ac.out) Z) (zy Z Z Z (zP Z Z (congrArg hH ac.out) Z) (zy Z Z Z (zP Z Z (congrArg hH ac.out) Z) (zy Z Z Z (zP Z Z (congrArg hH ac.out) Z) (zy Z Z Z (zP Z Z (congrArg hH ac.out) Z) (ZC Z Z Z (zP Z Z (congrArg hH ac.out) Z) (oR Z (zR Z (congrArg hH ac.out) Z) (eN (ZD Z (sR fL1 Z (oA Z Z (eN (zO (zc (zQ ?_)))))))))))))))
 have q:=wAS e9
 obtain ⟨fR,fb,cX⟩:=q
 have q:=a8 fR cX
 obtain rfl:=q
 refine zQ (zc (zQ ?_))
 cases fb
 exact ⟨rfl,_,(ZA rfl),bI,_,(a7.pick [] _ (by decide) rfl),rfl,rfl⟩
 intro ac fc
 refine za Z Z Z (zI Z Z (congrArg hH (hJ.2 ac.out))) (fun _=>zF Z Z Zi Z zC) (ZE Z Z Z (zI Z Z (congrArg hH (hJ.2 ac.out))) (a7.ldB (j:=0) Z Z Z zG (v:=jV ag.Clock) Z) Z (za Z Z Z (zI Z Z (congrArg hH (hJ.2 ac.out))) (fun _=>zF Z aI zb Z yF) (ZE Z Z Z (zI Z Z (congrArg hH (hJ.2 ac.out))) (a7.ldB (j:=1) Z Z Z yT (v:=.slice au O.Clocks.length ax) Z) Z (za Z Z Z (zI Z Z (congrArg hH (hJ.2 ac.out))) (fun _=>zi Z Z Zo) (za Z Z Z (zI Z Z (congrArg hH (hJ.2 ac.out))) (fun _=>yO Z Z Z) (bnK fc fun gO dB fd=>zD 0 Z Z Z (zI Z Z (congrArg hH (hJ.2 ac.out))) (zE Z Z ye (zB Z (zB Z (zB Z zM))) Z) a7 (fun hs=>wAj ag.Clock 0 (w64 ((↑O.Clocks.length:Int) - 1)) bQ bI hs dB) (.inr Z) ?_))))))
 rintro bJ f8 gG cL fH d8 ⟨rfl,rfl⟩
 have bW:sW w φ bJ [.blk aV 117 B1,.blk b2 36 B0] cL:=d8
 refine oR Z (zW Z (congrArg hH (hJ.2 ac.out)) Z) (eN (ifc fd ?_ ?_))
 intro be ff
 refine ZD (congrArg hH be.out) (sR fL1 Z (oA Z Z (eN (zO (zc (zQ ?_))))))
 have q:=wAS ff
 obtain ⟨fS,fg,cY⟩:=q
 have q:=a8 fS cY
 obtain rfl:=q
 refine zQ (zc (zQ ?_))
 cases fg
 exact ⟨rfl,_,(ZA rfl),bJ,_,(bW.pick [] _ (by decide) rfl),rfl,rfl⟩
 intro be fh
 refine zj (congrArg hH (hJ.2 be.out)) (Zf (zm (zJ (rR fL3 Z (oM Z bh (oR Z (zh Z Z Z) (oA Z Z (zf ?_))))))))
 have q:=hU fh
 obtain rfl:=q
 exact zJ ⟨rfl,_,rfl,⟨bJ,aI,rfl,(((cy.trans fE).trans fG).trans fH),(bW.pick [1] _ (by decide) rfl)⟩⟩
 have cm:=ct;rw [if_neg an] at cm;replace an:=zN an
 refine cF Z an (Za (zq ?_))
 have q:=wAS cm
 obtain ⟨fT,fj,cZ⟩:=q
 have q:=a8 fT cZ
 obtain rfl:=q
 refine zq (ZW (zJ (sR fL1 Z (oA Z Z (eN (zO ?_))))))
 cases fj
 exact ⟨rfl,_,(ZA rfl),bG,_,(aP.pick [] _ (by decide) rfl),rfl,rfl⟩
theorem wDG (O:wAI) (ae:Option Addr) (ag:Nat) (af:Option Addr) (ah:Nat) (am:Option Addr) (ao:Nat) (an:Option Addr) (ap:Nat) (p1:wAQ) (w:World) (φ:PHeap) (hS:St0 w φ []) (aS:Sl φ 1 ae ag O.Starts.length (hD KL.encI O.Starts)) (aT:Sl φ 2 af ah O.Splits.length (hD wAD O.Splits)) (aU:Sl φ 3 am ao O.Clocks.length (hD wAN O.Clocks)) (aV:Sl φ 4 an ap O.Readings.length (hD wAL O.Readings)) {r:Bool} (hm:wBS O p1=some r):Gv Tryz.prog 110 [.agg #[.slice ae O.Starts.length ag,.slice af O.Splits.length ah,.slice am O.Clocks.length ao,.slice an O.Readings.length ap],.agg #[jV p1.Skier,jV p1.Mat]] w (wCG w [] φ (fun φ_ L_ v=>v=.bool r/\L_=[])):=by
 unfold wBS at hm
 refine Gv.of Tryz.func110 Z Tryz.ntmps110 Tryz.results110 Z (sR (.fx 0 gDt .stop) Z ?_)
 let B0:List Value:=[.slice ae O.Starts.length ag,.slice af O.Splits.length ah,.slice am O.Clocks.length ao,.slice an O.Readings.length ap]
 refine zn (cs:=B0) rfl rfl rfl rfl rfl rfl (by rfl) hS ?_
 intro W1 b2 aI
 let B1:List Value:=[jV p1.Skier,jV p1.Mat]
 refine zn (cs:=B1) rfl rfl rfl rfl rfl rfl (by rfl) aI ?_
 intro W5 b6 ak
 refine oA Z Z (eN (sR (wGE (.fx 6 (wJe (.fx 13 (.fl 14 (.fl 15 .nil)) .stop)) .stop)) Z (oR Z (zF Z Z yN Z zC) (oL Z (ak.ldB (j:=0) Z Z Z zG (v:=jV p1.Skier) Z) (oR Z (zF Z Z zb Z zg) (oL Z (ak.ldB (j:=1) Z Z Z zr (v:=.slice ae O.Starts.length ag) Z) (oR Z (zi Z Z zK) (oR Z (yO Z Z Z) (bnK hm fun x9 aF aL=>zD 0 Z Z Z Z (zE Z Z ye (zB Z (zB Z (zB Z zM))) Z) ak (fun hs=>wAj p1.Skier 0 (w64 ((↑O.Starts.length:Int) - 1)) W5 φ hs aF) (.inr Z) ?_)))))))))
 rintro aq aP aY au aW aH ⟨rfl,rfl⟩
 have ac:sW w φ aq [.blk b6 44 B1,.blk b2 36 B0] au:=aH
 refine oM Z Z (ifc aL ?_ ?_)
 intro aa aM
 refine zy Z Z Z (zP Z Z (congrArg hH aa.out) Z) (zy Z Z Z (zP Z Z (congrArg hH aa.out) Z) (zy Z Z Z (zP Z Z (congrArg hH aa.out) Z) (zy Z Z Z (zP Z Z (congrArg hH aa.out) Z) (zy Z Z Z (zP Z Z (congrArg hH aa.out) Z) (ZC Z Z Z (zP Z Z (congrArg hH aa.out) Z) (oR Z (zR Z (congrArg hH aa.out) Z) (oA Z Z (eN (zO ?_)))))))))
 have hE:=hU aM;first | subst r | cases hE
 exact ⟨rfl,_,(ZA rfl),aq,_,(ac.pick [] _ (by decide) rfl),rfl,rfl⟩
 intro aa aN
 refine za Z Z Z (zI Z Z (congrArg hH (hJ.2 aa.out))) (fun _=>zF Z Z yN Z zC) (ZE Z Z Z (zI Z Z (congrArg hH (hJ.2 aa.out))) (ac.ldB (j:=0) Z Z Z zG (v:=jV p1.Mat) Z) Z (za Z Z Z (zI Z Z (congrArg hH (hJ.2 aa.out))) (fun _=>zF Z Z zb Z Zm) (ZE Z Z Z (zI Z Z (congrArg hH (hJ.2 aa.out))) (ac.ldB (j:=1) Z Z Z Zq (v:=.slice af O.Splits.length ah) Z) Z (za Z Z Z (zI Z Z (congrArg hH (hJ.2 aa.out))) (fun _=>zi Z Z ZI) (bnK aN fun a5 aG aO=>zD 0 Z Z Z (zI Z Z (congrArg hH (hJ.2 aa.out))) (zE Z Z ye (zB Z (zB Z (zB Z zM))) Z) ac (fun hs=>wAj p1.Mat 0 (↑O.Splits.length:Int) au aq hs aG) (.inr Z) ?_)))))
 rintro ay aQ aZ az aX aJ ⟨rfl,rfl⟩
 have aK:sW w φ ay [.blk b6 44 B1,.blk b2 36 B0] az:=aJ
 refine oR Z (zW Z (congrArg hH (hJ.2 aa.out)) Z) (oA Z Z (eN (zO ?_)))
 have hE:=hU aO;first | subst r | cases hE
 exact ⟨rfl,_,(ZA rfl),ay,_,(aK.pick [] _ (by decide) rfl),rfl,rfl⟩
theorem wEh (O:wAI) (aI:Option Addr) (aJ:Nat) (aM:Option Addr) (aQ:Nat) (aN:Option Addr) (aR:Nat) (aO:Option Addr) (aS:Nat) (p1:List wAd) (aP:Option Addr) (aT:Nat) (w:World) (φ:PHeap) (hS:St0 w φ []) (eu:Sl φ 1 aI aJ O.Starts.length (hD KL.encI O.Starts)) (ew:Sl φ 2 aM aQ O.Splits.length (hD wAD O.Splits)) (ey:Sl φ 3 aN aR O.Clocks.length (hD wAN O.Clocks)) (ez:Sl φ 4 aO aS O.Readings.length (hD wAL O.Readings)) (cz:Sl φ 4 aP aT p1.length (hD wAT p1)) {r:Int} (hm:wBz O p1=some r):Gv Tryz.prog 113 [.agg #[.slice aI O.Starts.length aJ,.slice aM O.Splits.length aQ,.slice aN O.Clocks.length aR,.slice aO O.Readings.length aS],.slice aP p1.length aT] w (wCG w [] φ (fun φ_ L_ v=>v=jV r/\L_=[])):=by
 unfold wBz at hm
 refine Gv.of Tryz.func113 Z Tryz.ntmps113 Tryz.results113 Z (sR gDu Z ?_)
 let B0:List Value:=[.slice aI O.Starts.length aJ,.slice aM O.Splits.length aQ,.slice aN O.Clocks.length aR,.slice aO O.Readings.length aS]
 refine zn (cs:=B0) rfl rfl rfl rfl rfl rfl (by rfl) hS ?_
 intro W1 b2 bq
 refine oA Z Z (eN (zL (sR fL3 Z (oM Z Z (oR Z (zi Z Z yM) (oR Z (yI Z Z Z) (eN ?_)))))))
 by_cases c5:80 < (↑p1.length:Int)
 have bu:=hm;rw [if_pos c5] at bu;replace c5:=zN c5
 refine cT Z c5 (sR fL1 Z (oA Z Z (eN (zO (zQ ?_)))))
 cases bu
 exact ⟨rfl,_,(ZA rfl),φ,_,(bq.pick [] _ (by decide) rfl),rfl,rfl⟩
 have ag:=hm;rw [if_neg c5] at ag;replace c5:=zN c5
 refine cF Z c5 (kN (zL (sR fL1 Z (oA Z Z (eN (zY ?_))))))
 have q:=wCA ag
 obtain ⟨eC,aj⟩:=q
 have q:=wCT aj
 obtain ⟨ba,cC⟩:=q
 replace ba:=zN ba
 refine yc (fun k9 _ σ_ w_=>∃ (φ_:PHeap),σ_ 5=jV (↑k9:Int)/\σ_ 1=.slice aP p1.length aT/\σ_ 2=.pointer (some ⟨b2,0,none⟩)/\PHeap.Le φ φ_/\sW w φ φ_ [.blk b2 36 B0] w_) cC ?_ ?_ ?_
 exact ⟨φ,Z,Z,Z,(zS _),bq⟩
 rintro k9 ⟨⟩ e6 e8 ej a9 ⟨be,aE,az,an,bv,bp⟩ ah aq
 try dsimp only at ah
 have bi:Hid ((↑k9:Int) < (↑p1.length:Int)):=zN (wBO a9)
 replace a9:=zN a9
 have cD:Hid (w64 ((↑k9:Int) + 1)=(↑(k9 + 1):Int)):=zN (by have h1:=ba.out;have h2:=bi.out;rw [wAb] <;> omega)
 refine zL (sR fL4 Z (oM Z aE (oM Z az (oR Z (zi Z Z yM) (oR Z (ze Z Z Z) (eN (cT Z bi (kN ?_))))))))
 have q:=wCA ah
 obtain ⟨dP,ak⟩:=q
 refine yX (fun σ_ w_=>dP=.inl ()/\∃ (φ_:PHeap),σ_ 1=.slice aP p1.length aT/\σ_ 2=.pointer (some ⟨b2,0,none⟩)/\σ_ 5=jV (↑k9:Int)/\PHeap.Le be φ_/\sW w φ φ_ [.blk b2 36 B0] w_) ?_ ?_
 refine zY (sR (wEF (.fx 4 (.fx 5 .nil .stop) .stop)) Z (oM Z az (oM Z aE (bnK ak fun aa bj dt=>?_))))
 have cc:=cz.le bv
 have q:=cc.el (fun _=>rfl) (wAe bj)
 obtain ⟨ep,eB,cj,cm⟩:=q
 refine oR Z (Zc Z Z cj Z yM YA (wCa bj)) (oL Z (bp.ldCA (f:=0) cm Z Z Tryz.isAgg179 YA (us:=[jV aa.Kind,jV aa.Skier,jV aa.Index,.bool aa.Up]) Z Z) (zV (cs:=[jV 0,jV 0,jV 0,.bool false]) Z Z Z Z Z Tryz.zeroValue179 Z bp ?_))
 intro eo ay ct
 let B1:List Value:=[jV aa.Kind,jV aa.Skier,jV aa.Index,.bool aa.Up]
 refine zX (j:=0) (vs:=B1) Z Z Z Z ct Z Z Z Z YA (zA Z) Z Z Z ?_
 intro bg cu
 have br:sW w φ be [.blk ay 179 B1,.blk b2 36 B0] bg:=cu
 refine eN (sR gEg Z (oR Z (zF Z Z ZL Z zC) (oL Z (br.ldB (j:=0) Z Z Z zG (v:=jV aa.Kind) Z) (bnK dt fun eX cd du=>zD 0 Z Z Z Z (zE Z Z ye (zB Z (zB Z (zB Z zM))) Z) br (fun hs=>wAj aa.Kind 0 3 bg be hs cd) (.inr Z) ?_))))
 rintro au d8 eO aG aH cw ⟨rfl,rfl⟩
 have ab:sW w φ au [.blk ay 179 B1,.blk b2 36 B0] aG:=cw
 refine oA Z Z (eN (zL (sR fL2 Z (oR Z (zF Z Z ZL Z zC) (oL Z (ab.ldB (j:=0) Z Z Z zG (v:=jV aa.Kind) Z) (eN (zY (sR fL2 Z (oR Z (Zy Z Z Z) (oA Z Z (eN (ifc du ?_ ?_))))))))))))
 intro a6 dv
 refine cT Z a6 (rR (wGE (.fx 6 (wJe (.nil)) .stop)) Z (oR Z (zF Z Z ZL Z zC) (oL Z (ab.ldB (j:=0) Z Z Z zG (v:=jV aa.Skier) Z) (oR Z (zF Z an zb Z zg) (oL Z (ab.ldB (j:=1) Z Z Z zr (v:=.slice aI O.Starts.length aJ) Z) (oR Z (zi Z Z zK) (oR Z (yO Z Z Z) (bnK dv fun eY cf dw=>zD 0 Z Z Z Z (zE Z Z ye (zB Z (zB Z (zB Z zM))) Z) ab (fun hs=>wAj aa.Skier 0 (w64 ((↑O.Starts.length:Int) - 1)) aG au hs cf) (.inr Z) ?_))))))))
 rintro aU d9 eP bA dN cx ⟨rfl,rfl⟩
 have aK:sW w φ aU [.blk ay 179 B1,.blk b2 36 B0] bA:=cx
 refine oM Z Z (ifc dw ?_ ?_)
 intro ap dx
 refine zy Z Z Z (zP Z Z (congrArg hH ap.out) Z) (zy Z Z Z (zP Z Z (congrArg hH ap.out) Z) (zy Z Z Z (zP Z Z (congrArg hH ap.out) Z) (oR Z (zR Z (congrArg hH ap.out) Z) (oA Z Z (zf (zm (zJ (sR fL1 Z (oM Z Z (eN (ZD Z (sR fL1 Z (oA Z Z (eN (zO (zc ?_))))))))))))))))
 have q:=wAS dx
 obtain ⟨eQ,dy,bQ⟩:=q
 have q:=wAt ah ak bQ
 obtain rfl:=q
 refine zQ ?_
 have q:=wAS dy
 obtain ⟨dX,dz,bR⟩:=q
 have q:=wAt ag aj (aq dX bR)
 obtain rfl:=q
 refine zQ (zc (zQ ?_))
 cases dz
 exact ⟨rfl,_,(ZA rfl),aU,_,(aK.pick [] _ (by decide) rfl),rfl,rfl⟩
 intro ap dA
 refine za Z Z Z (zI Z Z (congrArg hH (hJ.2 ap.out))) (fun _=>zF Z Z ZL Z zC) (ZE Z Z Z (zI Z Z (congrArg hH (hJ.2 ap.out))) (aK.ldB (j:=0) Z Z Z zG (v:=jV aa.Index) Z) Z (za Z Z Z (zI Z Z (congrArg hH (hJ.2 ap.out))) (fun _=>ZP Z Z Z) (oR Z (zW Z (congrArg hH (hJ.2 ap.out)) Z) (oA Z Z (zf (zm (zJ (sR fL1 Z (oM Z Z (eN (ifc dA ?_ ?_)))))))))))
 intro a7 dB
 exact zj (zu (fun h=>h a7.out)) (Zf (zm (zJ ⟨rfl,(hU dB).symm,⟨aU,az,an,aE,(aH.trans dN),(aK.pick [1] _ (by decide) rfl)⟩⟩)))
 intro a7 dC
 refine cT Z a7 (sR fL1 Z (oA Z Z (eN (zO (zc ?_)))))
 have q:=wAS dC
 obtain ⟨eR,dD,bS⟩:=q
 have q:=wAt ah ak bS
 obtain rfl:=q
 refine zQ ?_
 have q:=wAS dD
 obtain ⟨dY,dE,bT⟩:=q
 have q:=wAt ag aj (aq dY bT)
 obtain rfl:=q
 refine zQ (zc (zQ ?_))
 cases dE
 exact ⟨rfl,_,(ZA rfl),aU,_,(aK.pick [] _ (by decide) rfl),rfl,rfl⟩
 intro a6 dF
 refine cF Z a6 (sR fL2 Z (oR Z (Zy Z Z Z) (oA Z Z (eN (ifc dF ?_ ?_)))))
 intro a8 dG
 refine cT Z a8 (rR (wGE (.fx 6 (wKa (.fx 14 (.fl 15 (.fl 16 .nil)) .stop)) .stop)) Z (oR Z (zF Z Z ZL Z zC) (oL Z (ab.ldB (j:=0) Z Z Z zG (v:=jV aa.Skier) Z) (oR Z (zF Z an zb Z zg) (oL Z (ab.ldB (j:=1) Z Z Z zr (v:=.slice aI O.Starts.length aJ) Z) (oR Z (zi Z Z zK) (oR Z (yO Z Z Z) (bnK dG fun eZ cg dH=>zD 0 Z Z Z Z (zE Z Z ye (zB Z (zB Z (zB Z zM))) Z) ab (fun hs=>wAj aa.Skier 0 (w64 ((↑O.Starts.length:Int) - 1)) aG au hs cg) (.inr Z) ?_))))))))
 rintro bf eg eS bh dO cy ⟨rfl,rfl⟩
 have aL:sW w φ bf [.blk ay 179 B1,.blk b2 36 B0] bh:=cy
 refine oM Z Z (ifc dH ?_ ?_)
 intro af dI
 refine zy Z Z Z (zP Z Z (congrArg hH af.out) Z) (zy Z Z Z (zP Z Z (congrArg hH af.out) Z) (zy Z Z Z (zP Z Z (congrArg hH af.out) Z) (zy Z Z Z (zP Z Z (congrArg hH af.out) Z) (zy Z Z Z (zP Z Z (congrArg hH af.out) Z) (zy Z Z Z (zP Z Z (congrArg hH af.out) Z) (ZC Z Z Z (zP Z Z (congrArg hH af.out) Z) (oR Z (zR Z (congrArg hH af.out) Z) (oA Z Z (zf (zm (zJ (sR fL1 Z (oM Z Z (eN (ZD Z (sR fL1 Z (oA Z Z (eN (zO (zc ?_))))))))))))))))))))
 have q:=wAS dI
 obtain ⟨eD,cE,bC⟩:=q
 have q:=wAt ah ak bC
 obtain rfl:=q
 refine zQ ?_
 have q:=wAS cE
 obtain ⟨dQ,cG,bD⟩:=q
 have q:=wAt ag aj (aq dQ bD)
 obtain rfl:=q
 refine zQ (zc (zQ ?_))
 cases cG
 exact ⟨rfl,_,(ZA rfl),bf,_,(aL.pick [] _ (by decide) rfl),rfl,rfl⟩
 intro af cH
 refine za Z Z Z (zI Z Z (congrArg hH (hJ.2 af.out))) (fun _=>zF Z Z ZL Z zC) (ZE Z Z Z (zI Z Z (congrArg hH (hJ.2 af.out))) (aL.ldB (j:=0) Z Z Z zG (v:=jV aa.Index) Z) Z (za Z Z Z (zI Z Z (congrArg hH (hJ.2 af.out))) (fun _=>zF Z an zb Z Zm) (ZE Z Z Z (zI Z Z (congrArg hH (hJ.2 af.out))) (aL.ldB (j:=1) Z Z Z Zq (v:=.slice aM O.Splits.length aQ) Z) Z (za Z Z Z (zI Z Z (congrArg hH (hJ.2 af.out))) (fun _=>zi Z Z ZI) (za Z Z Z (zI Z Z (congrArg hH (hJ.2 af.out))) (fun _=>yO Z Z Z) (bnK cH fun eU b5 cI=>zD 0 Z Z Z (zI Z Z (congrArg hH (hJ.2 af.out))) (zE Z Z ye (zB Z (zB Z (zB Z zM))) Z) aL (fun hs=>wAj aa.Index 0 (w64 ((↑O.Splits.length:Int) - 1)) bh bf hs b5) (.inr Z) ?_))))))
 rintro bb d5 eE bw dJ cn ⟨rfl,rfl⟩
 have bm:sW w φ bb [.blk ay 179 B1,.blk b2 36 B0] bw:=cn
 refine oR Z (zW Z (congrArg hH (hJ.2 af.out)) Z) (oA Z Z (zf (zm (zJ (sR fL1 Z (oM Z Z (eN (ifc cI ?_ ?_))))))))
 intro aV cJ
 refine ZD (congrArg hH aV.out) (sR fL1 Z (oA Z Z (eN (zO (zc ?_)))))
 have q:=wAS cJ
 obtain ⟨eF,cK,bE⟩:=q
 have q:=wAt ah ak bE
 obtain rfl:=q
 refine zQ ?_
 have q:=wAS cK
 obtain ⟨dR,cL,bF⟩:=q
 have q:=wAt ag aj (aq dR bF)
 obtain rfl:=q
 refine zQ (zc (zQ ?_))
 cases cL
 exact ⟨rfl,_,(ZA rfl),bb,_,(bm.pick [] _ (by decide) rfl),rfl,rfl⟩
 intro aV cM
 exact zj (congrArg hH (hJ.2 aV.out)) (Zf (zm (zJ ⟨rfl,(hU cM).symm,⟨bb,az,an,aE,((aH.trans dO).trans dJ),(bm.pick [1] _ (by decide) rfl)⟩⟩)))
 intro a8 cN
 refine cF Z a8 (sR fL2 Z (oR Z (Zy Z Z Z) (oA Z Z (eN (ifc cN ?_ ?_)))))
 intro aW cO
 refine cT Z aW (rR (wLD gEe) Z (oR Z (zF Z Z ZL Z zC) (oL Z (ab.ldB (j:=0) Z Z Z zG (v:=jV aa.Skier) Z) (oR Z (ZP Z Z Z) (oM Z Z (ifc cO ?_ ?_))))))
 intro ac cP
 refine za Z Z Z (zI Z Z (zu (fun h=>h ac.out))) (fun _=>zF Z Z ZL Z zC) (ZE Z Z Z (zI Z Z (zu (fun h=>h ac.out))) (ab.ldB (j:=0) Z Z Z zG (v:=jV aa.Index) Z) Z (za Z Z Z (zI Z Z (zu (fun h=>h ac.out))) (fun _=>zF Z an zb Z yF) (ZE Z Z Z (zI Z Z (zu (fun h=>h ac.out))) (ab.ldB (j:=1) Z Z Z yT (v:=.slice aN O.Clocks.length aR) Z) Z (za Z Z Z (zI Z Z (zu (fun h=>h ac.out))) (fun _=>zi Z Z Zo) (za Z Z Z (zI Z Z (zu (fun h=>h ac.out))) (fun _=>yO Z Z Z) (bnK cP fun eV ca cQ=>zD 0 Z Z Z (zI Z Z (zu (fun h=>h ac.out))) (zE Z Z ye (zB Z (zB Z (zB Z zM))) Z) ab (fun hs=>wAj aa.Index 0 (w64 ((↑O.Clocks.length:Int) - 1)) aG au hs ca) (.inr Z) ?_))))))
 rintro bc d6 eG bx dK co ⟨rfl,rfl⟩
 have bn:sW w φ bc [.blk ay 179 B1,.blk b2 36 B0] bx:=co
 refine oR Z (zW Z (zu (fun h=>h ac.out)) Z) (oA Z Z (zf (zm (zJ (sR fL1 Z (oM Z Z (eN (ifc cQ ?_ ?_))))))))
 intro aX cR
 refine ZD (congrArg hH aX.out) (sR fL1 Z (oA Z Z (eN (zO (zc ?_)))))
 have q:=wAS cR
 obtain ⟨eH,cS,bG⟩:=q
 have q:=wAt ah ak bG
 obtain rfl:=q
 refine zQ ?_
 have q:=wAS cS
 obtain ⟨dS,cU,bH⟩:=q
 have q:=wAt ag aj (aq dS bH)
 obtain rfl:=q
 refine zQ (zc (zQ ?_))
 cases cU
 exact ⟨rfl,_,(ZA rfl),bc,_,(bn.pick [] _ (by decide) rfl),rfl,rfl⟩
 intro aX cV
 exact zj (congrArg hH (hJ.2 aX.out)) (Zf (zm (zJ ⟨rfl,(hU cV).symm,⟨bc,az,an,aE,(aH.trans dK),(bn.pick [1] _ (by decide) rfl)⟩⟩)))
 intro ac cW
 refine oT Z ac (oT Z ac (oT Z ac (oT Z ac (oT Z ac (oT Z ac (ZC Z Z Z (zP Z Z (Zd ac.out) Z) (oR Z (zR Z (Zd ac.out) Z) (oA Z Z (zf (zm (zJ (sR fL1 Z (oM Z Z (eN (ZD Z (sR fL1 Z (oA Z Z (eN (zO (zc ?_))))))))))))))))))))
 have q:=wAS cW
 obtain ⟨eI,cX,bI⟩:=q
 have q:=wAt ah ak bI
 obtain rfl:=q
 refine zQ ?_
 have q:=wAS cX
 obtain ⟨dT,cY,bJ⟩:=q
 have q:=wAt ag aj (aq dT bJ)
 obtain rfl:=q
 refine zQ (zc (zQ ?_))
 cases cY
 exact ⟨rfl,_,(ZA rfl),au,_,(ab.pick [] _ (by decide) rfl),rfl,rfl⟩
 intro aW cZ
 refine cF Z aW (sR fL2 Z (oR Z (Zy Z Z Z) (oA Z Z (eN (ifc cZ ?_ ?_)))))
 intro aY c6
 refine cT Z aY (rR (wLD gEe) Z (oR Z (zF Z Z ZL Z zC) (oL Z (ab.ldB (j:=0) Z Z Z zG (v:=jV aa.Skier) Z) (oR Z (ZP Z Z Z) (oM Z Z (ifc c6 ?_ ?_))))))
 intro ae da
 refine za Z Z Z (zI Z Z (zu (fun h=>h ae.out))) (fun _=>zF Z Z ZL Z zC) (ZE Z Z Z (zI Z Z (zu (fun h=>h ae.out))) (ab.ldB (j:=0) Z Z Z zG (v:=jV aa.Index) Z) Z (za Z Z Z (zI Z Z (zu (fun h=>h ae.out))) (fun _=>zF Z an zb Z yh) (ZE Z Z Z (zI Z Z (zu (fun h=>h ae.out))) (ab.ldB (j:=1) Z Z Z yv (v:=.slice aO O.Readings.length aS) Z) Z (za Z Z Z (zI Z Z (zu (fun h=>h ae.out))) (fun _=>zi Z Z yL) (za Z Z Z (zI Z Z (zu (fun h=>h ae.out))) (fun _=>yO Z Z Z) (bnK da fun eW cb db=>zD 0 Z Z Z (zI Z Z (zu (fun h=>h ae.out))) (zE Z Z ye (zB Z (zB Z (zB Z zM))) Z) ab (fun hs=>wAj aa.Index 0 (w64 ((↑O.Readings.length:Int) - 1)) aG au hs cb) (.inr Z) ?_))))))
 rintro bd d7 eJ bz dL cp ⟨rfl,rfl⟩
 have bo:sW w φ bd [.blk ay 179 B1,.blk b2 36 B0] bz:=cp
 refine oR Z (zW Z (zu (fun h=>h ae.out)) Z) (oA Z Z (zf (zm (zJ (sR fL1 Z (oM Z Z (eN (ifc db ?_ ?_))))))))
 intro aZ dd
 refine ZD (congrArg hH aZ.out) (sR fL1 Z (oA Z Z (eN (zO (zc ?_)))))
 have q:=wAS dd
 obtain ⟨eK,de,bK⟩:=q
 have q:=wAt ah ak bK
 obtain rfl:=q
 refine zQ ?_
 have q:=wAS de
 obtain ⟨dU,df,bL⟩:=q
 have q:=wAt ag aj (aq dU bL)
 obtain rfl:=q
 refine zQ (zc (zQ ?_))
 cases df
 exact ⟨rfl,_,(ZA rfl),bd,_,(bo.pick [] _ (by decide) rfl),rfl,rfl⟩
 intro aZ dg
 exact zj (congrArg hH (hJ.2 aZ.out)) (Zf (zm (zJ ⟨rfl,(hU dg).symm,⟨bd,az,an,aE,(aH.trans dL),(bo.pick [1] _ (by decide) rfl)⟩⟩)))
 intro ae dh
 refine oT Z ae (oT Z ae (oT Z ae (oT Z ae (oT Z ae (oT Z ae (ZC Z Z Z (zP Z Z (Zd ae.out) Z) (oR Z (zR Z (Zd ae.out) Z) (oA Z Z (zf (zm (zJ (sR fL1 Z (oM Z Z (eN (ZD Z (sR fL1 Z (oA Z Z (eN (zO (zc ?_))))))))))))))))))))
 have q:=wAS dh
 obtain ⟨eL,di,bM⟩:=q
 have q:=wAt ah ak bM
 obtain rfl:=q
 refine zQ ?_
 have q:=wAS di
 obtain ⟨dV,dk,bN⟩:=q
 have q:=wAt ag aj (aq dV bN)
 obtain rfl:=q
 refine zQ (zc (zQ ?_))
 cases dk
 exact ⟨rfl,_,(ZA rfl),au,_,(ab.pick [] _ (by decide) rfl),rfl,rfl⟩
 intro aY dl
 refine cF Z aY (Zf (zm (zJ (sR fL1 Z (oM Z Z (eN (ifc dl ?_ ?_)))))))
 intro a5 dm
 refine ZD (congrArg hH a5.out) (sR fL1 Z (oA Z Z (eN (zO (zc ?_)))))
 have q:=wAS dm
 obtain ⟨eM,dp,bO⟩:=q
 have q:=wAt ah ak bO
 obtain rfl:=q
 refine zQ ?_
 have q:=wAS dp
 obtain ⟨dW,dq,bP⟩:=q
 have q:=wAt ag aj (aq dW bP)
 obtain rfl:=q
 refine zQ (zc (zQ ?_))
 cases dq
 exact ⟨rfl,_,(ZA rfl),au,_,(ab.pick [] _ (by decide) rfl),rfl,rfl⟩
 intro a5 dr
 exact zj (congrArg hH (hJ.2 a5.out)) (Zf (zm (zJ ⟨rfl,(hU dr).symm,⟨au,az,an,aE,aH,(ab.pick [1] _ (by decide) rfl)⟩⟩)))
 rintro e9 ek ⟨bU,⟨dZ,bV,bW,bX,dM,cq⟩⟩
 have bs:=wCs ah ak bU
 try dsimp only at bs
 refine rR fL3 Z (oM Z bX (oR Z (ZU (zh Z Z Z) (congrArg (jV) cD.out)) (oA Z Z (zf ?_))))
 have q:=hU bs
 obtain rfl:=q
 exact zJ ⟨Z,_,Z,⟨dZ,Z,bV,bW,(bv.trans dM),cq⟩⟩
 rintro ⟨⟩ fb en ⟨d4,bZ,bY,er,eA,cr⟩ cA
 have bt:=wCs ag aj cA
 try dsimp only at bt
 have bB:Hid (¬ ((↑(((↑p1.length:Int):Int) - 0).toNat:Int) < (↑p1.length:Int))):=zN (wAq)
 refine zL (sR fL4 Z (oM Z bZ (oM Z bY (oR Z (zi Z Z yM) (oR Z (ze Z Z Z) (eN (cF Z bB (Za (zq (zq (ZW (zJ (sR fL1 Z (oA Z Z (eN (zO ?_))))))))))))))))
 cases bt
 exact ⟨rfl,_,(ZA rfl),d4,_,(cr.pick [] _ (by decide) rfl),rfl,rfl⟩
end Go.Proofs.YtlnfbjphfoipaaaGreat
namespace Go.Proofs.YtlnfbjphfoipaaaGreat
open Go.KL
set_option maxHeartbeats 4000000
theorem wAk (O:wAI) (ac:Option Addr) (ag:Nat) (aa:Option Addr) (ab:Nat) (ae:Option Addr) (ah:Nat) (af:Option Addr) (ai:Nat) (p1:Int) (p2:Int) (w:World) (φ:PHeap) (hS:St0 w φ []) (ap:Sl φ 1 ac ag O.Starts.length (hD KL.encI O.Starts)) (aq:Sl φ 2 aa ab O.Splits.length (hD wAD O.Splits)) (au:Sl φ 3 ae ah O.Clocks.length (hD wAN O.Clocks)) (av:Sl φ 4 af ai O.Readings.length (hD wAL O.Readings)) {r:Int} (hm:wAV O p1 p2=some r):Gv Tryz.prog 68 [.agg #[.slice ac O.Starts.length ag,.slice aa O.Splits.length ab,.slice ae O.Clocks.length ah,.slice af O.Readings.length ai],jV p1,jV p2] w (wCG w [] φ (fun φ_ L_ v=>v=jV r/\L_=[])):=by
 unfold wAV at hm
 refine Gv.of Tryz.func68 rfl Tryz.ntmps68 Tryz.results68 rfl (sR gDu rfl (zn (cs:=[.slice ac O.Starts.length ag,.slice aa O.Splits.length ab,.slice ae O.Clocks.length ah,.slice af O.Readings.length ai]) rfl rfl rfl rfl rfl rfl (by rfl) hS ?_))
 intro W1 b2 aj
 refine oA Z Z (eN (sR fL10 Z (oM Z Z (oR Z (zF Z Z zb Z Zm) (oL Z (aj.ldB (j:=0) Z Z Z Zq (v:=.slice aa O.Splits.length ab) Z) (oR Z (zi Z Z ZI) (oR Z (zh Z Z Z) (oR Z (Runs.mulw Z Z Z) (oR Z (zh Z Z Z) (oM Z Z (oR Z (zh Z Z Z) (oA Z Z (eN (zO ?_))))))))))))))
 cases hm
 exact ⟨rfl,_,(ZA rfl),φ,_,(aj.pick [] _ (by decide) rfl),rfl,rfl⟩
theorem wCY (O:wAI) (aa:Option Addr) (ab:Nat) (ac:Option Addr) (ag:Nat) (ae:Option Addr) (ah:Nat) (af:Option Addr) (ai:Nat) (p1:Int) (w:World) (φ:PHeap) (hS:St0 w φ []) (ay:Sl φ 1 aa ab O.Starts.length (hD KL.encI O.Starts)) (az:Sl φ 2 ac ag O.Splits.length (hD wAD O.Splits)) (aE:Sl φ 3 ae ah O.Clocks.length (hD wAN O.Clocks)) (aF:Sl φ 4 af ai O.Readings.length (hD wAL O.Readings)) {r:Int} (hm:wAl O p1=some r):Gv Tryz.prog 73 [.agg #[.slice aa O.Starts.length ab,.slice ac O.Splits.length ag,.slice ae O.Clocks.length ah,.slice af O.Readings.length ai],jV p1] w (wCG w [] φ (fun φ_ L_ v=>v=jV r/\L_=[])):=by
 unfold wAl at hm
 refine Gv.of Tryz.func73 Z Tryz.ntmps73 Tryz.results73 Z (sR gDu Z ?_)
 let B0:List Value:=[.slice aa O.Starts.length ab,.slice ac O.Splits.length ag,.slice ae O.Clocks.length ah,.slice af O.Readings.length ai]
 refine zn (cs:=B0) rfl rfl rfl rfl rfl rfl (by rfl) hS ?_
 intro W1 b2 ak
 refine oA Z Z (eN (sR (wEF (.fx 4 (wMI (.nil)) .stop)) Z (oL Z (ak.ldBA (j:=0) Z Z Z ZQ ZF (vs:=B0) Z Z) (oR Z (zF Z Z zb Z zg) (oL Z (ak.ldB (j:=0) Z Z Z zr (v:=.slice aa O.Starts.length ab) Z) (oR Z (zi Z Z zK) (bnK hm fun x5 h6 aG=>zD 0 Z Z Z Z (zE Z Z ym (zB Z (zB Z (zB Z zM))) Z) ak (fun hs=>wAk O aa ab ac ag ae ah af ai (↑O.Starts.length:Int) 0 W1 φ hs ay az aE aF h6) (.inr Z) ?_)))))))
 rintro an L9 aJ ap aI av ⟨rfl,rfl⟩
 have ax:sW w φ an [.blk b2 36 B0] ap:=av
 refine oM Z Z (oR Z (zh Z Z Z) (oA Z Z (eN (zO ?_))))
 cases aG
 exact ⟨rfl,_,(ZA rfl),an,_,(ax.pick [] _ (by decide) rfl),rfl,rfl⟩
theorem wFD (p0:wAI) (ah:Option Addr) (aj:Nat) (ai:Option Addr) (ak:Nat) (ae:Option Addr) (af:Nat) (ap:Option Addr) (aq:Nat) (O:wAd) (w:World) (φ:PHeap) (hS:St0 w φ []) (aF:Sl φ 1 ah aj p0.Starts.length (hD KL.encI p0.Starts)) (aT:Sl φ 2 ai ak p0.Splits.length (hD wAD p0.Splits)) (aG:Sl φ 3 ae af p0.Clocks.length (hD wAN p0.Clocks)) (aJ:Sl φ 4 ap aq p0.Readings.length (hD wAL p0.Readings)) {r:Int × Int × Int} (hm:wBt p0 O=some r):Gv Tryz.prog 115 [.agg #[.slice ah p0.Starts.length aj,.slice ai p0.Splits.length ak,.slice ae p0.Clocks.length af,.slice ap p0.Readings.length aq],.agg #[jV O.Kind,jV O.Skier,jV O.Index,.bool O.Up]] w (wCG w [] φ (fun φ_ L_ v=>v=.tuple #[jV r.1,jV r.2.1,jV r.2.2]/\L_=[])):=by
 unfold wBt at hm
 refine Gv.of Tryz.func115 Z Tryz.ntmps115 Tryz.results115 Z (sR (.fx 0 (.fx 1 (fC2_4 (.nil)) .stop) .stop) Z ?_)
 let B0:List Value:=[.slice ah p0.Starts.length aj,.slice ai p0.Splits.length ak,.slice ae p0.Clocks.length af,.slice ap p0.Readings.length aq]
 refine zn (cs:=B0) rfl rfl rfl rfl rfl rfl (by rfl) hS ?_
 intro W1 b2 cU
 let B1:List Value:=[jV O.Kind,jV O.Skier,jV O.Index,.bool O.Up]
 refine zn (cs:=B1) rfl rfl rfl rfl rfl rfl (by rfl) cU ?_
 intro W5 b6 aE
 refine oA Z Z (oA Z Z (oA Z Z (eN (sR fL4 Z (oA Z Z (oA Z Z (oA Z Z (oA Z Z (eN (zL (sR fL2 Z (oR Z (zF Z Z ZL Z zC) (oL Z (aE.ldB (j:=0) Z Z Z zG (v:=jV O.Kind) Z) (eN (zY (sR fL2 Z (oR Z (Zy Z Z Z) (oA Z Z (eN ?_)))))))))))))))))))
 by_cases c9:O.Kind=0
 have bE:=hm;rw [if_pos c9] at bE;replace c9:=zN c9
 refine cT Z c9 (zx zt [1,3,1,2,3,1,3,1,3,1,3,1,3,1,3,1,3,3,3,3] (wDK (wPT (.fx 3 (wOK (.nil)) .stop))) (by kernel_rfl) ?_)
 have am:=aE.drew
 generalize hw_W12:({ W5 with drawn:=W5.drawn + 1 }:World)=bN at am ⊢
 refine oL Z (am.ldBA (j:=1) Z Z Z ZQ ZF (vs:=B0) Z Z) (oR Z (zF Z Z ZL Z zC) (oL Z (am.ldB (j:=0) Z Z Z zG (v:=jV O.Skier) Z) (oR Z (zF Z Z zb Z zg) (oL Z (am.ldB (j:=1) Z Z Z zr (v:=.slice ah p0.Starts.length aj) Z) (oR Z (zF Z Z ZL Z zC) (oL Z (am.ldB (j:=0) Z Z Z zG (v:=jV O.Skier) Z) (bnK bE fun bH aP df=>?_)))))))
 have q:=aF.el (fun _=>rfl) (wAe aP)
 obtain ⟨dT,ew,ct,cE⟩:=q
 refine oR Z (ZM Z Z ct Z zK zC (wBV aP) (wBb aP)) (oL Z (am.ldC (f:=0) cE (v:=jV bH) Z Z zG Z) (oR Z (zF Z Z zb Z zg) (oL Z (am.ldB (j:=1) Z Z Z zr (v:=.slice ah p0.Starts.length aj) Z) (oR Z (zF Z Z ZL Z zC) (oL Z (am.ldB (j:=0) Z Z Z zG (v:=jV O.Skier) Z) ?_)))))
 have q:=aF.el (fun _=>rfl) (wAe aP)
 obtain ⟨dW,eA,cx,cI⟩:=q
 refine oR Z (ZM Z Z cx Z zK zC (wBV aP) (wBb aP)) (oL Z (am.ldC (f:=0) cI (v:=jV bH) Z Z zG Z) (oR Z (YD Z Z) (bnK df fun eJ cf dm=>zD 0 Z Z Z Z (zE Z Z ym (zB Z (zB Z (zB Z zM))) Z) am (fun hs=>wAk p0 ah aj ai ak ae af ap aq O.Skier 0 bN φ hs aF aT aG aJ cf) (.inr Z) ?_)))
 rintro bp dK eG bP eo cV ⟨rfl,rfl⟩
 have bm:sW w φ bp [.blk b6 179 B1,.blk b2 36 B0] bP:=cV
 refine oA Z Z (oA Z Z (oA Z Z (zf (zm (zJ (zL (sR fL2 Z (oR Z (zF Z Z ZL Z YB) (oL Z (bm.ldB (j:=0) Z Z Z YE (v:=.bool O.Up) Z) (eN (ifc dm ?_ ?_)))))))))))
 intro bd dp
 refine ZD (congrArg hH bd.out) (sR fL6 Z (oM Z Z (oM Z Z (oM Z Z (oA Z Z (oA Z Z (oA Z Z (eN (zO (zQ ?_))))))))))
 cases dp
 exact ⟨rfl,_,(wLE rfl rfl rfl),bp,_,(bm.pick [] _ (by decide) rfl),rfl,rfl⟩
 intro bd dq
 refine zj (congrArg hH (hJ.2 bd.out)) (kN (sR fL6 Z (oM Z Z (oM Z Z (oM Z Z (oA Z Z (oA Z Z (oA Z Z (eN (zO ?_))))))))))
 cases dq
 exact ⟨rfl,_,(wLE rfl rfl rfl),bp,_,(bm.pick [] _ (by decide) rfl),rfl,rfl⟩
 have bF:=hm;rw [if_neg c9] at bF;replace c9:=zN c9
 refine cF Z c9 (sR fL2 Z (oR Z (Zy Z Z Z) (oA Z Z (eN (ifc bF ?_ ?_)))))
 intro be dr
 refine cT Z be (zL (zx zt [1,3,1,3,1,2,1,3,1,3,1,3,2,3,3] (wGD (wPZ (.fx 5 (.fx 12 (.fl 13 (.fl 14 .nil)) .stop) .stop))) (by kernel_rfl) ?_))
 have az:=aE.drew
 generalize hw_W41:({ W5 with drawn:=W5.drawn + 1 }:World)=bQ at az ⊢
 refine oL Z (az.ldBA (j:=1) Z Z Z ZQ ZF (vs:=B0) Z Z) (oR Z (zF Z Z ZL Z zC) (oL Z (az.ldB (j:=0) Z Z Z zG (v:=jV O.Skier) Z) (oR Z (zF Z Z ZL Z zC) (oL Z (az.ldB (j:=0) Z Z Z zG (v:=jV O.Index) Z) (oL Z (az.ldBA (j:=1) Z Z Z ZQ ZF (vs:=B0) Z Z) (oR Z (zF Z Z ZL Z zC) (oL Z (az.ldB (j:=0) Z Z Z zG (v:=jV O.Skier) Z) (oR Z (zF Z Z ZL Z zC) (oL Z (az.ldB (j:=0) Z Z Z zG (v:=jV O.Index) Z) (oR Z (zh Z Z Z) (bnK dr fun dF cg dt=>zD 0 Z Z Z Z (zE Z Z ym (zB Z (zB Z (zB Z zM))) Z) az (fun hs=>wAk p0 ah aj ai ak ae af ap aq O.Skier O.Index bQ φ hs aF aT aG aJ cg) (.inr Z) ?_)))))))))))
 rintro bL dL eH bs a6 cW ⟨rfl,rfl⟩
 have cX:sW w φ bL [.blk b6 179 B1,.blk b2 36 B0] bs:=cW
 have cj:=aF.le a6
 have bC:=aT.le a6
 have cm:=aG.le a6
 have cn:=aJ.le a6
 refine bnK dt fun dG co du=>zD 0 Z Z Z Z (zE Z Z ym (zB Z (zB Z (zB Z zM))) Z) cX (fun hs=>wAk p0 ah aj ai ak ae af ap aq O.Skier (w64 (O.Index + 1)) bs bL hs cj bC cm cn co) (.inr Z) ?_
 rintro bq dM eI ba dC cY ⟨rfl,rfl⟩
 have cZ:sW w φ bq [.blk b6 179 B1,.blk b2 36 B0] ba:=cY
 refine oA Z Z (oA Z Z (eN (yR fun aW aM=>?_)))
 have bw:aW 2=.pointer (some ⟨b2,0,none⟩):=(aM 2).trans rfl
 have bh:aW 3=.pointer (some ⟨b6,0,none⟩):=(aM 3).trans rfl
 have bx:aW 7=jV dF:=(aM 7).trans rfl
 have bz:aW 8=jV dG:=(aM 8).trans rfl
 have ej:aW 9=jV 0:=(aM 9).trans rfl
 have ek:aW 10=jV 0:=(aM 10).trans rfl
 clear aM
 refine zx zt [3,1,3,1,3,3,1,3,1,3,1,3,3,1,3,3,3] fL17 (by kernel_rfl) ?_
 have an:=cZ.drew
 generalize hw_W75:({ ba with drawn:=ba.drawn + 1 }:World)=dQ at an ⊢
 refine oR Z (zF Z bw zb Z Zm) (oL Z (an.ldB (j:=1) Z Z Z Zq (v:=.slice ai p0.Splits.length ak) Z) (oR Z (zF Z bh ZL Z zC) (oL Z (an.ldB (j:=0) Z Z Z zG (v:=jV O.Index) Z) (bnK du fun bJ aR dv=>?_))))
 have bD:=bC.le dC
 have q:=bD.el (fun _=>rfl) (wAe aR)
 obtain ⟨dX,eB,cy,cJ⟩:=q
 refine oR Z (ZM Z Z cy Z ZI zz (wBV aR) (wBb aR)) (oR Z (zF Z Z ZT Z zC) (oL Z (an.ldC (f:=1) cJ (v:=jV bJ.Hi) Z Z zG Z) (oR Z (zF Z bw zb Z Zm) (oL Z (an.ldB (j:=1) Z Z Z Zq (v:=.slice ai p0.Splits.length ak) Z) (oR Z (zF Z bh ZL Z zC) (oL Z (an.ldB (j:=0) Z Z Z zG (v:=jV O.Index) Z) ?_))))))
 have q:=bD.el (fun _=>rfl) (wAe aR)
 obtain ⟨dY,eC,cz,cK⟩:=q
 refine oR Z (ZM Z Z cz Z ZI zz (wBV aR) (wBb aR)) (oR Z (zF Z Z ZT Z zC) (oL Z (an.ldC (f:=0) cK (v:=jV bJ.Lo) Z Z zG Z) (oR Z (YD Z Z) (oA Z Z (oA Z Z (zf (zm (zJ (zL (sR fL2 Z (oR Z (zF Z bh ZL Z YB) (oL Z (an.ldB (j:=0) Z Z Z YE (v:=.bool O.Up) Z) (eN (ifc dv ?_ ?_))))))))))))))
 intro bf dw
 refine ZD (congrArg hH bf.out) (sR fL6 Z (oM Z bx (oM Z bz (oM Z Z (oA Z Z (oA Z Z (oA Z Z (eN (zO (zQ ?_))))))))))
 cases dw
 exact ⟨rfl,_,(wLE rfl rfl rfl),bq,_,(an.pick [] _ (by decide) rfl),rfl,rfl⟩
 intro bf dx
 refine zj (congrArg hH (hJ.2 bf.out)) (kN (sR fL6 Z (oM Z bz (oM Z bx (oM Z Z (oA Z Z (oA Z Z (oA Z Z (eN (zO ?_))))))))))
 cases dx
 exact ⟨rfl,_,(wLE rfl rfl rfl),bq,_,(an.pick [] _ (by decide) rfl),rfl,rfl⟩
 intro be dy
 refine cF Z be (sR fL2 Z (oR Z (Zy Z Z Z) (oA Z Z (eN (ifc dy ?_ ?_)))))
 intro bg dz
 refine cT Z bg (zx zt [1,3,1,2,3,1,3,1,3,3,3,1,3,3,1,3,1,3,3,3,1,3,3,3] (wDK (wPV (.fx 3 (wOM (.nil)) .stop))) (by kernel_rfl) ?_)
 have ao:=aE.drew
 generalize hw_W95:({ W5 with drawn:=W5.drawn + 1 }:World)=bR at ao ⊢
 refine oL Z (ao.ldBA (j:=1) Z Z Z ZQ ZF (vs:=B0) Z Z) (oR Z (zF Z Z ZL Z zC) (oL Z (ao.ldB (j:=0) Z Z Z zG (v:=jV O.Index) Z) (oR Z (zF Z Z zb Z yF) (oL Z (ao.ldB (j:=1) Z Z Z yT (v:=.slice ae p0.Clocks.length af) Z) (oR Z (zF Z Z ZL Z zC) (oL Z (ao.ldB (j:=0) Z Z Z zG (v:=jV O.Index) Z) (bnK dz fun a7 aS dA=>?_)))))))
 have q:=aG.el (fun _=>rfl) (wAe aS)
 obtain ⟨dZ,ep,cp,cA⟩:=q
 refine oR Z (ZM Z Z cp Z Zo yo (wBV aS) (wBb aS)) (oR Z (zF Z Z yV Z zz) (oR Z (zF Z Z ZT Z zC) (oL Z (ao.ldC (f:=0) cA (v:=jV a7.Offset.Lo) Z Z zG Z) (oR Z (YD Z Z) (oR Z (zF Z Z zb Z yF) (oL Z (ao.ldB (j:=1) Z Z Z yT (v:=.slice ae p0.Clocks.length af) Z) (oR Z (zF Z Z ZL Z zC) (oL Z (ao.ldB (j:=0) Z Z Z zG (v:=jV O.Index) Z) ?_))))))))
 have q:=aG.el (fun _=>rfl) (wAe aS)
 obtain ⟨dR,er,cq,cC⟩:=q
 refine oR Z (ZM Z Z cq Z Zo yo (wBV aS) (wBb aS)) (oR Z (zF Z Z yV Z zz) (oR Z (zF Z Z ZT Z zC) (oL Z (ao.ldC (f:=1) cC (v:=jV a7.Offset.Hi) Z Z zG Z) (bnK dA fun bG bZ c6=>zD 0 Z Z Z Z (zE Z Z Tryz.call73 (zB Z (zB Z zM)) Z) ao (fun hs=>wCY p0 ah aj ai ak ae af ap aq O.Index bR φ hs aF aT aG aJ bZ) (.inr Z) ?_))))
 rintro bn dH eD bM en cL ⟨rfl,rfl⟩
 have bj:sW w φ bn [.blk b6 179 B1,.blk b2 36 B0] bM:=cL
 refine oA Z Z (oA Z Z (oA Z Z (zf (zm (zJ (zL (sR fL2 Z (oR Z (zF Z Z ZL Z YB) (oL Z (bj.ldB (j:=0) Z Z Z YE (v:=.bool O.Up) Z) (eN (ifc c6 ?_ ?_)))))))))))
 intro bb da
 refine ZD (congrArg hH bb.out) (zL (yR fun aU aK=>?_))
 have d4:aU 4=jV 0:=(aK 4).trans rfl
 have d5:aU 5=jV 0:=(aK 5).trans rfl
 have d6:aU 6=jV 0:=(aK 6).trans rfl
 have bS:aU 7=jV 0:=(aK 7).trans rfl
 have bT:aU 8=jV bG:=(aK 8).trans rfl
 have bU:aU 9=jV (w64 (-a7.Offset.Lo)):=(aK 9).trans rfl
 clear aK
 refine rR fL6 Z (oM Z bS (oM Z bT (oM Z bU (oA Z Z (oA Z Z (oA Z Z (eN (zO (zQ ?_)))))))))
 cases da
 exact ⟨rfl,_,(wLE rfl rfl rfl),bn,_,(bj.pick [] _ (by decide) rfl),rfl,rfl⟩
 intro bb db
 refine zj (congrArg hH (hJ.2 bb.out)) (kN (zL (yR fun aV aL=>?_)))
 have d7:aV 4=jV 0:=(aL 4).trans rfl
 have d8:aV 5=jV 0:=(aL 5).trans rfl
 have d9:aV 6=jV 0:=(aL 6).trans rfl
 have bV:aV 7=jV 0:=(aL 7).trans rfl
 have bW:aV 8=jV bG:=(aL 8).trans rfl
 have bX:aV 10=jV a7.Offset.Hi:=(aL 10).trans rfl
 clear aL
 refine rR fL6 Z (oM Z bW (oM Z bV (oM Z bX (oA Z Z (oA Z Z (oA Z Z (eN (zO ?_))))))))
 cases db
 exact ⟨rfl,_,(wLE rfl rfl rfl),bn,_,(bj.pick [] _ (by decide) rfl),rfl,rfl⟩
 intro bg dd
 refine cF Z bg (sR (wGE (.fx 6 (.fx 7 .nil .stop) .stop)) Z (oR Z (zF Z Z zb Z yh) (oL Z (aE.ldB (j:=1) Z Z Z yv (v:=.slice ap p0.Readings.length aq) Z) (oR Z (zF Z Z ZL Z zC) (oL Z (aE.ldB (j:=0) Z Z Z zG (v:=jV O.Index) Z) (bnK dd fun ab bi de=>?_))))))
 have q:=aJ.el (fun _=>rfl) (wAe bi)
 obtain ⟨dS,eu,cr,cD⟩:=q
 refine oR Z (ZM Z Z cr Z yL yi (wBV bi) (wBb bi)) (oL Z (aE.ldCA (f:=0) cD Z Z Tryz.isAgg117 yi (us:=[jV ab.Skier,jV ab.Mat,jV ab.Clock,jV ab.Time]) Z Z) (zV (cs:=[jV 0,jV 0,jV 0,jV 0]) Z Z Z Z Z Tryz.zeroValue117 Z aE ?_))
 intro dO aY cM
 let B2:List Value:=[jV ab.Skier,jV ab.Mat,jV ab.Clock,jV ab.Time]
 refine zX (j:=0) (vs:=B2) Z Z Z Z cM Z Z Z Z yi (zA Z) Z Z Z ?_
 intro a8 cN
 have cO:sW w φ φ [.blk aY 117 B2,.blk b6 179 B1,.blk b2 36 B0] a8:=cN
 refine eN (zL (zx zt [1,3,1,2,1,3,1,3,1,2,3,3] (wDK (wJd (.fx 3 gEa .stop))) (by kernel_rfl) ?_))
 have aI:=cO.drew
 generalize hw_W152:({ a8 with drawn:=a8.drawn + 1 }:World)=bO at aI ⊢
 refine oL Z (aI.ldBA (j:=2) Z Z Z ZQ ZF (vs:=B0) Z Z) (oR Z (zF Z Z Zi Z zC) (oL Z (aI.ldB (j:=0) Z Z Z zG (v:=jV ab.Clock) Z) (oL Z (aI.ldBA (j:=2) Z Z Z ZQ ZF (vs:=B0) Z Z) (oR Z (zF Z Z Zi Z zC) (oL Z (aI.ldB (j:=0) Z Z Z zG (v:=jV ab.Skier) Z) (oR Z (zF Z Z Zi Z zC) (oL Z (aI.ldB (j:=0) Z Z Z zG (v:=jV ab.Mat) Z) (bnK de fun dD b5 dg=>zD 0 Z Z Z Z (zE Z Z Tryz.call73 (zB Z (zB Z zM)) Z) aI (fun hs=>wCY p0 ah aj ai ak ae af ap aq ab.Clock bO φ hs aF aT aG aJ b5) (.inr Z) ?_))))))))
 rintro bK dI eE br a5 cP ⟨rfl,rfl⟩
 have cQ:sW w φ bK [.blk aY 117 B2,.blk b6 179 B1,.blk b2 36 B0] br:=cP
 have ca:=aF.le a5
 have cb:=aT.le a5
 have bA:=aG.le a5
 have cc:=aJ.le a5
 refine bnK dg fun dE cd dh=>zD 0 Z Z Z Z (zE Z Z ym (zB Z (zB Z (zB Z zM))) Z) cQ (fun hs=>wAk p0 ah aj ai ak ae af ap aq ab.Skier ab.Mat br bK hs ca cb bA cc cd) (.inr Z) ?_
 rintro bo dJ eF a9 dB cR ⟨rfl,rfl⟩
 have cS:sW w φ bo [.blk aY 117 B2,.blk b6 179 B1,.blk b2 36 B0] a9:=cR
 refine oA Z Z (oA Z Z (eN (yR fun aN aH=>?_)))
 have bt:aN 2=.pointer (some ⟨b2,0,none⟩):=(aH 2).trans rfl
 have bY:aN 3=.pointer (some ⟨b6,0,none⟩):=(aH 3).trans rfl
 have bu:aN 7=jV dD:=(aH 7).trans rfl
 have bv:aN 8=jV dE:=(aH 8).trans rfl
 have eg:aN 9=jV 0:=(aH 9).trans rfl
 have eh:aN 10=jV 0:=(aH 10).trans rfl
 have aZ:aN 11=.pointer (some ⟨aY,0,none⟩):=(aH 11).trans rfl
 clear aH
 refine zx zt [3,1,3,1,3,1,3,3,1,3,3,1,3,1,3,3,1,3,1,3,3,3] fL22 (by kernel_rfl) ?_
 have ag:=cS.drew
 generalize hw_W187:({ a9 with drawn:=a9.drawn + 1 }:World)=dP at ag ⊢
 refine oR Z (zF Z aZ Zi Z zC) (oL Z (ag.ldB (j:=0) Z Z Z zG (v:=jV ab.Time) Z) (oR Z (zF Z bt zb Z yF) (oL Z (ag.ldB (j:=2) Z Z Z yT (v:=.slice ae p0.Clocks.length af) Z) (oR Z (zF Z aZ Zi Z zC) (oL Z (ag.ldB (j:=0) Z Z Z zG (v:=jV ab.Clock) Z) (bnK dh fun bI aQ di=>?_))))))
 have bB:=bA.le dB
 have q:=bB.el (fun _=>rfl) (wAe aQ)
 obtain ⟨dU,ey,cu,cG⟩:=q
 refine oR Z (ZM Z Z cu Z Zo yo (wBV aQ) (wBb aQ)) (oR Z (zF Z Z yV Z zC) (oL Z (ag.ldC (f:=2) cG (v:=jV bI.Error) Z Z zG Z) (oR Z (zh Z Z Z) (oR Z (zF Z bt zb Z yF) (oL Z (ag.ldB (j:=2) Z Z Z yT (v:=.slice ae p0.Clocks.length af) Z) (oR Z (zF Z aZ Zi Z zC) (oL Z (ag.ldB (j:=0) Z Z Z zG (v:=jV ab.Clock) Z) ?_)))))))
 have q:=bB.el (fun _=>rfl) (wAe aQ)
 obtain ⟨dV,ez,cw,cH⟩:=q
 refine oR Z (ZM Z Z cw Z Zo yo (wBV aQ) (wBb aQ)) (oR Z (zF Z Z yV Z zC) (oL Z (ag.ldC (f:=2) cH (v:=jV bI.Error) Z Z zG Z) (oR Z (zF Z aZ Zi Z zC) (oL Z (ag.ldB (j:=0) Z Z Z zG (v:=jV ab.Time) Z) (oR Z (yO Z Z Z) (oA Z Z (oA Z Z (zf (zm (zJ (zL (sR fL2 Z (oR Z (zF Z bY ZL Z YB) (oL Z (ag.ldB (j:=1) Z Z Z YE (v:=.bool O.Up) Z) (eN (ifc di ?_ ?_))))))))))))))))
 intro bc dk
 refine ZD (congrArg hH bc.out) (sR fL6 Z (oM Z bu (oM Z bv (oM Z Z (oA Z Z (oA Z Z (oA Z Z (eN (zO (zQ ?_))))))))))
 cases dk
 exact ⟨rfl,_,(wLE rfl rfl rfl),bo,_,(ag.pick [] _ (by decide) rfl),rfl,rfl⟩
 intro bc dl
 refine zj (congrArg hH (hJ.2 bc.out)) (kN (sR fL6 Z (oM Z bv (oM Z bu (oM Z Z (oA Z Z (oA Z Z (oA Z Z (eN (zO ?_))))))))))
 cases dl
 exact ⟨rfl,_,(wLE rfl rfl rfl),bo,_,(ag.pick [] _ (by decide) rfl),rfl,rfl⟩
theorem wEs (O:wAI) (ah:Option Addr) (am:Nat) (ai:Option Addr) (an:Nat) (aj:Option Addr) (ao:Nat) (ak:Option Addr) (ap:Nat) (p1:Int) (p2:List wAd) (aF:Option Addr) (aG:Nat) (w:World) (φ:PHeap) (hS:St0 w φ []) (bm:Sl φ 1 ah am O.Starts.length (hD KL.encI O.Starts)) (bn:Sl φ 2 ai an O.Splits.length (hD wAD O.Splits)) (bo:Sl φ 3 aj ao O.Clocks.length (hD wAN O.Clocks)) (bp:Sl φ 4 ak ap O.Readings.length (hD wAL O.Readings)) (bq:Sl φ 4 aF aG p2.length (hD wAT p2)) {r:Int × Int} (hm:wCK O p1 p2=some r):Gv Tryz.prog 114 [.agg #[.slice ah O.Starts.length am,.slice ai O.Splits.length an,.slice aj O.Clocks.length ao,.slice ak O.Readings.length ap],jV p1,.slice aF p2.length aG] w (wCG w [] φ (fun φ_ L_ v=>v=.tuple #[jV r.1,jV r.2]/\L_=[])):=by
 unfold wCK at hm
 refine Gv.of Tryz.func114 Z Tryz.ntmps114 Tryz.results114 Z (sR gDx Z ?_)
 let B0:List Value:=[.slice ah O.Starts.length am,.slice ai O.Splits.length an,.slice aj O.Clocks.length ao,.slice ak O.Readings.length ap]
 refine zn (cs:=B0) rfl rfl rfl rfl rfl rfl (by rfl) hS ?_
 intro W1 b2 bh
 refine oA Z Z (oA Z Z (eN (sR fL1 Z (oA Z Z (eN (zL (sR fL1 Z (oA Z Z (eN (zY ?_))))))))))
 have q:=wCA hm
 obtain ⟨bO,ay⟩:=q
 have q:=wCT ay
 obtain ⟨aE,bt⟩:=q
 replace aE:=zN aE
 refine yc (fun ac (aR,aS) σ_ w_=>∃ (φ_:PHeap),σ_ 9=jV (↑ac:Int)/\σ_ 1=jV aR/\σ_ 2=.slice aF p2.length aG/\σ_ 3=.pointer (some ⟨b2,0,none⟩)/\σ_ 8=jV aS/\PHeap.Le φ φ_/\sW w φ φ_ [.blk b2 36 B0] w_) bt ?_ ?_ ?_
 exact ⟨φ,Z,Z,Z,Z,Z,(zS _),bh⟩
 rintro ac ⟨aR,aS⟩ bQ bT aI az ⟨bF,ax,aX,av,aK,aY,ab,bg⟩ aP br
 try dsimp only at aP
 have aJ:Hid ((↑ac:Int) < (↑p2.length:Int)):=zN (wBO az)
 replace az:=zN az
 have bu:Hid (w64 ((↑ac:Int) + 1)=(↑(ac + 1):Int)):=zN (by have h1:=aE.out;have h2:=aJ.out;rw [wAb] <;> omega)
 refine zL (sR fL4 rfl (zw rfl rfl rfl rfl rfl ax (zw rfl rfl rfl rfl rfl av (za rfl rfl rfl rfl (fun _=>zi rfl rfl yM) (za rfl rfl rfl rfl (fun _=>ze rfl rfl rfl) (eN (cT Z aJ (kN (zL (zY (zL (zx zt [1,3,3,3,1,2,3,3,3,3,3,3,3] (wGD (.fx 5 (wMJ (.nil)) .stop)) (by kernel_rfl) ?_))))))))))))
 have ag:=bg.drew
 generalize hw_W37:({ aI with drawn:=aI.drawn + 1 }:World)=aT at ag ⊢
 refine oL Z (ag.ldBA (j:=0) Z Z aK ZQ ZF (vs:=B0) Z Z) (oM Z av (oM Z ax (bnK aP fun ae aL bv=>?_)))
 have a8:=bq.le ab
 have q:=a8.el (fun _=>rfl) (wAe aL)
 obtain ⟨bK,bN,be,bf⟩:=q
 refine oR Z (Zc Z Z be Z yM YA (wCa aL)) (oL Z (ag.ldCA (f:=0) bf Z Z Tryz.isAgg179 YA (us:=[jV ae.Kind,jV ae.Skier,jV ae.Index,.bool ae.Up]) Z Z) ?_)
 have a9:=bm.le ab
 have ba:=bn.le ab
 have bb:=bo.le ab
 have bc:=bp.le ab
 have q:=bnd bv
 obtain ⟨⟨bC,bD,bE⟩,bd,aN⟩:=q
 try dsimp only at aN
 refine zD 0 Z Z Z Z (zE Z Z Tryz.call115 (zB Z (zB Z zM)) Z) ag (fun hs=>wFD O ah am ai an aj ao ak ap ae aT bF hs a9 ba bb bc bd) (.inr Z) ?_
 rintro aH bH bP aU bA bi ⟨rfl,rfl⟩
 have aM:sW w φ aH [.blk b2 36 B0] aU:=bi
 refine oM Z Z (oR Z (zU Z Z (v:=jV bC) Z) (oR Z (zU Z Z (v:=jV bD) Z) (oR Z (zU Z Z (v:=jV bE) Z) (oA Z Z (oA Z Z (oA Z Z (eN (zL (sR fL3 Z (oM Z Z (oM Z aX (oR Z (ZP Z Z Z) (eN (ifc aN ?_ ?_))))))))))))))
 intro au bw
 refine zj (zu (fun h=>h au.out)) (kN (rR fL6 Z (oM Z Z (oM Z aY (oM Z Z (oR Z (zh Z Z Z) (oA Z Z (oA Z Z (zf (zm (zJ (rR fL3 Z (oM Z ax (oR Z (ZU (zh Z Z Z) (congrArg (jV) bu.out)) (oA Z Z (zf ?_))))))))))))))))
 have q:=hU bw
 obtain rfl:=q
 exact zJ ⟨Z,_,Z,⟨aH,Z,Z,av,aK,Z,(ab.trans bA),aM⟩⟩
 intro au bx
 refine cT Z au (sR fL2 Z (oA Z Z (oA Z Z (eN (zO (zQ (zc (zQ ?_))))))))
 have q:=wAS bx
 obtain ⟨bB,bz,aW⟩:=q
 have q:=wAt hm ay (br bB aW)
 obtain rfl:=q
 refine zQ (zc (zQ ?_))
 cases bz
 exact ⟨rfl,_,(wDp rfl rfl),aH,_,(aM.pick [] _ (by decide) rfl),rfl,rfl⟩
 rintro ⟨bR,bS⟩ bU bJ ⟨bG,a7,aZ,a5,bL,a6,bM,bj⟩ bs
 have aO:=wCs hm ay bs
 try dsimp only at aO
 have aV:Hid (¬ ((↑(((↑p2.length:Int):Int) - 0).toNat:Int) < (↑p2.length:Int))):=zN (wAq)
 refine zL (sR fL4 Z (oM Z a7 (oM Z a5 (oR Z (zi Z Z yM) (oR Z (ze Z Z Z) (eN (cF Z aV (Za (zq (zq (ZW (zJ (sR fL4 Z (oM Z aZ (oM Z a6 (oA Z Z (oA Z Z (eN (zO ?_)))))))))))))))))))
 cases aO
 exact ⟨rfl,_,(wDp rfl rfl),bG,_,(bj.pick [] _ (by decide) rfl),rfl,rfl⟩
theorem wEa (O:wAI) (ae:Option Addr) (ai:Nat) (af:Option Addr) (aj:Nat) (ag:Option Addr) (ak:Nat) (ah:Option Addr) (am:Nat) (p1:wAQ) (p2:wAQ) (p3:List wAd) (aN:Option Addr) (aO:Nat) (w:World) (φ:PHeap) (hS:St0 w φ []) (bD:Sl φ 1 ae ai O.Starts.length (hD KL.encI O.Starts)) (bE:Sl φ 2 af aj O.Splits.length (hD wAD O.Splits)) (bF:Sl φ 3 ag ak O.Clocks.length (hD wAN O.Clocks)) (bG:Sl φ 4 ah am O.Readings.length (hD wAL O.Readings)) (cx:Sl φ 4 aN aO p3.length (hD wAT p3)) {r:Int × Int} (hm:wBo O p1 p2 p3=some r):Gv Tryz.prog 49 [.agg #[.slice ae O.Starts.length ai,.slice af O.Splits.length aj,.slice ag O.Clocks.length ak,.slice ah O.Readings.length am],.agg #[jV p1.Skier,jV p1.Mat],.agg #[jV p2.Skier,jV p2.Mat],.slice aN p3.length aO] w (wCG w [] φ (fun φ_ L_ v=>v=.tuple #[jV r.1,jV r.2]/\L_=[])):=by
 unfold wBo at hm
 refine Gv.of Tryz.func49 Z Tryz.ntmps49 Tryz.results49 Z (sR (.fx 0 (.fx 1 gEb .stop) .stop) Z ?_)
 let B0:List Value:=[.slice ae O.Starts.length ai,.slice af O.Splits.length aj,.slice ag O.Clocks.length ak,.slice ah O.Readings.length am]
 refine zn (cs:=B0) rfl rfl rfl rfl rfl rfl (by rfl) hS ?_
 intro W1 b2 co
 let B1:List Value:=[jV p1.Skier,jV p1.Mat]
 refine zn (cs:=B1) rfl rfl rfl rfl rfl rfl (by rfl) co ?_
 intro W5 b6 cr
 let B2:List Value:=[jV p2.Skier,jV p2.Mat]
 refine zn (cs:=B2) rfl rfl rfl rfl rfl rfl (by rfl) cr ?_
 intro W9 aq bA
 refine oA Z Z (oA Z Z (eN (zL (sR gDy Z (oL Z (bA.ldBA (j:=2) Z Z Z ZQ ZF (vs:=B0) Z Z) (bnK hm fun dl bY cE=>zD 0 Z Z Z Z (zE Z Z Tryz.call34 (zB Z zM) Z) bA (fun hs=>wCw O ae ai af aj ag ak ah am W9 φ hs bD bE bF bG bY) (.inr Z) ?_))))))
 rintro aX cU de a7 aE cn ⟨rfl,rfl⟩
 have aK:sW w φ aX [.blk aq 44 B2,.blk b6 44 B1,.blk b2 36 B0] a7:=cn
 refine oA Z Z (eN (sR fL2 Z (oM Z Z (oR Z (ZP Z Z Z) (eN (ifc cE ?_ ?_))))))
 intro aS cG
 refine zj (zu (fun h=>h aS.out)) (kN (zL (sR (.fl 0 (.fl 1 (.fx 2 (wKB gDw) .stop))) Z (oL Z (aK.ldBA (j:=2) Z Z Z ZQ ZF (vs:=B0) Z Z) (oL Z (aK.ldBA (j:=1) Z Z Z yj yY (vs:=B1) Z Z) ?_)))))
 have bc:=bD.le aE
 have bd:=bE.le aE
 have be:=bF.le aE
 have bf:=bG.le aE
 refine bnK cG fun dm bZ cH=>zD 0 Z Z Z Z (zE Z Z Tryz.call110 (zB Z (zB Z zM)) Z) aK (fun hs=>wDG O ae ai af aj ag ak ah am p1 a7 aX hs bc bd be bf bZ) (.inr Z) ?_
 rintro aY cV df a8 aF cp ⟨rfl,rfl⟩
 have aL:sW w φ aY [.blk aq 44 B2,.blk b6 44 B1,.blk b2 36 B0] a8:=cp
 refine oM Z Z (ifc cH ?_ ?_)
 intro ap cI
 refine zy Z Z Z (zP Z Z (congrArg hH ap.out) Z) (zy Z Z Z (zP Z Z (congrArg hH ap.out) Z) (ZC Z Z Z (zP Z Z (congrArg hH ap.out) Z) (oR Z (zR Z (congrArg hH ap.out) Z) (eN (ZD Z (sR fL2 Z (oA Z Z (oA Z Z (eN (zO (zQ ?_)))))))))))
 cases cI
 exact ⟨rfl,_,(wDp rfl rfl),aY,_,(aL.pick [] _ (by decide) rfl),rfl,rfl⟩
 intro ap cJ
 refine ZE Z Z Z (zI Z Z (congrArg hH (hJ.2 ap.out))) (aL.ldBA (j:=2) Z Z Z ZQ ZF (vs:=B0) Z Z) Z (ZE Z Z Z (zI Z Z (congrArg hH (hJ.2 ap.out))) (aL.ldBA (j:=0) Z Z Z yj yY (vs:=B2) Z Z) Z ?_)
 have bg:=bc.le aF
 have bh:=bd.le aF
 have bi:=be.le aF
 have bj:=bf.le aF
 refine bnK cJ fun dp b5 cK=>zD 0 Z Z Z (zI Z Z (congrArg hH (hJ.2 ap.out))) (zE Z Z Tryz.call110 (zB Z (zB Z zM)) Z) aL (fun hs=>wDG O ae ai af aj ag ak ah am p2 a8 aY hs bg bh bi bj b5) (.inr Z) ?_
 rintro aZ cW dg a9 aG cq ⟨rfl,rfl⟩
 have aV:sW w φ aZ [.blk aq 44 B2,.blk b6 44 B1,.blk b2 36 B0] a9:=cq
 refine oR Z (zW Z (congrArg hH (hJ.2 ap.out)) Z) (eN (ifc cK ?_ ?_))
 intro aT cL
 refine ZD (congrArg hH aT.out) (sR fL2 Z (oA Z Z (oA Z Z (eN (zO (zQ ?_))))))
 cases cL
 exact ⟨rfl,_,(wDp rfl rfl),aZ,_,(aV.pick [] _ (by decide) rfl),rfl,rfl⟩
 intro aT cM
 refine zj (congrArg hH (hJ.2 aT.out)) (kN (zL (sR gEg Z (oL Z (aV.ldBA (j:=2) Z Z Z ZQ ZF (vs:=B0) Z Z) (oM Z Z ?_)))))
 have bm:=bg.le aG
 have bn:=bh.le aG
 have bo:=bi.le aG
 have bp:=bj.le aG
 have ca:=cx.le aE
 have cb:=ca.le aF
 have bq:=cb.le aG
 refine bnK cM fun dq cc cN=>zD 0 Z Z Z Z (zE Z Z Tryz.call113 (zB Z (zB Z zM)) Z) aV (fun hs=>wEh O ae ai af aj ag ak ah am p3 aN aO a9 aZ hs bm bn bo bp bq cc) (.inr Z) ?_
 rintro a5 cX dh aQ aH ct ⟨rfl,rfl⟩
 have bC:sW w φ a5 [.blk aq 44 B2,.blk b6 44 B1,.blk b2 36 B0] aQ:=ct
 refine oA Z Z (eN (sR fL2 Z (oM Z Z (oR Z (ZP Z Z Z) (eN (ifc cN ?_ ?_))))))
 intro aU cO
 refine zj (zu (fun h=>h aU.out)) (kN (zL (zx zt [1,1,3,1,3,1,2,3,2,3,3,3,3,3] (wGE (.fl 7 (.fx 6 (.fx 8 (wPb (.nil)) .stop) .stop))) (by kernel_rfl) ?_)))
 have ax:=bC.drew
 generalize hw_W79:({ aQ with drawn:=aQ.drawn + 1 }:World)=bN at ax ⊢
 refine oL Z (ax.ldBA (j:=2) Z Z Z ZQ ZF (vs:=B0) Z Z) (oL Z (ax.ldBA (j:=2) Z Z Z ZQ ZF (vs:=B0) Z Z) (oR Z (zF Z Z yN Z zC) (oL Z (ax.ldB (j:=1) Z Z Z zG (v:=jV p1.Skier) Z) (oR Z (zF Z Z yN Z zC) (oL Z (ax.ldB (j:=1) Z Z Z zG (v:=jV p1.Mat) Z) (oM Z Z ?_))))))
 have br:=bm.le aH
 have bs:=bn.le aH
 have bt:=bo.le aH
 have bu:=bp.le aH
 refine bnK cO fun cQ cd cP=>zD 0 Z Z Z Z (zE Z Z ym (zB Z (zB Z (zB Z zM))) Z) ax (fun hs=>wAk O ae ai af aj ag ak ah am p1.Skier p1.Mat bN a5 hs br bs bt bu cd) (.inr Z) ?_
 rintro bL cY di ba aI cu ⟨rfl,rfl⟩
 have cw:sW w φ bL [.blk aq 44 B2,.blk b6 44 B1,.blk b2 36 B0] ba:=cu
 have bv:=br.le aI
 have bw:=bs.le aI
 have bx:=bt.le aI
 have bz:=bu.le aI
 have cf:=bq.le aH
 have cg:=cf.le aI
 have q:=bnd cP
 obtain ⟨⟨bI,bJ⟩,bS,bH⟩:=q
 try dsimp only at bH
 refine zD 0 Z Z Z Z (zE Z Z Tryz.call114 (zB Z (zB Z (zB Z zM))) Z) cw (fun hs=>wEs O ae ai af aj ag ak ah am cQ p3 aN aO ba bL hs bv bw bx bz cg bS) (.inr Z) ?_
 rintro bK cR db a6 aM cj ⟨rfl,rfl⟩
 have aJ:sW w φ bK [.blk aq 44 B2,.blk b6 44 B1,.blk b2 36 B0] a6:=cj
 refine oM Z Z (oR Z (zU Z Z (v:=jV bI) Z) (oR Z (zU Z Z (v:=jV bJ) Z) (oA Z Z (oA Z Z (eN (zL (zL (yR fun aP az=>?_))))))))
 have bP:aP 4=.pointer (some ⟨b2,0,none⟩):=(az 4).trans rfl
 have bb:aP 6=.pointer (some ⟨aq,0,none⟩):=(az 6).trans rfl
 have bQ:aP 12=jV bI:=(az 12).trans rfl
 have bR:aP 13=jV bJ:=(az 13).trans rfl
 clear az
 refine rR (wGE gDw) Z (oM Z bQ (oL Z (aJ.ldBA (j:=2) Z Z bP ZQ ZF (vs:=B0) Z Z) (oR Z (zF Z bb yN Z zC) (oL Z (aJ.ldB (j:=0) Z Z Z zG (v:=jV p2.Skier) Z) (oR Z (zF Z bb yN Z zC) (oL Z (aJ.ldB (j:=0) Z Z Z zG (v:=jV p2.Mat) Z) ?_))))))
 have bT:=bv.le aM
 have bU:=bw.le aM
 have bV:=bx.le aM
 have bW:=bz.le aM
 refine bnK bH fun dk bX cy=>zD 0 Z Z Z Z (zE Z Z ym (zB Z (zB Z (zB Z zM))) Z) aJ (fun hs=>wAk O ae ai af aj ag ak ah am p2.Skier p2.Mat a6 bK hs bT bU bV bW bX) (.inr Z) ?_
 rintro aW cS dd bM da cm ⟨rfl,rfl⟩
 have bB:sW w φ aW [.blk aq 44 B2,.blk b6 44 B1,.blk b2 36 B0] bM:=cm
 refine oR Z (ZP Z Z Z) (eN (ifc cy ?_ ?_))
 intro aR cz
 refine zj (zu (fun h=>h aR.out)) (kN (sR fL3 Z (oM Z bR (oA Z Z (oA Z Z (eN (zO ?_)))))))
 cases cz
 exact ⟨rfl,_,(wDp rfl rfl),aW,_,(bB.pick [] _ (by decide) rfl),rfl,rfl⟩
 intro aR cA
 refine cT Z aR (sR fL2 Z (oA Z Z (oA Z Z (eN (zO (zQ ?_))))))
 cases cA
 exact ⟨rfl,_,(wDp rfl rfl),aW,_,(bB.pick [] _ (by decide) rfl),rfl,rfl⟩
 intro aU cC
 refine cT Z aU (sR fL3 Z (oM Z Z (oA Z Z (oA Z Z (eN (zO (zQ ?_)))))))
 cases cC
 exact ⟨rfl,_,(wDp rfl rfl),a5,_,(bC.pick [] _ (by decide) rfl),rfl,rfl⟩
 intro aS cD
 refine cT Z aS (sR fL3 Z (oM Z Z (oA Z Z (oA Z Z (eN (zO (zQ ?_)))))))
 cases cD
 exact ⟨rfl,_,(wDp rfl rfl),aX,_,(aK.pick [] _ (by decide) rfl),rfl,rfl⟩
end Go.Proofs.YtlnfbjphfoipaaaGreat
