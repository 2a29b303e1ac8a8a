import Derived.Test.YtlnfbjphfoipaaaGreatS5
import Derived.Test.YtlnfbjphfoipaaaGreatS4
set_option linter.all false
open List renaming flatMap->hD,getElem_cons_succ->hU,getElem_cons_zero->nA,getElem_toArray->nD,length_set->nG,set->nH
open Go.Value renaming bool->hH
open Bool renaming eq_false_iff->hJ
open Option.some renaming inj->nB
open Int renaming toNat_natCast->nE,eq_ofNat_of_zero_le->nI
namespace Go.Proofs.YtlnfbjphfoipaaaGreat
open Go.KL
def gCe:Sch:=.fx 1 (.fl 2 .nil) .stop
def gCf:Sch:=.fx 2 (.fl 3 .nil) .stop
def gCg:Sch:=.fx 0 (.fx 1 .nil .stop) .stop
def gCh:Sch:=.fl 14 (.fx 16 .nil .stop)
def gCi:Sch:=.fl 17 (.fx 18 .nil .stop)
def gCj:Sch:=.fx 1 (.fx 2 .nil .stop) .stop
def gCk:Sch:=.fx 3 (.fl 4 .nil) .stop
def gCl:Sch:=.fx 0 (.fl 1 .nil) .stop
def gCm:Sch:=.fx 0 (.fl 1 (.fl 2 .nil)) .stop
def gCn:Sch:=.fx 7 (.fl 8 (.fl 9 .nil)) .stop
def gCo:Sch:=.fl 14 (.fx 15 (.fx 16 .nil .stop) .stop)
def gCp:Sch:=.fx 13 gCh .stop
def gCq:Sch:=.fx 2 (.fl 3 (.fl 4 .nil)) .stop
def gCr:Sch:=.fx 3 (.fl 4 (.fl 5 .nil)) .stop
def gCs:Sch:=.fx 13 (.fl 14 (.fl 15 .nil)) .stop
def gCt:Sch:=.fx 4 (.fx 5 (.fl 6 .nil) .stop) .stop
def gCu:Sch:=.fx 2 gCk .stop
def gCv:Sch:=.fx 0 gCe .stop
def gCw:Sch:=.fx 10 (.fl 11 (.fl 12 .nil)) .stop
def gCx:Sch:=.fl 0 (.fl 1 (.fx 2 .nil .stop))
def gCy:Sch:=.fl 0 (.fx 1 (.fl 2 (.fl 3 .nil)) .stop)
def gCz:Sch:=.fl 0 (.fl 1 (.fx 2 (.fx 3 .nil .stop) .stop))
def gDa:Sch:=.fl 0 (.fl 1 gCf)
def gDb:Sch:=.fx 7 gCp .stop
def gDc:Sch:=.fx 12 gCs .stop
def gDd:Sch:=.fx 13 gCo (.fx 15 gCp .stop)
def gDe:Sch:=.fx 6 (.fl 12 gCp) .stop
def gDf:Sch:=.fx 4 (.fx 16 gCi .stop) (.fx 16 (.fx 4 gCi .stop) .stop)
def gDg:Sch:=.fl 0 (.fl 1 gCq)
def gDh:Sch:=.fx 0 (.fx 1 gCq .stop) .stop
def gDi:Sch:=.fl 0 (.fl 1 (.fx 2 (.fx 3 (.fx 4 .nil .stop) .stop) .stop))
def gDj:Sch:=.fx 0 gDe .stop
def gDk:Sch:=.fx 6 (.fl 12 gDd) (.fx 15 gDe .stop)
def gDl:Sch:=.fx 6 (.fl 12 gDb) (.fx 7 gDe .stop)
def gDm:Sch:=.fl 0 (.fl 2 (.fx 1 (.fx 3 gCt .stop) .stop))
def gDn:Sch:=.fl 0 (.fl 1 (.fl 3 (.fx 2 (.fx 4 (.fx 5 (.fx 6 (.fl 7 .nil) .stop) .stop) .stop) .stop)))
def gDo:Sch:=.fl 0 (.fl 1 (.fx 2 (.fl 3 (.fl 5 (.fl 6 (.fl 9 (.fl 10 (.fx 4 (.fl 7 (.fl 8 (.fx 11 (.fl 12 (.fl 13 .nil)) .stop))) .stop)))))) .stop))
set_option maxHeartbeats 4000000
theorem wEZ (O:wAA) (ac:Option Addr) (ah:Nat) (ae:Option Addr) (ai:Nat) (af:Option Addr) (aj:Nat) (ag:Option Addr) (ak:Nat) (w:World) (φ:PHeap) (hS:St0 w φ []) (aQ:Sl φ 1 ac ah O.Starts.length (hD KL.encI O.Starts)) (aR:Sl φ 2 ae ai O.Splits.length (hD wAD O.Splits)) (aS:Sl φ 3 af aj O.Clocks.length (hD wAF O.Clocks)) (aT:Sl φ 4 ag ak O.Readings.length (hD wAB O.Readings)) {r:(Option wAg) × Int} (hm:wCb O=some r):Gv Tryz.prog 80 [.agg #[.slice ac O.Starts.length ah,.slice ae O.Splits.length ai,.slice af O.Clocks.length aj,.slice ag O.Readings.length ak]] w (wCG w [] φ (fun φ_ L_ v=>match r.1 with | none=>v=.tuple #[.pointer none,jV r.2]/\L_=[] | some d=>∃ (b0:Nat) (A0p00:Option Addr) (c0p00:Nat) (A0p01:Option Addr) (c0p01:Nat) (A0p02:Option Addr) (c0p02:Nat) (A0p03:Option Addr) (c0p03:Nat) (m0p1:Nat) (es0p1:Array MapEntry) (ck0p1:Nat) (A0p2:Option Addr) (c0p2:Nat),v=.tuple #[.pointer (some ⟨b0,0,none⟩),jV r.2]/\L_=[.blk b0 139 [.slice A0p00 d.Race.Starts.length c0p00,.slice A0p01 d.Race.Splits.length c0p01,.slice A0p02 d.Race.Clocks.length c0p02,.slice A0p03 d.Race.Readings.length c0p03,.map (some m0p1),.slice A0p2 d.edges.length c0p2],.obj m0p1 (.map es0p1 ck0p1),.row A0p2 c0p2 184 7 (hD wAP d.edges)]/\Sl φ_ 1 A0p00 c0p00 d.Race.Starts.length (hD KL.encI d.Race.Starts)/\Sl φ_ 2 A0p01 c0p01 d.Race.Splits.length (hD wAD d.Race.Splits)/\Sl φ_ 3 A0p02 c0p02 d.Race.Clocks.length (hD wAF d.Race.Clocks)/\Sl φ_ 4 A0p03 c0p03 d.Race.Readings.length (hD wAB d.Race.Readings)/\MpR es0p1 wBU wBc d.number)):=by
 unfold wCb at hm
 refine Gv.of Tryz.func80 Z Tryz.ntmps80 Tryz.results80 Z (sR gCm Z ?_)
 let B0:List Value:=[.slice ac O.Starts.length ah,.slice ae O.Splits.length ai,.slice af O.Clocks.length aj,.slice ag O.Readings.length ak]
 refine zn (cs:=B0) rfl rfl rfl rfl rfl rfl (by rfl) hS ?_
 intro W1 b2 aP
 refine oA Z Z (oA Z Z (eN (zL (sR (.fl 0 gCe) Z (oL Z (aP.ldBA (j:=0) Z Z Z zo zZ (vs:=B0) Z Z) (bnK hm fun x5 h6 bj=>zD 0 Z Z Z Z (zE Z Z Tryz.call33 (zB Z zM) Z) aP (fun hs=>wFB O ac ah ae ai af aj ag ak W1 φ hs aQ aR aS aT h6) (.inr Z) ?_))))))
 rintro av L9 bp aF am bd ⟨rfl,rfl⟩
 have aq:sW w φ av [.blk b2 27 B0] aF:=bd
 refine oA Z Z (eN (sR fL2 Z (oM Z Z (oR Z (ZP Z Z Z) (eN (ifc bj ?_ ?_))))))
 intro ao bg
 refine zj (zu (fun h=>h ao.out)) (kN (sR gCy Z (oL Z (aq.ldBA (j:=0) Z Z Z zo zZ (vs:=B0) Z Z) ?_)))
 have aX:=aQ.le am
 have aY:=aR.le am
 have aZ:=aS.le am
 have a5:=aT.le am
 refine bnK bg fun aa a6 bh=>zD 0 Z Z Z Z (zE Z Z Tryz.call124 (zB Z zM) Z) aq (fun hs=>wGg O ac ah ae ai af aj ag ak aF av hs aX aY aZ a5 a6) (.inr Z) ?_
 rintro aU bm bq aW bo be ⟨aI,ax,aJ,ay,aK,az,aL,aE,aM,au,aO,aN,an,ap,rfl,rfl,a7,a8,a9,ba,bb⟩
 have bf:sW w φ aU [.blk aI 139 [.slice ax aa.Race.Starts.length aJ,.slice ay aa.Race.Splits.length aK,.slice az aa.Race.Clocks.length aL,.slice aE aa.Race.Readings.length aM,.map (some au),.slice an aa.edges.length ap],.obj au (.map aO aN),.row an ap 184 7 (hD wAP aa.edges),.blk b2 27 B0] aW:=be
 refine oA Z Z (oA Z Z (eN (zO ?_)))
 cases bh
 exact ⟨rfl,_,(wDp rfl rfl),aU,_,(bf.pick [0,1,2] _ (by decide) rfl),aI,ax,aJ,ay,aK,az,aL,aE,aM,au,aO,aN,an,ap,rfl,rfl,a7,a8,a9,ba,bb⟩
 intro ao bi
 refine cT Z ao (sR fL3 Z (oM Z Z (oA Z Z (oA Z Z (eN (zO (zQ ?_)))))))
 cases bi
 exact ⟨rfl,_,(wDp rfl rfl),av,_,(aq.pick [] _ (by decide) rfl),rfl,rfl⟩
theorem wEJ (O:List wAM) (ak:Option Addr) (am:Nat) (p1:(wAM->Option Bool)) (an:Value) (w:World) (φ:PHeap) (hS:St0 w φ []) (aY:Sl φ 2 ak am O.length (hD wAY O)) (aZ:FnOK Tryz.prog φ an wNY wNZ p1) {r:Bool} (hm:wBX O p1=some r):Gv Tryz.prog 119 [.slice ak O.length am,an] w (wCG w [] φ (fun φ_ L_ v=>v=.bool r/\L_=[])):=by
 unfold wBX at hm
 refine Gv.of Tryz.func119 Z Tryz.ntmps119 Tryz.results119 Z (sR fL1 Z (oA Z Z (eN (zL (sR fL3 Z (oM Z Z (oR Z (zi Z Z Zz) (oM Z Z (eN (zY ?_))))))))))
 have q:=wCA hm
 obtain ⟨r3,ag⟩:=q
 have q:=wCT ag
 obtain ⟨ai,a7⟩:=q
 replace ai:=zN ai
 refine yc (fun k2 _ σ_ w_=>∃ (φ_:PHeap),σ_ 9=jV (↑k2:Int)/\σ_ 1=an/\σ_ 7=.slice ak O.length am/\σ_ 8=jV (↑O.length:Int)/\PHeap.Le φ φ_/\sW w φ φ_ [] w_) a7 ?_ ?_ ?_
 exact ⟨φ,Z,Z,Z,Z,(zS _),hS⟩
 rintro k2 ⟨⟩ bw bz W8 ah ⟨bg,af,au,av,ax,aj,az⟩ aH a5
 try dsimp only at aH
 have aq:Hid ((↑k2:Int) < (↑O.length:Int)):=zN (wBO ah)
 replace ah:=zN ah
 have a8:Hid (w64 ((↑k2:Int) + 1)=(↑(k2 + 1):Int)):=zN (by have h1:=ai.out;have h2:=aq.out;rw [wAb] <;> omega)
 refine sR fL1 Z (oR Z (ze Z af ax) (eN (zL (cT Z aq (kN (zL (zY (sR gCz Z (bnK aH fun ab ay a9=>?_)))))))))
 have aP:=aY.le aj
 have q:=aP.el (fun _=>rfl) (wAe ay)
 obtain ⟨bo,bs,aS,aT⟩:=q
 refine oR Z (Zc Z av aS af Zz ZV (wCa ay)) (oL Z (az.ldCA (f:=0) aT Z Z Zn ZV (us:=[jV ab.Skier,jV ab.Mat]) Z Z) (zV (cs:=[jV 0,jV 0]) Z Z Z Z Z yG Z az ?_))
 intro bj ap aU
 let B0:List Value:=[jV ab.Skier,jV ab.Mat]
 refine zX (j:=0) (vs:=B0) Z Z Z Z aU Z Z Z Z ZV (zA Z) Z Z Z ?_
 intro aJ aV
 have aE:sW w φ bg [.blk ap 29 B0] aJ:=aV
 refine eN (sR gDa Z (oM Z au (oL Z (aE.ldBA (j:=0) Z Z Z Zn ZV (vs:=B0) Z Z) (bnK a9 fun bv aQ ba=>?_))))
 have aR:=aZ.le aj
 refine OKS.callV (a:=ab) Z Z Z Z Z Z (zB Z zM) aE aR Z aQ ?_
 rintro ao bi bu aK be aW ⟨rfl,rfl⟩
 have aF:sW w φ ao [.blk ap 29 B0] aK:=aW
 refine oR Z (Zk Z Z) (eN (ifc ba ?_ ?_))
 intro ae bb
 refine zj (nC ae.out) (Zf (zm (zJ (rR fL2 Z (oR Z (ZU (zh Z af Z) (congrArg (jV) a8.out)) (oM Z Z (zf ?_)))))))
 have q:=nB bb
 obtain rfl:=q
 exact zJ ⟨rfl,_,rfl,⟨ao,rfl,au,av,ax,(aj.trans be),(aF.pick [] _ (by decide) rfl)⟩⟩
 intro ae bc
 refine ZD (nF (ae.out)) (sR fL1 Z (oA Z Z (eN (zO (zc (zQ ?_))))))
 have q:=wAS bc
 obtain ⟨bf,bd,aM⟩:=q
 have q:=wAt hm ag (a5 bf aM)
 obtain rfl:=q
 refine zQ (zc (zQ ?_))
 have hE:=nB bd;first | subst r | cases hE
 exact ⟨rfl,_,(ZA rfl),ao,_,(aF.pick [] _ (by decide) rfl),rfl,rfl⟩
 rintro ⟨⟩ bx bm ⟨bh,aO,bp,bq,aN,br,aX⟩ a6
 have aG:=wCs hm ag a6
 try dsimp only at aG
 have aL:Hid (¬ ((↑(((↑O.length:Int):Int) - 0).toNat:Int) < (↑O.length:Int))):=zN (wAq)
 refine sR fL1 Z (oR Z (ze Z aO aN) (eN (zL (cF Z aL (Za (zq (zq (ZW (zJ (sR fL1 Z (oA Z Z (eN (zO ?_)))))))))))))
 have hE:=nB aG;first | subst r | cases hE
 exact ⟨Z,_,(ZA Z),bh,_,aX,Z,Z⟩
theorem wHc (p0 p1:Int) (w:World) (φ:PHeap) (hS:St0 w φ []) {r:Int × Int} (hm:wEI p0 p1=some r):Gv Tryz.prog 132 [.int .u64 p0,.int .u64 p1] w (wCG w [] φ (fun φ_ L_ v=>v=.tuple #[.int .u64 r.1,.int .u64 r.2]/\L_=[])):=by
 unfold wEI at hm
 split at hm
 rename_i h
 cases hm
 obtain ⟨x,rfl⟩:=nI h.1
 obtain ⟨y,rfl⟩:=nI h.2.2.1
 refine (Go.Proofs.Tryz.bits_Mul x y (by omega) (by omega) w).mono ?_
 rintro e w' ⟨rfl,rfl⟩
 refine ⟨_,Z,φ,[],hS,?_,Z⟩
 simp
 cases hm
theorem wAw (p0:List Int) (ax:Option Addr) (ay:Nat) (p1:Int) (w:World) (φ:PHeap) (hS:St0 w φ []) (bz:Sl φ 1 ax ay p0.length (hD KL.encI p0)) {r:(List Int)} (hm:wBY p0 p1=some r):Gv Tryz.prog 122 [.slice ax p0.length ay,jV p1] w (wCG w [] φ (fun φ_ L_ v=>∃ (A0:Option Addr) (c0:Nat),v=.slice A0 r.length c0/\L_=[.row A0 c0 3 1 (hD KL.encI r)])):=by
 unfold wBY at hm
 refine Gv.of Tryz.func122 Z Tryz.ntmps122 Tryz.results122 Z (sR fL1 Z (oA Z Z (eN (zL (sR fL2 Z (oM Z Z (oR Z (ze Z Z Z) (eN ?_))))))))
 by_cases c1:p1 < 0
 have aR:=hm;rw [if_pos c1] at aR;replace c1:=zN c1
 refine cT Z c1 (rR gCg Z ?_)
 cases aR
 have aU:=hm;rw [if_neg c1] at aU;replace c1:=zN c1
 refine cF Z c1 (kN (sR (wGD (.fx 5 (wKZ (.nil)) .stop)) Z (oM Z Z (oR Z (zi Z Z zK) (oR Z (Runs.cv64 Z Z Tryz.runUnderlying3 Tryz.runUnderlying207 Z Z) (oM Z Z (oR Z (Runs.cv64 Z Z Tryz.runUnderlying3 Tryz.runUnderlying207 Z Z) ?_)))))))
 have q:=bnd aU
 obtain ⟨⟨x4,x5⟩,h6,aV⟩:=q
 try dsimp only at aV
 refine zD 0 Z Z Z Z (zE Z Z Tryz.call132 (zB Z (zB Z zM)) Z) hS (fun hs=>wHc (wMP (↑p0.length:Int)) (wMP p1) w φ hs h6) (.inr Z) ?_
 rintro ao L9 bZ a9 bQ bs ⟨rfl,rfl⟩
 have aL:sW w φ ao [] a9:=bs
 refine oM Z Z (oR Z (zU Z Z (v:=.int .u64 x4) Z) (oR Z (zU Z Z (v:=.int .u64 x5) Z) (oA Z Z (oA Z Z (eN (zL (bnK aV fun bd aZ bH=>yX (fun σ_ w_=>∃ (φ_:PHeap),σ_ 0=.slice ax p0.length ay/\σ_ 6=.int .u64 x5/\σ_ 26=.bool bd/\PHeap.Le ao φ_/\sW w φ φ_ [] w_) ?_ ?_)))))))
 refine rR fL6 Z (oM Z Z (oR Z (yI Z Z Z) (oM Z Z ?_)))
 by_cases ab:0 < x4
 have aS:=aZ;rw [if_pos ab] at aS;replace ab:=zN ab
 refine oT Z ab (oT Z ab (oR Z (zR Z (Zd ab.out) Z) (zf ?_)))
 cases aS
 exact zJ ⟨Z,⟨ao,Z,Z,Z,(zS _),aL⟩⟩
 have aT:=aZ;rw [if_neg ab] at aT;replace ab:=zN ab
 refine zw Z Z Z (wF Z ab) Z Z (rU Z (wF Z ab) (yI Z Z Z) (oR Z (zW Z (zu ab.out) Z) (zf ?_)))
 have q:=nB aT
 obtain rfl:=q
 exact zJ ⟨Z,⟨ao,Z,Z,Z,(zS _),aL⟩⟩
 rintro ca bV ⟨an,bf,bg,aJ,bR,bt⟩
 refine ifc bH ?_ ?_
 intro ap bI
 refine ZD (aJ.trans (congrArg hH ap.out)) (rR gCg Z ?_)
 cases bI
 intro ap bJ
 refine zj (aJ.trans (congrArg hH (hJ.2 ap.out))) (kN (sR gDa Z (oM Z bg (oR Z (Runs.cvw Z Z Tryz.runUnderlying207 Tryz.runUnderlying3 Z Z) (bnK bJ fun O bh bK=>OKS.makeSlice (enc:=KL.encI) (z:=(0:Int)) (v:=jV 0) Z Z Z Z Z (wBj zK) wKj Z Z Z Z Z Z bh bt ?_)))))
 intro ba aa bu
 have aM:sW w φ an [.row (some ⟨aa,0,none⟩) O.length 3 1 (hD KL.encI O)] ba:=bu
 refine oA Z Z (eN (sR gDa Z (oM Z Z (oM Z bf ?_))))
 have bi:=bz.le bQ
 have bj:=bi.le bR
 refine bnK bK fun az bm bL=>OKS.copyM (j:=0) (f:=KL.encI) (m:=O) (ys:=p0) (z:=az) (a:=0) (n:=O.length) rfl rfl rfl rfl rfl rfl zK zC aM rfl (fun _=>rfl) (fun _=>rfl) rfl bm rfl (by simp) (.inr (by simp)) rfl (aM.srcS bj) rfl ?_
 intro bb bv aP
 have bw:sW w φ an [.row (some ⟨aa,0,none⟩) O.length 3 1 (hD KL.encI az)] bb:=bv
 refine oA Z Z (eN (zL (zY (YI (fun (ac,ae) σ_ w_=>∃ (φ_:PHeap),σ_ 7=.slice (some ⟨aa,0,none⟩) ac.length O.length/\σ_ 8=jV ae/\PHeap.Le an φ_/\sW w φ φ_ [.row (some ⟨aa,0,none⟩) O.length 3 1 (hD KL.encI ac)] w_/\ac.length=O.length) bL ?_ ?_))))
 exact ⟨an,(Eq.trans (b:=(.slice (some ⟨aa,0,none⟩) O.length O.length:Value)) (c:=(.slice (some ⟨aa,0,none⟩) az.length O.length:Value)) rfl (by rw [aP])),rfl,(zS _),bw,aP⟩
 rintro ⟨ac,ae⟩ b5 cb aH ⟨aF,ai,ak,bS,aN,bo⟩ av bE
 try dsimp only at av
 refine zL (sR fL4 Z (oM Z ak (oM Z ai (oR Z (zi Z Z zK) (oR Z (ze Z Z Z) (eN ?_))))))
 by_cases ag:ae < (↑ac.length:Int)
 have aW:=av;rw [if_pos ag] at aW;replace ag:=zN ag
 refine cT Z ag (kN (zY (zx zt [3,3,3,3,3,3,3,0,3,3] (wOE gCn) (by kernel_rfl) ?_)))
 have aj:=aN.drew
 generalize hw_W76:({ aH with drawn:=aH.drawn + 1 }:World)=bW at aj ⊢
 refine oM Z ak (oM Z ai (oM Z ak (bnK aW fun a7 bp bM=>?_)))
 have q:=wJF bp
 obtain ⟨bA,bC,aq,bX,au⟩:=q
 have aX:=aj.rowCap (j:=0) rfl (by decide) (wAE (f:=KL.encI) (sz:=1) (fun _=>rfl) ac)
 refine za (v:=.slice (if O.length=(ae:Int).toNat then (some ⟨aa,0,none⟩) else Option.map (fun q:Addr=>q.add ((ae:Int).toNat * 1)) ((some ⟨aa,0,none⟩):Option Addr)) a7.length (O.length - (ae:Int).toNat)) rfl rfl rfl rfl (fun _=>ZU (Runs.slc (sz:=1) (a:=ae) (b:=(↑(ac.length):Int)) rfl rfl (.inl ⟨_,rfl,rfl⟩) (.inr ⟨rfl,rfl⟩) zK zC bA bC aq aX) (by rw [au])) (zw rfl rfl rfl rfl rfl ai (zw rfl rfl rfl rfl rfl ak (bnK bM fun a8 aK bN=>?_)))
 have q:=wJF aK
 obtain ⟨bB,bD,bF,bY,bP⟩:=q
 have aY:=aj.rowCap (j:=0) rfl (by decide) (wAE (f:=KL.encI) (sz:=1) (fun _=>rfl) ac)
 refine za (v:=.slice (if O.length=(0:Int).toNat then (some ⟨aa,0,none⟩) else Option.map (fun q:Addr=>q.add ((0:Int).toNat * 1)) ((some ⟨aa,0,none⟩):Option Addr)) a8.length (O.length - (0:Int).toNat)) rfl rfl rfl rfl (fun _=>ZU (Runs.slc (sz:=1) (a:=0) (b:=ae) rfl rfl (.inr ⟨rfl,rfl⟩) (.inl ⟨_,rfl,rfl⟩) zK zC bB bD bF aY) (by rw [bP])) (bnK bN fun aE bq bO=>OKS.copyM (j:=0) (f:=KL.encI) (m:=ac) (ys:=a8) (z:=aE) (a:=ae) (n:=a7.length) rfl rfl rfl rfl rfl rfl zK zC aj rfl (fun _=>rfl) (fun _=>rfl) rfl bq rfl (by have:=au;have:=aq;omega) (cutA rfl (by have:=au;have:=aq;have:=aX;omega)) rfl (aj.srcCut (f:=KL.encI) (j:=0) rfl (fun _=>rfl) rfl aK aY) rfl ?_)
 intro bc bx aO
 have br:sW w φ aF [.row (some ⟨aa,0,none⟩) O.length 3 1 (hD KL.encI aE)] bc:=bx
 refine oR Z (zh Z Z Z) (oA Z Z (zf (zm ?_)))
 have q:=nB bO
 obtain rfl:=q
 exact zJ ⟨rfl,_,rfl,⟨aF,(Eq.trans (b:=(.slice (some ⟨aa,0,none⟩) ac.length O.length:Value)) (c:=(.slice (some ⟨aa,0,none⟩) aE.length O.length:Value)) ai (by rw [aO])),rfl,bS,br,(aO.trans bo)⟩⟩
 have aQ:=av;rw [if_neg ag] at aQ;replace ag:=zN ag
 refine cF Z ag (Za (zq ?_))
 have q:=wAS aQ
 obtain ⟨bT,bG,be⟩:=q
 have q:=bE bT be
 obtain rfl:=q
 refine zq (ZW (zJ (sR fL2 Z (oM Z ai (oA Z Z (eN (zO ?_)))))))
 have hE:=nB bG;first | subst r | cases hE
 exact ⟨Z,_,(ZA Z),aF,_,aN,(some ⟨aa,0,none⟩),O.length,Z,Z⟩
theorem wBN (p0:wAg) (af:Nat) (cX:Option Addr) (da:Nat) (cY:Option Addr) (db:Nat) (cZ:Option Addr) (dd:Nat) (c6:Option Addr) (de:Nat) (O:Nat) (ab:Array MapEntry) (ac:Nat) (aV:Option Addr) (aW:Nat) (p1:Int) (p2:Bool) (w:World) (φ:PHeap) (hS:St0 w φ [.blk af 139 [.slice cX p0.Race.Starts.length da,.slice cY p0.Race.Splits.length db,.slice cZ p0.Race.Clocks.length dd,.slice c6 p0.Race.Readings.length de,.map (some O),.slice aV p0.edges.length aW],.obj O (.map ab ac)]) (w9:Sl φ 1 cX da p0.Race.Starts.length (hD KL.encI p0.Race.Starts)) (xa:Sl φ 2 cY db p0.Race.Splits.length (hD wAD p0.Race.Splits)) (xb:Sl φ 3 cZ dd p0.Race.Clocks.length (hD wAF p0.Race.Clocks)) (xc:Sl φ 4 c6 de p0.Race.Readings.length (hD wAB p0.Race.Readings)) (cj:MpR ab wBU wBc p0.number) (ua:Sl φ 7 aV aW p0.edges.length (hD wAP p0.edges)) {r:wAf × Int × Bool} (hm:wAh p0 p1 p2=some r):Gv Tryz.prog 74 [.pointer (some ⟨af,0,none⟩),jV p1,.bool p2] w (wCG w [.blk af 139 [.slice cX p0.Race.Starts.length da,.slice cY p0.Race.Splits.length db,.slice cZ p0.Race.Clocks.length dd,.slice c6 p0.Race.Readings.length de,.map (some O),.slice aV p0.edges.length aW],.obj O (.map ab ac)] φ (fun φ_ L_ v=>∃ (fj:Option Addr) (gq:Nat) (fk:Option Addr) (gt:Nat),v=.tuple #[.agg #[.slice fj r.1.far.length gq,.slice fk r.1.by_.length gt],jV r.2.1,.bool r.2.2]/\L_=[.row fj gq 3 1 (hD KL.encI r.1.far),.row fk gt 3 1 (hD KL.encI r.1.by_),.blk af 139 [.slice cX p0.Race.Starts.length da,.slice cY p0.Race.Splits.length db,.slice cZ p0.Race.Clocks.length dd,.slice c6 p0.Race.Readings.length de,.map (some O),.slice aV p0.edges.length aW],.obj O (.map ab ac)])):=by
 unfold wAh at hm
 refine Gv.of Tryz.func74 Z Tryz.ntmps74 Tryz.results74 Z (sR gCm Z ?_)
 let B0:List Value:=[.slice none 0 0,.slice none 0 0]
 refine zV (cs:=B0) Z Z Z Z Z Zl Z hS ?_
 intro W3 b4 tx
 refine oA Z Z (oA Z Z (eN ?_))
 have q:=bnd hm
 obtain ⟨⟨l9,a6⟩,vf,jL⟩:=q
 try dsimp only at jL
 let B1:Res:=.blk af 139 [.slice cX p0.Race.Starts.length da,.slice cY p0.Race.Splits.length db,.slice cZ p0.Race.Clocks.length dd,.slice c6 p0.Race.Readings.length de,.map (some O),.slice aV p0.edges.length aW]
 refine yX (fun σ_ w_=>∃ (φ_:PHeap) (b8:Nat) (ak:Option Addr) (am:Nat) (an:Option Addr) (ao:Nat),σ_ 0=.pointer (some ⟨af,0,none⟩)/\σ_ 1=jV p1/\σ_ 2=.bool p2/\σ_ 6=.pointer (some ⟨b4,0,none⟩)/\σ_ 9=.pointer (some ⟨b8,0,none⟩)/\PHeap.Le φ φ_/\SW w [B1,.obj O (.map ab ac)] φ φ_ [.blk b4 133 B0,B1,.obj O (.map ab ac),.blk b8 133 [.slice ak l9.length am,.slice an a6.length ao],.row ak am 3 1 (hD KL.encI l9),.row an ao 3 1 (hD KL.encI a6)] w_) ?_ ?_
 refine bnK vf fun ap dS va=>bnK va fun aG dT vb=>zx zt [2,3,3,3,1,1,2,2,3,3,3,1,1,2,3,2,0] (fC1_5 (wJf (.fx 0 (.fx 6 (.fl 12 (.fx 7 gDd (.fx 15 gDb .stop))) (.fx 7 gDk (.fx 15 gDl .stop))) (.fx 7 (.fx 0 gDk (.fx 15 gDj .stop)) (.fx 15 (.fx 0 gDl (.fx 7 gDj .stop)) .stop))))) (by kernel_rfl) ?_
 have bE:=tx.drew
 generalize hw_W74:({ W3 with drawn:=W3.drawn + 1 }:World)=wr at bE ⊢
 refine Zj (s:=.nil) (M:=fun σ_ w_=>∃ (φ_:PHeap) (dB:Nat) (bI:Option Addr) (bV:Nat) (bJ:Option Addr) (bW:Nat) (dY:Option Addr) (ep:Nat) (dZ:Option Addr) (er:Nat),σ_ 0=.pointer (some ⟨af,0,none⟩)/\σ_ 1=jV p1/\σ_ 2=.bool p2/\σ_ 6=.pointer (some ⟨b4,0,none⟩)/\σ_ 9=.pointer (some ⟨dB,0,none⟩)/\σ_ 16=.slice dY ([1125899906842624].length) ep/\σ_ 17=.pointer (some ⟨af,0,none⟩)/\σ_ 18=.pointer (some ⟨af,0,none⟩)/\σ_ 19=.pointer (some ⟨af,4,none⟩)/\σ_ 20=.map (some O)/\σ_ 21=jV (↑(p0.number.length):Int)/\σ_ 22=.slice bI ap.length bV/\σ_ 23=.slice dZ ([-1].length) er/\σ_ 24=.pointer (some ⟨af,0,none⟩)/\σ_ 25=.pointer (some ⟨af,0,none⟩)/\σ_ 26=.pointer (some ⟨af,4,none⟩)/\σ_ 27=.map (some O)/\σ_ 28=jV (↑(p0.number.length):Int)/\σ_ 29=.slice bJ aG.length bW/\σ_ 30=.agg #[.slice bI ap.length bV,.slice bJ aG.length bW]/\PHeap.Le φ φ_/\SW w [B1,.obj O (.map ab ac)] φ φ_ [.blk b4 133 B0,B1,.obj O (.map ab ac),.blk dB 133 [.slice bI ap.length bV,.slice bJ aG.length bW],.row bI bV 3 1 (hD KL.encI ap),.row bJ bW 3 1 (hD KL.encI aG)] w_/\Sl φ_ 1 dY ep [1125899906842624].length (hD KL.encI [1125899906842624])/\Sl φ_ 1 dZ er [-1].length (hD KL.encI [-1])) ?_ fun jZ=>?_
 rintro xG wm ⟨vK,dB,bI,bV,bJ,bW,dY,ep,dZ,er,oq,ot,ou,ov,ow,wK,wL,wM,wN,wO,wP,wQ,wR,wS,wU,wV,wW,wX,wY,wZ,vr,tv,w7,w8⟩
 refine zf ?_
 cases vb
 exact zJ ⟨Z,⟨vK,dB,bI,bV,bJ,bW,oq,ot,ou,ov,ow,vr,tv⟩⟩
 refine Zj (s:=.fx 16 .nil .stop) (M:=fun σ_ w_=>∃ (φ_:PHeap) (cC:Nat) (dh:Option Addr) (dD:Nat) (bj:Option Addr) (bu:Nat) (di:Option Addr) (dE:Nat) (bm:Option Addr) (bv:Nat),σ_ 0=.pointer (some ⟨af,0,none⟩)/\σ_ 1=jV p1/\σ_ 2=.bool p2/\σ_ 6=.pointer (some ⟨b4,0,none⟩)/\σ_ 9=.pointer (some ⟨cC,0,none⟩)/\σ_ 16=.slice dh ([1125899906842624].length) dD/\σ_ 17=.pointer (some ⟨af,0,none⟩)/\σ_ 18=.pointer (some ⟨af,0,none⟩)/\σ_ 19=.pointer (some ⟨af,4,none⟩)/\σ_ 20=.map (some O)/\σ_ 21=jV (↑(p0.number.length):Int)/\σ_ 22=.slice bj ap.length bu/\σ_ 23=.slice di ([-1].length) dE/\σ_ 24=.pointer (some ⟨af,0,none⟩)/\σ_ 25=.pointer (some ⟨af,0,none⟩)/\σ_ 26=.pointer (some ⟨af,4,none⟩)/\σ_ 27=.map (some O)/\σ_ 28=jV (↑(p0.number.length):Int)/\σ_ 29=.slice bm aG.length bv/\σ_ 30=.agg #[.slice bj ap.length bu,.slice bm aG.length bv]/\PHeap.Le φ φ_/\SW w [B1,.obj O (.map ab ac)] φ φ_ [.blk b4 133 B0,B1,.obj O (.map ab ac),.blk cC 133 B0,.row bj bu 3 1 (hD KL.encI ap),.row bm bv 3 1 (hD KL.encI aG)] w_/\Sl φ_ 1 dh dD [1125899906842624].length (hD KL.encI [1125899906842624])/\Sl φ_ 1 di dE [-1].length (hD KL.encI [-1])) ?_ fun vg=>?_
 rintro xH wn ⟨lE,cC,dh,dD,bj,bu,di,dE,bm,bv,ox,oy,oz,oB,iq,oC,oD,oE,oG,oH,oI,oJ,oK,oO,oP,oQ,oS,oU,oV,ir,vt,tw,rH,rI⟩
 let B2:List Value:=[.slice bj ap.length bu,.slice bm aG.length bv]
 refine zX (j:=3) (vs:=B2) Z Z Z Z tw Z iq ir Z Zx (zA Z) Z Z Z ?_
 intro l7 tz
 have tA:SW w [B1,.obj O (.map ab ac)] φ lE [.blk b4 133 B0,B1,.obj O (.map ab ac),.blk cC 133 B2,.row bj bu 3 1 (hD KL.encI ap),.row bm bv 3 1 (hD KL.encI aG)] l7:=tz
 exact jZ _ _ ⟨lE,cC,bj,bu,bm,bv,dh,dD,di,dE,ox,oy,oz,oB,iq,oC,oD,oE,oG,oH,oI,oJ,oK,oO,oP,oQ,oS,oU,oV,ir,vt,tA,rH,rI⟩
 refine Zj (s:=gCh) (M:=fun σ_ w_=>∃ (φ_:PHeap) (cD:Nat) (dk:Option Addr) (dF:Nat) (bn:Option Addr) (bw:Nat) (dl:Option Addr) (dG:Nat) (bo:Option Addr) (bx:Nat),σ_ 0=.pointer (some ⟨af,0,none⟩)/\σ_ 1=jV p1/\σ_ 2=.bool p2/\σ_ 6=.pointer (some ⟨b4,0,none⟩)/\σ_ 9=.pointer (some ⟨cD,0,none⟩)/\σ_ 16=.slice dk ([1125899906842624].length) dF/\σ_ 17=.pointer (some ⟨af,0,none⟩)/\σ_ 18=.pointer (some ⟨af,0,none⟩)/\σ_ 19=.pointer (some ⟨af,4,none⟩)/\σ_ 20=.map (some O)/\σ_ 21=jV (↑(p0.number.length):Int)/\σ_ 22=.slice bn ap.length bw/\σ_ 23=.slice dl ([-1].length) dG/\σ_ 24=.pointer (some ⟨af,0,none⟩)/\σ_ 25=.pointer (some ⟨af,0,none⟩)/\σ_ 26=.pointer (some ⟨af,4,none⟩)/\σ_ 27=.map (some O)/\σ_ 28=jV (↑(p0.number.length):Int)/\σ_ 29=.slice bo aG.length bx/\PHeap.Le φ φ_/\SW w [B1,.obj O (.map ab ac)] φ φ_ [.blk b4 133 B0,B1,.obj O (.map ab ac),.blk cD 133 B0,.row bn bw 3 1 (hD KL.encI ap),.row bo bx 3 1 (hD KL.encI aG)] w_/\Sl φ_ 1 dk dF [1125899906842624].length (hD KL.encI [1125899906842624])/\Sl φ_ 1 dl dG [-1].length (hD KL.encI [-1])) ?_ fun j0=>?_
 rintro xI wo ⟨lF,cD,dk,dF,bn,bw,dl,dG,bo,bx,oW,oX,oY,oZ,it,o0,o3,o5,o6,o7,o8,iu,o9,pd,pe,pf,pg,ph,iv,vu,tB,rJ,rK⟩
 let B3:List Value:=[.slice bn ap.length bw,.slice bo aG.length bx]
 refine oR Z (ZB (pv:=[(0,.slice bn ap.length bw),(1,.slice bo aG.length bx)]) (z:=B0) (cs:=B3) Z (wAG iu (wAG iv wAR)) Zl wJH Z Z) (zX (j:=3) (vs:=B3) Z Z Z Z tB Z it Z Z Zx (zA Z) Z Z Z ?_)
 intro l8 tC
 have tD:SW w [B1,.obj O (.map ab ac)] φ lF [.blk b4 133 B0,B1,.obj O (.map ab ac),.blk cD 133 B3,.row bn bw 3 1 (hD KL.encI ap),.row bo bx 3 1 (hD KL.encI aG)] l8:=tC
 exact jZ _ _ ⟨lF,cD,bn,bw,bo,bx,dk,dF,dl,dG,oW,oX,oY,oZ,it,o0,o3,o5,o6,o7,o8,iu,o9,pd,pe,pf,pg,ph,iv,Z,vu,tD,rJ,rK⟩
 refine Zj (s:=gCp) (M:=fun σ_ w_=>∃ (φ_:PHeap) (bQ:Nat) (dm:Option Addr) (dH:Nat) (cn:Option Addr) (cH:Nat) (co:Option Addr) (cI:Nat),σ_ 0=.pointer (some ⟨af,0,none⟩)/\σ_ 1=jV p1/\σ_ 2=.bool p2/\σ_ 6=.pointer (some ⟨b4,0,none⟩)/\σ_ 9=.pointer (some ⟨bQ,0,none⟩)/\σ_ 16=.slice dm ([1125899906842624].length) dH/\σ_ 17=.pointer (some ⟨af,0,none⟩)/\σ_ 18=.pointer (some ⟨af,0,none⟩)/\σ_ 19=.pointer (some ⟨af,4,none⟩)/\σ_ 20=.map (some O)/\σ_ 21=jV (↑(p0.number.length):Int)/\σ_ 22=.slice cn ap.length cH/\σ_ 23=.slice co ([-1].length) cI/\σ_ 24=.pointer (some ⟨af,0,none⟩)/\σ_ 25=.pointer (some ⟨af,0,none⟩)/\σ_ 26=.pointer (some ⟨af,4,none⟩)/\σ_ 27=.map (some O)/\σ_ 28=jV (↑(p0.number.length):Int)/\PHeap.Le φ φ_/\SW w [B1,.obj O (.map ab ac)] φ φ_ [.blk b4 133 B0,B1,.obj O (.map ab ac),.blk bQ 133 B0,.row cn cH 3 1 (hD KL.encI ap),.row co cI 3 1 (hD KL.encI [-1])] w_/\Sl φ_ 1 dm dH [1125899906842624].length (hD KL.encI [1125899906842624])) ?_ fun dV=>?_
 rintro xJ fZ ⟨xR,bQ,dm,dH,cn,cH,co,cI,pj,pk,pm,pn,po,pp,pq,pu,py,pz,pB,pC,iw,pD,pE,pF,pG,iy,vv,tE,rL⟩
 have q:=tE.freezeR (k:=5) (n:=[-1].length) rfl (wAE (f:=KL.encI) (sz:=1) (fun _=>rfl) [-1]) (by decide)
 obtain ⟨lG,lb,jP,tF⟩:=q
 let B4:Res:=.row cn cH 3 1 (hD KL.encI ap)
 have tG:SW w [B1,.obj O (.map ab ac)] φ lG [.blk b4 133 B0,B1,.obj O (.map ab ac),.blk bQ 133 B0,B4] fZ:=tF
 refine zD 0 Z Z Z Z (zE Z Z YG (zB iw (zB iy zM)) Z) tG (fun hs=>wAw [-1] co cI (↑(p0.number.length):Int) fZ lG hs jP dT) (.inr Z) ?_
 rintro lH vR xk ma fd tH ⟨fu,gA,rfl,rfl⟩
 have tI:SW w [B1,.obj O (.map ab ac)] φ lH [.row fu gA 3 1 (hD KL.encI aG),.blk b4 133 B0,B1,.obj O (.map ab ac),.blk bQ 133 B0,B4] ma:=tH
 have rM:=rL.le lb
 have rN:=rM.le fd
 have rO:=jP.le fd
 exact j0 _ _ ⟨lH,bQ,dm,dH,cn,cH,co,cI,fu,gA,pj,pk,pm,pn,po,pp,pq,pu,py,pz,pB,pC,iw,pD,pE,pF,pG,iy,rfl,((vv.trans lb).trans fd),(tI.pick [1,2,3,4,5,0] _ (by decide) rfl),rN,rO⟩
 refine Zj (s:=gCo) (M:=fun σ_ w_=>∃ (φ_:PHeap) (dp:Option Addr) (dI:Nat) (bK:Option Addr) (bX:Nat) (dq:Option Addr) (dJ:Nat) (bL:Option Addr) (bY:Nat),σ_ 0=.pointer (some ⟨af,0,none⟩)/\σ_ 1=jV p1/\σ_ 2=.bool p2/\σ_ 6=.pointer (some ⟨b4,0,none⟩)/\σ_ 16=.slice dp ([1125899906842624].length) dI/\σ_ 17=.pointer (some ⟨af,0,none⟩)/\σ_ 18=.pointer (some ⟨af,0,none⟩)/\σ_ 19=.pointer (some ⟨af,4,none⟩)/\σ_ 20=.map (some O)/\σ_ 21=jV (↑(p0.number.length):Int)/\σ_ 22=.slice bK ap.length bX/\σ_ 23=.slice dq ([-1].length) dJ/\σ_ 24=.pointer (some ⟨af,0,none⟩)/\σ_ 25=.pointer (some ⟨af,0,none⟩)/\σ_ 26=.pointer (some ⟨af,4,none⟩)/\σ_ 27=.map (some O)/\σ_ 28=jV (↑(p0.number.length):Int)/\σ_ 29=.slice bL aG.length bY/\PHeap.Le φ φ_/\SW w [B1,.obj O (.map ab ac)] φ φ_ [.blk b4 133 B0,B1,.obj O (.map ab ac),.row bK bX 3 1 (hD KL.encI ap),.row bL bY 3 1 (hD KL.encI aG)] w_/\Sl φ_ 1 dp dI [1125899906842624].length (hD KL.encI [1125899906842624])/\Sl φ_ 1 dq dJ [-1].length (hD KL.encI [-1])) ?_ fun j5=>?_
 rintro xK wp ⟨vL,dp,dI,bK,bX,dq,dJ,bL,bY,pH,pI,pJ,pK,pL,pM,pN,pO,pP,pQ,iz,pR,pS,pT,pU,pV,pW,iA,vw,tJ,rP,rQ⟩
 refine oR Z (ZB (pv:=[(0,.slice bK ap.length bX),(1,.slice bL aG.length bY)]) (z:=B0) (cs:=[.slice bK ap.length bX,.slice bL aG.length bY]) Z (wAG iz (wAG iA wAR)) Zl wJH Z Z) (zV (cs:=B0) Z Z Z Z Z Zl Z tJ ?_)
 intro wq ml tK
 exact vg _ _ ⟨vL,ml,dp,dI,bK,bX,dq,dJ,bL,bY,pH,pI,pJ,pK,rfl,pL,pM,pN,pO,pP,pQ,iz,pR,pS,pT,pU,pV,pW,iA,rfl,vw,(tK.pick [1,2,3,0,4,5] _ (by decide) rfl),rP,rQ⟩
 refine Zj (s:=.fl 12 gCp) (M:=fun σ_ w_=>∃ (φ_:PHeap) (bR:Nat) (dr:Option Addr) (dK:Nat) (cp:Option Addr) (cJ:Nat) (cq:Option Addr) (cK:Nat),σ_ 0=.pointer (some ⟨af,0,none⟩)/\σ_ 1=jV p1/\σ_ 2=.bool p2/\σ_ 6=.pointer (some ⟨b4,0,none⟩)/\σ_ 9=.pointer (some ⟨bR,0,none⟩)/\σ_ 16=.slice dr ([1125899906842624].length) dK/\σ_ 17=.pointer (some ⟨af,0,none⟩)/\σ_ 18=.pointer (some ⟨af,0,none⟩)/\σ_ 19=.pointer (some ⟨af,4,none⟩)/\σ_ 20=.map (some O)/\σ_ 21=jV (↑(p0.number.length):Int)/\σ_ 22=.slice cp ap.length cJ/\σ_ 23=.slice cq ([-1].length) cK/\σ_ 24=.pointer (some ⟨af,0,none⟩)/\σ_ 25=.pointer (some ⟨af,0,none⟩)/\σ_ 26=.pointer (some ⟨af,4,none⟩)/\σ_ 27=.map (some O)/\PHeap.Le φ φ_/\SW w [B1,.obj O (.map ab ac)] φ φ_ [.blk b4 133 B0,B1,.obj O (.map ab ac),.blk bR 133 B0,.row cp cJ 3 1 (hD KL.encI ap),.row cq cK 3 1 (hD KL.encI [-1])] w_/\Sl φ_ 1 dr dK [1125899906842624].length (hD KL.encI [1125899906842624])) ?_ fun vh=>?_
 rintro xL f4 ⟨xS,bR,dr,dK,cp,cJ,cq,cK,pX,pY,pZ,p6,p7,p8,p9,qa,qb,qc,qd,qe,iB,qf,qh,qi,iC,vx,jA,rS⟩
 refine oL Z (jA.lenM (j:=2) (mk:=wBU) (mv:=wBc) Z Z iC (wBj ZS) cj) ?_
 have q:=jA.freezeR (k:=5) (n:=[-1].length) rfl (wAE (f:=KL.encI) (sz:=1) (fun _=>rfl) [-1]) (by decide)
 obtain ⟨lI,lf,jQ,tL⟩:=q
 let B5:Res:=.row cp cJ 3 1 (hD KL.encI ap)
 have tM:SW w [B1,.obj O (.map ab ac)] φ lI [.blk b4 133 B0,B1,.obj O (.map ab ac),.blk bR 133 B0,B5] f4:=tL
 refine zD 0 Z Z Z Z (zE Z Z YG (zB iB (zB Z zM)) Z) tM (fun hs=>wAw [-1] cq cK (↑(p0.number.length):Int) f4 lI hs jQ dT) (.inr Z) ?_
 rintro lJ vS xl mb ff tN ⟨fy,gB,rfl,rfl⟩
 have tO:SW w [B1,.obj O (.map ab ac)] φ lJ [.row fy gB 3 1 (hD KL.encI aG),.blk b4 133 B0,B1,.obj O (.map ab ac),.blk bR 133 B0,B5] mb:=tN
 have rT:=rS.le lf
 have rV:=rT.le ff
 have rW:=jQ.le ff
 exact j0 _ _ ⟨lJ,bR,dr,dK,cp,cJ,cq,cK,fy,gB,pX,pY,pZ,p6,p7,p8,p9,qa,qb,qc,qd,qe,iB,qf,qh,qi,iC,rfl,rfl,((vx.trans lf).trans ff),(tO.pick [1,2,3,4,5,0] _ (by decide) rfl),rV,rW⟩
 refine Zj (s:=.fl 12 gDb) (M:=fun σ_ w_=>∃ (φ_:PHeap) (cE:Nat) (dt:Option Addr) (dL:Nat) (cr:Option Addr) (cL:Nat),σ_ 0=.pointer (some ⟨af,0,none⟩)/\σ_ 1=jV p1/\σ_ 2=.bool p2/\σ_ 6=.pointer (some ⟨b4,0,none⟩)/\σ_ 9=.pointer (some ⟨cE,0,none⟩)/\σ_ 16=.slice dt ([1125899906842624].length) dL/\σ_ 17=.pointer (some ⟨af,0,none⟩)/\σ_ 18=.pointer (some ⟨af,0,none⟩)/\σ_ 19=.pointer (some ⟨af,4,none⟩)/\σ_ 20=.map (some O)/\σ_ 21=jV (↑(p0.number.length):Int)/\σ_ 22=.slice cr ap.length cL/\σ_ 24=.pointer (some ⟨af,0,none⟩)/\σ_ 25=.pointer (some ⟨af,0,none⟩)/\σ_ 26=.pointer (some ⟨af,4,none⟩)/\σ_ 27=.map (some O)/\PHeap.Le φ φ_/\SW w [B1,.obj O (.map ab ac)] φ φ_ [.blk b4 133 B0,B1,.obj O (.map ab ac),.blk cE 133 B0,.row cr cL 3 1 (hD KL.encI ap)] w_/\Sl φ_ 1 dt dL [1125899906842624].length (hD KL.encI [1125899906842624])) ?_ fun vi=>?_
 rintro xM ws ⟨lK,cE,dt,dL,cr,cL,qj,qk,qm,qn,qo,qp,qq,qr,qs,qt,qu,qv,qw,qx,qy,iD,vy,jB,rX⟩
 refine oL Z (jB.lenM (j:=2) (mk:=wBU) (mv:=wBc) Z Z iD (wBj ZS) cj) (ZR (pv:=[(0,jV (-1))]) (zs:=[jV 0]) (cs:=[jV (-1)]) Z Z Z Z Z (wAG Z wAR) zK zC ZG Z Z Z Z Z jB ?_)
 intro mc gk tP
 have tQ:SW w [B1,.obj O (.map ab ac)] φ lK [.row (some ⟨gk,0,none⟩) 1 3 1 (hD KL.encI [-1]),.blk b4 133 B0,B1,.obj O (.map ab ac),.blk cE 133 B0,.row cr cL 3 1 (hD KL.encI ap)] mc:=tP
 exact dV _ _ ⟨lK,cE,dt,dL,cr,cL,(some ⟨gk,0,none⟩),1,qj,qk,qm,qn,qo,qp,qq,qr,qs,qt,qu,qv,rfl,qw,qx,qy,iD,rfl,vy,(tQ.pick [1,2,3,4,5,0] _ (by decide) rfl),rX⟩
 refine Zj (s:=gDe) (M:=fun σ_ w_=>∃ (φ_:PHeap) (bS:Nat) (ct:Option Addr) (cM:Nat) (cu:Option Addr) (cN:Nat),σ_ 0=.pointer (some ⟨af,0,none⟩)/\σ_ 1=jV p1/\σ_ 2=.bool p2/\σ_ 6=.pointer (some ⟨b4,0,none⟩)/\σ_ 9=.pointer (some ⟨bS,0,none⟩)/\σ_ 16=.slice ct ([1125899906842624].length) cM/\σ_ 17=.pointer (some ⟨af,0,none⟩)/\σ_ 18=.pointer (some ⟨af,0,none⟩)/\σ_ 19=.pointer (some ⟨af,4,none⟩)/\σ_ 20=.map (some O)/\σ_ 21=jV (↑(p0.number.length):Int)/\σ_ 23=.slice cu ([-1].length) cN/\σ_ 24=.pointer (some ⟨af,0,none⟩)/\σ_ 25=.pointer (some ⟨af,0,none⟩)/\σ_ 26=.pointer (some ⟨af,4,none⟩)/\σ_ 27=.map (some O)/\PHeap.Le φ φ_/\SW w [B1,.obj O (.map ab ac)] φ φ_ [.blk b4 133 B0,B1,.obj O (.map ab ac),.blk bS 133 B0,.row ct cM 3 1 (hD KL.encI [1125899906842624]),.row cu cN 3 1 (hD KL.encI [-1])] w_) ?_ fun eZ=>?_
 rintro xN f5 ⟨xT,bS,ct,cM,cu,cN,qz,qA,qB,qC,qD,iE,qE,qF,qG,qH,iF,qI,qJ,qK,qL,qM,vz,tR⟩
 have q:=tR.freezeR (k:=4) (n:=[1125899906842624].length) rfl (wAE (f:=KL.encI) (sz:=1) (fun _=>rfl) [1125899906842624]) (by decide)
 obtain ⟨lL,vA,jR,tS⟩:=q
 let B6:Res:=.row cu cN 3 1 (hD KL.encI [-1])
 have tT:SW w [B1,.obj O (.map ab ac)] φ lL [.blk b4 133 B0,B1,.obj O (.map ab ac),.blk bS 133 B0,B6] f5:=tS
 refine zD 0 Z Z Z Z (zE Z Z YG (zB iE (zB iF zM)) Z) tT (fun hs=>wAw [1125899906842624] ct cM (↑(p0.number.length):Int) f5 lL hs jR dS) (.inr Z) ?_
 rintro lM vT xm md lg tU ⟨fz,gC,rfl,rfl⟩
 have tV:SW w [B1,.obj O (.map ab ac)] φ lM [.row fz gC 3 1 (hD KL.encI ap),.blk b4 133 B0,B1,.obj O (.map ab ac),.blk bS 133 B0,B6] md:=tU
 have rY:=jR.le lg
 exact vh _ _ ⟨lM,bS,ct,cM,fz,gC,cu,cN,qz,qA,qB,qC,qD,iE,qE,qF,qG,qH,iF,rfl,qI,qJ,qK,qL,qM,((vz.trans vA).trans lg),(tV.pick [1,2,3,4,0,5] _ (by decide) rfl),rY⟩
 refine Zj (s:=.fl 12 gDd) (M:=fun σ_ w_=>∃ (φ_:PHeap) (cw:Option Addr) (cO:Nat) (bM:Option Addr) (bZ:Nat) (bN:Option Addr) (b5:Nat),σ_ 0=.pointer (some ⟨af,0,none⟩)/\σ_ 1=jV p1/\σ_ 2=.bool p2/\σ_ 6=.pointer (some ⟨b4,0,none⟩)/\σ_ 16=.slice cw ([1125899906842624].length) cO/\σ_ 17=.pointer (some ⟨af,0,none⟩)/\σ_ 18=.pointer (some ⟨af,0,none⟩)/\σ_ 19=.pointer (some ⟨af,4,none⟩)/\σ_ 20=.map (some O)/\σ_ 21=jV (↑(p0.number.length):Int)/\σ_ 22=.slice bM ap.length bZ/\σ_ 23=.slice bN ([-1].length) b5/\σ_ 24=.pointer (some ⟨af,0,none⟩)/\σ_ 25=.pointer (some ⟨af,0,none⟩)/\σ_ 26=.pointer (some ⟨af,4,none⟩)/\σ_ 27=.map (some O)/\PHeap.Le φ φ_/\SW w [B1,.obj O (.map ab ac)] φ φ_ [.blk b4 133 B0,B1,.obj O (.map ab ac),.row bM bZ 3 1 (hD KL.encI ap),.row bN b5 3 1 (hD KL.encI [-1])] w_/\Sl φ_ 1 cw cO [1125899906842624].length (hD KL.encI [1125899906842624])) ?_ fun vj=>?_
 rintro xO f6 ⟨vM,cw,cO,bM,bZ,bN,b5,iG,iH,iI,iJ,iK,iL,iM,iN,iO,iP,iQ,eC,iR,iS,iT,eD,lh,eO,jf⟩
 refine oL Z (eO.lenM (j:=2) (mk:=wBU) (mv:=wBc) Z Z eD (wBj ZS) cj) (ZJ ?_ ?_)
 have q:=eO.freezeR (k:=4) (n:=[-1].length) rfl (wAE (f:=KL.encI) (sz:=1) (fun _=>rfl) [-1]) (by decide)
 obtain ⟨lN,li,jS,tW⟩:=q
 let B7:Res:=.row bM bZ 3 1 (hD KL.encI ap)
 have tX:SW w [B1,.obj O (.map ab ac)] φ lN [.blk b4 133 B0,B1,.obj O (.map ab ac),B7] f6:=tW
 refine zD 0 Z Z Z Z (zE Z Z YG (zB eC (zB Z zM)) Z) tX (fun hs=>wAw [-1] bN b5 (↑(p0.number.length):Int) f6 lN hs jS dT) (.inr Z) ?_
 rintro lO vU xn me fg tY ⟨fA,gD,rfl,rfl⟩
 have tZ:SW w [B1,.obj O (.map ab ac)] φ lO [.row fA gD 3 1 (hD KL.encI aG),.blk b4 133 B0,B1,.obj O (.map ab ac),B7] me:=tY
 have rZ:=jf.le li
 have r0:=rZ.le fg
 have r6:=jS.le fg
 exact j5 _ _ ⟨lO,cw,cO,bM,bZ,bN,b5,fA,gD,iG,iH,iI,iJ,iK,iL,iM,iN,iO,iP,iQ,eC,iR,iS,iT,eD,rfl,rfl,((lh.trans li).trans fg),(tZ.pick [1,2,3,4,0] _ (by decide) rfl),r0,r6⟩
 refine zV (cs:=B0) Z Z Z Z Z Zl Z eO ?_
 intro wt mo t4
 exact dV _ _ ⟨vM,mo,cw,cO,bM,bZ,bN,b5,iG,iH,iI,iJ,rfl,iK,iL,iM,iN,iO,iP,iQ,eC,iR,iS,iT,eD,rfl,lh,(t4.pick [1,2,3,0,4,5] _ (by decide) rfl),jf⟩
 refine Zj (s:=gDj) (M:=fun σ_ w_=>∃ (φ_:PHeap) (cG:Nat) (cx:Option Addr) (cP:Nat),σ_ 0=.pointer (some ⟨af,0,none⟩)/\σ_ 1=jV p1/\σ_ 2=.bool p2/\σ_ 6=.pointer (some ⟨b4,0,none⟩)/\σ_ 9=.pointer (some ⟨cG,0,none⟩)/\σ_ 17=.pointer (some ⟨af,0,none⟩)/\σ_ 18=.pointer (some ⟨af,0,none⟩)/\σ_ 19=.pointer (some ⟨af,4,none⟩)/\σ_ 20=.map (some O)/\σ_ 21=jV (↑(p0.number.length):Int)/\σ_ 23=.slice cx ([-1].length) cP/\σ_ 24=.pointer (some ⟨af,0,none⟩)/\σ_ 25=.pointer (some ⟨af,0,none⟩)/\σ_ 26=.pointer (some ⟨af,4,none⟩)/\σ_ 27=.map (some O)/\PHeap.Le φ φ_/\SW w [B1,.obj O (.map ab ac)] φ φ_ [.blk b4 133 B0,B1,.obj O (.map ab ac),.blk cG 133 B0,.row cx cP 3 1 (hD KL.encI [-1])] w_) ?_ fun j6=>?_
 rintro xP wu ⟨lP,cG,cx,cP,qN,qO,qP,qQ,qR,qS,qT,qU,qV,qW,qX,qY,qZ,q0,q6,vB,t5⟩
 refine ZR (pv:=[(0,jV 1125899906842624)]) (zs:=[jV 0]) (cs:=[jV 1125899906842624]) Z Z Z Z Z (wAG Z wAR) zK zC ZG Z Z Z Z Z t5 ?_
 intro mf gp t6
 have t7:SW w [B1,.obj O (.map ab ac)] φ lP [.row (some ⟨gp,0,none⟩) 1 3 1 (hD KL.encI [1125899906842624]),.blk b4 133 B0,B1,.obj O (.map ab ac),.blk cG 133 B0,.row cx cP 3 1 (hD KL.encI [-1])] mf:=t6
 exact eZ _ _ ⟨lP,cG,(some ⟨gp,0,none⟩),1,cx,cP,qN,qO,qP,qQ,qR,rfl,qS,qT,qU,qV,qW,qX,qY,qZ,q0,q6,vB,(t7.pick [1,2,3,4,0,5] _ (by decide) rfl)⟩
 refine Zj (s:=gDl) (M:=fun σ_ w_=>∃ (φ_:PHeap) (bg:Nat) (bp:Option Addr) (bz:Nat),σ_ 0=.pointer (some ⟨af,0,none⟩)/\σ_ 1=jV p1/\σ_ 2=.bool p2/\σ_ 6=.pointer (some ⟨b4,0,none⟩)/\σ_ 9=.pointer (some ⟨bg,0,none⟩)/\σ_ 16=.slice bp ([1125899906842624].length) bz/\σ_ 17=.pointer (some ⟨af,0,none⟩)/\σ_ 18=.pointer (some ⟨af,0,none⟩)/\σ_ 19=.pointer (some ⟨af,4,none⟩)/\σ_ 20=.map (some O)/\σ_ 21=jV (↑(p0.number.length):Int)/\σ_ 24=.pointer (some ⟨af,0,none⟩)/\σ_ 25=.pointer (some ⟨af,0,none⟩)/\σ_ 26=.pointer (some ⟨af,4,none⟩)/\σ_ 27=.map (some O)/\PHeap.Le φ φ_/\SW w [B1,.obj O (.map ab ac)] φ φ_ [.blk b4 133 B0,B1,.obj O (.map ab ac),.blk bg 133 B0,.row bp bz 3 1 (hD KL.encI [1125899906842624])] w_) ?_ fun j7=>?_
 rintro xQ f8 ⟨lQ,bg,bp,bz,iU,iV,iW,iX,iY,eE,iZ,i4,i6,i8,eF,i9,ja,jb,jc,lj,jC⟩
 refine ZJ ?_ ?_
 have q:=jC.freezeR (k:=4) (n:=[1125899906842624].length) rfl (wAE (f:=KL.encI) (sz:=1) (fun _=>rfl) [1125899906842624]) (by decide)
 obtain ⟨lR,vC,jT,t8⟩:=q
 have t9:SW w [B1,.obj O (.map ab ac)] φ lR [.blk b4 133 B0,B1,.obj O (.map ab ac),.blk bg 133 B0] f8:=t8
 refine zD 0 Z Z Z Z (zE Z Z YG (zB eE (zB eF zM)) Z) t9 (fun hs=>wAw [1125899906842624] bp bz (↑(p0.number.length):Int) f8 lR hs jT dS) (.inr Z) ?_
 rintro lu vN xg lS j8 r9 ⟨fm,gu,rfl,rfl⟩
 have sa:SW w [B1,.obj O (.map ab ac)] φ lu [.row fm gu 3 1 (hD KL.encI ap),.blk b4 133 B0,B1,.obj O (.map ab ac),.blk bg 133 B0] lS:=r9
 have rc:=jT.le j8
 exact vi _ _ ⟨lu,bg,bp,bz,fm,gu,iU,iV,iW,iX,iY,eE,iZ,i4,i6,i8,eF,rfl,i9,ja,jb,jc,((lj.trans vC).trans j8),(sa.pick [1,2,3,4,0] _ (by decide) rfl),rc⟩
 refine ZR (pv:=[(0,jV (-1))]) (zs:=[jV 0]) (cs:=[jV (-1)]) Z Z Z Z Z (wAG Z wAR) zK zC ZG Z Z Z Z Z jC ?_
 intro lT f9 sb
 have sc:SW w [B1,.obj O (.map ab ac)] φ lQ [.row (some ⟨f9,0,none⟩) 1 3 1 (hD KL.encI [-1]),.blk b4 133 B0,B1,.obj O (.map ab ac),.blk bg 133 B0,.row bp bz 3 1 (hD KL.encI [1125899906842624])] lT:=sb
 exact eZ _ _ ⟨lQ,bg,bp,bz,(some ⟨f9,0,none⟩),1,iU,iV,iW,iX,iY,eE,iZ,i4,i6,i8,eF,rfl,i9,ja,jb,jc,lj,(sc.pick [1,2,3,4,5,0] _ (by decide) rfl)⟩
 refine Zj (s:=gDk) (M:=fun σ_ w_=>∃ (φ_:PHeap) (bG:Option Addr) (bT:Nat) (bH:Option Addr) (bU:Nat),σ_ 0=.pointer (some ⟨af,0,none⟩)/\σ_ 1=jV p1/\σ_ 2=.bool p2/\σ_ 6=.pointer (some ⟨b4,0,none⟩)/\σ_ 16=.slice bG ([1125899906842624].length) bT/\σ_ 17=.pointer (some ⟨af,0,none⟩)/\σ_ 18=.pointer (some ⟨af,0,none⟩)/\σ_ 19=.pointer (some ⟨af,4,none⟩)/\σ_ 20=.map (some O)/\σ_ 21=jV (↑(p0.number.length):Int)/\σ_ 23=.slice bH ([-1].length) bU/\σ_ 24=.pointer (some ⟨af,0,none⟩)/\σ_ 25=.pointer (some ⟨af,0,none⟩)/\σ_ 26=.pointer (some ⟨af,4,none⟩)/\σ_ 27=.map (some O)/\PHeap.Le φ φ_/\SW w [B1,.obj O (.map ab ac)] φ φ_ [.blk b4 133 B0,B1,.obj O (.map ab ac),.row bG bT 3 1 (hD KL.encI [1125899906842624]),.row bH bU 3 1 (hD KL.encI [-1])] w_) ?_ fun jY=>?_
 rintro xu fK ⟨vG,bG,bT,bH,bU,gE,gF,gG,gH,eu,gI,gJ,gK,gL,ew,gM,gN,gO,gP,gQ,j9,jm⟩
 refine ZJ ?_ ?_
 have q:=jm.freezeR (k:=3) (n:=[1125899906842624].length) rfl (wAE (f:=KL.encI) (sz:=1) (fun _=>rfl) [1125899906842624]) (by decide)
 obtain ⟨lv,vk,jN,sd⟩:=q
 let B8:Res:=.row bH bU 3 1 (hD KL.encI [-1])
 have se:SW w [B1,.obj O (.map ab ac)] φ lv [.blk b4 133 B0,B1,.obj O (.map ab ac),B8] fK:=sd
 refine zD 0 Z Z Z Z (zE Z Z YG (zB eu (zB ew zM)) Z) se (fun hs=>wAw [1125899906842624] bG bT (↑(p0.number.length):Int) fK lv hs jN dS) (.inr Z) ?_
 rintro lw vO xh lU k5 sf ⟨fq,gv,rfl,rfl⟩
 have sg:SW w [B1,.obj O (.map ab ac)] φ lw [.row fq gv 3 1 (hD KL.encI ap),.blk b4 133 B0,B1,.obj O (.map ab ac),B8] lU:=sf
 have rd:=jN.le k5
 exact vj _ _ ⟨lw,bG,bT,fq,gv,bH,bU,gE,gF,gG,gH,eu,gI,gJ,gK,gL,ew,rfl,gM,gN,gO,gP,gQ,((j9.trans vk).trans k5),(sg.pick [1,2,3,0,4] _ (by decide) rfl),rd⟩
 refine zV (cs:=B0) Z Z Z Z Z Zl Z jm ?_
 intro vV mg sh
 exact eZ _ _ ⟨vG,mg,bG,bT,bH,bU,gE,gF,gG,gH,rfl,eu,gI,gJ,gK,gL,ew,gM,gN,gO,gP,gQ,j9,(sh.pick [1,2,3,0,4,5] _ (by decide) rfl)⟩
 refine oM Z Z (oR Z (Zt Z Z) (oR Z (zF Z Z ZH Z Zw) (oL Z (bE.ldB (j:=1) Z Z Z yC (v:=.map (some O)) Z) (oL Z (bE.lenM (j:=2) (mk:=wBU) (mv:=wBc) Z Z Z (wBj ZS) cj) (oM Z Z (oR Z (Zt Z Z) (oR Z (zF Z Z ZH Z Zw) (oL Z (bE.ldB (j:=1) Z Z Z yC (v:=.map (some O)) Z) (ZJ ?_ ?_)))))))))
 refine ZR (pv:=[(0,jV 1125899906842624)]) (zs:=[jV 0]) (cs:=[jV 1125899906842624]) Z Z Z Z Z (wAG Z wAR) zK zC ZG Z Z Z Z Z bE ?_
 intro d7 bt sj
 let B9:Res:=.row (some ⟨bt,0,none⟩) 1 3 1 (hD KL.encI [1125899906842624])
 have eH:SW w [B1,.obj O (.map ab ac)] φ φ [B9,.blk b4 133 B0,B1,.obj O (.map ab ac)] d7:=sj
 refine ZJ ?_ ?_
 have q:=eH.freezeR (k:=0) (n:=[1125899906842624].length) rfl (wAE (f:=KL.encI) (sz:=1) (fun _=>rfl) [1125899906842624]) (by decide)
 obtain ⟨lx,e9,dU,sk⟩:=q
 have sl:SW w [B1,.obj O (.map ab ac)] φ lx [.blk b4 133 B0,B1,.obj O (.map ab ac)] d7:=sk
 refine zD 0 Z Z Z Z (zE Z Z YG (zB Z (zB Z zM)) Z) sl (fun hs=>wAw [1125899906842624] (some ⟨bt,0,none⟩) 1 (↑(p0.number.length):Int) d7 lx hs dU dS) (.inr Z) ?_
 rintro df vP xi lV cm sm ⟨dg,dC,rfl,rfl⟩
 let cy:Res:=.row dg dC 3 1 (hD KL.encI ap)
 have eI:SW w [B1,.obj O (.map ab ac)] φ df [cy,.blk b4 133 B0,B1,.obj O (.map ab ac)] lV:=sm
 refine oL Z (eI.lenM (j:=3) (mk:=wBU) (mv:=wBc) Z Z Z (wBj ZS) cj) (ZJ ?_ ?_)
 refine ZR (pv:=[(0,jV (-1))]) (zs:=[jV 0]) (cs:=[jV (-1)]) Z Z Z Z Z (wAG Z wAR) zK zC ZG Z Z Z Z Z eI ?_
 intro d8 dz sn
 have jo:SW w [B1,.obj O (.map ab ac)] φ df [.row (some ⟨dz,0,none⟩) 1 3 1 (hD KL.encI [-1]),cy,.blk b4 133 B0,B1,.obj O (.map ab ac)] d8:=sn
 refine ZJ ?_ ?_
 have q:=jo.freezeR (k:=0) (n:=[-1].length) rfl (wAE (f:=KL.encI) (sz:=1) (fun _=>rfl) [-1]) (by decide)
 obtain ⟨ly,k6,jO,so⟩:=q
 have sq:SW w [B1,.obj O (.map ab ac)] φ ly [cy,.blk b4 133 B0,B1,.obj O (.map ab ac)] d8:=so
 refine zD 0 Z Z Z Z (zE Z Z YG (zB Z (zB Z zM)) Z) sq (fun hs=>wAw [-1] (some ⟨dz,0,none⟩) 1 (↑(p0.number.length):Int) d8 ly hs jO dT) (.inr Z) ?_
 rintro lz vQ xj lW fb sr ⟨ft,gw,rfl,rfl⟩
 have ss:SW w [B1,.obj O (.map ab ac)] φ lz [.row ft gw 3 1 (hD KL.encI aG),cy,.blk b4 133 B0,B1,.obj O (.map ab ac)] lW:=sr
 have rf:=dU.le cm
 have rh:=rf.le k6
 have ri:=rh.le fb
 have rk:=jO.le fb
 exact j5 _ _ ⟨lz,(some ⟨bt,0,none⟩),1,dg,dC,(some ⟨dz,0,none⟩),1,ft,gw,rfl,rfl,rfl,rfl,rfl,rfl,rfl,rfl,rfl,rfl,rfl,rfl,rfl,rfl,rfl,rfl,rfl,rfl,(((e9.trans cm).trans k6).trans fb),(ss.pick [2,3,4,1,0] _ (by decide) rfl),ri,rk⟩
 refine zV (cs:=B0) Z Z Z Z Z Zl Z jo ?_
 intro vW mh su
 have rn:=dU.le cm
 exact dV _ _ ⟨df,mh,(some ⟨bt,0,none⟩),1,dg,dC,(some ⟨dz,0,none⟩),1,rfl,rfl,rfl,rfl,rfl,rfl,rfl,rfl,rfl,rfl,rfl,rfl,rfl,rfl,rfl,rfl,rfl,rfl,(e9.trans cm),(su.pick [3,4,5,0,2,1] _ (by decide) rfl),rn⟩
 refine zV (cs:=B0) Z Z Z Z Z Zl Z eI ?_
 intro vX ga sv
 refine ZR (pv:=[(0,jV (-1))]) (zs:=[jV 0]) (cs:=[jV (-1)]) Z Z Z Z Z (wAG Z wAR) zK zC ZG Z Z Z Z Z sv ?_
 intro lX ge sw
 have sA:SW w [B1,.obj O (.map ab ac)] φ df [.row (some ⟨ge,0,none⟩) 1 3 1 (hD KL.encI [-1]),.blk ga 133 B0,cy,.blk b4 133 B0,B1,.obj O (.map ab ac)] lX:=sw
 have rp:=dU.le cm
 exact dV _ _ ⟨df,ga,(some ⟨bt,0,none⟩),1,dg,dC,(some ⟨ge,0,none⟩),1,rfl,rfl,rfl,rfl,rfl,rfl,rfl,rfl,rfl,rfl,rfl,rfl,rfl,rfl,rfl,rfl,rfl,rfl,(e9.trans cm),(sA.pick [3,4,5,1,2,0] _ (by decide) rfl),rp⟩
 refine ZJ ?_ ?_
 refine ZR (pv:=[(0,jV (-1))]) (zs:=[jV 0]) (cs:=[jV (-1)]) Z Z Z Z Z (wAG Z wAR) zK zC ZG Z Z Z Z Z eH ?_
 intro lY gg sB
 have sC:SW w [B1,.obj O (.map ab ac)] φ φ [.row (some ⟨gg,0,none⟩) 1 3 1 (hD KL.encI [-1]),B9,.blk b4 133 B0,B1,.obj O (.map ab ac)] lY:=sB
 exact jY _ _ ⟨φ,(some ⟨bt,0,none⟩),1,(some ⟨gg,0,none⟩),1,rfl,rfl,rfl,rfl,rfl,rfl,rfl,rfl,rfl,rfl,rfl,rfl,rfl,rfl,rfl,(zS _),(sC.pick [2,3,4,1,0] _ (by decide) rfl)⟩
 refine zV (cs:=B0) Z Z Z Z Z Zl Z eH ?_
 intro vY mi sD
 exact j7 _ _ ⟨φ,mi,(some ⟨bt,0,none⟩),1,rfl,rfl,rfl,rfl,rfl,rfl,rfl,rfl,rfl,rfl,rfl,rfl,rfl,rfl,rfl,(zS _),(sD.pick [2,3,4,0,1] _ (by decide) rfl)⟩
 refine ZJ ?_ ?_
 refine ZR (pv:=[(0,jV (-1))]) (zs:=[jV 0]) (cs:=[jV (-1)]) Z Z Z Z Z (wAG Z wAR) zK zC ZG Z Z Z Z Z bE ?_
 intro lZ eg sE
 let fB:Res:=.row (some ⟨eg,0,none⟩) 1 3 1 (hD KL.encI [-1])
 have jp:SW w [B1,.obj O (.map ab ac)] φ φ [fB,.blk b4 133 B0,B1,.obj O (.map ab ac)] lZ:=sE
 refine ZJ ?_ ?_
 refine ZR (pv:=[(0,jV 1125899906842624)]) (zs:=[jV 0]) (cs:=[jV 1125899906842624]) Z Z Z Z Z (wAG Z wAR) zK zC ZG Z Z Z Z Z jp ?_
 intro l0 gh sF
 have sG:SW w [B1,.obj O (.map ab ac)] φ φ [.row (some ⟨gh,0,none⟩) 1 3 1 (hD KL.encI [1125899906842624]),fB,.blk b4 133 B0,B1,.obj O (.map ab ac)] l0:=sF
 exact jY _ _ ⟨φ,(some ⟨gh,0,none⟩),1,(some ⟨eg,0,none⟩),1,rfl,rfl,rfl,rfl,rfl,rfl,rfl,rfl,rfl,rfl,rfl,rfl,rfl,rfl,rfl,(zS _),(sG.pick [2,3,4,0,1] _ (by decide) rfl)⟩
 refine zV (cs:=B0) Z Z Z Z Z Zl Z jp ?_
 intro vZ mj sH
 exact j6 _ _ ⟨φ,mj,(some ⟨eg,0,none⟩),1,rfl,rfl,rfl,rfl,rfl,rfl,rfl,rfl,rfl,rfl,rfl,rfl,rfl,rfl,rfl,(zS _),(sH.pick [2,3,4,0,1] _ (by decide) rfl)⟩
 refine zV (cs:=B0) Z Z Z Z Z Zl Z bE ?_
 intro v4 dA jq
 refine ZJ ?_ ?_
 refine ZR (pv:=[(0,jV 1125899906842624)]) (zs:=[jV 0]) (cs:=[jV 1125899906842624]) Z Z Z Z Z (wAG Z wAR) zK zC ZG Z Z Z Z Z jq ?_
 intro l3 gi sI
 have sJ:SW w [B1,.obj O (.map ab ac)] φ φ [.row (some ⟨gi,0,none⟩) 1 3 1 (hD KL.encI [1125899906842624]),.blk dA 133 B0,.blk b4 133 B0,B1,.obj O (.map ab ac)] l3:=sI
 exact j7 _ _ ⟨φ,dA,(some ⟨gi,0,none⟩),1,rfl,rfl,rfl,rfl,rfl,rfl,rfl,rfl,rfl,rfl,rfl,rfl,rfl,rfl,rfl,(zS _),(sJ.pick [2,3,4,1,0] _ (by decide) rfl)⟩
 refine ZR (pv:=[(0,jV (-1))]) (zs:=[jV 0]) (cs:=[jV (-1)]) Z Z Z Z Z (wAG Z wAR) zK zC ZG Z Z Z Z Z jq ?_
 intro l4 gj sK
 have sL:SW w [B1,.obj O (.map ab ac)] φ φ [.row (some ⟨gj,0,none⟩) 1 3 1 (hD KL.encI [-1]),.blk dA 133 B0,.blk b4 133 B0,B1,.obj O (.map ab ac)] l4:=sK
 exact j6 _ _ ⟨φ,dA,(some ⟨gj,0,none⟩),1,rfl,rfl,rfl,rfl,rfl,rfl,rfl,rfl,rfl,rfl,rfl,rfl,rfl,rfl,rfl,(zS _),(sL.pick [2,3,4,1,0] _ (by decide) rfl)⟩
 rintro xv v5 ⟨lA,b8,ak,am,an,ao,mu,mw,my,mz,gR,vl,jr⟩
 refine zL (sR fL4 Z (oR Z (zF Z gR ZZ Z zg) (oL Z (jr.ldB (j:=3) Z Z Z zr (v:=.slice ak l9.length am) Z) (oR Z (zi Z Z zK) (oM Z Z (eN (zY (bnK jL fun xr ue eY=>?_))))))))
 have q:=wCC ue
 obtain ⟨eV,uf⟩:=q
 replace eV:=zN eV
 let bq:Res:=.row an ao 3 1 (hD KL.encI a6)
 refine CK.forN' (fun aZ aI σ_ w_=>∃ (φ_:PHeap),σ_ 34=jV (↑aZ:Int)/\σ_ 0=.pointer (some ⟨af,0,none⟩)/\σ_ 1=jV p1/\σ_ 2=.bool p2/\σ_ 6=.pointer (some ⟨b4,0,none⟩)/\σ_ 9=.pointer (some ⟨b8,0,none⟩)/\σ_ 33=jV (↑l9.length:Int)/\PHeap.Le lA φ_/\SW w [B1,.obj O (.map ab ac)] φ φ_ [.blk b4 133 B0,B1,.obj O (.map ab ac),.row ak am 3 1 (hD KL.encI aI),bq,.blk b8 133 [.slice ak aI.length am,.slice an a6.length ao]] w_/\aI.length=l9.length) uf ?_ ?_ ?_
 exact ⟨lA,rfl,mu,mw,my,mz,gR,rfl,(zS _),(jr.pick [0,1,2,4,5,3] _ (by decide) rfl),rfl⟩
 rintro aZ aI xo xw v7 eR ⟨bF,cV,ey,cQ,ez,eA,cR,dM,fc,bD,eG⟩ jU
 have gx:Hid ((↑aZ:Int) < (↑l9.length:Int)):=zN (wBO eR)
 replace eR:=zN eR
 have eQ:Hid (w64 ((↑aZ:Int) + 1)=(↑(aZ + 1):Int)):=zN (by have h1:=eV.out;have h2:=gx.out;rw [wAb] <;> omega)
 refine sR fL1 Z (oR Z (ze Z cV dM) (eN (zL (cT Z gx (kN (zL (zY (sR fL2 Z (oM Z cV (oA Z Z (eN (sR fL7 Z (oM Z cQ (oR Z (ze Z Z Z) (oM Z Z ?_)))))))))))))))
 by_cases aK:p1 < 0
 have jD:=jU;rw [if_pos aK] at jD;replace aK:=zN aK
 refine oT Z aK (oT Z aK (oT Z aK (oR Z (zR Z (Zd aK.out) Z) (eN (ZD Z (rR (wEF (.fx 4 .nil .stop)) Z (oR Z (zF Z cR ZZ Z zg) (oL Z (bD.ldB (j:=5) Z Z Z zr (v:=.slice ak aI.length am) Z) (oM Z Z (bnK jD fun _ dQ uI=>?_))))))))))
 obtain ⟨wv,jg⟩:=bD.rowSome (j:=3) rfl (by rw [wAE (f:=KL.encI) (sz:=1) (fun _=>rfl) aI];have hz:=wAW dQ;omega)
 refine oR Z (Zc Z Z jg Z zK zC (wAW dQ)) ?_
 have uj:=wBK (xs:=aI) (wAW dQ)
 refine yw (j:=3) (vs:=[jV 0]) (cs':=hD KL.encI (nH aI aZ 0)) rfl rfl rfl rfl bD rfl jg rfl rfl rfl zC (by rw [wAE (f:=KL.encI) (sz:=1) (fun _=>rfl)];have hz:=wAW dQ;show _ + 1 <= _;first | omega | (simp only [nE];omega) | (simp only [nD,hU,nA];omega)) rfl (wDV (sz:=1) (fo:=0) (fun _=>rfl) _ _ _ _ uj (by first | omega | (simp only [nE];omega) | (simp only [nD,hU,nA];omega)) (zA rfl) rfl) rfl ?_
 intro fL sM
 let d4:Res:=.row ak am 3 1 (hD KL.encI (nH aI aZ 0))
 have sN:SW w [B1,.obj O (.map ab ac)] φ bF [.blk b4 133 B0,B1,.obj O (.map ab ac),d4,bq,.blk b8 133 [.slice ak aI.length am,.slice an a6.length ao]] fL:=sM
 have sO:SW w [B1,.obj O (.map ab ac)] φ bF [.blk b4 133 B0,B1,.obj O (.map ab ac),d4,bq,.blk b8 133 [.slice ak ((nH aI aZ 0).length) am,.slice an a6.length ao]] fL:=by simpa only [B0,B1,bq,d4,nG] using sN
 refine zf (zm (zJ (rR fL2 Z (oR Z (ZU (zh Z cV Z) (congrArg (jV) eQ.out)) (oM Z Z (zf ?_))))))
 cases uI
 exact zJ ⟨Z,⟨bF,Z,ey,cQ,ez,eA,cR,dM,fc,sO,(nG.trans eG)⟩⟩
 have jE:=jU;rw [if_neg aK] at jE;replace aK:=zN aK
 refine zw Z Z Z (wF Z aK) Z Z (zw Z Z Z (wF Z aK) Z cQ (rU Z (wF Z aK) (Zy Z Z Z) (oR Z (zW Z (zu aK.out) Z) (eN (ifc jE ?_ ?_)))))
 intro eh uJ
 refine cT Z eh (rR (wEF (.fx 4 .nil .stop)) Z (oR Z (zF Z cR ZZ Z zg) (oL Z (bD.ldB (j:=5) Z Z Z zr (v:=.slice ak aI.length am) Z) (oM Z Z (bnK uJ fun _ dR uK=>?_)))))
 obtain ⟨ww,jh⟩:=bD.rowSome (j:=3) rfl (by rw [wAE (f:=KL.encI) (sz:=1) (fun _=>rfl) aI];have hz:=wAW dR;omega)
 refine oR Z (Zc Z Z jh Z zK zC (wAW dR)) ?_
 have uk:=wBK (xs:=aI) (wAW dR)
 refine yw (j:=3) (vs:=[jV 0]) (cs':=hD KL.encI (nH aI aZ 0)) rfl rfl rfl rfl bD rfl jh rfl rfl rfl zC (by rw [wAE (f:=KL.encI) (sz:=1) (fun _=>rfl)];have hz:=wAW dR;show _ + 1 <= _;first | omega | (simp only [nE];omega) | (simp only [nD,hU,nA];omega)) rfl (wDV (sz:=1) (fo:=0) (fun _=>rfl) _ _ _ _ uk (by first | omega | (simp only [nE];omega) | (simp only [nD,hU,nA];omega)) (zA rfl) rfl) rfl ?_
 intro fM sP
 let d5:Res:=.row ak am 3 1 (hD KL.encI (nH aI aZ 0))
 have sQ:SW w [B1,.obj O (.map ab ac)] φ bF [.blk b4 133 B0,B1,.obj O (.map ab ac),d5,bq,.blk b8 133 [.slice ak aI.length am,.slice an a6.length ao]] fM:=sP
 have sS:SW w [B1,.obj O (.map ab ac)] φ bF [.blk b4 133 B0,B1,.obj O (.map ab ac),d5,bq,.blk b8 133 [.slice ak ((nH aI aZ 0).length) am,.slice an a6.length ao]] fM:=by simpa only [B0,B1,bq,d5,nG] using sQ
 refine zf (zm (zJ (rR fL2 Z (oR Z (ZU (zh Z cV Z) (congrArg (jV) eQ.out)) (oM Z Z (zf ?_))))))
 cases uK
 exact zJ ⟨Z,⟨bF,Z,ey,cQ,ez,eA,cR,dM,fc,sS,(nG.trans eG)⟩⟩
 intro eh uL
 refine cF Z eh (Zf (zm (zJ (rR fL2 Z (oR Z (ZU (zh Z cV Z) (congrArg (jV) eQ.out)) (oM Z Z (zf ?_)))))))
 cases uL
 exact zJ ⟨Z,⟨bF,Z,ey,cQ,ez,eA,cR,dM,fc,bD,eG⟩⟩
 rintro xx v8 ⟨lB,q7,gS,wE,mA,mB,mC,mD,vm,eJ,rq⟩
 have mp:Hid (¬ ((↑(((↑l9.length:Int):Int) - 0).toNat:Int) < (↑l9.length:Int))):=zN (wAq)
 refine sR fL1 Z (oR Z (ze Z q7 mD) (eN (zL (cF Z mp (Za (zq (zq (ZW (zJ (sR fL1 Z (oA Z Z (eN (zL (sR fL7 Z (oM Z gS (oR Z (Zt Z Z) (oR Z (zF Z Z ZH Z Zw) (oL Z (eJ.ldB (j:=1) Z Z Z yC (v:=.map (some O)) Z) (oL Z (eJ.lenM (j:=2) (mk:=wBU) (mv:=wBc) Z Z Z (wBj ZS) cj) (oR Z (zh Z Z Z) (oM Z Z (eN (zY ?_)))))))))))))))))))))))
 have q:=wCA eY
 obtain ⟨xf,eP⟩:=q
 have q:=wCT eP
 obtain ⟨eW,ug⟩:=q
 replace eW:=zN eW
 refine yc (fun a5 (dW,dX,lk) σ_ w_=>∃ (φ_:PHeap),σ_ 55=jV (↑a5:Int)/\σ_ 0=.pointer (some ⟨af,0,none⟩)/\σ_ 2=.bool p2/\σ_ 6=.pointer (some ⟨b4,0,none⟩)/\σ_ 9=.pointer (some ⟨b8,0,none⟩)/\σ_ 11=jV lk/\σ_ 54=jV (w64 ((↑(p0.number.length):Int) + 1))/\PHeap.Le lB φ_/\SW w [B1,.obj O (.map ab ac)] φ φ_ [.blk b4 133 B0,B1,.obj O (.map ab ac),.row ak am 3 1 (hD KL.encI dW),.row an ao 3 1 (hD KL.encI dX),.blk b8 133 [.slice ak dW.length am,.slice an dX.length ao]] w_/\dW.length=l9.length/\dX.length=a6.length) ug ?_ ?_ ?_
 exact ⟨lB,Z,gS,mA,mB,mC,Z,Z,(zS _),eJ,rq,Z⟩
 rintro a5 ⟨dW,dX,lk⟩ xp xz v9 eS ⟨lC,jd,gT,mE,mF,mG,wG,gU,k7,jt,rv,rx⟩ jW ub
 try dsimp only at jW
 have gy:Hid ((↑a5:Int) < (w64 ((↑(p0.number.length):Int) + 1))):=zN (wBO eS)
 replace eS:=zN eS
 have uG:Hid (w64 ((↑a5:Int) + 1)=(↑(a5 + 1):Int)):=zN (by have h1:=eW.out;have h2:=gy.out;rw [wAb] <;> omega)
 refine sR fL1 Z (oR Z (ze Z jd gU) (eN (zL (cT Z gy (kN (zL (zY (sR fL1 Z (oA Z Z (eN (zL (sR fL6 Z (oM Z gT (oR Z (Zt Z Z) (oR Z (zF Z Z ZH Z yn) (oL Z (jt.ldB (j:=1) Z Z Z Tryz.isAgg137 (v:=.slice aV p0.edges.length aW) Z) (oR Z (zi Z Z yt) (oM Z Z (eN (zY ?_))))))))))))))))))))
 have q:=bnd jW
 obtain ⟨⟨lm,ln,xt⟩,uh,jF⟩:=q
 try dsimp only at jF
 have q:=wCC uh
 obtain ⟨eX,ui⟩:=q
 replace eX:=zN eX
 refine CK.forN' (fun aE (aj,av,ll) σ_ w_=>∃ (φ_:PHeap),σ_ 62=jV (↑aE:Int)/\σ_ 0=.pointer (some ⟨af,0,none⟩)/\σ_ 2=.bool p2/\σ_ 6=.pointer (some ⟨b4,0,none⟩)/\σ_ 9=.pointer (some ⟨b8,0,none⟩)/\σ_ 11=jV ll/\σ_ 54=jV (w64 ((↑(p0.number.length):Int) + 1))/\σ_ 55=jV (↑a5:Int)/\σ_ 60=.slice aV p0.edges.length aW/\σ_ 61=jV (↑p0.edges.length:Int)/\PHeap.Le lC φ_/\SW w [B1,.obj O (.map ab ac)] φ φ_ [.blk b4 133 B0,B1,.obj O (.map ab ac),.row ak am 3 1 (hD KL.encI aj),.row an ao 3 1 (hD KL.encI av),.blk b8 133 [.slice ak aj.length am,.slice an av.length ao]] w_/\aj.length=l9.length/\av.length=a6.length) ui ?_ ?_ ?_
 exact ⟨lC,Z,gT,mE,mF,mG,Z,gU,jd,Z,Z,(zS _),jt,rv,rx⟩
 rintro aE ⟨aj,av,ll⟩ xq xA wc eU ⟨az,bd,ca,bA,cb,aS,dN,cc,cd,bB,bC,k8,ju,cf,cg⟩ jX
 try dsimp only at jX
 have gz:Hid ((↑aE:Int) < (↑p0.edges.length:Int)):=zN (wBO eU)
 replace eU:=zN eU
 have uH:Hid (w64 ((↑aE:Int) + 1)=(↑(aE + 1):Int)):=zN (by have h1:=eX.out;have h2:=gz.out;rw [wAb] <;> omega)
 refine sR fL1 Z (oR Z (ze Z bd bC) (eN (zL (cT Z gz (kN ?_)))))
 have q:=bnd jX
 obtain ⟨⟨e6,e8,vE⟩,vc,jG⟩:=q
 try dsimp only at jG
 refine yX (fun σ_ w_=>∃ (φ_:PHeap),σ_ 0=.pointer (some ⟨af,0,none⟩)/\σ_ 2=.bool p2/\σ_ 6=.pointer (some ⟨b4,0,none⟩)/\σ_ 9=.pointer (some ⟨b8,0,none⟩)/\σ_ 11=jV vE/\σ_ 54=jV (w64 ((↑(p0.number.length):Int) + 1))/\σ_ 55=jV (↑a5:Int)/\σ_ 60=.slice aV p0.edges.length aW/\σ_ 61=jV (↑p0.edges.length:Int)/\σ_ 62=jV (↑aE:Int)/\PHeap.Le az φ_/\SW w [B1,.obj O (.map ab ac)] φ φ_ [.blk b4 133 B0,B1,.obj O (.map ab ac),.row ak am 3 1 (hD KL.encI e6),.row an ao 3 1 (hD KL.encI e8),.blk b8 133 [.slice ak e6.length am,.slice an e8.length ao]] w_/\e6.length=l9.length/\e8.length=a6.length) ?_ ?_
 refine zY (sR (wDK (.fx 3 (.fl 4 (.fx 5 .nil .stop)) .stop)) Z (oM Z bd (bnK vc fun ai je uM=>?_)))
 have ry:=ua.le vl
 have rz:=ry.le vm
 have rA:=rz.le k7
 have rC:=rA.le k8
 have q:=rC.el (fun _=>rfl) (wAe je)
 obtain ⟨wx,xe,r7,r8⟩:=q
 refine oR Z (Zc Z bB r7 bd yt yu (wCa je)) (oL Z (ju.ldCA (f:=0) r8 Z Z Tryz.isAgg184 yu (us:=[jV ai.step.Kind,jV ai.step.Skier,jV ai.step.Index,.bool ai.step.Up,jV ai.from_,jV ai.to_,jV ai.count]) Z Z) (zV (cs:=[jV 0,jV 0,jV 0,.bool false,jV 0,jV 0,jV 0]) Z Z Z Z Z Tryz.zeroValue184 Z ju ?_))
 intro wd aH sT
 refine oA Z Z ?_
 let ax:List Value:=[jV ai.step.Kind,jV ai.step.Skier,jV ai.step.Index,.bool ai.step.Up,jV ai.from_,jV ai.to_,jV ai.count]
 refine zX (j:=0) (vs:=ax) Z Z Z Z sT Z Z Z Z yu (zA Z) Z Z Z ?_
 intro d9 sU
 let aN:Res:=.row an ao 3 1 (hD KL.encI av)
 let bc:Res:=.blk b8 133 [.slice ak aj.length am,.slice an av.length ao]
 have sV:SW w [B1,.obj O (.map ab ac)] φ az [.blk aH 184 ax,.blk b4 133 B0,B1,.obj O (.map ab ac),.row ak am 3 1 (hD KL.encI aj),aN,bc] d9:=sU
 refine eN (zL (zx zt [3,1,3,1,3,3] fL6 (by kernel_rfl) ?_))
 have cW:=sV.drew
 generalize hw_W1431:({ d9 with drawn:=d9.drawn + 1 }:World)=dy at cW ⊢
 refine oR Z (zF Z Z yU Z zC) (oL Z (cW.ldB (j:=0) Z Z Z zG (v:=jV ai.from_) Z) (oR Z (zF Z Z yU Z zC) (oL Z (cW.ldB (j:=0) Z Z Z zG (v:=jV ai.to_) Z) (oA Z Z (oA Z Z (eN (zL (sR fL1 Z (oM Z bA (eN (ifc uM ?_ ?_)))))))))))
 intro ej uN
 refine ZD (congrArg hH ej.out) (rR fL4 rfl (zw rfl rfl rfl rfl rfl rfl (zw rfl rfl rfl rfl rfl rfl (yP rfl rfl rfl rfl rfl rfl (yP rfl rfl rfl rfl rfl rfl (eN (zL (zx zt [3,1,3,3,1,3,3,3,1,3,3,1,3,1,3,3,1,3,3,1,3,3] fL22 (by kernel_rfl) ?_))))))))
 have aT:=cW.drew
 generalize hw_W1435:({ dy with drawn:=dy.drawn + 1 }:World)=fN at aT ⊢
 refine oR Z (zF Z aS ZZ Z zg) (oL Z (aT.ldB (j:=6) Z Z Z zr (v:=.slice ak aj.length am) Z) (oM Z Z (bnK uN fun _ a8 uO=>?_)))
 obtain ⟨wy,aX⟩:=aT.rowSome (j:=4) rfl (by rw [wAE (f:=KL.encI) (sz:=1) (fun _=>rfl) aj];have hz:=wAW a8;omega)
 refine oR Z (ZM Z Z aX Z zK zC (wBq a8) (wBr a8)) ?_
 have um:=wBK (xs:=aj) (wAW a8)
 refine ZE rfl rfl rfl rfl (aT.ldR (j:=4) rfl aX rfl rfl zG (wAc (sz:=1) (fun _=>rfl) _ _ 0 _ um (by first | omega | rfl | simp) rfl)) rfl (za rfl rfl rfl rfl (fun _=>ze rfl rfl rfl) (zw rfl rfl rfl rfl rfl rfl (ifc uO ?_ ?_)))
 intro aq uP
 refine rU Z (wT Z aq) (zF Z aS ZZ Z zg) (ZE Z Z Z (wT Z aq) (aT.ldB (j:=6) Z Z Z zr (v:=.slice ak aj.length am) Z) Z (zw Z Z Z (wT Z aq) Z Z (rU Z (wT Z aq) (ZM Z Z aX Z zK zC (wBq a8) (wBr a8)) ?_)))
 have uo:=wBK (xs:=aj) (wAW a8)
 refine ZE rfl rfl rfl (zI rfl rfl (Zd aq.out)) (aT.ldR (j:=4) rfl aX rfl rfl zG (wAc (sz:=1) (fun _=>rfl) _ _ 0 _ uo (by first | omega | rfl | simp) rfl)) rfl (za rfl rfl rfl (zI rfl rfl (Zd aq.out)) (fun _=>zF rfl rfl yU rfl zC) (ZE rfl rfl rfl (zI rfl rfl (Zd aq.out)) (aT.ldB (j:=0) rfl rfl rfl zG (v:=jV ai.count) rfl) rfl (za rfl rfl rfl (zI rfl rfl (Zd aq.out)) (fun _=>zh rfl rfl rfl) (za rfl rfl rfl (zI rfl rfl (Zd aq.out)) (fun _=>zF rfl aS ZZ rfl zg) (ZE rfl rfl rfl (zI rfl rfl (Zd aq.out)) (aT.ldB (j:=6) rfl rfl rfl zr (v:=.slice ak aj.length am) rfl) rfl (zw rfl rfl rfl (zI rfl rfl (Zd aq.out)) rfl rfl (bnK uP fun _ be uQ=>za rfl rfl rfl (zI rfl rfl (Zd aq.out)) (fun _=>ZM rfl rfl aX rfl zK zC (wBq be) (wBr be)) ?_)))))))
 have uq:=wBK (xs:=aj) (wAW be)
 refine ZE rfl rfl rfl (zI rfl rfl (Zd aq.out)) (aT.ldR (j:=4) rfl aX rfl rfl zG (wAc (sz:=1) (fun _=>rfl) _ _ 0 _ uq (by first | omega | rfl | simp) rfl)) rfl (za rfl rfl rfl (zI rfl rfl (Zd aq.out)) (fun _=>ze rfl rfl rfl) (za rfl rfl rfl rfl (fun _=>zR rfl (Zd aq.out) rfl) (eN (ifc uQ ?_ ?_))))
 intro ek uR
 refine cT Z ek ?_
 have q:=bnd uR
 obtain ⟨⟨⟩,vd,jH⟩:=q
 try dsimp only at jH
 let aO:Res:=.row ak am 3 1 (hD KL.encI (nH aj ai.from_.toNat (w64 ((gd aj ai.to_.toNat) + ai.count))))
 let cz:Res:=.blk b8 133 [.slice ak ((nH aj ai.from_.toNat (w64 ((gd aj ai.to_.toNat) + ai.count))).length) am,.slice an ((nH av ai.from_.toNat (↑aE:Int)).length) ao]
 let br:Res:=.row an ao 3 1 (hD KL.encI (nH av ai.from_.toNat (↑aE:Int)))
 refine yX (fun σ_ w_=>∃ (φ_:PHeap),σ_ 0=.pointer (some ⟨af,0,none⟩)/\σ_ 2=.bool p2/\σ_ 6=.pointer (some ⟨b4,0,none⟩)/\σ_ 9=.pointer (some ⟨b8,0,none⟩)/\σ_ 15=jV ai.from_/\σ_ 54=jV (w64 ((↑(p0.number.length):Int) + 1))/\σ_ 55=jV (↑a5:Int)/\σ_ 60=.slice aV p0.edges.length aW/\σ_ 61=jV (↑p0.edges.length:Int)/\σ_ 62=jV (↑aE:Int)/\PHeap.Le az φ_/\SW w [B1,.obj O (.map ab ac)] φ φ_ [.blk aH 184 ax,.blk b4 133 B0,B1,.obj O (.map ab ac),aO,br,cz] w_) ?_ ?_
 refine yR fun aQ aL=>?_
 have gV:aQ 0=.pointer (some ⟨af,0,none⟩):=(aL 0).trans ca
 have gW:aQ 2=.bool p2:=(aL 2).trans bA
 have gX:aQ 6=.pointer (some ⟨b4,0,none⟩):=(aL 6).trans cb
 have cS:aQ 9=.pointer (some ⟨b8,0,none⟩):=(aL 9).trans aS
 have mH:aQ 12=jV (↑aE:Int):=(aL 12).trans rfl
 have mI:aQ 13=.pointer (some ⟨aH,0,none⟩):=(aL 13).trans rfl
 have mJ:aQ 14=jV ai.to_:=(aL 14).trans rfl
 have dO:aQ 15=jV ai.from_:=(aL 15).trans rfl
 have gY:aQ 54=jV (w64 ((↑(p0.number.length):Int) + 1)):=(aL 54).trans cc
 have gZ:aQ 55=jV (↑a5:Int):=(aL 55).trans cd
 have g7:aQ 60=.slice aV p0.edges.length aW:=(aL 60).trans bB
 have g8:aQ 61=jV (↑p0.edges.length:Int):=(aL 61).trans bC
 have g9:aQ 62=jV (↑aE:Int):=(aL 62).trans bd
 clear aL
 refine bnK vd fun _ a9 jI=>zx zt [3,1,3,3,2,3,3,1,3,3,1,3,1,3,3,3,0,3,0] (wEF (wNN gDf)) (by kernel_rfl) ?_
 have bh:=aT.drew
 generalize hw_W1484:({ fN with drawn:=fN.drawn + 1 }:World)=we at bh ⊢
 refine oR Z (zF Z cS ZZ Z zg) (oL Z (bh.ldB (j:=6) Z Z Z zr (v:=.slice ak aj.length am) Z) (oM Z dO (oR Z (zF Z cS ZZ Z zg) (oM Z dO (oR Z (zF Z cS ZZ Z zg) (oL Z (bh.ldB (j:=6) Z Z Z zr (v:=.slice ak aj.length am) Z) (oM Z mJ (oR Z (ZM Z Z aX Z zK zC (wBq a8) (wBr a8)) ?_))))))))
 have ur:=wBK (xs:=aj) (wAW a8)
 refine ZE rfl rfl rfl rfl (bh.ldR (j:=4) rfl aX rfl rfl zG (wAc (sz:=1) (fun _=>rfl) _ _ 0 _ ur (by first | omega | rfl | simp) rfl)) rfl (za rfl rfl rfl rfl (fun _=>zF rfl mI yU rfl zC) (ZE rfl rfl rfl rfl (bh.ldB (j:=0) rfl rfl rfl zG (v:=jV ai.count) rfl) rfl (za rfl rfl rfl rfl (fun _=>zh rfl rfl rfl) (zw rfl rfl rfl rfl rfl mH (za rfl rfl rfl rfl (fun _=>ZM rfl rfl aX rfl zK zC (wBq be) (wBr be)) (ZJ ?_ ?_))))))
 refine Zh Z Z Z Z (bh.ldB (j:=6) Z Z Z zr (v:=.slice an av.length ao) Z) ?_
 have uu:=wBK (xs:=aj) (wAW be)
 refine yw (j:=4) (vs:=[jV (w64 ((gd aj ai.to_.toNat) + ai.count))]) (cs':=hD KL.encI (nH aj ai.from_.toNat (w64 ((gd aj ai.to_.toNat) + ai.count)))) rfl rfl rfl rfl bh rfl aX rfl rfl rfl zC (by rw [wAE (f:=KL.encI) (sz:=1) (fun _=>rfl)];have hz:=wAW be;show _ + 1 <= _;first | omega | (simp only [nE];omega) | (simp only [nD,hU,nA];omega)) rfl (wDV (sz:=1) (fo:=0) (fun _=>rfl) _ _ _ _ uu (by first | omega | (simp only [nE];omega) | (simp only [nD,hU,nA];omega)) (zA rfl) rfl) rfl ?_
 intro fO sX
 have sY:SW w [B1,.obj O (.map ab ac)] φ az [.blk aH 184 ax,.blk b4 133 B0,B1,.obj O (.map ab ac),aO,aN,bc] fO:=sX
 let du:Res:=.blk b8 133 [.slice ak ((nH aj ai.from_.toNat (w64 ((gd aj ai.to_.toNat) + ai.count))).length) am,.slice an av.length ao]
 have jv:SW w [B1,.obj O (.map ab ac)] φ az [.blk aH 184 ax,.blk b4 133 B0,B1,.obj O (.map ab ac),aO,aN,du] fO:=by simpa only [B0,B1,ax,aN,bc,aO,du,nG] using sY
 obtain ⟨wz,ji⟩:=jv.rowSome (j:=5) rfl (by rw [wAE (f:=KL.encI) (sz:=1) (fun _=>rfl) av];have hz:=wAW a9;omega)
 refine oR Z (ZM Z Z ji Z zK zC (wBq a9) (wBr a9)) ?_
 have uv:=wBK (xs:=av) (wAW a9)
 refine yw (j:=5) (vs:=[jV (↑aE:Int)]) (cs':=hD KL.encI (nH av ai.from_.toNat (↑aE:Int))) rfl rfl rfl rfl jv rfl ji rfl rfl rfl zC (by rw [wAE (f:=KL.encI) (sz:=1) (fun _=>rfl)];have hz:=wAW a9;show _ + 1 <= _;first | omega | (simp only [nE];omega) | (simp only [nD,hU,nA];omega)) rfl (wDV (sz:=1) (fo:=0) (fun _=>rfl) _ _ _ _ uv (by first | omega | (simp only [nE];omega) | (simp only [nD,hU,nA];omega)) (zA rfl) rfl) rfl ?_
 intro fP sZ
 have s3:SW w [B1,.obj O (.map ab ac)] φ az [.blk aH 184 ax,.blk b4 133 B0,B1,.obj O (.map ab ac),aO,br,du] fP:=sZ
 have s4:SW w [B1,.obj O (.map ab ac)] φ az [.blk aH 184 ax,.blk b4 133 B0,B1,.obj O (.map ab ac),aO,br,cz] fP:=by simpa only [B0,B1,ax,aO,cz,br,du,nG] using s3
 refine zf ?_
 cases jI
 exact zJ ⟨Z,⟨az,gV,gW,gX,cS,dO,gY,gZ,g7,g8,g9,(zS _),s4⟩⟩
 have uw:=wBK (xs:=aj) (wAW be)
 refine yw (j:=4) (vs:=[jV (w64 ((gd aj ai.to_.toNat) + ai.count))]) (cs':=hD KL.encI (nH aj ai.from_.toNat (w64 ((gd aj ai.to_.toNat) + ai.count)))) rfl rfl rfl rfl bh rfl aX rfl rfl rfl zC (by rw [wAE (f:=KL.encI) (sz:=1) (fun _=>rfl)];have hz:=wAW be;show _ + 1 <= _;first | omega | (simp only [nE];omega) | (simp only [nD,hU,nA];omega)) rfl (wDV (sz:=1) (fo:=0) (fun _=>rfl) _ _ _ _ uw (by first | omega | (simp only [nE];omega) | (simp only [nD,hU,nA];omega)) (zA rfl) rfl) rfl ?_
 intro fQ s5
 have s6:SW w [B1,.obj O (.map ab ac)] φ az [.blk aH 184 ax,.blk b4 133 B0,B1,.obj O (.map ab ac),aO,aN,bc] fQ:=s5
 let dv:Res:=.blk b8 133 [.slice ak ((nH aj ai.from_.toNat (w64 ((gd aj ai.to_.toNat) + ai.count))).length) am,.slice an av.length ao]
 have eK:SW w [B1,.obj O (.map ab ac)] φ az [.blk aH 184 ax,.blk b4 133 B0,B1,.obj O (.map ab ac),aO,aN,dv] fQ:=by simpa only [B0,B1,ax,aN,bc,aO,dv,nG] using s6
 refine Zh Z Z Z Z (eK.ldB (j:=6) Z Z Z zr (v:=.slice an av.length ao) Z) ?_
 obtain ⟨wA,jj⟩:=eK.rowSome (j:=5) rfl (by rw [wAE (f:=KL.encI) (sz:=1) (fun _=>rfl) av];have hz:=wAW a9;omega)
 refine oR Z (ZM Z Z jj Z zK zC (wBq a9) (wBr a9)) ?_
 have ux:=wBK (xs:=av) (wAW a9)
 refine yw (j:=5) (vs:=[jV (↑aE:Int)]) (cs':=hD KL.encI (nH av ai.from_.toNat (↑aE:Int))) rfl rfl rfl rfl eK rfl jj rfl rfl rfl zC (by rw [wAE (f:=KL.encI) (sz:=1) (fun _=>rfl)];have hz:=wAW a9;show _ + 1 <= _;first | omega | (simp only [nE];omega) | (simp only [nD,hU,nA];omega)) rfl (wDV (sz:=1) (fo:=0) (fun _=>rfl) _ _ _ _ ux (by first | omega | (simp only [nE];omega) | (simp only [nD,hU,nA];omega)) (zA rfl) rfl) rfl ?_
 intro fR s7
 have s8:SW w [B1,.obj O (.map ab ac)] φ az [.blk aH 184 ax,.blk b4 133 B0,B1,.obj O (.map ab ac),aO,br,dv] fR:=s7
 have s9:SW w [B1,.obj O (.map ab ac)] φ az [.blk aH 184 ax,.blk b4 133 B0,B1,.obj O (.map ab ac),aO,br,cz] fR:=by simpa only [B0,B1,ax,aO,cz,br,dv,nG] using s8
 refine zf ?_
 cases jI
 exact zJ ⟨Z,⟨az,gV,gW,gX,cS,dO,gY,gZ,g7,g8,g9,(zS _),s9⟩⟩
 rintro xB wg ⟨vH,mK,mL,mM,mN,mO,mP,mQ,mR,mS,mT,vn,ta⟩
 refine rR fL2 Z (oM Z mO (oA Z Z (zf (zm ?_))))
 cases jH
 exact zJ ⟨rfl,⟨vH,mK,mL,mM,mN,rfl,mP,mQ,mR,mS,mT,vn,(ta.pick [1,2,3,4,5,6] _ (by decide) rfl),(nG.trans cf),(nG.trans cg)⟩⟩
 intro ek uS
 refine cF Z ek (Zf (zm ?_))
 cases uS
 exact zJ ⟨rfl,⟨az,ca,bA,cb,aS,dN,cc,cd,bB,bC,bd,(zS _),(aT.pick [1,2,3,4,5,6] _ (by decide) rfl),cf,cg⟩⟩
 intro aq uT
 refine oF Z aq (oF Z aq (oF Z aq (oF Z aq (oF Z aq (oF Z aq (oF Z aq (oF Z aq (oF Z aq (oF Z aq (oF Z aq (oF Z aq (oF Z aq (oF Z aq (oR Z (zW Z (zu aq.out) Z) (eN (zj Z (Zf (zm ?_))))))))))))))))))
 cases uT
 exact zJ ⟨rfl,⟨az,ca,bA,cb,aS,dN,cc,cd,bB,bC,bd,(zS _),(aT.pick [1,2,3,4,5,6] _ (by decide) rfl),cf,cg⟩⟩
 intro ej uU
 refine zj (congrArg hH (hJ.2 ej.out)) (kN (zL (zx zt [3,1,3,3,1,3,3,3,1,3,3,1,3,1,3,3,1,3,3,1,3,3] fL22 (by kernel_rfl) ?_)))
 have aU:=cW.drew
 generalize hw_W1538:({ dy with drawn:=dy.drawn + 1 }:World)=fS at aU ⊢
 refine oR Z (zF Z aS ZZ Z zg) (oL Z (aU.ldB (j:=6) Z Z Z zr (v:=.slice ak aj.length am) Z) (oM Z Z (bnK uU fun _ ba uV=>?_)))
 obtain ⟨wB,aY⟩:=aU.rowSome (j:=4) rfl (by rw [wAE (f:=KL.encI) (sz:=1) (fun _=>rfl) aj];have hz:=wAW ba;omega)
 refine oR Z (ZM Z Z aY Z zK zC (wBq ba) (wBr ba)) ?_
 have uy:=wBK (xs:=aj) (wAW ba)
 refine ZE rfl rfl rfl rfl (aU.ldR (j:=4) rfl aY rfl rfl zG (wAc (sz:=1) (fun _=>rfl) _ _ 0 _ uy (by first | omega | rfl | simp) rfl)) rfl (za rfl rfl rfl rfl (fun _=>ze rfl rfl rfl) (zw rfl rfl rfl rfl rfl rfl (ifc uV ?_ ?_)))
 intro au uW
 refine rU Z (wT Z au) (zF Z aS ZZ Z zg) (ZE Z Z Z (wT Z au) (aU.ldB (j:=6) Z Z Z zr (v:=.slice ak aj.length am) Z) Z (zw Z Z Z (wT Z au) Z Z (rU Z (wT Z au) (ZM Z Z aY Z zK zC (wBq ba) (wBr ba)) ?_)))
 have uz:=wBK (xs:=aj) (wAW ba)
 refine ZE rfl rfl rfl (zI rfl rfl (Zd au.out)) (aU.ldR (j:=4) rfl aY rfl rfl zG (wAc (sz:=1) (fun _=>rfl) _ _ 0 _ uz (by first | omega | rfl | simp) rfl)) rfl (za rfl rfl rfl (zI rfl rfl (Zd au.out)) (fun _=>zF rfl rfl yU rfl zC) (ZE rfl rfl rfl (zI rfl rfl (Zd au.out)) (aU.ldB (j:=0) rfl rfl rfl zG (v:=jV ai.count) rfl) rfl (za rfl rfl rfl (zI rfl rfl (Zd au.out)) (fun _=>zh rfl rfl rfl) (za rfl rfl rfl (zI rfl rfl (Zd au.out)) (fun _=>zF rfl aS ZZ rfl zg) (ZE rfl rfl rfl (zI rfl rfl (Zd au.out)) (aU.ldB (j:=6) rfl rfl rfl zr (v:=.slice ak aj.length am) rfl) rfl (zw rfl rfl rfl (zI rfl rfl (Zd au.out)) rfl rfl (bnK uW fun _ bf uX=>za rfl rfl rfl (zI rfl rfl (Zd au.out)) (fun _=>ZM rfl rfl aY rfl zK zC (wBq bf) (wBr bf)) ?_)))))))
 have uA:=wBK (xs:=aj) (wAW bf)
 refine ZE rfl rfl rfl (zI rfl rfl (Zd au.out)) (aU.ldR (j:=4) rfl aY rfl rfl zG (wAc (sz:=1) (fun _=>rfl) _ _ 0 _ uA (by first | omega | rfl | simp) rfl)) rfl (za rfl rfl rfl (zI rfl rfl (Zd au.out)) (fun _=>ze rfl rfl rfl) (za rfl rfl rfl rfl (fun _=>zR rfl (Zd au.out) rfl) (eN (ifc uX ?_ ?_))))
 intro en uY
 refine cT Z en ?_
 have q:=bnd uY
 obtain ⟨⟨⟩,ve,jJ⟩:=q
 try dsimp only at jJ
 let aP:Res:=.row ak am 3 1 (hD KL.encI (nH aj ai.to_.toNat (w64 ((gd aj ai.from_.toNat) + ai.count))))
 let cA:Res:=.blk b8 133 [.slice ak ((nH aj ai.to_.toNat (w64 ((gd aj ai.from_.toNat) + ai.count))).length) am,.slice an ((nH av ai.to_.toNat (↑aE:Int)).length) ao]
 let bs:Res:=.row an ao 3 1 (hD KL.encI (nH av ai.to_.toNat (↑aE:Int)))
 refine yX (fun σ_ w_=>∃ (φ_:PHeap),σ_ 0=.pointer (some ⟨af,0,none⟩)/\σ_ 2=.bool p2/\σ_ 6=.pointer (some ⟨b4,0,none⟩)/\σ_ 9=.pointer (some ⟨b8,0,none⟩)/\σ_ 15=jV ai.to_/\σ_ 54=jV (w64 ((↑(p0.number.length):Int) + 1))/\σ_ 55=jV (↑a5:Int)/\σ_ 60=.slice aV p0.edges.length aW/\σ_ 61=jV (↑p0.edges.length:Int)/\σ_ 62=jV (↑aE:Int)/\PHeap.Le az φ_/\SW w [B1,.obj O (.map ab ac)] φ φ_ [.blk aH 184 ax,.blk b4 133 B0,B1,.obj O (.map ab ac),aP,bs,cA] w_) ?_ ?_
 refine yR fun aR aM=>?_
 have ib:aR 0=.pointer (some ⟨af,0,none⟩):=(aM 0).trans ca
 have ic:aR 2=.bool p2:=(aM 2).trans bA
 have ie:aR 6=.pointer (some ⟨b4,0,none⟩):=(aM 6).trans cb
 have cU:aR 9=.pointer (some ⟨b8,0,none⟩):=(aM 9).trans aS
 have mU:aR 12=jV (↑aE:Int):=(aM 12).trans rfl
 have mV:aR 13=.pointer (some ⟨aH,0,none⟩):=(aM 13).trans rfl
 have mW:aR 14=jV ai.from_:=(aM 14).trans rfl
 have dP:aR 15=jV ai.to_:=(aM 15).trans rfl
 have ig:aR 54=jV (w64 ((↑(p0.number.length):Int) + 1)):=(aM 54).trans cc
 have ii:aR 55=jV (↑a5:Int):=(aM 55).trans cd
 have ij:aR 60=.slice aV p0.edges.length aW:=(aM 60).trans bB
 have ik:aR 61=jV (↑p0.edges.length:Int):=(aM 61).trans bC
 have il:aR 62=jV (↑aE:Int):=(aM 62).trans bd
 clear aM
 refine bnK ve fun _ bb jK=>zx zt [3,1,3,3,2,3,3,1,3,3,1,3,1,3,3,3,0,3,0] (wEF (wNN gDf)) (by kernel_rfl) ?_
 have bi:=aU.drew
 generalize hw_W1587:({ fS with drawn:=fS.drawn + 1 }:World)=wh at bi ⊢
 refine oR Z (zF Z cU ZZ Z zg) (oL Z (bi.ldB (j:=6) Z Z Z zr (v:=.slice ak aj.length am) Z) (oM Z dP (oR Z (zF Z cU ZZ Z zg) (oM Z dP (oR Z (zF Z cU ZZ Z zg) (oL Z (bi.ldB (j:=6) Z Z Z zr (v:=.slice ak aj.length am) Z) (oM Z mW (oR Z (ZM Z Z aY Z zK zC (wBq ba) (wBr ba)) ?_))))))))
 have uB:=wBK (xs:=aj) (wAW ba)
 refine ZE rfl rfl rfl rfl (bi.ldR (j:=4) rfl aY rfl rfl zG (wAc (sz:=1) (fun _=>rfl) _ _ 0 _ uB (by first | omega | rfl | simp) rfl)) rfl (za rfl rfl rfl rfl (fun _=>zF rfl mV yU rfl zC) (ZE rfl rfl rfl rfl (bi.ldB (j:=0) rfl rfl rfl zG (v:=jV ai.count) rfl) rfl (za rfl rfl rfl rfl (fun _=>zh rfl rfl rfl) (zw rfl rfl rfl rfl rfl mU (za rfl rfl rfl rfl (fun _=>ZM rfl rfl aY rfl zK zC (wBq bf) (wBr bf)) (ZJ ?_ ?_))))))
 refine Zh Z Z Z Z (bi.ldB (j:=6) Z Z Z zr (v:=.slice an av.length ao) Z) ?_
 have uC:=wBK (xs:=aj) (wAW bf)
 refine yw (j:=4) (vs:=[jV (w64 ((gd aj ai.from_.toNat) + ai.count))]) (cs':=hD KL.encI (nH aj ai.to_.toNat (w64 ((gd aj ai.from_.toNat) + ai.count)))) rfl rfl rfl rfl bi rfl aY rfl rfl rfl zC (by rw [wAE (f:=KL.encI) (sz:=1) (fun _=>rfl)];have hz:=wAW bf;show _ + 1 <= _;first | omega | (simp only [nE];omega) | (simp only [nD,hU,nA];omega)) rfl (wDV (sz:=1) (fo:=0) (fun _=>rfl) _ _ _ _ uC (by first | omega | (simp only [nE];omega) | (simp only [nD,hU,nA];omega)) (zA rfl) rfl) rfl ?_
 intro fT tb
 have tc:SW w [B1,.obj O (.map ab ac)] φ az [.blk aH 184 ax,.blk b4 133 B0,B1,.obj O (.map ab ac),aP,aN,bc] fT:=tb
 let dw:Res:=.blk b8 133 [.slice ak ((nH aj ai.to_.toNat (w64 ((gd aj ai.from_.toNat) + ai.count))).length) am,.slice an av.length ao]
 have jw:SW w [B1,.obj O (.map ab ac)] φ az [.blk aH 184 ax,.blk b4 133 B0,B1,.obj O (.map ab ac),aP,aN,dw] fT:=by simpa only [B0,B1,ax,aN,bc,aP,dw,nG] using tc
 obtain ⟨wC,jk⟩:=jw.rowSome (j:=5) rfl (by rw [wAE (f:=KL.encI) (sz:=1) (fun _=>rfl) av];have hz:=wAW bb;omega)
 refine oR Z (ZM Z Z jk Z zK zC (wBq bb) (wBr bb)) ?_
 have uD:=wBK (xs:=av) (wAW bb)
 refine yw (j:=5) (vs:=[jV (↑aE:Int)]) (cs':=hD KL.encI (nH av ai.to_.toNat (↑aE:Int))) rfl rfl rfl rfl jw rfl jk rfl rfl rfl zC (by rw [wAE (f:=KL.encI) (sz:=1) (fun _=>rfl)];have hz:=wAW bb;show _ + 1 <= _;first | omega | (simp only [nE];omega) | (simp only [nD,hU,nA];omega)) rfl (wDV (sz:=1) (fo:=0) (fun _=>rfl) _ _ _ _ uD (by first | omega | (simp only [nE];omega) | (simp only [nD,hU,nA];omega)) (zA rfl) rfl) rfl ?_
 intro fU te
 have tf:SW w [B1,.obj O (.map ab ac)] φ az [.blk aH 184 ax,.blk b4 133 B0,B1,.obj O (.map ab ac),aP,bs,dw] fU:=te
 have tg:SW w [B1,.obj O (.map ab ac)] φ az [.blk aH 184 ax,.blk b4 133 B0,B1,.obj O (.map ab ac),aP,bs,cA] fU:=by simpa only [B0,B1,ax,aP,cA,bs,dw,nG] using tf
 refine zf ?_
 cases jK
 exact zJ ⟨Z,⟨az,ib,ic,ie,cU,dP,ig,ii,ij,ik,il,(zS _),tg⟩⟩
 have uE:=wBK (xs:=aj) (wAW bf)
 refine yw (j:=4) (vs:=[jV (w64 ((gd aj ai.from_.toNat) + ai.count))]) (cs':=hD KL.encI (nH aj ai.to_.toNat (w64 ((gd aj ai.from_.toNat) + ai.count)))) rfl rfl rfl rfl bi rfl aY rfl rfl rfl zC (by rw [wAE (f:=KL.encI) (sz:=1) (fun _=>rfl)];have hz:=wAW bf;show _ + 1 <= _;first | omega | (simp only [nE];omega) | (simp only [nD,hU,nA];omega)) rfl (wDV (sz:=1) (fo:=0) (fun _=>rfl) _ _ _ _ uE (by first | omega | (simp only [nE];omega) | (simp only [nD,hU,nA];omega)) (zA rfl) rfl) rfl ?_
 intro fV th
 have tj:SW w [B1,.obj O (.map ab ac)] φ az [.blk aH 184 ax,.blk b4 133 B0,B1,.obj O (.map ab ac),aP,aN,bc] fV:=th
 let dx:Res:=.blk b8 133 [.slice ak ((nH aj ai.to_.toNat (w64 ((gd aj ai.from_.toNat) + ai.count))).length) am,.slice an av.length ao]
 have eL:SW w [B1,.obj O (.map ab ac)] φ az [.blk aH 184 ax,.blk b4 133 B0,B1,.obj O (.map ab ac),aP,aN,dx] fV:=by simpa only [B0,B1,ax,aN,bc,aP,dx,nG] using tj
 refine Zh Z Z Z Z (eL.ldB (j:=6) Z Z Z zr (v:=.slice an av.length ao) Z) ?_
 obtain ⟨wD,jl⟩:=eL.rowSome (j:=5) rfl (by rw [wAE (f:=KL.encI) (sz:=1) (fun _=>rfl) av];have hz:=wAW bb;omega)
 refine oR Z (ZM Z Z jl Z zK zC (wBq bb) (wBr bb)) ?_
 have uF:=wBK (xs:=av) (wAW bb)
 refine yw (j:=5) (vs:=[jV (↑aE:Int)]) (cs':=hD KL.encI (nH av ai.to_.toNat (↑aE:Int))) rfl rfl rfl rfl eL rfl jl rfl rfl rfl zC (by rw [wAE (f:=KL.encI) (sz:=1) (fun _=>rfl)];have hz:=wAW bb;show _ + 1 <= _;first | omega | (simp only [nE];omega) | (simp only [nD,hU,nA];omega)) rfl (wDV (sz:=1) (fo:=0) (fun _=>rfl) _ _ _ _ uF (by first | omega | (simp only [nE];omega) | (simp only [nD,hU,nA];omega)) (zA rfl) rfl) rfl ?_
 intro fW tm
 have tn:SW w [B1,.obj O (.map ab ac)] φ az [.blk aH 184 ax,.blk b4 133 B0,B1,.obj O (.map ab ac),aP,bs,dx] fW:=tm
 have tp:SW w [B1,.obj O (.map ab ac)] φ az [.blk aH 184 ax,.blk b4 133 B0,B1,.obj O (.map ab ac),aP,bs,cA] fW:=by simpa only [B0,B1,ax,aP,cA,bs,dx,nG] using tn
 refine zf ?_
 cases jK
 exact zJ ⟨Z,⟨az,ib,ic,ie,cU,dP,ig,ii,ij,ik,il,(zS _),tp⟩⟩
 rintro xC wi ⟨vI,mX,mY,mZ,m0,m4,m5,m6,m7,m8,m9,vo,tq⟩
 refine rR fL2 Z (oM Z m4 (oA Z Z (zf (zm ?_))))
 cases jJ
 exact zJ ⟨rfl,⟨vI,mX,mY,mZ,m0,rfl,m5,m6,m7,m8,m9,vo,(tq.pick [1,2,3,4,5,6] _ (by decide) rfl),(nG.trans cf),(nG.trans cg)⟩⟩
 intro en uZ
 refine cF Z en (Zf (zm ?_))
 cases uZ
 exact zJ ⟨rfl,⟨az,ca,bA,cb,aS,dN,cc,cd,bB,bC,bd,(zS _),(aU.pick [1,2,3,4,5,6] _ (by decide) rfl),cf,cg⟩⟩
 intro au u0
 refine oF Z au (oF Z au (oF Z au (oF Z au (oF Z au (oF Z au (oF Z au (oF Z au (oF Z au (oF Z au (oF Z au (oF Z au (oF Z au (oF Z au (oR Z (zW Z (zu au.out) Z) (eN (zj Z (Zf (zm ?_))))))))))))))))))
 cases u0
 exact zJ ⟨rfl,⟨az,ca,bA,cb,aS,dN,cc,cd,bB,bC,bd,(zS _),(aU.pick [1,2,3,4,5,6] _ (by decide) rfl),cf,cg⟩⟩
 rintro xD wj ⟨vJ,n3,n4,n5,n6,n7,n8,n9,oa,oc,od,vp,tr,rD,rE⟩
 refine rR fL2 Z (oR Z (ZU (zh Z od Z) (congrArg (jV) uH.out)) (oM Z Z (zf ?_)))
 cases jG
 exact zJ ⟨Z,⟨vJ,Z,n3,n4,n5,n6,n7,n8,n9,oa,oc,(k8.trans vp),tr,rD,rE⟩⟩
 rintro xE wk ⟨fh,q8,oe,og,eB,im,io,oh,oi,wH,oj,vq,eM,rF,rG⟩
 have mq:Hid (¬ ((↑(((↑p0.edges.length:Int):Int) - 0).toNat:Int) < (↑p0.edges.length:Int))):=zN (wAq)
 refine sR fL1 Z (oR Z (ze Z q8 oj) (eN (zL (cF Z mq (Za (zq (zq (ZW (zJ (sR fL2 Z (oM Z io (oR Z (ze Z Z Z) (eN (ifc jF ?_ ?_))))))))))))))
 intro eo u7
 refine cT Z eo (sR gCy Z ?_)
 let bO:List Value:=[.slice ak lm.length am,.slice an ln.length ao]
 refine oL Z (eM.ldBA (j:=5) Z Z im Tryz.isAgg133 Zx (vs:=bO) Z Z) (zX (j:=0) (vs:=bO) Z Z Z Z eM Z eB Z Z Zx (zA Z) Z Z Z ?_)
 intro l5 tt
 have jx:SW w [B1,.obj O (.map ab ac)] φ fh [.blk b4 133 bO,B1,.obj O (.map ab ac),.row ak am 3 1 (hD KL.encI lm),.row an ao 3 1 (hD KL.encI ln),.blk b8 133 bO] l5:=tt
 refine oA Z Z (oA Z Z (eN (zO (zc (zQ ?_)))))
 have q:=wAS u7
 obtain ⟨vD,u8,ms⟩:=q
 have q:=wAt eY eP (ub vD ms)
 obtain rfl:=q
 refine zQ (zc (zQ ?_))
 cases u8
 exact ⟨rfl,_,(wEk (rs:=[.cell 6 133,.tmp 7,.tmp 8]) (vs:=[.agg bO.toArray,jV 0,.bool true]) ⟨⟨_,eB,(wBQ Tryz.isAgg133 Zx (jx.blkAt (k:=0) rfl) (vs:=bO) rfl rfl)⟩,⟨rfl,⟨rfl,trivial⟩⟩⟩ rfl),fh,_,(jx.pick [3,4,1,2] _ (by decide) rfl),ak,am,an,ao,rfl,rfl⟩
 intro eo u9
 refine cF Z eo (Zf (zm (zJ (rR fL2 Z (oR Z (ZU (zh Z oi Z) (congrArg (jV) uG.out)) (oM Z Z (zf ?_)))))))
 have q:=nB u9
 obtain rfl:=q
 exact zJ ⟨Z,_,Z,⟨fh,Z,oe,og,eB,im,io,oh,(k7.trans vq),eM,rF,rG⟩⟩
 rintro ⟨lp,ls,vF⟩ xF wl ⟨lD,q9,wI,wJ,ip,ol,om,oo,xd,jy,w5,w6⟩ ud
 have jM:=wCs eY eP ud
 try dsimp only at jM
 have mr:Hid (¬ ((↑((w64 ((↑(p0.number.length):Int) + 1):Int) - 0).toNat:Int) < (w64 ((↑(p0.number.length):Int) + 1)))):=zN (wAq)
 refine sR fL1 Z (oR Z (ze Z q9 oo) (eN (zL (cF Z mr (Za (zq (zq (ZW (zJ (sR gDg Z ?_))))))))))
 let bP:List Value:=[.slice ak lp.length am,.slice an ls.length ao]
 refine oL Z (jy.ldBA (j:=5) Z Z ol Tryz.isAgg133 Zx (vs:=bP) Z Z) (oM Z om (zX (j:=0) (vs:=bP) Z Z Z Z jy Z ip Z Z Zx (zA Z) Z Z Z ?_))
 intro l6 tu
 have jz:SW w [B1,.obj O (.map ab ac)] φ lD [.blk b4 133 bP,B1,.obj O (.map ab ac),.row ak am 3 1 (hD KL.encI lp),.row an ao 3 1 (hD KL.encI ls),.blk b8 133 bP] l6:=tu
 refine oA Z Z (oA Z Z (eN (zO ?_)))
 cases jM
 exact ⟨rfl,_,(wEk (rs:=[.cell 6 133,.tmp 7,.tmp 8]) (vs:=[.agg bP.toArray,jV vF,.bool false]) ⟨⟨_,ip,(wBQ Tryz.isAgg133 Zx (jz.blkAt (k:=0) rfl) (vs:=bP) rfl rfl)⟩,⟨rfl,⟨rfl,trivial⟩⟩⟩ rfl),lD,_,(jz.pick [3,4,1,2] _ (by decide) rfl),ak,am,an,ao,rfl,rfl⟩
end Go.Proofs.YtlnfbjphfoipaaaGreat
namespace Go.Proofs.YtlnfbjphfoipaaaGreat
open Go.KL
set_option maxHeartbeats 4000000
theorem wCf (O:wAg) (aj:Nat) (ae:Option Addr) (ak:Nat) (af:Option Addr) (am:Nat) (ag:Option Addr) (an:Nat) (ah:Option Addr) (ao:Nat) (aa:Nat) (ab:Array MapEntry) (ac:Nat) (ai:Option Addr) (ap:Nat) (w:World) (φ:PHeap) (hS:St0 w φ [.blk aj 139 [.slice ae O.Race.Starts.length ak,.slice af O.Race.Splits.length am,.slice ag O.Race.Clocks.length an,.slice ah O.Race.Readings.length ao,.map (some aa),.slice ai O.edges.length ap],.obj aa (.map ab ac)]) (aS:Sl φ 1 ae ak O.Race.Starts.length (hD KL.encI O.Race.Starts)) (aT:Sl φ 2 af am O.Race.Splits.length (hD wAD O.Race.Splits)) (aU:Sl φ 3 ag an O.Race.Clocks.length (hD wAF O.Race.Clocks)) (aV:Sl φ 4 ah ao O.Race.Readings.length (hD wAB O.Race.Readings)) (aW:MpR ab wBU wBc O.number) (aX:Sl φ 7 ai ap O.edges.length (hD wAP O.edges)) {r:Bool} (hm:wBG O=some r):Gv Tryz.prog 81 [.pointer (some ⟨aj,0,none⟩)] w (wCG w [.blk aj 139 [.slice ae O.Race.Starts.length ak,.slice af O.Race.Splits.length am,.slice ag O.Race.Clocks.length an,.slice ah O.Race.Readings.length ao,.map (some aa),.slice ai O.edges.length ap],.obj aa (.map ab ac)] φ (fun φ_ L_ v=>v=.bool r/\L_=[.blk aj 139 [.slice ae O.Race.Starts.length ak,.slice af O.Race.Splits.length am,.slice ag O.Race.Clocks.length an,.slice ah O.Race.Readings.length ao,.map (some aa),.slice ai O.edges.length ap],.obj aa (.map ab ac)])):=by
 unfold wBG at hm
 refine Gv.of Tryz.func81 Z Tryz.ntmps81 Tryz.results81 Z (sR fL1 Z (oA Z Z (eN (sR (.fl 0 (.fx 1 (wMG (.fx 6 gCn .stop)) .stop)) Z (oM Z Z ?_)))))
 have q:=bnd hm
 obtain ⟨⟨x3,x4,x5⟩,h6,aI⟩:=q
 try dsimp only at aI
 refine zD 2 Z Z Z Z (zE Z Z YF (zB Z (zB Z (zB Z zM))) Z) hS (fun hs=>wBN O aj ae ak af am ag an ah ao aa ab ac ai ap (-1) false w φ hs aS aT aU aV aW aX h6) (.inl Z) ?_
 rintro aE L9 a8 aJ a7 aN ⟨av,ay,ax,az,rfl,rfl⟩
 let B0:Res:=.blk aj 139 [.slice ae O.Race.Starts.length ak,.slice af O.Race.Splits.length am,.slice ag O.Race.Clocks.length an,.slice ah O.Race.Readings.length ao,.map (some aa),.slice ai O.edges.length ap]
 let B1:Res:=.row av ay 3 1 (hD KL.encI x3.far)
 let B2:Res:=.row ax az 3 1 (hD KL.encI x3.by_)
 have aO:SW w [B0,.obj aa (.map ab ac)] φ aE [B1,B2,B0,.obj aa (.map ab ac)] aJ:=aN
 refine oM Z Z (oR Z (zU Z Z (v:=.agg #[.slice av x3.far.length ay,.slice ax x3.by_.length az]) Z) (oR Z (zU Z Z (v:=jV x4) Z) (oR Z (zU Z Z (v:=.bool x5) Z) (zV (cs:=[.slice none 0 0,.slice none 0 0]) Z Z Z Z Z Zl Z aO ?_))))
 intro a6 aL aP
 let B3:List Value:=[.slice av x3.far.length ay,.slice ax x3.by_.length az]
 refine zX (j:=0) (vs:=B3) Z Z Z Z aP Z Z Z Z Zx (zA Z) Z Z Z ?_
 intro aK aQ
 have aR:SW w [B0,.obj aa (.map ab ac)] φ aE [.blk aL 133 B3,B1,B2,B0,.obj aa (.map ab ac)] aK:=aQ
 refine oA Z Z (oA Z Z (eN (sR fL2 Z (oM Z Z (oA Z Z (eN (zO ?_)))))))
 have hE:=nB aI;first | subst r | cases hE
 exact ⟨rfl,_,(ZA rfl),aE,_,(aR.pick [3,4] _ (by decide) rfl),rfl,rfl⟩
theorem wFC (O:wAA) (ak:Option Addr) (ap:Nat) (am:Option Addr) (aq:Nat) (an:Option Addr) (au:Nat) (ao:Option Addr) (av:Nat) (p1:List wAM) (aK:Option Addr) (aL:Nat) (w:World) (φ:PHeap) (hS:St0 w φ []) (a7:Sl φ 1 ak ap O.Starts.length (hD KL.encI O.Starts)) (a8:Sl φ 2 am aq O.Splits.length (hD wAD O.Splits)) (a9:Sl φ 3 an au O.Clocks.length (hD wAF O.Clocks)) (ba:Sl φ 4 ao av O.Readings.length (hD wAB O.Readings)) (bs:Sl φ 2 aK aL p1.length (hD wAY p1)) {r:(Option wAg) × Int} (hm:wDC O p1=some r):Gv Tryz.prog 63 [.agg #[.slice ak O.Starts.length ap,.slice am O.Splits.length aq,.slice an O.Clocks.length au,.slice ao O.Readings.length av],.slice aK p1.length aL] w (wCG w [] φ (fun φ_ L_ v=>match r.1 with | none=>v=.tuple #[.pointer none,jV r.2]/\L_=[] | some d=>∃ (b0:Nat) (A0p00:Option Addr) (c0p00:Nat) (A0p01:Option Addr) (c0p01:Nat) (A0p02:Option Addr) (c0p02:Nat) (A0p03:Option Addr) (c0p03:Nat) (m0p1:Nat) (es0p1:Array MapEntry) (ck0p1:Nat) (A0p2:Option Addr) (c0p2:Nat),v=.tuple #[.pointer (some ⟨b0,0,none⟩),jV r.2]/\L_=[.blk b0 139 [.slice A0p00 d.Race.Starts.length c0p00,.slice A0p01 d.Race.Splits.length c0p01,.slice A0p02 d.Race.Clocks.length c0p02,.slice A0p03 d.Race.Readings.length c0p03,.map (some m0p1),.slice A0p2 d.edges.length c0p2],.obj m0p1 (.map es0p1 ck0p1)]/\Sl φ_ 1 A0p00 c0p00 d.Race.Starts.length (hD KL.encI d.Race.Starts)/\Sl φ_ 2 A0p01 c0p01 d.Race.Splits.length (hD wAD d.Race.Splits)/\Sl φ_ 3 A0p02 c0p02 d.Race.Clocks.length (hD wAF d.Race.Clocks)/\Sl φ_ 4 A0p03 c0p03 d.Race.Readings.length (hD wAB d.Race.Readings)/\MpR es0p1 wBU wBc d.number/\Sl φ_ 7 A0p2 c0p2 d.edges.length (hD wAP d.edges))):=by
 unfold wDC at hm
 refine Gv.of Tryz.func63 Z Tryz.ntmps63 Tryz.results63 Z (sR gCm Z ?_)
 let B0:List Value:=[.slice ak O.Starts.length ap,.slice am O.Splits.length aq,.slice an O.Clocks.length au,.slice ao O.Readings.length av]
 refine zn (cs:=B0) rfl rfl rfl rfl rfl rfl (by rfl) hS ?_
 intro W1 b2 bq
 refine oA Z Z (oA Z Z (eN (sR (.fl 0 (.fx 1 (wHE (.nil)) .stop)) Z (oL Z (bq.ldBA (j:=0) Z Z Z zo zZ (vs:=B0) Z Z) ?_))))
 have q:=bnd hm
 obtain ⟨⟨x5,x6⟩,h7,ax⟩:=q
 try dsimp only at ax
 refine zD 0 Z Z Z Z (zE Z Z Tryz.call80 (zB Z zM) Z) bq (fun hs=>wEZ O ak ap am aq an au ao av W1 φ hs a7 a8 a9 ba h7) (.inr Z) ?_
 rintro ae cH cN aF ab bp bn
 rcases x5 with _ | ac
 try dsimp only at ax
 obtain ⟨rfl,rfl⟩:=bn
 have a5:sW w φ ae [.blk b2 27 B0] aF:=bp
 refine oM Z Z (oR Z (zU Z Z (v:=.pointer none) Z) (oR Z (zU Z Z (v:=jV x6) Z) (oA Z Z (oA Z Z (eN (zL (zY (sR fL3 Z (oM Z Z (oR Z (ZP Z Z Z) (oA Z Z (eN (ifc ax ?_ ?_)))))))))))))
 intro aW cu
 refine zj (zu (fun h=>h aW.out)) (sR (wDK gCr) Z (oM Z Z (oL Z (a5.ldBA (j:=0) Z Z Z zo zZ (vs:=B0) Z Z) (oR Z (YC Z (zB Z zM) zM) ?_))))
 have bH:=bs.le ab
 have bI:=a7.le ab
 have bJ:=a8.le ab
 have bK:=a9.le ab
 have bL:=ba.le ab
 have cc:FnOK Tryz.prog ae (.func (.func 99) #[.agg B0.toArray] #[]) wNY wNZ (fun x=>wAu O x):=⟨99,[.agg B0.toArray],[],rfl,Tryz.call99,fun bc w1 x y vs le hs ha hm=>by obtain rfl:=ha;exact wDI O ak ap am aq an au ao av x w1 bc hs (bI.le le) (bJ.le le) (bK.le le) (bL.le le) hm⟩
 refine bnK cu fun cQ bM cw=>zD 0 Z Z Z Z (zE Z Z Tryz.call119 (zB Z (zB Z zM)) Z) a5 (fun hs=>wEJ p1 aK aL (fun x=>wAu O x) (.func (.func 99) #[.agg B0.toArray] #[]) aF ae hs bH cc bM) (.inr Z) ?_
 rintro bv cJ cO bB cL cg ⟨rfl,rfl⟩
 have cj:sW w φ bv [.blk b2 27 B0] bB:=cg
 refine oR Z (Zk Z Z) (oA Z Z (eN (ifc cw ?_ ?_)))
 intro aX cx
 refine zj (nC aX.out) (sR gCy Z (oM Z Z ?_))
 cases cx
 intro aX cy
 refine ZD (nF (aX.out)) (sR fL2 Z (oA Z Z (oA Z Z (eN (zO (zc (zQ ?_)))))))
 cases cy
 exact ⟨rfl,_,(wDp rfl rfl),bv,_,(cj.pick [] _ (by decide) rfl),rfl,rfl⟩
 intro aW cz
 refine cT Z aW (sR fL3 Z (oM Z Z (oA Z Z (oA Z Z (eN (zO (zc (zQ ?_))))))))
 cases cz
 exact ⟨rfl,_,(wDp rfl rfl),ae,_,(a5.pick [] _ (by decide) rfl),rfl,rfl⟩
 try dsimp only at ax
 obtain ⟨aG,aM,aS,aN,aT,aO,aU,aP,aV,af,ai,ah,az,aH,rfl,rfl,bN,bO,bP,bQ,bg⟩:=bn
 let B1:Res:=.blk aG 139 [.slice aM ac.Race.Starts.length aS,.slice aN ac.Race.Splits.length aT,.slice aO ac.Race.Clocks.length aU,.slice aP ac.Race.Readings.length aV,.map (some af),.slice az ac.edges.length aH]
 let B2:Res:=.row az aH 184 7 (hD wAP ac.edges)
 have a6:sW w φ ae [B1,.obj af (.map ai ah),B2,.blk b2 27 B0] aF:=bp
 refine oM Z Z (oR Z (zU Z Z (v:=.pointer (some ⟨aG,0,none⟩)) Z) (oR Z (zU Z Z (v:=jV x6) Z) (oA Z Z (oA Z Z (eN (zL (zY (sR fL3 Z (oM Z Z (oR Z (ZP Z Z Z) (oA Z Z (eN (ifc ax ?_ ?_)))))))))))))
 intro aY cA
 refine zj (zu (fun h=>h aY.out)) (sR (wDK gCr) Z (oM Z Z (oL Z (a6.ldBA (j:=3) Z Z Z zo zZ (vs:=B0) Z Z) (oR Z (YC Z (zB Z zM) zM) ?_))))
 have bR:=bs.le ab
 have bS:=a7.le ab
 have bT:=a8.le ab
 have bU:=a9.le ab
 have bV:=ba.le ab
 have cd:FnOK Tryz.prog ae (.func (.func 99) #[.agg B0.toArray] #[]) wNY wNZ (fun x=>wAu O x):=⟨99,[.agg B0.toArray],[],rfl,Tryz.call99,fun bc w1 x y vs le hs ha hm=>by obtain rfl:=ha;exact wDI O ak ap am aq an au ao av x w1 bc hs (bS.le le) (bT.le le) (bU.le le) (bV.le le) hm⟩
 refine bnK cA fun cR bX cC=>zD 0 Z Z Z Z (zE Z Z Tryz.call119 (zB Z (zB Z zM)) Z) a6 (fun hs=>wEJ p1 aK aL (fun x=>wAu O x) (.func (.func 99) #[.agg B0.toArray] #[]) aF ae hs bR cd bX) (.inr Z) ?_
 rintro bw cK cP aQ aI cm ⟨rfl,rfl⟩
 have br:sW w φ bw [B1,.obj af (.map ai ah),B2,.blk b2 27 B0] aQ:=cm
 refine oR Z (Zk Z Z) (oA Z Z (eN (ifc cC ?_ ?_)))
 intro aZ cD
 refine zj (nC aZ.out) (sR gCy Z (oM Z Z ?_))
 have q:=br.freezeR (k:=2) (n:=ac.edges.length) rfl (wAE (f:=wAP) (sz:=7) (fun _=>rfl) ac.edges) (by decide)
 obtain ⟨bx,aJ,bt,cn⟩:=q
 have co:sW w φ bx [B1,.obj af (.map ai ah),.blk b2 27 B0] aQ:=cn
 have bY:=bN.le aI
 have bh:=bY.le aJ
 have bZ:=bO.le aI
 have bi:=bZ.le aJ
 have b5:=bP.le aI
 have bj:=b5.le aJ
 have ca:=bQ.le aI
 have bm:=ca.le aJ
 refine bnK cD fun cS cb cE=>zD 2 Z Z Z Z (zE Z Z Tryz.call81 (zB Z zM) Z) co (fun hs=>wCf ac aG aM aS aN aT aO aU aP aV af ai ah az aH aQ bx hs bh bi bj bm bg bt cb) (.inl Z) ?_
 rintro bd cI cM bA ay cf ⟨rfl,rfl⟩
 have bo:sW w φ bd [B1,.obj af (.map ai ah),.blk b2 27 B0] bA:=cf
 refine oR Z (Zk Z Z) (oA Z Z (eN (ifc cE ?_ ?_)))
 intro aR cp
 refine zj (nC aR.out) (Zf (zm (zJ (sR fL3 Z (oM Z Z (oA Z Z (oA Z Z (eN (zO ?_)))))))))
 have bC:=bh.le ay
 have bD:=bi.le ay
 have bE:=bj.le ay
 have bF:=bm.le ay
 have bG:=bt.le ay
 cases cp
 exact ⟨rfl,_,(wDp rfl rfl),bd,_,(bo.pick [0,1] _ (by decide) rfl),aG,aM,aS,aN,aT,aO,aU,aP,aV,af,ai,ah,az,aH,rfl,rfl,bC,bD,bE,bF,bg,bG⟩
 intro aR cq
 refine ZD (nF (aR.out)) (sR fL2 Z (oA Z Z (oA Z Z (eN (zO (zc (zQ ?_)))))))
 cases cq
 exact ⟨rfl,_,(wDp rfl rfl),bd,_,(bo.pick [] _ (by decide) rfl),rfl,rfl⟩
 intro aZ cr
 refine ZD (nF (aZ.out)) (sR fL2 Z (oA Z Z (oA Z Z (eN (zO (zc (zQ ?_)))))))
 cases cr
 exact ⟨rfl,_,(wDp rfl rfl),bw,_,(br.pick [] _ (by decide) rfl),rfl,rfl⟩
 intro aY ct
 refine cT Z aY (sR fL3 Z (oM Z Z (oA Z Z (oA Z Z (eN (zO (zc (zQ ?_))))))))
 cases ct
 exact ⟨rfl,_,(wDp rfl rfl),ae,_,(a6.pick [] _ (by decide) rfl),rfl,rfl⟩
theorem wDJ (O:wAM) (w:World) (φ:PHeap) (hS:St0 w φ [])  {r:wAH} (hm:wCp O=some r):Gv Tryz.prog 66 [.agg #[jV O.Skier,jV O.Mat]] w (wCG w [] φ (fun φ_ L_ v=>v=.agg #[jV r.skier,jV r.mat]/\L_=[])):=by
 unfold wCp at hm
 refine Gv.of Tryz.func66 Z Tryz.ntmps66 Tryz.results66 Z (sR gCg Z ?_)
 let B0:List Value:=[jV O.Skier,jV O.Mat]
 refine zn (cs:=B0) rfl rfl rfl rfl rfl rfl (by rfl) hS ?_
 intro W1 b2 ai
 refine zV (cs:=[jV 0,jV 0]) Z Z Z Z Z zd Z ai ?_
 intro W5 b6 ab
 refine eN (sR (wGD (.fx 5 .nil .stop)) Z (oR Z (zF Z Z Tryz.runUnderlying29 Z zC) (oL Z (ab.ldB (j:=1) Z Z Z zG (v:=jV O.Skier) Z) (oR Z (zF Z Z Tryz.runUnderlying29 Z zC) (oL Z (ab.ldB (j:=1) Z Z Z zG (v:=jV O.Mat) Z) (oR Z (ZB (pv:=[(0,jV O.Skier),(1,jV O.Mat)]) (z:=[jV 0,jV 0]) (cs:=B0) Z (wAG Z (wAG Z wAR)) zd wBv Z Z) (zX (j:=0) (vs:=B0) Z Z Z Z ab Z Z Z Z zH (zA Z) Z Z Z ?_)))))))
 intro W9 ah
 have ac:sW w φ φ [.blk b6 123 B0,.blk b2 29 B0] W9:=ah
 refine eN (zO ?_)
 cases hm
 exact ⟨rfl,_,(wHW (v:=.agg B0.toArray) ⟨⟨_,rfl,(wBQ zl zH (ac.blkAt (k:=0) rfl) (vs:=B0) rfl rfl)⟩,trivial⟩),φ,_,(ac.pick [] _ (by decide) rfl),rfl,rfl⟩
theorem wEp (O:wAg) (au:Nat) (az:Option Addr) (aI:Nat) (aE:Option Addr) (aJ:Nat) (aF:Option Addr) (aK:Nat) (aG:Option Addr) (aL:Nat) (aa:Nat) (ab:Array MapEntry) (ac:Nat) (aH:Option Addr) (aM:Nat) (p1:wAH) (p2:wAH) (w:World) (φ:PHeap) (hS:St0 w φ [.blk au 139 [.slice az O.Race.Starts.length aI,.slice aE O.Race.Splits.length aJ,.slice aF O.Race.Clocks.length aK,.slice aG O.Race.Readings.length aL,.map (some aa),.slice aH O.edges.length aM],.obj aa (.map ab ac)]) (bw:Sl φ 1 az aI O.Race.Starts.length (hD KL.encI O.Race.Starts)) (bx:Sl φ 2 aE aJ O.Race.Splits.length (hD wAD O.Race.Splits)) (bz:Sl φ 3 aF aK O.Race.Clocks.length (hD wAF O.Race.Clocks)) (bA:Sl φ 4 aG aL O.Race.Readings.length (hD wAB O.Race.Readings)) (aN:MpR ab wBU wBc O.number) (bB:Sl φ 7 aH aM O.edges.length (hD wAP O.edges)) {r:wAO} (hm:wDE O p1 p2=some r):Gv Tryz.prog 64 [.pointer (some ⟨au,0,none⟩),.agg #[jV p1.skier,jV p1.mat],.agg #[jV p2.skier,jV p2.mat]] w (wCG w [.blk au 139 [.slice az O.Race.Starts.length aI,.slice aE O.Race.Splits.length aJ,.slice aF O.Race.Clocks.length aK,.slice aG O.Race.Readings.length aL,.map (some aa),.slice aH O.edges.length aM],.obj aa (.map ab ac)] φ (fun φ_ L_ v=>v=.agg #[jV r.Lo,jV r.Hi]/\L_=[.blk au 139 [.slice az O.Race.Starts.length aI,.slice aE O.Race.Splits.length aJ,.slice aF O.Race.Clocks.length aK,.slice aG O.Race.Readings.length aL,.map (some aa),.slice aH O.edges.length aM],.obj aa (.map ab ac)])):=by
 unfold wDE at hm
 refine Gv.of Tryz.func64 Z Tryz.ntmps64 Tryz.results64 Z (sR (.fx 0 gCj .stop) Z ?_)
 let B0:List Value:=[jV p1.skier,jV p1.mat]
 refine zn (cs:=B0) rfl rfl rfl rfl rfl rfl (by rfl) hS ?_
 intro W3 b4 dD
 let B1:List Value:=[jV p2.skier,jV p2.mat]
 refine zn (cs:=B1) rfl rfl rfl rfl rfl rfl (by rfl) dD ?_
 intro W7 b8 dL
 let B2:List Value:=[jV 0,jV 0]
 refine zV (cs:=B2) Z Z Z Z Z ZX Z dL ?_
 intro b5 ah dm
 refine eN ?_
 have q:=bnd hm
 obtain ⟨⟨ay,bD⟩,dS,cz⟩:=q
 try dsimp only at cz
 let B3:Res:=.blk au 139 [.slice az O.Race.Starts.length aI,.slice aE O.Race.Splits.length aJ,.slice aF O.Race.Clocks.length aK,.slice aG O.Race.Readings.length aL,.map (some aa),.slice aH O.edges.length aM]
 refine yX (fun σ_ w_=>∃ (φ_:PHeap) (a5:Nat) (aS:Option Addr) (aU:Nat) (aY:Option Addr) (a7:Nat),σ_ 0=.pointer (some ⟨au,0,none⟩)/\σ_ 4=.pointer (some ⟨b4,0,none⟩)/\σ_ 5=.pointer (some ⟨b8,0,none⟩)/\σ_ 6=.pointer (some ⟨ah,0,none⟩)/\σ_ 7=.pointer (some ⟨a5,0,none⟩)/\PHeap.Le φ φ_/\SW w [B3,.obj aa (.map ab ac)] φ φ_ [B3,.obj aa (.map ab ac),.blk ah 39 B2,.blk b8 123 B1,.blk b4 123 B0,.blk a5 133 [.slice aS ay.length aU,.slice aY bD.length a7],.row aS aU 3 1 (hD KL.encI ay),.row aY a7 3 1 (hD KL.encI bD)] w_) ?_ ?_
 have q:=bnd dS
 obtain ⟨⟨ao,cD,cE⟩,ct,bJ⟩:=q
 try dsimp only at bJ
 refine zx zt [3,3,3,3,1,1,1,0,3,3,3,3,2,0,3,3] (wOE (.fx 7 (wJf gDc) (.fx 12 (.fx 7 (wJf gCs) (.stop)) (.stop)))) (by kernel_rfl) ?_
 have aW:=dm.drew
 generalize hw_W54:({ b5 with drawn:=b5.drawn + 1 }:World)=cd at aW ⊢
 refine oM Z Z (oM Z Z (oR Z (Zt Z Z) (oR Z (zF Z Z ZH Z Zw) (oL Z (aW.ldB (j:=3) Z Z Z yC (v:=.map (some aa)) Z) (oL Z (aW.ldBA (j:=2) Z Z Z zl zH (vs:=B0) Z Z) (oL Z (aW.lookup1 (j:=4) (mk:=wBU) (mv:=wBc) (a:=p1) (z:=0) Z Z Z Z (wBj ZS) wDF ZG aN) (ZJ ?_ ?_)))))))
 have dE:SW w [B3,.obj aa (.map ab ac)] φ φ [B3,.obj aa (.map ab ac),.blk ah 39 B2,.blk b8 123 B1,.blk b4 123 B0] cd:=aW.pick [3,4,0,1,2] _ (by decide) rfl
 refine zD 2 Z Z Z Z (zE Z Z YF (zB Z (zB Z (zB Z zM))) Z) dE (fun hs=>wBN O au az aI aE aJ aF aK aG aL aa ab ac aH aM (wBP O.number p1 0) false cd φ hs bw bx bz bA aN bB ct) (.inl Z) ?_
 rintro bM dZ eo cO dV dF ⟨be,br,bf,bs,rfl,rfl⟩
 let B4:Res:=.row be br 3 1 (hD KL.encI ao.far)
 let B5:Res:=.row bf bs 3 1 (hD KL.encI ao.by_)
 have dG:SW w [B3,.obj aa (.map ab ac)] φ bM [B4,B5,B3,.obj aa (.map ab ac),.blk ah 39 B2,.blk b8 123 B1,.blk b4 123 B0] cO:=dF
 refine oM Z Z (oR Z (zU Z Z (v:=.agg #[.slice be ao.far.length br,.slice bf ao.by_.length bs]) Z) (oR Z (zU Z Z (v:=jV cD) Z) (oR Z (zU Z Z (v:=.bool cE) Z) (zV (cs:=[.slice none 0 0,.slice none 0 0]) Z Z Z Z Z Zl Z dG ?_))))
 intro d9 cj dH
 let B6:List Value:=[.slice be ao.far.length br,.slice bf ao.by_.length bs]
 refine zX (j:=0) (vs:=B6) Z Z Z Z dH Z Z Z Z Zx (zA Z) Z Z Z ?_
 intro cP dI
 have dJ:SW w [B3,.obj aa (.map ab ac)] φ bM [.blk cj 133 B6,B4,B5,B3,.obj aa (.map ab ac),.blk ah 39 B2,.blk b8 123 B1,.blk b4 123 B0] cP:=dI
 refine oA Z Z (oA Z Z (zf ?_))
 cases bJ
 exact zJ ⟨rfl,⟨bM,cj,be,br,bf,bs,rfl,rfl,rfl,rfl,rfl,dV,(dJ.pick [3,4,5,6,7,0,1,2] _ (by decide) rfl)⟩⟩
 let B7:List Value:=[.slice none 0 0,.slice none 0 0]
 refine zV (cs:=B7) Z Z Z Z Z Zl Z aW ?_
 intro cf bi dK
 have dM:SW w [B3,.obj aa (.map ab ac)] φ φ [B3,.obj aa (.map ab ac),.blk bi 133 B7,.blk ah 39 B2,.blk b8 123 B1,.blk b4 123 B0] cf:=dK.pick [4,5,0,1,2,3] _ (by decide) rfl
 refine zD 2 Z Z Z Z (zE Z Z YF (zB Z (zB Z (zB Z zM))) Z) dM (fun hs=>wBN O au az aI aE aJ aF aK aG aL aa ab ac aH aM (wBP O.number p1 0) false cf φ hs bw bx bz bA aN bB ct) (.inl Z) ?_
 rintro bN d4 ep cQ dW dg ⟨a8,bj,a9,bm,rfl,rfl⟩
 let B8:Res:=.row a8 bj 3 1 (hD KL.encI ao.far)
 let B9:Res:=.row a9 bm 3 1 (hD KL.encI ao.by_)
 have dh:SW w [B3,.obj aa (.map ab ac)] φ bN [B8,B9,B3,.obj aa (.map ab ac),.blk bi 133 B7,.blk ah 39 B2,.blk b8 123 B1,.blk b4 123 B0] cQ:=dg
 refine oM Z Z (oR Z (zU Z Z (v:=.agg #[.slice a8 ao.far.length bj,.slice a9 ao.by_.length bm]) Z) (oR Z (zU Z Z (v:=jV cD) Z) (oR Z (zU Z Z (v:=.bool cE) Z) ?_)))
 let bO:List Value:=[.slice a8 ao.far.length bj,.slice a9 ao.by_.length bm]
 refine zX (j:=4) (vs:=bO) Z Z Z Z dh Z Z Z Z Zx (zA Z) Z Z Z ?_
 intro cH di
 have dk:SW w [B3,.obj aa (.map ab ac)] φ bN [B8,B9,B3,.obj aa (.map ab ac),.blk bi 133 bO,.blk ah 39 B2,.blk b8 123 B1,.blk b4 123 B0] cH:=di
 refine oA Z Z (oA Z Z (zf ?_))
 cases bJ
 exact zJ ⟨rfl,⟨bN,bi,a8,bj,a9,bm,rfl,rfl,rfl,rfl,rfl,dW,(dk.pick [2,3,5,6,7,4,0,1] _ (by decide) rfl)⟩⟩
 rintro er ca ⟨bE,a5,aS,aU,aY,a7,bt,cm,bH,cn,co,av,dl⟩
 have q:=bnd cz
 obtain ⟨⟨ax,bC⟩,dR,cy⟩:=q
 try dsimp only at cy
 let aO:Res:=.blk a5 133 [.slice aS ay.length aU,.slice aY bD.length a7]
 let aP:Res:=.row aS aU 3 1 (hD KL.encI ay)
 let aQ:Res:=.row aY a7 3 1 (hD KL.encI bD)
 refine yX (fun σ_ w_=>∃ (φ_:PHeap) (bg:Nat) (aR:Option Addr) (aT:Nat) (aX:Option Addr) (a6:Nat),σ_ 0=.pointer (some ⟨au,0,none⟩)/\σ_ 4=.pointer (some ⟨b4,0,none⟩)/\σ_ 5=.pointer (some ⟨b8,0,none⟩)/\σ_ 6=.pointer (some ⟨ah,0,none⟩)/\σ_ 7=.pointer (some ⟨a5,0,none⟩)/\σ_ 10=.pointer (some ⟨bg,0,none⟩)/\PHeap.Le bE φ_/\SW w [B3,.obj aa (.map ab ac)] φ φ_ [B3,.obj aa (.map ab ac),.blk ah 39 B2,.blk b8 123 B1,.blk b4 123 B0,aP,aQ,aO,.blk bg 133 [.slice aR ax.length aT,.slice aX bC.length a6],.row aR aT 3 1 (hD KL.encI ax),.row aX a6 3 1 (hD KL.encI bC)] w_) ?_ ?_
 have q:=bnd dR
 obtain ⟨⟨an,cA,cC⟩,cr,bI⟩:=q
 try dsimp only at bI
 refine zx zt [3,3,3,3,1,1,1,0,3,3,3,3,2,0,3,3] (wOE (.fx 7 (wJf gDc) (.fx 12 (.fx 7 (wJf gCs) (.stop)) (.stop)))) (by kernel_rfl) ?_
 have aV:=dl.drew
 generalize hw_W172:({ ca with drawn:=ca.drawn + 1 }:World)=cI at aV ⊢
 refine oM Z bt (oM Z bt (oR Z (Zt Z Z) (oR Z (zF Z Z ZH Z Zw) (oL Z (aV.ldB (j:=0) Z Z Z yC (v:=.map (some aa)) Z) (oL Z (aV.ldBA (j:=3) Z Z bH zl zH (vs:=B1) Z Z) (oL Z (aV.lookup1 (j:=1) (mk:=wBU) (mv:=wBc) (a:=p2) (z:=0) Z Z Z Z (wBj ZS) wDF ZG aN) (ZJ ?_ ?_)))))))
 have cW:=bw.le av
 have cX:=bx.le av
 have cY:=bz.le av
 have cZ:=bA.le av
 have c6:=bB.le av
 refine zD 2 Z Z Z Z (zE Z Z YF (zB Z (zB Z (zB Z zM))) Z) aV (fun hs=>wBN O au az aI aE aJ aF aK aG aL aa ab ac aH aM (wBP O.number p2 0) false cI bE hs cW cX cY cZ aN c6 cr) (.inl Z) ?_
 rintro bK dX ek cJ dT dp ⟨ba,bn,bb,bo,rfl,rfl⟩
 let bP:Res:=.row ba bn 3 1 (hD KL.encI an.far)
 let bQ:Res:=.row bb bo 3 1 (hD KL.encI an.by_)
 have dq:SW w [B3,.obj aa (.map ab ac)] φ bK [bP,bQ,B3,.obj aa (.map ab ac),.blk ah 39 B2,.blk b8 123 B1,.blk b4 123 B0,aO,aP,aQ] cJ:=dp
 refine oM Z Z (oR Z (zU Z Z (v:=.agg #[.slice ba an.far.length bn,.slice bb an.by_.length bo]) Z) (oR Z (zU Z Z (v:=jV cA) Z) (oR Z (zU Z Z (v:=.bool cC) Z) (zV (cs:=[.slice none 0 0,.slice none 0 0]) Z Z Z Z Z Zl Z dq ?_))))
 intro d5 cg dr
 let bR:List Value:=[.slice ba an.far.length bn,.slice bb an.by_.length bo]
 refine zX (j:=0) (vs:=bR) Z Z Z Z dr Z Z Z Z Zx (zA Z) Z Z Z ?_
 intro cK dt
 have du:SW w [B3,.obj aa (.map ab ac)] φ bK [.blk cg 133 bR,bP,bQ,B3,.obj aa (.map ab ac),.blk ah 39 B2,.blk b8 123 B1,.blk b4 123 B0,aO,aP,aQ] cK:=dt
 refine oA Z Z (oA Z Z (zf ?_))
 cases bI
 exact zJ ⟨rfl,⟨bK,cg,ba,bn,bb,bo,bt,cm,bH,cn,co,rfl,dT,(du.pick [3,4,5,6,7,9,10,8,0,1,2] _ (by decide) rfl)⟩⟩
 let bF:List Value:=[.slice none 0 0,.slice none 0 0]
 refine zV (cs:=bF) Z Z Z Z Z Zl Z aV ?_
 intro cb bh dv
 have da:=bw.le av
 have db:=bx.le av
 have dd:=bz.le av
 have de:=bA.le av
 have df:=bB.le av
 have dw:SW w [B3,.obj aa (.map ab ac)] φ bE [B3,.obj aa (.map ab ac),.blk bh 133 bF,.blk ah 39 B2,.blk b8 123 B1,.blk b4 123 B0,aO,aP,aQ] cb:=dv.pick [1,2,0,3,4,5,6,7,8] _ (by decide) rfl
 refine zD 2 Z Z Z Z (zE Z Z YF (zB Z (zB Z (zB Z zM))) Z) dw (fun hs=>wBN O au az aI aE aJ aF aK aG aL aa ab ac aH aM (wBP O.number p2 0) false cb bE hs da db dd de aN df cr) (.inl Z) ?_
 rintro bL dY en cL dU dx ⟨bc,bp,bd,bq,rfl,rfl⟩
 let bS:Res:=.row bc bp 3 1 (hD KL.encI an.far)
 let bT:Res:=.row bd bq 3 1 (hD KL.encI an.by_)
 have dy:SW w [B3,.obj aa (.map ab ac)] φ bL [bS,bT,B3,.obj aa (.map ab ac),.blk bh 133 bF,.blk ah 39 B2,.blk b8 123 B1,.blk b4 123 B0,aO,aP,aQ] cL:=dx
 refine oM Z Z (oR Z (zU Z Z (v:=.agg #[.slice bc an.far.length bp,.slice bd an.by_.length bq]) Z) (oR Z (zU Z Z (v:=jV cA) Z) (oR Z (zU Z Z (v:=.bool cC) Z) ?_)))
 let bU:List Value:=[.slice bc an.far.length bp,.slice bd an.by_.length bq]
 refine zX (j:=4) (vs:=bU) Z Z Z Z dy Z Z Z Z Zx (zA Z) Z Z Z ?_
 intro cM dz
 have dA:SW w [B3,.obj aa (.map ab ac)] φ bL [bS,bT,B3,.obj aa (.map ab ac),.blk bh 133 bU,.blk ah 39 B2,.blk b8 123 B1,.blk b4 123 B0,aO,aP,aQ] cM:=dz
 refine oA Z Z (oA Z Z (zf ?_))
 cases bI
 exact zJ ⟨rfl,⟨bL,bh,bc,bp,bd,bq,bt,cm,bH,cn,co,rfl,dU,(dA.pick [2,3,5,6,7,9,10,8,4,0,1] _ (by decide) rfl)⟩⟩
 rintro eu cc ⟨cG,bg,aR,aT,aX,a6,cp,cR,cS,cq,cU,cV,ej,dB⟩
 refine zL (zx zt [3,1,3,3,3,1,1,1,3,1,3,3,1,3,3,3,1,1,1,3,1,3,0] (wNM (.fx 22 .nil .stop)) (by kernel_rfl) ?_)
 have am:=dB.drew
 generalize hw_W258:({ cc with drawn:=cc.drawn + 1 }:World)=d6 at am ⊢
 refine oR Z (zF Z cV ZZ Z zg) (oL Z (am.ldB (j:=8) Z Z Z zr (v:=.slice aR ax.length aT) Z) (oM Z cp (oR Z (Zt Z Z) (oR Z (zF Z Z ZH Z Zw) (oL Z (am.ldB (j:=0) Z Z Z yC (v:=.map (some aa)) Z) (oL Z (am.ldBA (j:=4) Z Z cR zl zH (vs:=B0) Z Z) (oL Z (am.lookup1 (j:=1) (mk:=wBU) (mv:=wBc) (a:=p1) (z:=0) Z Z Z Z (wBj ZS) wDF ZG aN) (bnK cy fun _ bu dP=>?_))))))))
 obtain ⟨eg,cu⟩:=am.rowSome (j:=9) rfl (by rw [wAE (f:=KL.encI) (sz:=1) (fun _=>rfl) ax];have hz:=wAW bu;omega)
 refine oR Z (ZM Z Z cu Z zK zC (wBq bu) (wBr bu)) ?_
 have dN:=wBK (xs:=ax) (wAW bu)
 refine ZE rfl rfl rfl rfl (am.ldR (j:=9) rfl cu rfl rfl zG (wAc (sz:=1) (fun _=>rfl) _ _ 0 _ dN (by first | omega | rfl | simp) rfl)) rfl (za rfl rfl rfl rfl (fun _=>YD rfl rfl) (za rfl rfl rfl rfl (fun _=>zF rfl cU ZZ rfl zg) (ZE rfl rfl rfl rfl (am.ldB (j:=7) rfl rfl rfl zr (v:=.slice aS ay.length aU) rfl) rfl (zw rfl rfl rfl rfl rfl cp (za rfl rfl rfl rfl (fun _=>Zt rfl rfl) (za rfl rfl rfl rfl (fun _=>zF rfl rfl ZH rfl Zw) (ZE rfl rfl rfl rfl (am.ldB (j:=0) rfl rfl rfl yC (v:=.map (some aa)) rfl) rfl (ZE rfl rfl rfl rfl (am.ldBA (j:=3) rfl rfl cS zl zH (vs:=B1) rfl rfl) rfl (ZE rfl rfl rfl rfl (am.lookup1 (j:=1) (mk:=wBU) (mv:=wBc) (a:=p2) (z:=0) rfl rfl rfl rfl (wBj ZS) wDF ZG aN) rfl (bnK dP fun _ bv dQ=>?_))))))))))
 obtain ⟨eh,cw⟩:=am.rowSome (j:=5) rfl (by rw [wAE (f:=KL.encI) (sz:=1) (fun _=>rfl) ay];have hz:=wAW bv;omega)
 refine oR Z (ZM Z Z cw Z zK zC (wBq bv) (wBr bv)) ?_
 have dO:=wBK (xs:=ay) (wAW bv)
 refine ZE rfl rfl rfl rfl (am.ldR (j:=5) rfl cw rfl rfl zG (wAc (sz:=1) (fun _=>rfl) _ _ 0 _ dO (by first | omega | rfl | simp) rfl)) rfl ?_
 let aZ:List Value:=[jV (w64 (-(gd ax (wBP O.number p1 0).toNat))),jV (gd ay (wBP O.number p2 0).toNat)]
 refine oR Z (ZB (pv:=[(0,jV (w64 (-(gd ax (wBP O.number p1 0).toNat)))),(1,jV (gd ay (wBP O.number p2 0).toNat))]) (z:=B2) (cs:=aZ) Z (wAG Z (wAG Z wAR)) ZX wCu Z Z) (zX (j:=2) (vs:=aZ) Z Z Z Z am Z cq Z Z zz (zA Z) Z Z Z ?_)
 intro cN dC
 have cx:SW w [B3,.obj aa (.map ab ac)] φ cG [B3,.obj aa (.map ab ac),.blk ah 39 aZ,.blk b8 123 B1,.blk b4 123 B0,aP,aQ,aO,.blk bg 133 [.slice aR ax.length aT,.slice aX bC.length a6],.row aR aT 3 1 (hD KL.encI ax),.row aX a6 3 1 (hD KL.encI bC)] cN:=dC
 refine eN (zO ?_)
 cases dQ
 exact ⟨rfl,_,(wHW (v:=.agg aZ.toArray) ⟨⟨_,cq,(wBQ yA zz (cx.blkAt (k:=2) rfl) (vs:=aZ) rfl rfl)⟩,trivial⟩),cG,_,(cx.pick [0,1] _ (by decide) rfl),rfl,rfl⟩
theorem wHG (p0:wAA) (az:Option Addr) (aH:Nat) (aE:Option Addr) (aI:Nat) (aF:Option Addr) (aJ:Nat) (aG:Option Addr) (aK:Nat) (p1:wAM) (w:World) (φ:PHeap) (hS:St0 w φ []) (cx:Sl φ 1 az aH p0.Starts.length (hD KL.encI p0.Starts)) (cy:Sl φ 2 aE aI p0.Splits.length (hD wAD p0.Splits)) (cz:Sl φ 3 aF aJ p0.Clocks.length (hD wAF p0.Clocks)) (cA:Sl φ 4 aG aK p0.Readings.length (hD wAB p0.Readings)) {r:wAO × Int} (hm:wFA p0 p1=some r):Gv Tryz.prog 12 [.agg #[.slice az p0.Starts.length aH,.slice aE p0.Splits.length aI,.slice aF p0.Clocks.length aJ,.slice aG p0.Readings.length aK],.agg #[jV p1.Skier,jV p1.Mat]] w (wCG w [] φ (fun φ_ L_ v=>v=.tuple #[.agg #[jV r.1.Lo,jV r.1.Hi],jV r.2]/\L_=[])):=by
 unfold wFA at hm
 refine Gv.of Tryz.func12 Z Tryz.ntmps12 Tryz.results12 Z (sR (.fx 0 (.fx 1 gCf .stop) .stop) Z ?_)
 let B0:List Value:=[.slice az p0.Starts.length aH,.slice aE p0.Splits.length aI,.slice aF p0.Clocks.length aJ,.slice aG p0.Readings.length aK]
 refine zn (cs:=B0) rfl rfl rfl rfl rfl rfl (by rfl) hS ?_
 intro W1 b2 cp
 let B1:List Value:=[jV p1.Skier,jV p1.Mat]
 refine zn (cs:=B1) rfl rfl rfl rfl rfl rfl (by rfl) cp ?_
 intro W5 b6 ct
 let O:List Value:=[jV 0,jV 0]
 refine zV (cs:=O) Z Z Z Z Z ZX Z ct ?_
 intro W9 ae aQ
 refine oA Z Z (eN (sR (.fl 0 (.fl 1 (.fx 2 (.fx 3 (wJd (.nil)) .stop) .stop))) Z (oL Z (aQ.ldBA (j:=2) Z Z Z zo zZ (vs:=B0) Z Z) (oL Z (aQ.ldBA (j:=1) Z Z Z Zn ZV (vs:=B1) Z Z) (ZR (pv:=[(0,.agg B1.toArray)]) (zs:=O) (cs:=B1) Z Z Z Z Z (wAG Z wAR) Zz ZV yG Z Z Z Z Z aQ ?_)))))
 intro aM a7 cj
 have cm:sW w φ φ [.row (some ⟨a7,0,none⟩) 1 29 2 (hD wAY [p1]),.blk ae 39 O,.blk b6 29 B1,.blk b2 27 B0] aM:=cj
 have q:=cm.freezeR (k:=0) (n:=[p1].length) rfl (wAE (f:=wAY) (sz:=2) (fun _=>rfl) [p1]) (by decide)
 obtain ⟨bo,ay,cM,cn⟩:=q
 have co:sW w φ bo [.blk ae 39 O,.blk b6 29 B1,.blk b2 27 B0] aM:=cn
 have bL:=cx.le ay
 have bM:=cy.le ay
 have bN:=cz.le ay
 have bO:=cA.le ay
 have q:=bnd hm
 obtain ⟨⟨cO,aL⟩,bP,aq⟩:=q
 try dsimp only at aq
 refine zD 0 Z Z Z Z (zE Z Z Tryz.call63 (zB Z (zB Z zM)) Z) co (fun hs=>wFC p0 az aH aE aI aF aJ aG aK [p1] (some ⟨a7,0,none⟩) 1 aM bo hs bL bM bN bO cM bP) (.inr Z) ?_
 rintro aj cU dk ao dd bg bd
 rcases cO with _ | ap
 try dsimp only at aq
 obtain ⟨rfl,rfl⟩:=bd
 have bh:sW w φ aj [.blk ae 39 O,.blk b6 29 B1,.blk b2 27 B0] ao:=bg
 refine oM Z Z (oR Z (zU Z Z (v:=.pointer none) Z) (oR Z (zU Z Z (v:=jV aL) Z) (oA Z Z (oA Z Z (eN (zL (sR fL2 Z (oM Z Z (oR Z (ZP Z Z Z) (eN (ifc aq ?_ ?_)))))))))))
 intro aO cG
 refine zj (zu (fun h=>h aO.out)) (kN (zL (zx zt [3,2,1,2,0,0,3] gDm (by kernel_rfl) ?_)))
 have aR:=bh.drew
 generalize hw_W57:({ ao with drawn:=ao.drawn + 1 }:World)=bu at aR ⊢
 refine oM Z Z (oL Z (aR.ldBA (j:=1) Z Z Z Zn ZV (vs:=B1) Z Z) (bnK cG fun dp bQ cH=>zD 0 Z Z Z Z (zE Z Z yk zM Z) aR (fun hs=>wCM bu aj hs bQ) (.inr Z) ?_))
 rintro bp cV dl a6 de cq ⟨rfl,rfl⟩
 have cr:sW w φ bp [.blk ae 39 O,.blk b6 29 B1,.blk b2 27 B0] a6:=cq
 refine bnK cH fun dq bR cI=>zD 0 Z Z Z Z (zE Z Z yp (zB Z zM) Z) cr (fun hs=>wDJ p1 a6 bp hs bR) (.inr Z) ?_
 rintro cQ cW dm bv df cu ⟨rfl,rfl⟩
 have da:sW w φ cQ [.blk ae 39 O,.blk b6 29 B1,.blk b2 27 B0] bv:=cu
 cases cI
 intro aO cJ
 refine cT Z aO (sR gDa Z (oR Z (ZB (pv:=[]) (z:=O) (cs:=O) Z wAR ZX wCu Z Z) (oM Z Z (zX (j:=0) (vs:=O) Z Z Z Z bh Z Z Z Z zz (zA Z) Z Z Z ?_))))
 intro bw cw
 have bi:sW w φ aj [.blk ae 39 O,.blk b6 29 B1,.blk b2 27 B0] bw:=cw
 refine oA Z Z (eN (zO (zQ ?_)))
 cases cJ
 exact ⟨rfl,_,(wEk (rs:=[.cell 4 39,.tmp 5]) (vs:=[.agg O.toArray,jV aL]) ⟨⟨_,rfl,(wBQ yA zz (bi.blkAt (k:=0) rfl) (vs:=O) rfl rfl)⟩,⟨rfl,trivial⟩⟩ rfl),aj,_,(bi.pick [] _ (by decide) rfl),rfl,rfl⟩
 try dsimp only at aq
 obtain ⟨aN,aU,a8,aV,a9,aW,ba,aX,bb,ai,am,ak,aY,bc,rfl,rfl,bS,bT,bU,bV,bW,bX⟩:=bd
 let B3:Res:=.blk aN 139 [.slice aU ap.Race.Starts.length a8,.slice aV ap.Race.Splits.length a9,.slice aW ap.Race.Clocks.length ba,.slice aX ap.Race.Readings.length bb,.map (some ai),.slice aY ap.edges.length bc]
 have bj:sW w φ aj [B3,.obj ai (.map am ak),.blk ae 39 O,.blk b6 29 B1,.blk b2 27 B0] ao:=bg
 refine oM Z Z (oR Z (zU Z Z (v:=.pointer (some ⟨aN,0,none⟩)) Z) (oR Z (zU Z Z (v:=jV aL) Z) (oA Z Z (oA Z Z (eN (zL (sR fL2 Z (oM Z Z (oR Z (ZP Z Z Z) (eN (ifc aq ?_ ?_)))))))))))
 intro aP cK
 refine zj (zu (fun h=>h aP.out)) (kN (zL (zx zt [3,2,1,2,0,0,3] gDm (by kernel_rfl) ?_)))
 have aS:=bj.drew
 generalize hw_W94:({ ao with drawn:=ao.drawn + 1 }:World)=bx at aS ⊢
 refine oM Z Z (oL Z (aS.ldBA (j:=3) Z Z Z Zn ZV (vs:=B1) Z Z) (bnK cK fun cP bY cL=>zD 0 Z Z Z Z (zE Z Z yk zM Z) aS (fun hs=>wCM bx aj hs bY) (.inr Z) ?_))
 rintro bq cX dg aZ au bZ ⟨rfl,rfl⟩
 have b5:sW w φ bq [B3,.obj ai (.map am ak),.blk ae 39 O,.blk b6 29 B1,.blk b2 27 B0] aZ:=bZ
 refine bnK cL fun cN bz cC=>zD 0 Z Z Z Z (zE Z Z yp (zB Z zM) Z) b5 (fun hs=>wDJ p1 aZ bq hs bz) (.inr Z) ?_
 rintro bn cR dh a5 av ca ⟨rfl,rfl⟩
 have cb:sW w φ bn [B3,.obj ai (.map am ak),.blk ae 39 O,.blk b6 29 B1,.blk b2 27 B0] a5:=ca
 have bA:=bS.le au
 have bB:=bA.le av
 have bC:=bT.le au
 have bD:=bC.le av
 have bE:=bU.le au
 have bF:=bE.le av
 have bG:=bV.le au
 have bH:=bG.le av
 have bI:=bX.le au
 have bJ:=bI.le av
 refine bnK cC fun bm bK cD=>zD 2 Z Z Z Z (zE Z Z Tryz.call64 (zB Z (zB Z (zB Z zM))) Z) cb (fun hs=>wEp ap aN aU a8 aV a9 aW ba aX bb ai am ak aY bc cP cN a5 bn hs bB bD bF bH bW bJ bK) (.inl Z) ?_
 rintro aT cS di br db cc ⟨rfl,rfl⟩
 have cd:sW w φ aT [B3,.obj ai (.map am ak),.blk ae 39 O,.blk b6 29 B1,.blk b2 27 B0] br:=cc
 let B4:List Value:=[jV bm.Lo,jV bm.Hi]
 refine zX (j:=2) (vs:=B4) Z Z Z Z cd Z Z Z Z zz (zA Z) Z Z Z ?_
 intro bs cf
 have be:sW w φ aT [B3,.obj ai (.map am ak),.blk ae 39 B4,.blk b6 29 B1,.blk b2 27 B0] bs:=cf
 refine oA Z Z (eN (zO ?_))
 cases cD
 exact ⟨rfl,_,(wEk (rs:=[.cell 4 39,.tmp 5]) (vs:=[.agg B4.toArray,jV 0]) ⟨⟨_,rfl,(wBQ yA zz (be.blkAt (k:=2) rfl) (vs:=B4) rfl rfl)⟩,⟨rfl,trivial⟩⟩ rfl),aT,_,(be.pick [] _ (by decide) rfl),rfl,rfl⟩
 intro aP cE
 refine cT Z aP (sR gDa Z (oR Z (ZB (pv:=[]) (z:=O) (cs:=O) Z wAR ZX wCu Z Z) (oM Z Z (zX (j:=2) (vs:=O) Z Z Z Z bj Z Z Z Z zz (zA Z) Z Z Z ?_))))
 intro bt cg
 have bf:sW w φ aj [B3,.obj ai (.map am ak),.blk ae 39 O,.blk b6 29 B1,.blk b2 27 B0] bt:=cg
 refine oA Z Z (eN (zO (zQ ?_)))
 cases cE
 exact ⟨rfl,_,(wEk (rs:=[.cell 4 39,.tmp 5]) (vs:=[.agg O.toArray,jV aL]) ⟨⟨_,rfl,(wBQ yA zz (bf.blkAt (k:=2) rfl) (vs:=O) rfl rfl)⟩,⟨rfl,trivial⟩⟩ rfl),aj,_,(bf.pick [] _ (by decide) rfl),rfl,rfl⟩
end Go.Proofs.YtlnfbjphfoipaaaGreat
namespace Go.Proofs.YtlnfbjphfoipaaaGreat
open Go.KL
set_option maxHeartbeats 4000000
theorem wKk (p0:wAA) (aJ:Option Addr) (aN:Nat) (aK:Option Addr) (aO:Nat) (aL:Option Addr) (aP:Nat) (aM:Option Addr) (aQ:Nat) (p1:wAM) (p2:wAM) (w:World) (φ:PHeap) (hS:St0 w φ []) (cC:Sl φ 1 aJ aN p0.Starts.length (hD KL.encI p0.Starts)) (cD:Sl φ 2 aK aO p0.Splits.length (hD wAD p0.Splits)) (cE:Sl φ 3 aL aP p0.Clocks.length (hD wAF p0.Clocks)) (cG:Sl φ 4 aM aQ p0.Readings.length (hD wAB p0.Readings)) {r:wAO × Int} (hm:wGx p0 p1 p2=some r):Gv Tryz.prog 16 [.agg #[.slice aJ p0.Starts.length aN,.slice aK p0.Splits.length aO,.slice aL p0.Clocks.length aP,.slice aM p0.Readings.length aQ],.agg #[jV p1.Skier,jV p1.Mat],.agg #[jV p2.Skier,jV p2.Mat]] w (wCG w [] φ (fun φ_ L_ v=>v=.tuple #[.agg #[jV r.1.Lo,jV r.1.Hi],jV r.2]/\L_=[])):=by
 unfold wGx at hm
 refine Gv.of Tryz.func16 Z Tryz.ntmps16 Tryz.results16 Z (sR (.fx 0 (.fx 1 gCu .stop) .stop) Z ?_)
 let B0:List Value:=[.slice aJ p0.Starts.length aN,.slice aK p0.Splits.length aO,.slice aL p0.Clocks.length aP,.slice aM p0.Readings.length aQ]
 refine zn (cs:=B0) rfl rfl rfl rfl rfl rfl (by rfl) hS ?_
 intro W1 b2 cu
 let B1:List Value:=[jV p1.Skier,jV p1.Mat]
 refine zn (cs:=B1) rfl rfl rfl rfl rfl rfl (by rfl) cu ?_
 intro W5 b6 cw
 let B2:List Value:=[jV p2.Skier,jV p2.Mat]
 refine zn (cs:=B2) rfl rfl rfl rfl rfl rfl (by rfl) cw ?_
 intro W9 ah cd
 let O:List Value:=[jV 0,jV 0]
 refine zV (cs:=O) Z Z Z Z Z ZX Z cd ?_
 intro dd ai aF
 refine oA Z Z (eN (sR (wDK (.fx 3 (.fx 4 (wIs (.nil)) .stop) .stop)) Z (oL Z (aF.ldBA (j:=3) Z Z Z zo zZ (vs:=B0) Z Z) (oL Z (aF.ldBA (j:=2) Z Z Z Zn ZV (vs:=B1) Z Z) (oL Z (aF.ldBA (j:=1) Z Z Z Zn ZV (vs:=B2) Z Z) (ZR (pv:=[(0,.agg B1.toArray),(1,.agg B2.toArray)]) (zs:=[jV 0,jV 0,jV 0,jV 0]) (cs:=[jV p1.Skier,jV p1.Mat,jV p2.Skier,jV p2.Mat]) Z Z Z Z Z (wAG Z (wAG Z wAR)) Zz ZV yG Z Z Z Z Z aF ?_))))))
 intro aS ba cp
 have cq:sW w φ φ [.row (some ⟨ba,0,none⟩) 2 29 2 (hD wAY [p1,p2]),.blk ai 39 O,.blk ah 29 B2,.blk b6 29 B1,.blk b2 27 B0] aS:=cp
 have q:=cq.freezeR (k:=0) (n:=[p1,p2].length) rfl (wAE (f:=wAY) (sz:=2) (fun _=>rfl) [p1,p2]) (by decide)
 obtain ⟨bs,aI,cQ,cr⟩:=q
 have ct:sW w φ bs [.blk ai 39 O,.blk ah 29 B2,.blk b6 29 B1,.blk b2 27 B0] aS:=cr
 have bP:=cC.le aI
 have bQ:=cD.le aI
 have bR:=cE.le aI
 have bS:=cG.le aI
 have q:=bnd hm
 obtain ⟨⟨cS,aR⟩,bT,ax⟩:=q
 try dsimp only at ax
 refine zD 0 Z Z Z Z (zE Z Z Tryz.call63 (zB Z (zB Z zM)) Z) ct (fun hs=>wFC p0 aJ aN aK aO aL aP aM aQ [p1,p2] (some ⟨ba,0,none⟩) 2 aS bs hs bP bQ bR bS cQ bT) (.inr Z) ?_
 rintro an cZ dr au di bj bg
 rcases cS with _ | av
 try dsimp only at ax
 obtain ⟨rfl,rfl⟩:=bg
 have bm:sW w φ an [.blk ai 39 O,.blk ah 29 B2,.blk b6 29 B1,.blk b2 27 B0] au:=bj
 refine oM Z Z (oR Z (zU Z Z (v:=.pointer none) Z) (oR Z (zU Z Z (v:=jV aR) Z) (oA Z Z (oA Z Z (eN (zL (sR fL2 Z (oM Z Z (oR Z (ZP Z Z Z) (eN (ifc ax ?_ ?_)))))))))))
 intro aU cL
 refine zj (zu (fun h=>h aU.out)) (kN (zL (zx zt [3,1,2,1,2,0,0,3] gDn (by kernel_rfl) ?_)))
 have aG:=bm.drew
 generalize hw_W61:({ au with drawn:=au.drawn + 1 }:World)=bx at aG ⊢
 refine oM Z Z (oL Z (aG.ldBA (j:=2) Z Z Z Zn ZV (vs:=B1) Z Z) (oL Z (aG.ldBA (j:=1) Z Z Z Zn ZV (vs:=B2) Z Z) (bnK cL fun dv bU cM=>zD 0 Z Z Z Z (zE Z Z yp (zB Z zM) Z) aG (fun hs=>wDJ p1 bx an hs bU) (.inr Z) ?_)))
 rintro bt c6 dt a9 dk cx ⟨rfl,rfl⟩
 have cy:sW w φ bt [.blk ai 39 O,.blk ah 29 B2,.blk b6 29 B1,.blk b2 27 B0] a9:=cx
 refine bnK cM fun dw bV cN=>zD 0 Z Z Z Z (zE Z Z yp (zB Z zM) Z) cy (fun hs=>wDJ p2 a9 bt hs bV) (.inr Z) ?_
 rintro cV da du bz dl cz ⟨rfl,rfl⟩
 have dg:sW w φ cV [.blk ai 39 O,.blk ah 29 B2,.blk b6 29 B1,.blk b2 27 B0] bz:=cz
 cases cN
 intro aU cO
 refine cT Z aU (sR gDa Z (oR Z (ZB (pv:=[]) (z:=O) (cs:=O) Z wAR ZX wCu Z Z) (oM Z Z (zX (j:=0) (vs:=O) Z Z Z Z bm Z Z Z Z zz (zA Z) Z Z Z ?_))))
 intro bA cA
 have bn:sW w φ an [.blk ai 39 O,.blk ah 29 B2,.blk b6 29 B1,.blk b2 27 B0] bA:=cA
 refine oA Z Z (eN (zO (zQ ?_)))
 cases cO
 exact ⟨rfl,_,(wEk (rs:=[.cell 6 39,.tmp 7]) (vs:=[.agg O.toArray,jV aR]) ⟨⟨_,rfl,(wBQ yA zz (bn.blkAt (k:=0) rfl) (vs:=O) rfl rfl)⟩,⟨rfl,trivial⟩⟩ rfl),an,_,(bn.pick [] _ (by decide) rfl),rfl,rfl⟩
 try dsimp only at ax
 obtain ⟨aT,aX,bb,aY,bc,aZ,bd,a5,be,am,ap,ao,a6,bf,rfl,rfl,bW,bX,bY,bZ,b5,ca⟩:=bg
 let B4:Res:=.blk aT 139 [.slice aX av.Race.Starts.length bb,.slice aY av.Race.Splits.length bc,.slice aZ av.Race.Clocks.length bd,.slice a5 av.Race.Readings.length be,.map (some am),.slice a6 av.edges.length bf]
 have bo:sW w φ an [B4,.obj am (.map ap ao),.blk ai 39 O,.blk ah 29 B2,.blk b6 29 B1,.blk b2 27 B0] au:=bj
 refine oM Z Z (oR Z (zU Z Z (v:=.pointer (some ⟨aT,0,none⟩)) Z) (oR Z (zU Z Z (v:=jV aR) Z) (oA Z Z (oA Z Z (eN (zL (sR fL2 Z (oM Z Z (oR Z (ZP Z Z Z) (eN (ifc ax ?_ ?_)))))))))))
 intro aV cP
 refine zj (zu (fun h=>h aV.out)) (kN (zL (zx zt [3,1,2,1,2,0,0,3] gDn (by kernel_rfl) ?_)))
 have aH:=bo.drew
 generalize hw_W98:({ au with drawn:=au.drawn + 1 }:World)=bB at aH ⊢
 refine oM Z Z (oL Z (aH.ldBA (j:=4) Z Z Z Zn ZV (vs:=B1) Z Z) (oL Z (aH.ldBA (j:=3) Z Z Z Zn ZV (vs:=B2) Z Z) (bnK cP fun cU bC cH=>zD 0 Z Z Z Z (zE Z Z yp (zB Z zM) Z) aH (fun hs=>wDJ p1 bB an hs bC) (.inr Z) ?_)))
 rintro bq cW dm a7 ay cb ⟨rfl,rfl⟩
 have cc:sW w φ bq [B4,.obj am (.map ap ao),.blk ai 39 O,.blk ah 29 B2,.blk b6 29 B1,.blk b2 27 B0] a7:=cb
 refine bnK cH fun cR bD cI=>zD 0 Z Z Z Z (zE Z Z yp (zB Z zM) Z) cc (fun hs=>wDJ p2 a7 bq hs bD) (.inr Z) ?_
 rintro br cX dp a8 az cf ⟨rfl,rfl⟩
 have cg:sW w φ br [B4,.obj am (.map ap ao),.blk ai 39 O,.blk ah 29 B2,.blk b6 29 B1,.blk b2 27 B0] a8:=cf
 have bE:=bW.le ay
 have bF:=bE.le az
 have bG:=bX.le ay
 have bH:=bG.le az
 have bI:=bY.le ay
 have bJ:=bI.le az
 have bK:=bZ.le ay
 have bL:=bK.le az
 have bM:=ca.le ay
 have bN:=bM.le az
 refine bnK cI fun bp bO cJ=>zD 2 Z Z Z Z (zE Z Z Tryz.call64 (zB Z (zB Z (zB Z zM))) Z) cg (fun hs=>wEp av aT aX bb aY bc aZ bd a5 be am ap ao a6 bf cU cR a8 br hs bF bH bJ bL b5 bN bO) (.inl Z) ?_
 rintro aW cY dq bu dh cj ⟨rfl,rfl⟩
 have cm:sW w φ aW [B4,.obj am (.map ap ao),.blk ai 39 O,.blk ah 29 B2,.blk b6 29 B1,.blk b2 27 B0] bu:=cj
 let B5:List Value:=[jV bp.Lo,jV bp.Hi]
 refine zX (j:=2) (vs:=B5) Z Z Z Z cm Z Z Z Z zz (zA Z) Z Z Z ?_
 intro bv cn
 have bh:sW w φ aW [B4,.obj am (.map ap ao),.blk ai 39 B5,.blk ah 29 B2,.blk b6 29 B1,.blk b2 27 B0] bv:=cn
 refine oA Z Z (eN (zO ?_))
 cases cJ
 exact ⟨rfl,_,(wEk (rs:=[.cell 6 39,.tmp 7]) (vs:=[.agg B5.toArray,jV 0]) ⟨⟨_,rfl,(wBQ yA zz (bh.blkAt (k:=2) rfl) (vs:=B5) rfl rfl)⟩,⟨rfl,trivial⟩⟩ rfl),aW,_,(bh.pick [] _ (by decide) rfl),rfl,rfl⟩
 intro aV cK
 refine cT Z aV (sR gDa Z (oR Z (ZB (pv:=[]) (z:=O) (cs:=O) Z wAR ZX wCu Z Z) (oM Z Z (zX (j:=2) (vs:=O) Z Z Z Z bo Z Z Z Z zz (zA Z) Z Z Z ?_))))
 intro bw co
 have bi:sW w φ an [B4,.obj am (.map ap ao),.blk ai 39 O,.blk ah 29 B2,.blk b6 29 B1,.blk b2 27 B0] bw:=co
 refine oA Z Z (eN (zO (zQ ?_)))
 cases cK
 exact ⟨rfl,_,(wEk (rs:=[.cell 6 39,.tmp 7]) (vs:=[.agg O.toArray,jV aR]) ⟨⟨_,rfl,(wBQ yA zz (bi.blkAt (k:=2) rfl) (vs:=O) rfl rfl)⟩,⟨rfl,trivial⟩⟩ rfl),an,_,(bi.pick [] _ (by decide) rfl),rfl,rfl⟩
theorem wGh (p0:wAA) (ah:Option Addr) (am:Nat) (ai:Option Addr) (an:Nat) (aj:Option Addr) (ao:Nat) (ak:Option Addr) (ap:Nat) (O:wAC) (w:World) (φ:PHeap) (hS:St0 w φ []) (aQ:Sl φ 1 ah am p0.Starts.length (hD KL.encI p0.Starts)) (aR:Sl φ 2 ai an p0.Splits.length (hD wAD p0.Splits)) (aS:Sl φ 3 aj ao p0.Clocks.length (hD wAF p0.Clocks)) (aT:Sl φ 4 ak ap p0.Readings.length (hD wAB p0.Readings)) {r:Bool} (hm:wAv p0 O=some r):Gv Tryz.prog 128 [.agg #[.slice ah p0.Starts.length am,.slice ai p0.Splits.length an,.slice aj p0.Clocks.length ao,.slice ak p0.Readings.length ap],.agg #[jV O.Kind,jV O.Skier,jV O.Index,.bool O.Up]] w (wCG w [] φ (fun φ_ L_ v=>v=.bool r/\L_=[])):=by
 unfold wAv at hm
 refine Gv.of Tryz.func128 Z Tryz.ntmps128 Tryz.results128 Z ?_
 by_cases c1:O.Kind=0
 have bQ:=hm;rw [if_pos c1] at bQ
 refine sR gCv Z ?_
 let B0:List Value:=[.slice ah p0.Starts.length am,.slice ai p0.Splits.length an,.slice aj p0.Clocks.length ao,.slice ak p0.Readings.length ap]
 refine zn (cs:=B0) rfl rfl rfl rfl rfl rfl (by rfl) hS ?_
 intro W6 b7 dV
 let B1:List Value:=[jV O.Kind,jV O.Skier,jV O.Index,.bool O.Up]
 refine zn (cs:=B1) rfl rfl rfl rfl rfl rfl (by rfl) dV ?_
 intro bs a8 dw
 refine yP rfl rfl rfl rfl rfl rfl (eN (zL (zx zt [3,1,2,3,2,3,1,3,3,1,1,2,3,3] gDo (by kernel_rfl) ?_)))
 have bh:=dw.drew
 generalize hw_W15:({ bs with drawn:=bs.drawn + 1 }:World)=cc at bh ⊢
 refine oR Z (zF Z Z zk Z yJ) (oL Z (bh.ldB (j:=0) Z Z Z yS (v:=jV O.Kind) Z) (bnK bQ fun fB cD d8=>zD 0 Z Z Z Z (zE Z Z yW (zB Z (zB Z (zB Z zM))) Z) bh (fun hs=>wCQ O.Kind 0 3 cc φ hs cD) (.inr Z) ?_))
 rintro bp eG fj bB aY dN ⟨rfl,rfl⟩
 have aL:sW w φ bp [.blk a8 93 B1,.blk b7 27 B0] bB:=dN
 refine oM Z Z (ifc d8 ?_ ?_)
 intro ae eo
 refine za Z Z Z (zI Z Z (congrArg hH ae.out)) (fun _=>zF Z Z zk Z yJ) (ZE Z Z Z (zI Z Z (congrArg hH ae.out)) (aL.ldB (j:=0) Z Z Z yS (v:=jV O.Kind) Z) Z (ZE Z Z Z (zI Z Z (congrArg hH ae.out)) (aL.ldBA (j:=1) Z Z Z zo zZ (vs:=B0) Z Z) Z (ZE Z Z Z (zI Z Z (congrArg hH ae.out)) (aL.ldBA (j:=0) Z Z Z Zs ZK (vs:=B1) Z Z) Z ?_)))
 have q:=bnd eo
 obtain ⟨⟨⟩,cS,bP⟩:=q
 try dsimp only at bP
 refine zD 0 Z Z Z (zI Z Z (congrArg hH ae.out)) (zE Z Z ya zM Z) aL (fun hs=>wBT bB bp hs cS) (.inr Z) ?_
 rintro bX eK fq bD aZ dO ⟨rfl,rfl⟩
 have dP:sW w φ bX [.blk a8 93 B1,.blk b7 27 B0] bD:=dO
 refine za rfl rfl rfl (zI rfl rfl (congrArg hH ae.out)) (fun _=>(yz (i:=0) rfl rfl (congrArg (jV) c1) Zu ZY (by decide) (by decide) (wDi yg ZY rfl))) (za rfl rfl rfl (zI rfl rfl (congrArg hH ae.out)) (fun _=>Runs.fld rfl rfl yB rfl (wFd Tryz.isAgg196 (v:=.func (.func 133) #[] #[]) rfl)) ?_)
 have cU:=aQ.le aY
 have cV:=cU.le aZ
 have cW:=aR.le aY
 have cX:=cW.le aZ
 have cY:=aS.le aY
 have cZ:=cY.le aZ
 have c6:=aT.le aY
 have da:=c6.le aZ
 refine bnK bP fun fG db ep=>zD 0 Z Z Z (zI Z Z (congrArg hH ae.out)) (zE Z Z Tryz.call133 (zB Z (zB Z zM)) Z) dP (fun hs=>wHu p0 ah am ai an aj ao ak ap O bD bX hs cV cX cZ da db) (.inr Z) ?_
 rintro bY eL ft cn e8 dQ ⟨rfl,rfl⟩
 have dR:sW w φ bY [.blk a8 93 B1,.blk b7 27 B0] cn:=dQ
 refine oR Z (zR Z (congrArg hH ae.out) Z) (oA Z Z (eN (zO ?_)))
 have hE:=nB ep;first | subst r | cases hE
 exact ⟨rfl,_,(ZA rfl),bY,_,(dR.pick [] _ (by decide) rfl),rfl,rfl⟩
 intro ae er
 refine zy Z Z Z (zP Z Z (congrArg hH (hJ.2 ae.out)) Z) (zy Z Z Z (zP Z Z (congrArg hH (hJ.2 ae.out)) Z) (zy Z Z Z (zP Z Z (congrArg hH (hJ.2 ae.out)) Z) (zy Z Z Z (zP Z Z (congrArg hH (hJ.2 ae.out)) Z) (ZC Z Z Z (zP Z Z (congrArg hH (hJ.2 ae.out)) Z) (zy Z Z Z (zP Z Z (congrArg hH (hJ.2 ae.out)) Z) (zy Z Z Z (zP Z Z (congrArg hH (hJ.2 ae.out)) Z) (ZC Z Z Z (zP Z Z (congrArg hH (hJ.2 ae.out)) Z) (oR Z (zW Z (congrArg hH (hJ.2 ae.out)) Z) (oA Z Z (eN (zO ?_)))))))))))
 have hE:=nB er;first | subst r | cases hE
 exact ⟨rfl,_,(ZA rfl),bp,_,(aL.pick [] _ (by decide) rfl),rfl,rfl⟩
 by_cases c2:O.Kind=1
 have bR:=hm;rw [if_neg c1,if_pos c2] at bR
 refine sR gCv Z ?_
 let B2:List Value:=[.slice ah p0.Starts.length am,.slice ai p0.Splits.length an,.slice aj p0.Clocks.length ao,.slice ak p0.Readings.length ap]
 refine zn (cs:=B2) rfl rfl rfl rfl rfl rfl (by rfl) hS ?_
 intro eS bc dS
 let B3:List Value:=[jV O.Kind,jV O.Skier,jV O.Index,.bool O.Up]
 refine zn (cs:=B3) rfl rfl rfl rfl rfl rfl (by rfl) dS ?_
 intro bE bd dT
 refine yP rfl rfl rfl rfl rfl rfl (eN (zL (zx zt [3,1,2,3,2,3,1,3,3,1,1,2,3,3] gDo (by kernel_rfl) ?_)))
 have bm:=dT.drew
 generalize hw_W66:({ bE with drawn:=bE.drawn + 1 }:World)=co at bm ⊢
 refine oR Z (zF Z Z zk Z yJ) (oL Z (bm.ldB (j:=0) Z Z Z yS (v:=jV O.Kind) Z) (bnK bR fun fH dd eu=>zD 0 Z Z Z Z (zE Z Z yW (zB Z (zB Z (zB Z zM))) Z) bm (fun hs=>wCQ O.Kind 0 3 co φ hs dd) (.inr Z) ?_))
 rintro br eM fu bF a5 dU ⟨rfl,rfl⟩
 have aM:sW w φ br [.blk bd 93 B3,.blk bc 27 B2] bF:=dU
 refine oM Z Z (ifc eu ?_ ?_)
 intro af ew
 refine za Z Z Z (zI Z Z (congrArg hH af.out)) (fun _=>zF Z Z zk Z yJ) (ZE Z Z Z (zI Z Z (congrArg hH af.out)) (aM.ldB (j:=0) Z Z Z yS (v:=jV O.Kind) Z) Z (ZE Z Z Z (zI Z Z (congrArg hH af.out)) (aM.ldBA (j:=1) Z Z Z zo zZ (vs:=B2) Z Z) Z (ZE Z Z Z (zI Z Z (congrArg hH af.out)) (aM.ldBA (j:=0) Z Z Z Zs ZK (vs:=B3) Z Z) Z ?_)))
 have q:=bnd ew
 obtain ⟨⟨⟩,de,bS⟩:=q
 try dsimp only at bS
 refine zD 0 Z Z Z (zI Z Z (congrArg hH af.out)) (zE Z Z ya zM Z) aM (fun hs=>wBT bF br hs de) (.inr Z) ?_
 rintro bZ eO fy bG a6 dW ⟨rfl,rfl⟩
 have dX:sW w φ bZ [.blk bd 93 B3,.blk bc 27 B2] bG:=dW
 refine za rfl rfl rfl (zI rfl rfl (congrArg hH af.out)) (fun _=>(yz (i:=1) rfl rfl (congrArg (jV) c2) Zu ZY (by decide) (by decide) (wDi yg ZY rfl))) (za rfl rfl rfl (zI rfl rfl (congrArg hH af.out)) (fun _=>Runs.fld rfl rfl yB rfl (wFd Tryz.isAgg196 (v:=.func (.func 136) #[] #[]) rfl)) ?_)
 have df:=aQ.le a5
 have dg:=df.le a6
 have dh:=aR.le a5
 have di:=dh.le a6
 have dk:=aS.le a5
 have dl:=dk.le a6
 have dm:=aT.le a5
 have dp:=dm.le a6
 refine bnK bS fun fI dq ey=>zD 0 Z Z Z (zI Z Z (congrArg hH af.out)) (zE Z Z Tryz.call136 (zB Z (zB Z zM)) Z) dX (fun hs=>wHx p0 ah am ai an aj ao ak ap O bG bZ hs dg di dl dp dq) (.inr Z) ?_
 rintro b5 eA e9 ca eW dr ⟨rfl,rfl⟩
 have dt:sW w φ b5 [.blk bd 93 B3,.blk bc 27 B2] ca:=dr
 refine oR Z (zR Z (congrArg hH af.out) Z) (oA Z Z (eN (zO ?_)))
 have hE:=nB ey;first | subst r | cases hE
 exact ⟨rfl,_,(ZA rfl),b5,_,(dt.pick [] _ (by decide) rfl),rfl,rfl⟩
 intro af dY
 refine zy Z Z Z (zP Z Z (congrArg hH (hJ.2 af.out)) Z) (zy Z Z Z (zP Z Z (congrArg hH (hJ.2 af.out)) Z) (zy Z Z Z (zP Z Z (congrArg hH (hJ.2 af.out)) Z) (zy Z Z Z (zP Z Z (congrArg hH (hJ.2 af.out)) Z) (ZC Z Z Z (zP Z Z (congrArg hH (hJ.2 af.out)) Z) (zy Z Z Z (zP Z Z (congrArg hH (hJ.2 af.out)) Z) (zy Z Z Z (zP Z Z (congrArg hH (hJ.2 af.out)) Z) (ZC Z Z Z (zP Z Z (congrArg hH (hJ.2 af.out)) Z) (oR Z (zW Z (congrArg hH (hJ.2 af.out)) Z) (oA Z Z (eN (zO ?_)))))))))))
 have hE:=nB dY;first | subst r | cases hE
 exact ⟨rfl,_,(ZA rfl),br,_,(aM.pick [] _ (by decide) rfl),rfl,rfl⟩
 by_cases c3:O.Kind=2
 have bJ:=hm;rw [if_neg c1,if_neg c2,if_pos c3] at bJ
 refine sR gCv Z ?_
 let B4:List Value:=[.slice ah p0.Starts.length am,.slice ai p0.Splits.length an,.slice aj p0.Clocks.length ao,.slice ak p0.Readings.length ap]
 refine zn (cs:=B4) rfl rfl rfl rfl rfl rfl (by rfl) hS ?_
 intro eP a7 du
 let B5:List Value:=[jV O.Kind,jV O.Skier,jV O.Index,.bool O.Up]
 refine zn (cs:=B5) rfl rfl rfl rfl rfl rfl (by rfl) du ?_
 intro bt a9 dv
 refine yP rfl rfl rfl rfl rfl rfl (eN (zL (zx zt [3,1,2,3,2,3,1,3,3,1,1,2,3,3] gDo (by kernel_rfl) ?_)))
 have bg:=dv.drew
 generalize hw_W117:({ bt with drawn:=bt.drawn + 1 }:World)=cb at bg ⊢
 refine oR Z (zF Z Z zk Z yJ) (oL Z (bg.ldB (j:=0) Z Z Z yS (v:=jV O.Kind) Z) (bnK bJ fun fz cp dZ=>zD 0 Z Z Z Z (zE Z Z yW (zB Z (zB Z (zB Z zM))) Z) bg (fun hs=>wCQ O.Kind 0 3 cb φ hs cp) (.inr Z) ?_))
 rintro bn eB fb bu aU dx ⟨rfl,rfl⟩
 have aI:sW w φ bn [.blk a9 93 B5,.blk a7 27 B4] bu:=dx
 refine oM Z Z (ifc dZ ?_ ?_)
 intro ab d4
 refine za Z Z Z (zI Z Z (congrArg hH ab.out)) (fun _=>zF Z Z zk Z yJ) (ZE Z Z Z (zI Z Z (congrArg hH ab.out)) (aI.ldB (j:=0) Z Z Z yS (v:=jV O.Kind) Z) Z (ZE Z Z Z (zI Z Z (congrArg hH ab.out)) (aI.ldBA (j:=1) Z Z Z zo zZ (vs:=B4) Z Z) Z (ZE Z Z Z (zI Z Z (congrArg hH ab.out)) (aI.ldBA (j:=0) Z Z Z Zs ZK (vs:=B5) Z Z) Z ?_)))
 have q:=bnd d4
 obtain ⟨⟨⟩,cq,bK⟩:=q
 try dsimp only at bK
 refine zD 0 Z Z Z (zI Z Z (congrArg hH ab.out)) (zE Z Z ya zM Z) aI (fun hs=>wBT bu bn hs cq) (.inr Z) ?_
 rintro bT eC fc bv aV dy ⟨rfl,rfl⟩
 have dz:sW w φ bT [.blk a9 93 B5,.blk a7 27 B4] bv:=dy
 refine za rfl rfl rfl (zI rfl rfl (congrArg hH ab.out)) (fun _=>(yz (i:=2) rfl rfl (congrArg (jV) c3) Zu ZY (by decide) (by decide) (wDi yg ZY rfl))) (za rfl rfl rfl (zI rfl rfl (congrArg hH ab.out)) (fun _=>Runs.fld rfl rfl yB rfl (wFd Tryz.isAgg196 (v:=.func (.func 139) #[] #[]) rfl)) ?_)
 have cr:=aQ.le aU
 have ct:=cr.le aV
 have cu:=aR.le aU
 have cw:=cu.le aV
 have cx:=aS.le aU
 have cy:=cx.le aV
 have cz:=aT.le aU
 have cA:=cz.le aV
 refine bnK bK fun fA cC d5=>zD 0 Z Z Z (zI Z Z (congrArg hH ab.out)) (zE Z Z Tryz.call139 (zB Z (zB Z zM)) Z) dz (fun hs=>wIA p0 ah am ai an aj ao ak ap O bv bT hs ct cw cy cA cC) (.inr Z) ?_
 rintro bU eD fd cd eX dA ⟨rfl,rfl⟩
 have dB:sW w φ bU [.blk a9 93 B5,.blk a7 27 B4] cd:=dA
 refine oR Z (zR Z (congrArg hH ab.out) Z) (oA Z Z (eN (zO ?_)))
 have hE:=nB d5;first | subst r | cases hE
 exact ⟨rfl,_,(ZA rfl),bU,_,(dB.pick [] _ (by decide) rfl),rfl,rfl⟩
 intro ab d6
 refine zy Z Z Z (zP Z Z (congrArg hH (hJ.2 ab.out)) Z) (zy Z Z Z (zP Z Z (congrArg hH (hJ.2 ab.out)) Z) (zy Z Z Z (zP Z Z (congrArg hH (hJ.2 ab.out)) Z) (zy Z Z Z (zP Z Z (congrArg hH (hJ.2 ab.out)) Z) (ZC Z Z Z (zP Z Z (congrArg hH (hJ.2 ab.out)) Z) (zy Z Z Z (zP Z Z (congrArg hH (hJ.2 ab.out)) Z) (zy Z Z Z (zP Z Z (congrArg hH (hJ.2 ab.out)) Z) (ZC Z Z Z (zP Z Z (congrArg hH (hJ.2 ab.out)) Z) (oR Z (zW Z (congrArg hH (hJ.2 ab.out)) Z) (oA Z Z (eN (zO ?_)))))))))))
 have hE:=nB d6;first | subst r | cases hE
 exact ⟨rfl,_,(ZA rfl),bn,_,(aI.pick [] _ (by decide) rfl),rfl,rfl⟩
 by_cases c4:O.Kind=3
 have bL:=hm;rw [if_neg c1,if_neg c2,if_neg c3,if_pos c4] at bL
 refine sR gCv Z ?_
 let B6:List Value:=[.slice ah p0.Starts.length am,.slice ai p0.Splits.length an,.slice aj p0.Clocks.length ao,.slice ak p0.Readings.length ap]
 refine zn (cs:=B6) rfl rfl rfl rfl rfl rfl (by rfl) hS ?_
 intro eQ ba dC
 let B7:List Value:=[jV O.Kind,jV O.Skier,jV O.Index,.bool O.Up]
 refine zn (cs:=B7) rfl rfl rfl rfl rfl rfl (by rfl) dC ?_
 intro bw bb dD
 refine yP rfl rfl rfl rfl rfl rfl (eN (zL (zx zt [3,1,2,3,2,3,1,3,3,1,1,2,3,3] gDo (by kernel_rfl) ?_)))
 have bi:=dD.drew
 generalize hw_W168:({ bw with drawn:=bw.drawn + 1 }:World)=cf at bi ⊢
 refine oR Z (zF Z Z zk Z yJ) (oL Z (bi.ldB (j:=0) Z Z Z yS (v:=jV O.Kind) Z) (bnK bL fun fC cE d7=>zD 0 Z Z Z Z (zE Z Z yW (zB Z (zB Z (zB Z zM))) Z) bi (fun hs=>wCQ O.Kind 0 3 cf φ hs cE) (.inr Z) ?_))
 rintro bo eE ff bx aW dE ⟨rfl,rfl⟩
 have aJ:sW w φ bo [.blk bb 93 B7,.blk ba 27 B6] bx:=dE
 refine oM Z Z (ifc d7 ?_ ?_)
 intro ac d9
 refine za Z Z Z (zI Z Z (congrArg hH ac.out)) (fun _=>zF Z Z zk Z yJ) (ZE Z Z Z (zI Z Z (congrArg hH ac.out)) (aJ.ldB (j:=0) Z Z Z yS (v:=jV O.Kind) Z) Z (ZE Z Z Z (zI Z Z (congrArg hH ac.out)) (aJ.ldBA (j:=1) Z Z Z zo zZ (vs:=B6) Z Z) Z (ZE Z Z Z (zI Z Z (congrArg hH ac.out)) (aJ.ldBA (j:=0) Z Z Z Zs ZK (vs:=B7) Z Z) Z ?_)))
 have q:=bnd d9
 obtain ⟨⟨⟩,cG,bM⟩:=q
 try dsimp only at bM
 refine zD 0 Z Z Z (zI Z Z (congrArg hH ac.out)) (zE Z Z ya zM Z) aJ (fun hs=>wBT bx bo hs cG) (.inr Z) ?_
 rintro bV eF fg bz aX dF ⟨rfl,rfl⟩
 have dG:sW w φ bV [.blk bb 93 B7,.blk ba 27 B6] bz:=dF
 refine za rfl rfl rfl (zI rfl rfl (congrArg hH ac.out)) (fun _=>(yz (i:=3) rfl rfl (congrArg (jV) c4) Zu ZY (by decide) (by decide) (wDi yg ZY rfl))) (za rfl rfl rfl (zI rfl rfl (congrArg hH ac.out)) (fun _=>Runs.fld rfl rfl yB rfl (wFd Tryz.isAgg196 (v:=.func (.func 142) #[] #[]) rfl)) ?_)
 have cH:=aQ.le aW
 have cI:=cH.le aX
 have cJ:=aR.le aW
 have cK:=cJ.le aX
 have cL:=aS.le aW
 have cM:=cL.le aX
 have cN:=aT.le aW
 have cO:=cN.le aX
 refine bnK bM fun fD cP eg=>zD 0 Z Z Z (zI Z Z (congrArg hH ac.out)) (zE Z Z Tryz.call142 (zB Z (zB Z zM)) Z) dG (fun hs=>wHZ p0 ah am ai an aj ao ak ap O bz bV hs cI cK cM cO cP) (.inr Z) ?_
 rintro bW eH fh cg eY dH ⟨rfl,rfl⟩
 have dI:sW w φ bW [.blk bb 93 B7,.blk ba 27 B6] cg:=dH
 refine oR Z (zR Z (congrArg hH ac.out) Z) (oA Z Z (eN (zO ?_)))
 have hE:=nB eg;first | subst r | cases hE
 exact ⟨rfl,_,(ZA rfl),bW,_,(dI.pick [] _ (by decide) rfl),rfl,rfl⟩
 intro ac eh
 refine zy Z Z Z (zP Z Z (congrArg hH (hJ.2 ac.out)) Z) (zy Z Z Z (zP Z Z (congrArg hH (hJ.2 ac.out)) Z) (zy Z Z Z (zP Z Z (congrArg hH (hJ.2 ac.out)) Z) (zy Z Z Z (zP Z Z (congrArg hH (hJ.2 ac.out)) Z) (ZC Z Z Z (zP Z Z (congrArg hH (hJ.2 ac.out)) Z) (zy Z Z Z (zP Z Z (congrArg hH (hJ.2 ac.out)) Z) (zy Z Z Z (zP Z Z (congrArg hH (hJ.2 ac.out)) Z) (ZC Z Z Z (zP Z Z (congrArg hH (hJ.2 ac.out)) Z) (oR Z (zW Z (congrArg hH (hJ.2 ac.out)) Z) (oA Z Z (eN (zO ?_)))))))))))
 have hE:=nB eh;first | subst r | cases hE
 exact ⟨rfl,_,(ZA rfl),bo,_,(aJ.pick [] _ (by decide) rfl),rfl,rfl⟩
 have bN:=hm;rw [if_neg c1,if_neg c2,if_neg c3,if_neg c4] at bN
 refine sR gCv Z ?_
 let B8:List Value:=[.slice ah p0.Starts.length am,.slice ai p0.Splits.length an,.slice aj p0.Clocks.length ao,.slice ak p0.Readings.length ap]
 refine zn (cs:=B8) rfl rfl rfl rfl rfl rfl (by rfl) hS ?_
 intro eR bH dJ
 let B9:List Value:=[jV O.Kind,jV O.Skier,jV O.Index,.bool O.Up]
 refine zn (cs:=B9) rfl rfl rfl rfl rfl rfl (by rfl) dJ ?_
 intro bA bI dK
 refine yP rfl rfl rfl rfl rfl rfl (eN (zL (zx zt [3,1,2,3,2,3,1,3,3,1,1,2,3,3] gDo (by kernel_rfl) ?_)))
 have bj:=dK.drew
 generalize hw_W219:({ bA with drawn:=bA.drawn + 1 }:World)=cj at bj ⊢
 refine oR Z (zF Z Z zk Z yJ) (oL Z (bj.ldB (j:=0) Z Z Z yS (v:=jV O.Kind) Z) (bnK bN fun fE cQ ej=>zD 0 Z Z Z Z (zE Z Z yW (zB Z (zB Z (zB Z zM))) Z) bj (fun hs=>wCQ O.Kind 0 3 cj φ hs cQ) (.inr Z) ?_))
 rintro bq eI fk bC eZ dL ⟨rfl,rfl⟩
 have aK:sW w φ bq [.blk bI 93 B9,.blk bH 27 B8] bC:=dL
 refine oM Z Z (ifc ej ?_ ?_)
 intro ag ek
 refine za Z Z Z (zI Z Z (congrArg hH ag.out)) (fun _=>zF Z Z zk Z yJ) (ZE Z Z Z (zI Z Z (congrArg hH ag.out)) (aK.ldB (j:=0) Z Z Z yS (v:=jV O.Kind) Z) Z (ZE Z Z Z (zI Z Z (congrArg hH ag.out)) (aK.ldBA (j:=1) Z Z Z zo zZ (vs:=B8) Z Z) Z (ZE Z Z Z (zI Z Z (congrArg hH ag.out)) (aK.ldBA (j:=0) Z Z Z Zs ZK (vs:=B9) Z Z) Z ?_)))
 have q:=bnd ek
 obtain ⟨⟨⟩,cR,bO⟩:=q
 try dsimp only at bO
 refine zD 0 Z Z Z (zI Z Z (congrArg hH ag.out)) (zE Z Z ya zM Z) aK (fun hs=>wBT bC bq hs cR) (.inr Z) ?_
 rintro ez eJ fm cm e6 dM ⟨rfl,rfl⟩
 have eV:sW w φ ez [.blk bI 93 B9,.blk bH 27 B8] cm:=dM
 cases bO
 intro ag en
 refine zy Z Z Z (zP Z Z (congrArg hH (hJ.2 ag.out)) Z) (zy Z Z Z (zP Z Z (congrArg hH (hJ.2 ag.out)) Z) (zy Z Z Z (zP Z Z (congrArg hH (hJ.2 ag.out)) Z) (zy Z Z Z (zP Z Z (congrArg hH (hJ.2 ag.out)) Z) (ZC Z Z Z (zP Z Z (congrArg hH (hJ.2 ag.out)) Z) (zy Z Z Z (zP Z Z (congrArg hH (hJ.2 ag.out)) Z) (zy Z Z Z (zP Z Z (congrArg hH (hJ.2 ag.out)) Z) (ZC Z Z Z (zP Z Z (congrArg hH (hJ.2 ag.out)) Z) (oR Z (zW Z (congrArg hH (hJ.2 ag.out)) Z) (oA Z Z (eN (zO ?_)))))))))))
 have hE:=nB en;first | subst r | cases hE
 exact ⟨rfl,_,(ZA rfl),bq,_,(aK.pick [] _ (by decide) rfl),rfl,rfl⟩
theorem wFS (O:List wAC) (ak:Option Addr) (am:Nat) (p1:(wAC->Option Bool)) (an:Value) (w:World) (φ:PHeap) (hS:St0 w φ []) (aY:Sl φ 4 ak am O.length (hD wAJ O)) (aZ:FnOK Tryz.prog φ an wMU wOk p1) {r:Bool} (hm:wBs O p1=some r):Gv Tryz.prog 129 [.slice ak O.length am,an] w (wCG w [] φ (fun φ_ L_ v=>v=.bool r/\L_=[])):=by
 unfold wBs at hm
 refine Gv.of Tryz.func129 Z Tryz.ntmps129 Tryz.results129 Z (sR fL1 Z (oA Z Z (eN (zL (sR fL3 Z (oM Z Z (oR Z (zi Z Z ZO) (oM Z Z (eN (zY ?_))))))))))
 have q:=wCA hm
 obtain ⟨r3,ag⟩:=q
 have q:=wCT ag
 obtain ⟨ai,a7⟩:=q
 replace ai:=zN ai
 refine yc (fun k2 _ σ_ w_=>∃ (φ_:PHeap),σ_ 9=jV (↑k2:Int)/\σ_ 1=an/\σ_ 7=.slice ak O.length am/\σ_ 8=jV (↑O.length:Int)/\PHeap.Le φ φ_/\sW w φ φ_ [] w_) a7 ?_ ?_ ?_
 exact ⟨φ,Z,Z,Z,Z,(zS _),hS⟩
 rintro k2 ⟨⟩ bw bz W8 ah ⟨bg,af,au,av,ax,aj,az⟩ aH a5
 try dsimp only at aH
 have aq:Hid ((↑k2:Int) < (↑O.length:Int)):=zN (wBO ah)
 replace ah:=zN ah
 have a8:Hid (w64 ((↑k2:Int) + 1)=(↑(k2 + 1):Int)):=zN (by have h1:=ai.out;have h2:=aq.out;rw [wAb] <;> omega)
 refine sR fL1 Z (oR Z (ze Z af ax) (eN (zL (cT Z aq (kN (zL (zY (sR gCz Z (bnK aH fun aa ay a9=>?_)))))))))
 have aP:=aY.le aj
 have q:=aP.el (fun _=>rfl) (wAe ay)
 obtain ⟨bo,bs,aS,aT⟩:=q
 refine oR Z (Zc Z av aS af ZO ZK (wCa ay)) (oL Z (az.ldCA (f:=0) aT Z Z Zs ZK (us:=[jV aa.Kind,jV aa.Skier,jV aa.Index,.bool aa.Up]) Z Z) (zV (cs:=[jV 0,jV 0,jV 0,.bool false]) Z Z Z Z Z Zv Z az ?_))
 intro bj ap aU
 let B0:List Value:=[jV aa.Kind,jV aa.Skier,jV aa.Index,.bool aa.Up]
 refine zX (j:=0) (vs:=B0) Z Z Z Z aU Z Z Z Z ZK (zA Z) Z Z Z ?_
 intro aJ aV
 have aE:sW w φ bg [.blk ap 93 B0] aJ:=aV
 refine eN (sR gDa Z (oM Z au (oL Z (aE.ldBA (j:=0) Z Z Z Zs ZK (vs:=B0) Z Z) (bnK a9 fun bv aQ ba=>?_))))
 have aR:=aZ.le aj
 refine OKS.callV (a:=aa) Z Z Z Z Z Z (zB Z zM) aE aR Z aQ ?_
 rintro ao bi bu aK be aW ⟨rfl,rfl⟩
 have aF:sW w φ ao [.blk ap 93 B0] aK:=aW
 refine oR Z (Zk Z Z) (eN (ifc ba ?_ ?_))
 intro ae bb
 refine zj (nC ae.out) (Zf (zm (zJ (rR fL2 Z (oR Z (ZU (zh Z af Z) (congrArg (jV) a8.out)) (oM Z Z (zf ?_)))))))
 have q:=nB bb
 obtain rfl:=q
 exact zJ ⟨rfl,_,rfl,⟨ao,rfl,au,av,ax,(aj.trans be),(aF.pick [] _ (by decide) rfl)⟩⟩
 intro ae bc
 refine ZD (nF (ae.out)) (sR fL1 Z (oA Z Z (eN (zO (zc (zQ ?_))))))
 have q:=wAS bc
 obtain ⟨bf,bd,aM⟩:=q
 have q:=wAt hm ag (a5 bf aM)
 obtain rfl:=q
 refine zQ (zc (zQ ?_))
 have hE:=nB bd;first | subst r | cases hE
 exact ⟨rfl,_,(ZA rfl),ao,_,(aF.pick [] _ (by decide) rfl),rfl,rfl⟩
 rintro ⟨⟩ bx bm ⟨bh,aO,bp,bq,aN,br,aX⟩ a6
 have aG:=wCs hm ag a6
 try dsimp only at aG
 have aL:Hid (¬ ((↑(((↑O.length:Int):Int) - 0).toNat:Int) < (↑O.length:Int))):=zN (wAq)
 refine sR fL1 Z (oR Z (ze Z aO aN) (eN (zL (cF Z aL (Za (zq (zq (ZW (zJ (sR fL1 Z (oA Z Z (eN (zO ?_)))))))))))))
 have hE:=nB aG;first | subst r | cases hE
 exact ⟨Z,_,(ZA Z),bh,_,aX,Z,Z⟩
theorem wEq (O:wAA) (ae:Option Addr) (ai:Nat) (af:Option Addr) (aj:Nat) (ag:Option Addr) (ak:Nat) (ah:Option Addr) (am:Nat) (p1:List wAC) (ap:Option Addr) (aq:Nat) (w:World) (φ:PHeap) (hS:St0 w φ []) (aJ:Sl φ 1 ae ai O.Starts.length (hD KL.encI O.Starts)) (aK:Sl φ 2 af aj O.Splits.length (hD wAD O.Splits)) (aL:Sl φ 3 ag ak O.Clocks.length (hD wAF O.Clocks)) (aM:Sl φ 4 ah am O.Readings.length (hD wAB O.Readings)) (aN:Sl φ 4 ap aq p1.length (hD wAJ p1)) {r:Int} (hm:wCI O p1=some r):Gv Tryz.prog 111 [.agg #[.slice ae O.Starts.length ai,.slice af O.Splits.length aj,.slice ag O.Clocks.length ak,.slice ah O.Readings.length am],.slice ap p1.length aq] w (wCG w [] φ (fun φ_ L_ v=>v=jV r/\L_=[])):=by
 unfold wCI at hm
 refine Gv.of Tryz.func111 Z Tryz.ntmps111 Tryz.results111 Z (sR gCl Z ?_)
 let B0:List Value:=[.slice ae O.Starts.length ai,.slice af O.Splits.length aj,.slice ag O.Clocks.length ak,.slice ah O.Readings.length am]
 refine zn (cs:=B0) rfl rfl rfl rfl rfl rfl (by rfl) hS ?_
 intro W1 b2 ao
 refine oA Z Z (eN (sR fL3 Z (oL Z (ao.ldBA (j:=0) Z Z Z zo zZ (vs:=B0) Z Z) (oR Z (YC Z (zB Z zM) zM) (oA Z Z (eN (zL (zY (sR fL4 Z (oM Z Z (oR Z (zi Z Z ZO) (oR Z (yI Z Z Z) (oA Z Z (eN ?_))))))))))))))
 by_cases c5:80 < (↑p1.length:Int)
 have ax:=hm;rw [if_pos c5] at ax;replace c5:=zN c5
 refine cT Z c5 (sR fL1 Z (oA Z Z (eN (zO (zc (zQ ?_))))))
 cases ax
 exact ⟨rfl,_,(ZA rfl),φ,_,(ao.pick [] _ (by decide) rfl),rfl,rfl⟩
 have ay:=hm;rw [if_neg c5] at ay;replace c5:=zN c5
 refine cF Z c5 (sR gDg Z (oM Z Z (oM Z Z ?_)))
 have aH:FnOK Tryz.prog φ (.func (.func 128) #[.agg B0.toArray] #[]) wMU wOk (fun x=>wAv O x):=⟨128,[.agg B0.toArray],[],rfl,Tryz.call128,fun aS w1 x y vs le hs ha hm=>by obtain rfl:=ha;exact wGh O ae ai af aj ag ak ah am x w1 aS hs (aJ.le le) (aK.le le) (aL.le le) (aM.le le) hm⟩
 refine bnK ay fun x9 aG aO=>zD 0 Z Z Z Z (zE Z Z Tryz.call129 (zB Z (zB Z zM)) Z) ao (fun hs=>wFS p1 ap aq (fun x=>wAv O x) (.func (.func 128) #[.agg B0.toArray] #[]) W1 φ hs aN aH aG) (.inr Z) ?_
 rintro au aT aV aE aU aI ⟨rfl,rfl⟩
 have av:sW w φ au [.blk b2 27 B0] aE:=aI
 refine oR Z (Zk Z Z) (oA Z Z (eN (ifc aO ?_ ?_)))
 intro an aP
 refine zj (nC an.out) (Zf (zm (zJ (sR fL1 Z (oA Z Z (eN (zO ?_)))))))
 cases aP
 exact ⟨rfl,_,(ZA rfl),au,_,(av.pick [] _ (by decide) rfl),rfl,rfl⟩
 intro an aQ
 refine ZD (nF (an.out)) (sR fL1 Z (oA Z Z (eN (zO (zc (zQ ?_))))))
 cases aQ
 exact ⟨rfl,_,(ZA rfl),au,_,(av.pick [] _ (by decide) rfl),rfl,rfl⟩
end Go.Proofs.YtlnfbjphfoipaaaGreat
namespace Go.Proofs.YtlnfbjphfoipaaaGreat
open Go.KL
set_option maxHeartbeats 4000000
theorem wDZ (O:wAA) (aG:Option Addr) (aK:Nat) (aH:Option Addr) (aL:Nat) (aI:Option Addr) (aM:Nat) (aJ:Option Addr) (aN:Nat) (p1:wAH) (p2:List wAC) (aY:Option Addr) (aZ:Nat) (w:World) (φ:PHeap) (hS:St0 w φ []) (b5:Sl φ 1 aG aK O.Starts.length (hD KL.encI O.Starts)) (ca:Sl φ 2 aH aL O.Splits.length (hD wAD O.Splits)) (cb:Sl φ 3 aI aM O.Clocks.length (hD wAF O.Clocks)) (cc:Sl φ 4 aJ aN O.Readings.length (hD wAB O.Readings)) (cd:Sl φ 4 aY aZ p2.length (hD wAJ p2)) {r:wAH × Int × Bool} (hm:wCS O p1 p2=some r):Gv Tryz.prog 112 [.agg #[.slice aG O.Starts.length aK,.slice aH O.Splits.length aL,.slice aI O.Clocks.length aM,.slice aJ O.Readings.length aN],.agg #[jV p1.skier,jV p1.mat],.slice aY p2.length aZ] w (wCG w [] φ (fun φ_ L_ v=>v=.tuple #[.agg #[jV r.1.skier,jV r.1.mat],jV r.2.1,.bool r.2.2]/\L_=[])):=by
 unfold wCS at hm
 refine Gv.of Tryz.func112 Z Tryz.ntmps112 Tryz.results112 Z (sR gDh Z ?_)
 let B0:List Value:=[.slice aG O.Starts.length aK,.slice aH O.Splits.length aL,.slice aI O.Clocks.length aM,.slice aJ O.Readings.length aN]
 refine zn (cs:=B0) rfl rfl rfl rfl rfl rfl (by rfl) hS ?_
 intro W1 b2 bN
 refine zn (cs:=[jV p1.skier,jV p1.mat]) rfl rfl rfl rfl rfl rfl (by rfl) bN ?_
 intro W5 b6 bQ
 let B1:List Value:=[jV 0,jV 0]
 refine zV (cs:=B1) Z Z Z Z Z zd Z bQ ?_
 intro W9 ae bL
 refine oA Z Z (oA Z Z (eN (sR fL1 Z (oA Z Z (eN (zL (sR fL3 Z (oM Z Z (oR Z (zi Z Z ZO) (oM Z Z (eN (zY ?_))))))))))))
 have q:=wCA hm
 obtain ⟨cP,aV⟩:=q
 have q:=wCT aV
 obtain ⟨aX,cj⟩:=q
 replace aX:=zN aX
 refine yc (fun av (aO,aP,bj) σ_ w_=>∃ (φ_:PHeap),σ_ 17=jV (↑av:Int)/\σ_ 3=.pointer (some ⟨b2,0,none⟩)/\σ_ 4=.pointer (some ⟨b6,0,none⟩)/\σ_ 6=.pointer (some ⟨ae,0,none⟩)/\σ_ 9=jV bj/\σ_ 15=.slice aY p2.length aZ/\σ_ 16=jV (↑p2.length:Int)/\PHeap.Le φ φ_/\sW w φ φ_ [.blk ae 123 B1,.blk b6 123 [jV aO,jV aP],.blk b2 27 B0] w_) cj ?_ ?_ ?_
 exact ⟨φ,Z,Z,Z,Z,Z,Z,Z,(zS _),bL⟩
 rintro av ⟨aO,aP,bj⟩ cR cU cD aW ⟨bn,aT,a8,aF,aS,bA,a9,ba,au,bf⟩ bi cg
 try dsimp only at bi
 have a6:Hid ((↑av:Int) < (↑p2.length:Int)):=zN (wBO aW)
 replace aW:=zN aW
 have cm:Hid (w64 ((↑av:Int) + 1)=(↑(av + 1):Int)):=zN (by have h1:=aX.out;have h2:=a6.out;rw [wAb] <;> omega)
 refine sR fL1 Z (oR Z (ze Z aT ba) (eN (zL (cT Z a6 (kN (zL (zY (sR gCz Z (bnK bi fun ai bb cp=>?_)))))))))
 have bC:=cd.le au
 have q:=bC.el (fun _=>rfl) (wAe bb)
 obtain ⟨cK,cO,bI,bJ⟩:=q
 refine oR Z (Zc Z a9 bI aT ZO ZK (wCa bb)) (oL Z (bf.ldCA (f:=0) bJ Z Z Zs ZK (us:=[jV ai.Kind,jV ai.Skier,jV ai.Index,.bool ai.Up]) Z Z) (zV (cs:=[jV 0,jV 0,jV 0,.bool false]) Z Z Z Z Z Zv Z bf ?_))
 intro cG ap bO
 let B2:List Value:=[jV ai.Kind,jV ai.Skier,jV ai.Index,.bool ai.Up]
 refine zX (j:=0) (vs:=B2) Z Z Z Z bO Z Z Z Z ZK (zA Z) Z Z Z ?_
 intro a5 bP
 let B3:List Value:=[jV aO,jV aP]
 have aU:sW w φ bn [.blk ap 93 B2,.blk ae 123 B1,.blk b6 123 B3,.blk b2 27 B0] a5:=bP
 refine eN (sR (.fl 0 (.fl 1 (.fx 2 (wMH (.fx 7 (.fx 8 (.fx 9 (.fx 10 (.fl 11 .nil) .stop) .stop) .stop) .stop)) .stop))) Z (oL Z (aU.ldBA (j:=3) Z Z a8 zo zZ (vs:=B0) Z Z) (oL Z (aU.ldBA (j:=0) Z Z Z Zs ZK (vs:=B2) Z Z) ?_)))
 have bD:=b5.le au
 have bE:=ca.le au
 have bF:=cb.le au
 have bG:=cc.le au
 have q:=bnd cp
 obtain ⟨⟨ay,aQ,cu⟩,bH,bh⟩:=q
 try dsimp only at bh
 refine zD 0 Z Z Z Z (zE Z Z Tryz.call107 (zB Z (zB Z zM)) Z) aU (fun hs=>wCN O aG aK aH aL aI aM aJ aN ai a5 bn hs bD bE bF bG bH) (.inr Z) ?_
 rintro am cz cQ bq cr bR ⟨rfl,rfl⟩
 have bS:sW w φ am [.blk ap 93 B2,.blk ae 123 B1,.blk b6 123 B3,.blk b2 27 B0] bq:=bR
 refine oM Z Z (oR Z (zU Z Z (v:=.agg #[jV ay.skier,jV ay.mat]) Z) (oR Z (zU Z Z (v:=.agg #[jV aQ.skier,jV aQ.mat]) Z) (oR Z (zU Z Z (v:=jV cu) Z) (zV (cs:=B1) Z Z Z Z Z zd Z bS ?_))))
 intro cH az bT
 refine zV (cs:=B1) Z Z Z Z Z zd Z bT ?_
 intro cI aE bU
 let B4:List Value:=[jV ay.skier,jV ay.mat]
 refine zX (j:=1) (vs:=B4) Z Z Z Z bU Z Z Z Z zH (zA Z) Z Z Z ?_
 intro br bV
 have bW:sW w φ am [.blk aE 123 B1,.blk az 123 B4,.blk ap 93 B2,.blk ae 123 B1,.blk b6 123 B3,.blk b2 27 B0] br:=bV
 let B5:List Value:=[jV aQ.skier,jV aQ.mat]
 refine zX (j:=0) (vs:=B5) Z Z Z Z bW Z Z Z Z zH (zA Z) Z Z Z ?_
 intro bs bX
 have aq:sW w φ am [.blk aE 123 B5,.blk az 123 B4,.blk ap 93 B2,.blk ae 123 B1,.blk b6 123 B3,.blk b2 27 B0] bs:=bX
 refine oA Z Z (eN (zL (sR fL3 Z (oL Z (aq.ldBA (j:=1) Z Z Z zl zH (vs:=B4) Z Z) (oL Z (aq.ldBA (j:=4) Z Z aF zl zH (vs:=B3) Z Z) (oR Z (ZU (Runs.neS (enc:=wCP) (a:=ay) (b:=(⟨aO,aP⟩:wAH)) Z Z Z wLc wLb) (congrArg hH (decide_not).symm)) (eN (ifc bh ?_ ?_))))))))
 intro aR cq
 refine zj (zu (fun h=>h aR.out)) (kN (rR (wEF (.fx 4 (.fl 5 .nil) .stop)) Z (oL Z (aq.ldBA (j:=0) Z Z Z zl zH (vs:=B5) Z Z) (oM Z bA (oM Z Z (oR Z (zh Z Z Z) (zX (j:=4) (vs:=B5) Z Z Z Z aq Z aF Z Z zH (zA Z) Z Z Z ?_)))))))
 intro bt bY
 have bZ:sW w φ am [.blk aE 123 B5,.blk az 123 B4,.blk ap 93 B2,.blk ae 123 B1,.blk b6 123 B5,.blk b2 27 B0] bt:=bY
 refine oA Z Z (zf (zm (zJ (rR fL2 Z (oR Z (ZU (zh Z aT Z) (congrArg (jV) cm.out)) (oM Z Z (zf ?_)))))))
 have q:=nB cq
 obtain rfl:=q
 exact zJ ⟨rfl,_,rfl,⟨am,rfl,a8,aF,aS,rfl,a9,ba,(au.trans cr),(bZ.pick [3,4,5] _ (by decide) rfl)⟩⟩
 intro aR cn
 refine cT Z aR (sR gCy Z (oL Z (aq.ldBA (j:=4) Z Z aF zl zH (vs:=B3) Z Z) (zX (j:=3) (vs:=B3) Z Z Z Z aq Z aS Z Z zH (zA Z) Z Z Z ?_)))
 intro bo bK
 have bc:sW w φ am [.blk aE 123 B5,.blk az 123 B4,.blk ap 93 B2,.blk ae 123 B3,.blk b6 123 B3,.blk b2 27 B0] bo:=bK
 refine oA Z Z (oA Z Z (eN (zO (zQ (zc (zQ ?_))))))
 have q:=wAS cn
 obtain ⟨ct,co,bv⟩:=q
 have q:=wAt hm aV (cg ct bv)
 obtain rfl:=q
 refine zQ (zc (zQ ?_))
 cases co
 exact ⟨rfl,_,(wEk (rs:=[.cell 6 123,.tmp 7,.tmp 8]) (vs:=[.agg B3.toArray,jV 0,.bool false]) ⟨⟨_,aS,(wBQ zl zH (bc.blkAt (k:=3) rfl) (vs:=B3) rfl rfl)⟩,⟨rfl,⟨rfl,trivial⟩⟩⟩ rfl),am,_,(bc.pick [] _ (by decide) rfl),rfl,rfl⟩
 rintro ⟨cw,cx,cy⟩ cS cC ⟨bm,bB,cL,bw,a7,bx,cM,bz,cN,bd⟩ cf
 have bg:=wCs hm aV cf
 try dsimp only at bg
 have bu:Hid (¬ ((↑(((↑p2.length:Int):Int) - 0).toNat:Int) < (↑p2.length:Int))):=zN (wAq)
 refine sR fL1 Z (oR Z (ze Z bB bz) (eN (zL (cF Z bu (Za (zq (zq (ZW (zJ (sR gDg Z ?_))))))))))
 let B6:List Value:=[jV cw,jV cx]
 refine oL Z (bd.ldBA (j:=1) Z Z bw zl zH (vs:=B6) Z Z) (oM Z bx (zX (j:=0) (vs:=B6) Z Z Z Z bd Z a7 Z Z zH (zA Z) Z Z Z ?_))
 intro bp bM
 have be:sW w φ bm [.blk ae 123 B6,.blk b6 123 B6,.blk b2 27 B0] bp:=bM
 refine oA Z Z (oA Z Z (eN (zO ?_)))
 cases bg
 exact ⟨rfl,_,(wEk (rs:=[.cell 6 123,.tmp 7,.tmp 8]) (vs:=[.agg B6.toArray,jV cy,.bool true]) ⟨⟨_,a7,(wBQ zl zH (be.blkAt (k:=0) rfl) (vs:=B6) rfl rfl)⟩,⟨rfl,⟨rfl,trivial⟩⟩⟩ rfl),bm,_,(be.pick [] _ (by decide) rfl),rfl,rfl⟩
theorem wGi (O:wAA) (an:Option Addr) (au:Nat) (ao:Option Addr) (av:Nat) (ap:Option Addr) (ax:Nat) (aq:Option Addr) (ay:Nat) (p1:wAM) (p2:wAM) (p3:List wAC) (aH:Option Addr) (aI:Nat) (w:World) (φ:PHeap) (hS:St0 w φ []) (bP:Sl φ 1 an au O.Starts.length (hD KL.encI O.Starts)) (bQ:Sl φ 2 ao av O.Splits.length (hD wAD O.Splits)) (bR:Sl φ 3 ap ax O.Clocks.length (hD wAF O.Clocks)) (bS:Sl φ 4 aq ay O.Readings.length (hD wAB O.Readings)) (dN:Sl φ 4 aH aI p3.length (hD wAJ p3)) {r:Int × Int} (hm:wDl O p1 p2 p3=some r):Gv Tryz.prog 48 [.agg #[.slice an O.Starts.length au,.slice ao O.Splits.length av,.slice ap O.Clocks.length ax,.slice aq O.Readings.length ay],.agg #[jV p1.Skier,jV p1.Mat],.agg #[jV p2.Skier,jV p2.Mat],.slice aH p3.length aI] w (wCG w [] φ (fun φ_ L_ v=>v=.tuple #[jV r.1,jV r.2]/\L_=[])):=by
 unfold wDl at hm
 refine Gv.of Tryz.func48 Z Tryz.ntmps48 Tryz.results48 Z (sR gDh Z ?_)
 let B0:List Value:=[.slice an O.Starts.length au,.slice ao O.Splits.length av,.slice ap O.Clocks.length ax,.slice aq O.Readings.length ay]
 refine zn (cs:=B0) rfl rfl rfl rfl rfl rfl (by rfl) hS ?_
 intro W1 b2 dI
 let B1:List Value:=[jV p1.Skier,jV p1.Mat]
 refine zn (cs:=B1) rfl rfl rfl rfl rfl rfl (by rfl) dI ?_
 intro W5 b6 dL
 let B2:List Value:=[jV p2.Skier,jV p2.Mat]
 refine zn (cs:=B2) rfl rfl rfl rfl rfl rfl (by rfl) dL ?_
 intro W9 ae bL
 refine oA Z Z (oA Z Z (eN (sR (.fl 0 gCe) Z (oL Z (bL.ldBA (j:=2) Z Z Z zo zZ (vs:=B0) Z Z) (bnK hm fun eV cz dP=>zD 0 Z Z Z Z (zE Z Z Tryz.call33 (zB Z zM) Z) bL (fun hs=>wFB O an au ao av ap ax aq ay W9 φ hs bP bQ bR bS cz) (.inr Z) ?_)))))
 rintro bj eu eL bv aL dz ⟨rfl,rfl⟩
 have aW:sW w φ bj [.blk ae 29 B2,.blk b6 29 B1,.blk b2 27 B0] bv:=dz
 refine oA Z Z (eN (zL (zY (sR fL3 Z (oM Z Z (oR Z (ZP Z Z Z) (oA Z Z (eN (ifc dP ?_ ?_)))))))))
 intro a8 dQ
 refine zj (zu (fun h=>h a8.out)) (sR (.fl 0 (.fl 1 (.fx 2 (wMH (.fx 7 (wNP (.nil)) .stop)) .stop))) Z (oL Z (aW.ldBA (j:=2) Z Z Z zo zZ (vs:=B0) Z Z) (oL Z (aW.ldBA (j:=1) Z Z Z Zn ZV (vs:=B1) Z Z) ?_)))
 have bC:=bP.le aL
 have bD:=bQ.le aL
 have bE:=bR.le aL
 have bF:=bS.le aL
 refine bnK dQ fun eW de d4=>zD 0 Z Z Z Z (zE Z Z Tryz.call99 (zB Z (zB Z zM)) Z) aW (fun hs=>wDI O an au ao av ap ax aq ay p1 bv bj hs bC bD bE bF de) (.inr Z) ?_
 rintro bp eB eR bz aM dJ ⟨rfl,rfl⟩
 have aX:sW w φ bp [.blk ae 29 B2,.blk b6 29 B1,.blk b2 27 B0] bz:=dJ
 refine oR Z (Zk Z Z) (oM Z Z (ifc d4 ?_ ?_))
 intro am d5
 refine ZE Z Z Z (zI Z Z (nC am.out)) (aX.ldBA (j:=2) Z Z Z zo zZ (vs:=B0) Z Z) Z (ZE Z Z Z (zI Z Z (nC am.out)) (aX.ldBA (j:=0) Z Z Z Zn ZV (vs:=B2) Z Z) Z ?_)
 have bG:=bC.le aM
 have bH:=bD.le aM
 have bI:=bE.le aM
 have bJ:=bF.le aM
 refine bnK d5 fun eX df d6=>zD 0 Z Z Z (zI Z Z (nC am.out)) (zE Z Z Tryz.call99 (zB Z (zB Z zM)) Z) aX (fun hs=>wDI O an au ao av ap ax aq ay p2 bz bp hs bG bH bI bJ df) (.inr Z) ?_
 rintro bq eC eS bA aN dK ⟨rfl,rfl⟩
 have bd:sW w φ bq [.blk ae 29 B2,.blk b6 29 B1,.blk b2 27 B0] bA:=dK
 refine za Z Z Z (zI Z Z (nC am.out)) (fun _=>Zk Z Z) (oR Z (zW Z (nC am.out) Z) (oA Z Z (eN (ifc d6 ?_ ?_))))
 intro ba d7
 refine zj (nC ba.out) (Zf (zm (zJ (zL (sR gDa Z (oL Z (bd.ldBA (j:=2) Z Z Z zo zZ (vs:=B0) Z Z) (oM Z Z ?_)))))))
 have aR:=bG.le aN
 have aS:=bH.le aN
 have aT:=bI.le aN
 have aU:=bJ.le aN
 have dg:=dN.le aL
 have dh:=dg.le aM
 have aV:=dh.le aN
 refine bnK d7 fun eY di d8=>zD 0 Z Z Z Z (zE Z Z Tryz.call111 (zB Z (zB Z zM)) Z) bd (fun hs=>wEq O an au ao av ap ax aq ay p3 aH aI bA bq hs aR aS aT aU aV di) (.inr Z) ?_
 rintro aO eD eU a6 af dM ⟨rfl,rfl⟩
 have bO:sW w φ aO [.blk ae 29 B2,.blk b6 29 B1,.blk b2 27 B0] a6:=dM
 refine oA Z Z (eN (sR fL2 Z (oM Z Z (oR Z (ZP Z Z Z) (eN (ifc d8 ?_ ?_))))))
 intro bb d9
 refine zj (zu (fun h=>h bb.out)) (kN ?_)
 have q:=bnd d9
 obtain ⟨⟨bU,bV,eo,co⟩,eg,bT⟩:=q
 try dsimp only at bT
 let B3:List Value:=[jV bU,jV bV]
 refine yX (fun σ_ w_=>∃ (φ_:PHeap) (aQ:Nat),σ_ 6=.pointer (some ⟨ae,0,none⟩)/\σ_ 12=.pointer (some ⟨aQ,0,none⟩)/\σ_ 13=jV eo/\σ_ 14=.bool co/\PHeap.Le aO φ_/\sW w φ φ_ [.blk ae 29 B2,.blk b6 29 B1,.blk b2 27 B0,.blk aQ 123 B3] w_) ?_ ?_
 refine bnK eg fun bg bK dO=>?_
 have q:=bnd dO
 obtain ⟨⟨aj,be,bf⟩,bc,aY⟩:=q
 try dsimp only at aY
 refine zx zt [1,1,2,3,2,3,3,3,3,2,0,3,3] (.fl 0 (.fl 1 (.fl 3 (.fx 2 (.fx 4 (wIM (.fx 9 gCw .stop)) (.fx 9 (.fx 4 (wIM gCw) (.stop)) (.stop))) (.fx 9 (.fx 2 (.fx 4 (wIM gCw) (.stop)) (.stop)) (.stop)))))) (by kernel_rfl) ?_
 have aJ:=bO.drew
 generalize hw_W127:({ a6 with drawn:=a6.drawn + 1 }:World)=bY at aJ ⊢
 refine oL Z (aJ.ldBA (j:=2) Z Z Z zo zZ (vs:=B0) Z Z) (oL Z (aJ.ldBA (j:=1) Z Z Z Zn ZV (vs:=B1) Z Z) (oM Z Z (ZJ ?_ ?_)))
 refine zD 0 Z Z Z Z (zE Z Z yp (zB Z zM) Z) aJ (fun hs=>wDJ p1 bY aO hs bK) (.inr Z) ?_
 rintro bh ep eJ bu ai dk ⟨rfl,rfl⟩
 have bM:sW w φ bh [.blk ae 29 B2,.blk b6 29 B1,.blk b2 27 B0] bu:=dk
 refine ZJ ?_ ?_
 have cu:=aR.le af
 have cw:=cu.le ai
 have cx:=aS.le af
 have cy:=cx.le ai
 have cA:=aT.le af
 have cC:=cA.le ai
 have cD:=aU.le af
 have cE:=cD.le ai
 have cG:=aV.le af
 have cH:=cG.le ai
 refine zD 0 Z Z Z Z (zE Z Z Tryz.call112 (zB Z (zB Z (zB Z zM))) Z) bM (fun hs=>wDZ O an au ao av ap ax aq ay bg p3 aH aI bu bh hs cw cy cC cE cH bc) (.inr Z) ?_
 rintro bi er eK bZ eh dl ⟨rfl,rfl⟩
 have dm:sW w φ bi [.blk ae 29 B2,.blk b6 29 B1,.blk b2 27 B0] bZ:=dl
 refine oM Z Z (oR Z (zU Z Z (v:=.agg #[jV aj.skier,jV aj.mat]) Z) (oR Z (zU Z Z (v:=jV be) Z) (oR Z (zU Z Z (v:=.bool bf) Z) (zV (cs:=[jV 0,jV 0]) Z Z Z Z Z zd Z dm ?_))))
 intro eF bB dp
 let B4:List Value:=[jV aj.skier,jV aj.mat]
 refine zX (j:=0) (vs:=B4) Z Z Z Z dp Z Z Z Z zH (zA Z) Z Z Z ?_
 intro b5 dq
 have dr:sW w φ bi [.blk bB 123 B4,.blk ae 29 B2,.blk b6 29 B1,.blk b2 27 B0] b5:=dq
 refine oA Z Z (oA Z Z (zf ?_))
 cases aY
 exact zJ ⟨rfl,⟨bi,bB,rfl,rfl,rfl,rfl,(ai.trans eh),(dr.pick [1,2,3,0] _ (by decide) rfl)⟩⟩
 refine zV (cs:=[jV 0,jV 0]) Z Z Z Z Z zd Z bM ?_
 intro ca a7 dt
 have cI:=aR.le af
 have cJ:=cI.le ai
 have cK:=aS.le af
 have cL:=cK.le ai
 have cM:=aT.le af
 have cN:=cM.le ai
 have cO:=aU.le af
 have cP:=cO.le ai
 have cQ:=aV.le af
 have cR:=cQ.le ai
 refine zD 0 Z Z Z Z (zE Z Z Tryz.call112 (zB Z (zB Z (zB Z zM))) Z) dt (fun hs=>wDZ O an au ao av ap ax aq ay bg p3 aH aI ca bh hs cJ cL cN cP cR bc) (.inr Z) ?_
 rintro bm ew eM cb ej du ⟨rfl,rfl⟩
 have dv:sW w φ bm [.blk a7 123 [jV 0,jV 0],.blk ae 29 B2,.blk b6 29 B1,.blk b2 27 B0] cb:=du
 refine oM Z Z (oR Z (zU Z Z (v:=.agg #[jV aj.skier,jV aj.mat]) Z) (oR Z (zU Z Z (v:=jV be) Z) (oR Z (zU Z Z (v:=.bool bf) Z) ?_)))
 let B5:List Value:=[jV aj.skier,jV aj.mat]
 refine zX (j:=0) (vs:=B5) Z Z Z Z dv Z Z Z Z zH (zA Z) Z Z Z ?_
 intro cc dw
 have dx:sW w φ bm [.blk a7 123 B5,.blk ae 29 B2,.blk b6 29 B1,.blk b2 27 B0] cc:=dw
 refine oA Z Z (oA Z Z (zf ?_))
 cases aY
 exact zJ ⟨rfl,⟨bm,a7,rfl,rfl,rfl,rfl,(ai.trans ej),(dx.pick [1,2,3,0] _ (by decide) rfl)⟩⟩
 let B6:List Value:=[jV 0,jV 0]
 refine zV (cs:=B6) Z Z Z Z Z zd Z aJ ?_
 intro cd aP dy
 refine zD 0 Z Z Z Z (zE Z Z yp (zB Z zM) Z) dy (fun hs=>wDJ p1 cd aO hs bK) (.inr Z) ?_
 rintro bW ey eO bw aG dA ⟨rfl,rfl⟩
 have dB:sW w φ bW [.blk aP 123 B6,.blk ae 29 B2,.blk b6 29 B1,.blk b2 27 B0] bw:=dA
 have cS:=aR.le af
 have cU:=cS.le aG
 have cV:=aS.le af
 have cW:=cV.le aG
 have cX:=aT.le af
 have cY:=cX.le aG
 have cZ:=aU.le af
 have c6:=cZ.le aG
 have da:=aV.le af
 have db:=da.le aG
 refine zD 0 Z Z Z Z (zE Z Z Tryz.call112 (zB Z (zB Z (zB Z zM))) Z) dB (fun hs=>wDZ O an au ao av ap ax aq ay bg p3 aH aI bw bW hs cU cW cY c6 db bc) (.inr Z) ?_
 rintro bn ez eP cf ek dC ⟨rfl,rfl⟩
 have dD:sW w φ bn [.blk aP 123 B6,.blk ae 29 B2,.blk b6 29 B1,.blk b2 27 B0] cf:=dC
 refine oM Z Z (oR Z (zU Z Z (v:=.agg #[jV aj.skier,jV aj.mat]) Z) (oR Z (zU Z Z (v:=jV be) Z) (oR Z (zU Z Z (v:=.bool bf) Z) ?_)))
 let B7:List Value:=[jV aj.skier,jV aj.mat]
 refine zX (j:=0) (vs:=B7) Z Z Z Z dD Z Z Z Z zH (zA Z) Z Z Z ?_
 intro cg dE
 have dF:sW w φ bn [.blk aP 123 B7,.blk ae 29 B2,.blk b6 29 B1,.blk b2 27 B0] cg:=dE
 refine oA Z Z (oA Z Z (zf ?_))
 cases aY
 exact zJ ⟨rfl,⟨bn,aP,rfl,rfl,rfl,rfl,(aG.trans ek),(dF.pick [1,2,3,0] _ (by decide) rfl)⟩⟩
 rintro eZ bx ⟨bX,aQ,cp,cq,cr,ct,eH,dG⟩
 refine zL (zL (zx zt [3,3,3,1,1,2,3,3] (wGD (.fx 5 (.fl 6 (.fl 7 .nil)) .stop)) (by kernel_rfl) ?_))
 have aK:=dG.drew
 generalize hw_W253:({ bx with drawn:=bx.drawn + 1 }:World)=cj at aK ⊢
 refine oM Z ct (oR Z (Zk Z Z) (oM Z Z (ifc bT ?_ ?_)))
 intro ak dR
 refine ZE Z Z Z (zI Z Z (nC ak.out)) (aK.ldBA (j:=3) Z Z cq zl zH (vs:=B3) Z Z) Z (ZE Z Z Z (zI Z Z (nC ak.out)) (aK.ldBA (j:=0) Z Z cp Zn ZV (vs:=B2) Z Z) Z (bnK dR fun en dd dS=>zD 0 Z Z Z (zI Z Z (nC ak.out)) (zE Z Z yp (zB Z zM) Z) aK (fun hs=>wDJ p2 cj bX hs dd) (.inr Z) ?_))
 rintro bo eA eQ cm eI dH ⟨rfl,rfl⟩
 have bN:sW w φ bo [.blk ae 29 B2,.blk b6 29 B1,.blk b2 27 B0,.blk aQ 123 B3] cm:=dH
 refine za Z Z Z (zI Z Z (nC ak.out)) (fun _=>ZU (Runs.neS (enc:=wCP) (a:=(⟨bU,bV⟩:wAH)) (b:=en) Z Z Z wLc wLb) (congrArg hH (decide_not).symm)) (oR Z (zW Z (nC ak.out) Z) (eN (ifc dS ?_ ?_)))
 intro a9 dT
 refine zj (zu (fun h=>h a9.out)) (kN (sR fL3 Z (oM Z cr (oA Z Z (oA Z Z (eN (zO ?_)))))))
 cases dT
 exact ⟨rfl,_,(wDp rfl rfl),bo,_,(bN.pick [] _ (by decide) rfl),rfl,rfl⟩
 intro a9 dU
 refine cT Z a9 (sR fL2 Z (oA Z Z (oA Z Z (eN (zO (zQ ?_))))))
 cases dU
 exact ⟨rfl,_,(wDp rfl rfl),bo,_,(bN.pick [] _ (by decide) rfl),rfl,rfl⟩
 intro ak dV
 refine zy Z Z Z (zP Z Z (nF (ak.out)) Z) (zy Z Z Z (zP Z Z (nF (ak.out)) Z) (ZC Z Z Z (zP Z Z (nF (ak.out)) Z) (zy Z Z Z (zP Z Z (nF (ak.out)) Z) (oR Z (zR Z (nF (ak.out)) Z) (eN (ZD Z (sR fL2 Z (oA Z Z (oA Z Z (eN (zO (zQ ?_))))))))))))
 cases dV
 exact ⟨rfl,_,(wDp rfl rfl),bX,_,(aK.pick [] _ (by decide) rfl),rfl,rfl⟩
 intro bb dW
 refine cT Z bb (sR fL3 Z (oM Z Z (oA Z Z (oA Z Z (eN (zO (zQ ?_)))))))
 cases dW
 exact ⟨rfl,_,(wDp rfl rfl),aO,_,(bO.pick [] _ (by decide) rfl),rfl,rfl⟩
 intro ba dX
 refine ZD (nF (ba.out)) (sR fL2 Z (oA Z Z (oA Z Z (eN (zO (zc (zQ ?_)))))))
 cases dX
 exact ⟨rfl,_,(wDp rfl rfl),bq,_,(bd.pick [] _ (by decide) rfl),rfl,rfl⟩
 intro am dY
 refine zy Z Z Z (zP Z Z (nF (am.out)) Z) (zy Z Z Z (zP Z Z (nF (am.out)) Z) (ZC Z Z Z (zP Z Z (nF (am.out)) Z) (zy Z Z Z (zP Z Z (nF (am.out)) Z) (oR Z (zR Z (nF (am.out)) Z) (oA Z Z (eN (ZD Z (sR fL2 Z (oA Z Z (oA Z Z (eN (zO (zc (zQ ?_))))))))))))))
 cases dY
 exact ⟨rfl,_,(wDp rfl rfl),bp,_,(aX.pick [] _ (by decide) rfl),rfl,rfl⟩
 intro a8 dZ
 refine cT Z a8 (sR fL3 Z (oM Z Z (oA Z Z (oA Z Z (eN (zO (zc (zQ ?_))))))))
 cases dZ
 exact ⟨rfl,_,(wDp rfl rfl),bj,_,(aW.pick [] _ (by decide) rfl),rfl,rfl⟩
theorem wIc (O:wAA) (ah:Option Addr) (am:Nat) (ai:Option Addr) (an:Nat) (aj:Option Addr) (ao:Nat) (ak:Option Addr) (ap:Nat) (p1:Int) (w:World) (φ:PHeap) (hS:St0 w φ []) (bj:Sl φ 1 ah am O.Starts.length (hD KL.encI O.Starts)) (bm:Sl φ 2 ai an O.Splits.length (hD wAD O.Splits)) (bn:Sl φ 3 aj ao O.Clocks.length (hD wAF O.Clocks)) (bo:Sl φ 4 ak ap O.Readings.length (hD wAB O.Readings)) {r:(Option wAg) × Int} (hm:wFQ O p1=some r):Gv Tryz.prog 108 [.agg #[.slice ah O.Starts.length am,.slice ai O.Splits.length an,.slice aj O.Clocks.length ao,.slice ak O.Readings.length ap],jV p1] w (wCG w [] φ (fun φ_ L_ v=>match r.1 with | none=>v=.tuple #[.pointer none,jV r.2]/\L_=[] | some d=>∃ (b0:Nat) (A0p00:Option Addr) (c0p00:Nat) (A0p01:Option Addr) (c0p01:Nat) (A0p02:Option Addr) (c0p02:Nat) (A0p03:Option Addr) (c0p03:Nat) (m0p1:Nat) (es0p1:Array MapEntry) (ck0p1:Nat) (A0p2:Option Addr) (c0p2:Nat),v=.tuple #[.pointer (some ⟨b0,0,none⟩),jV r.2]/\L_=[.blk b0 139 [.slice A0p00 d.Race.Starts.length c0p00,.slice A0p01 d.Race.Splits.length c0p01,.slice A0p02 d.Race.Clocks.length c0p02,.slice A0p03 d.Race.Readings.length c0p03,.map (some m0p1),.slice A0p2 d.edges.length c0p2],.obj m0p1 (.map es0p1 ck0p1)]/\Sl φ_ 1 A0p00 c0p00 d.Race.Starts.length (hD KL.encI d.Race.Starts)/\Sl φ_ 2 A0p01 c0p01 d.Race.Splits.length (hD wAD d.Race.Splits)/\Sl φ_ 3 A0p02 c0p02 d.Race.Clocks.length (hD wAF d.Race.Clocks)/\Sl φ_ 4 A0p03 c0p03 d.Race.Readings.length (hD wAB d.Race.Readings)/\MpR es0p1 wBU wBc d.number/\Sl φ_ 7 A0p2 c0p2 d.edges.length (hD wAP d.edges))):=by
 unfold wFQ at hm
 refine Gv.of Tryz.func108 Z Tryz.ntmps108 Tryz.results108 Z (sR gCm Z ?_)
 let B0:List Value:=[.slice ah O.Starts.length am,.slice ai O.Splits.length an,.slice aj O.Clocks.length ao,.slice ak O.Readings.length ap]
 refine zn (cs:=B0) rfl rfl rfl rfl rfl rfl (by rfl) hS ?_
 intro W1 b2 aU
 refine oA Z Z (oA Z Z (eN (sR (wDK (.fx 3 (.fx 4 (wIM (.nil)) .stop) .stop)) Z (oL Z (aU.ldBA (j:=0) Z Z Z zo zZ (vs:=B0) Z Z) (oM Z Z ?_)))))
 let B1:List Value:=[jV 0,jV p1]
 refine oR Z (ZB (pv:=[(0,jV 0),(1,jV p1)]) (z:=[jV 0,jV 0]) (cs:=B1) Z (wAG Z (wAG Z wAR)) yG wFt Z Z) (ZR (pv:=[(0,.agg B1.toArray)]) (zs:=[jV 0,jV 0]) (cs:=B1) Z Z Z Z Z (wAG Z wAR) Zz ZV yG Z Z Z Z Z aU ?_)
 intro W5 b6 bh
 have bi:sW w φ φ [.row (some ⟨b6,0,none⟩) 1 29 2 (hD wAY [(⟨0,p1⟩:wAM)]),.blk b2 27 B0] W5:=bh
 have q:=bi.freezeR (k:=0) (n:=[(⟨0,p1⟩:wAM)].length) rfl (wAE (f:=wAY) (sz:=2) (fun _=>rfl) [(⟨0,p1⟩:wAM)]) (by decide)
 obtain ⟨aW,ag,bp,bd⟩:=q
 have be:sW w φ aW [.blk b2 27 B0] W5:=bd
 have aX:=bj.le ag
 have aY:=bm.le ag
 have aZ:=bn.le ag
 have a5:=bo.le ag
 have q:=bnd hm
 obtain ⟨⟨bq,aV⟩,a6,ac⟩:=q
 try dsimp only at ac
 refine zD 0 Z Z Z Z (zE Z Z Tryz.call63 (zB Z (zB Z zM)) Z) be (fun hs=>wFC O ah am ai an aj ao ak ap [(⟨0,p1⟩:wAM)] (some ⟨b6,0,none⟩) 1 W5 aW hs aX aY aZ a5 bp a6) (.inr Z) ?_
 rintro aq br bu aI bt aT aS
 rcases bq with _ | ae
 try dsimp only at ac
 obtain ⟨rfl,rfl⟩:=aS
 have bf:sW w φ aq [.blk b2 27 B0] aI:=aT
 refine oR Z (zU Z Z (v:=.pointer none) Z) (oR Z (zU Z Z (v:=jV aV) Z) (oA Z Z (oA Z Z (eN (zO ?_)))))
 cases ac
 exact ⟨rfl,_,(wDp rfl rfl),aq,_,(bf.pick [] _ (by decide) rfl),rfl,rfl⟩
 try dsimp only at ac
 obtain ⟨ax,az,aL,aE,aM,aF,aN,aG,aO,ay,aR,aP,aH,aQ,rfl,rfl,a7,a8,a9,ba,bb,bc⟩:=aS
 have bg:sW w φ aq [.blk ax 139 [.slice az ae.Race.Starts.length aL,.slice aE ae.Race.Splits.length aM,.slice aF ae.Race.Clocks.length aN,.slice aG ae.Race.Readings.length aO,.map (some ay),.slice aH ae.edges.length aQ],.obj ay (.map aR aP),.blk b2 27 B0] aI:=aT
 refine oR Z (zU Z Z (v:=.pointer (some ⟨ax,0,none⟩)) Z) (oR Z (zU Z Z (v:=jV aV) Z) (oA Z Z (oA Z Z (eN (zO ?_)))))
 cases ac
 exact ⟨rfl,_,(wDp rfl rfl),aq,_,(bg.pick [0,1] _ (by decide) rfl),ax,az,aL,aE,aM,aF,aN,aG,aO,ay,aR,aP,aH,aQ,rfl,rfl,a7,a8,a9,ba,bb,bc⟩
theorem wFy (O:wAg) (ao:Nat) (an:Option Addr) (ap:Nat) (ax:Option Addr) (aF:Nat) (ay:Option Addr) (aG:Nat) (az:Option Addr) (aH:Nat) (aa:Nat) (ab:Array MapEntry) (ac:Nat) (aE:Option Addr) (aI:Nat) (p1:Int) (w:World) (φ:PHeap) (hS:St0 w φ [.blk ao 139 [.slice an O.Race.Starts.length ap,.slice ax O.Race.Splits.length aF,.slice ay O.Race.Clocks.length aG,.slice az O.Race.Readings.length aH,.map (some aa),.slice aE O.edges.length aI],.obj aa (.map ab ac)]) (cw:Sl φ 1 an ap O.Race.Starts.length (hD KL.encI O.Race.Starts)) (cx:Sl φ 2 ax aF O.Race.Splits.length (hD wAD O.Race.Splits)) (cy:Sl φ 3 ay aG O.Race.Clocks.length (hD wAF O.Race.Clocks)) (cz:Sl φ 4 az aH O.Race.Readings.length (hD wAB O.Race.Readings)) (a5:MpR ab wBU wBc O.number) (cA:Sl φ 7 aE aI O.edges.length (hD wAP O.edges)) {r:(Arr Int 64)} (hm:wDo O p1=some r):Gv Tryz.prog 109 [.pointer (some ⟨ao,0,none⟩),jV p1] w (wCG w [.blk ao 139 [.slice an O.Race.Starts.length ap,.slice ax O.Race.Splits.length aF,.slice ay O.Race.Clocks.length aG,.slice az O.Race.Readings.length aH,.map (some aa),.slice aE O.edges.length aI],.obj aa (.map ab ac)] φ (fun φ_ L_ v=>v=.agg (hD KL.encI r.l).toArray/\L_=[.blk ao 139 [.slice an O.Race.Starts.length ap,.slice ax O.Race.Splits.length aF,.slice ay O.Race.Clocks.length aG,.slice az O.Race.Readings.length aH,.map (some aa),.slice aE O.edges.length aI],.obj aa (.map ab ac)])):=by
 unfold wDo at hm
 refine Gv.of Tryz.func109 Z Tryz.ntmps109 Tryz.results109 Z (sR (.fx 0 .nil .stop) Z (zV (cs:=hD KL.encI (Arr.fill 64 0).l) Z Z Z Z Z Tryz.zeroValue169 Z hS ?_))
 intro W3 b4 cm
 let B0:Res:=.blk ao 139 [.slice an O.Race.Starts.length ap,.slice ax O.Race.Splits.length aF,.slice ay O.Race.Clocks.length aG,.slice az O.Race.Readings.length aH,.map (some aa),.slice aE O.edges.length aI]
 have cr:SW w [B0,.obj aa (.map ab ac)] φ φ [.blk b4 169 (hD KL.encI (Arr.fill 64 0).l),B0,.obj aa (.map ab ac)] W3:=cm
 refine eN (sR (.fx 0 .nil .stop) Z (zV (cs:=hD KL.encI (Arr.fill 64 0).l) Z Z Z Z Z Tryz.zeroValue169 Z cr ?_))
 intro W8 b9 cc
 have bq:SW w [B0,.obj aa (.map ab ac)] φ φ [.blk b9 169 (hD KL.encI (Arr.fill 64 0).l),.blk b4 169 (hD KL.encI (Arr.fill 64 0).l),B0,.obj aa (.map ab ac)] W8:=cc
 refine eN (zL (sR fL7 Z (oM Z Z (oR Z (Zt Z Z) (oR Z (zF Z Z ZH Z zZ) (oR Z (zF Z Z zT Z zg) (oL Z (bq.ldB (j:=2) Z Z Z zr (v:=.slice an O.Race.Starts.length ap) Z) (oR Z (zi Z Z zK) (oM Z Z (eN (zY (bnK hm fun aj cC cO=>?_))))))))))))
 have q:=wCC cC
 obtain ⟨a8,cD⟩:=q
 replace a8:=zN a8
 refine CK.forN' (fun af aJ σ_ w_=>∃ (φ_:PHeap),σ_ 17=jV (↑af:Int)/\σ_ 0=.pointer (some ⟨ao,0,none⟩)/\σ_ 1=jV p1/\σ_ 4=.pointer (some ⟨b4,0,none⟩)/\σ_ 5=.pointer (some ⟨b9,0,none⟩)/\σ_ 16=jV (↑O.Race.Starts.length:Int)/\PHeap.Le φ φ_/\SW w [B0,.obj aa (.map ab ac)] φ φ_ [.blk b9 169 (hD KL.encI aJ.l),.blk b4 169 (hD KL.encI (Arr.fill 64 0).l),B0,.obj aa (.map ab ac)] w_) cD ?_ ?_ ?_
 exact ⟨φ,Z,Z,Z,Z,Z,Z,(zS _),bq⟩
 rintro af aJ dm du ba a6 ⟨bw,aX,aQ,bh,bS,bT,bi,av,aZ⟩ cQ
 have bd:Hid ((↑af:Int) < (↑O.Race.Starts.length:Int)):=zN (wBO a6)
 replace a6:=zN a6
 have cK:Hid (w64 ((↑af:Int) + 1)=(↑(af + 1):Int)):=zN (by have h1:=a8.out;have h2:=bd.out;rw [wAb] <;> omega)
 refine sR fL1 Z (oR Z (ze Z aX bi) (eN (zL (cT Z bd (kN (zL (zY (sR fL2 Z (oM Z aX (oA Z Z (eN (sR (fC0_8 (.fx 9 (wOF (.fx 14 (.fx 15 (.fl 16 (.fl 17 .nil)) .stop) .stop)) .stop)) Z (oM Z aQ (oM Z aQ (oR Z (Zt Z Z) (oR Z (zF Z Z ZH Z Zw) (oL Z (aZ.ldB (j:=2) Z Z Z yC (v:=.map (some aa)) Z) (oM Z Z (oM Z bh (oR Z (ZB (pv:=[(0,jV (↑af:Int)),(1,jV p1)]) (z:=[jV 0,jV 0]) (cs:=[jV (↑af:Int),jV p1]) Z (wAG Z (wAG Z wAR)) zd wBv Z Z) (oL Z (aZ.lookup1 (j:=3) (mk:=wBU) (mv:=wBc) (a:=(⟨(↑af:Int),p1⟩:wAH)) (z:=0) Z Z Z Z (wBj ZS) wDF ZG a5) ?_)))))))))))))))))))))
 have bX:=cw.le av
 have bY:=cx.le av
 have bZ:=cy.le av
 have b5:=cz.le av
 have ca:=cA.le av
 have q:=bnd cQ
 obtain ⟨⟨ai,cW,cX⟩,cb,bu⟩:=q
 try dsimp only at bu
 have cn:SW w [B0,.obj aa (.map ab ac)] φ bw [B0,.obj aa (.map ab ac),.blk b9 169 (hD KL.encI aJ.l),.blk b4 169 (hD KL.encI (Arr.fill 64 0).l)] ba:=aZ.pick [2,3,0,1] _ (by decide) rfl
 refine zD 2 Z Z Z Z (zE Z Z YF (zB Z (zB Z (zB Z zM))) Z) cn (fun hs=>wBN O ao an ap ax aF ay aG az aH aa ab ac aE aI (wBP O.number (⟨(↑af:Int),p1⟩:wAH) 0) false ba bw hs bX bY bZ b5 a5 ca cb) (.inl Z) ?_
 rintro aU cZ dl bC cU co ⟨aK,aP,aV,aW,rfl,rfl⟩
 let B1:Res:=.row aK aP 3 1 (hD KL.encI ai.far)
 let B2:Res:=.row aV aW 3 1 (hD KL.encI ai.by_)
 have cp:SW w [B0,.obj aa (.map ab ac)] φ aU [B1,B2,B0,.obj aa (.map ab ac),.blk b9 169 (hD KL.encI aJ.l),.blk b4 169 (hD KL.encI (Arr.fill 64 0).l)] bC:=co
 refine oM Z Z (oR Z (zU Z Z (v:=.agg #[.slice aK ai.far.length aP,.slice aV ai.by_.length aW]) Z) (oR Z (zU Z Z (v:=jV cW) Z) (oR Z (zU Z Z (v:=.bool cX) Z) (zV (cs:=[.slice none 0 0,.slice none 0 0]) Z Z Z Z Z Zl Z cp ?_))))
 intro dd aO cq
 let B3:List Value:=[.slice aK ai.far.length aP,.slice aV ai.by_.length aW]
 refine zX (j:=0) (vs:=B3) Z Z Z Z cq Z Z Z Z Zx (zA Z) Z Z Z ?_
 intro bD ct
 have bt:SW w [B0,.obj aa (.map ab ac)] φ aU [.blk aO 133 B3,B1,B2,B0,.obj aa (.map ab ac),.blk b9 169 (hD KL.encI aJ.l),.blk b4 169 (hD KL.encI (Arr.fill 64 0).l)] bD:=ct
 refine oA Z Z (oA Z Z (eN (sR fL7 Z (oM Z aQ (oR Z (Zt Z Z) (oR Z (zF Z Z ZH Z zZ) (oR Z (zF Z Z zT Z zg) (oL Z (bt.ldB (j:=3) Z Z Z zr (v:=.slice an O.Race.Starts.length ap) Z) (oR Z (zi Z Z zK) (oM Z Z (eN (zY (bnK bu fun dq cE cP=>?_)))))))))))))
 have q:=wCC cE
 obtain ⟨a9,cG⟩:=q
 replace a9:=zN a9
 refine CK.forN' (fun ag au σ_ w_=>∃ (φ_:PHeap),σ_ 40=jV (↑ag:Int)/\σ_ 0=.pointer (some ⟨ao,0,none⟩)/\σ_ 1=jV p1/\σ_ 4=.pointer (some ⟨b4,0,none⟩)/\σ_ 5=.pointer (some ⟨b9,0,none⟩)/\σ_ 6=jV (↑af:Int)/\σ_ 7=.pointer (some ⟨aO,0,none⟩)/\σ_ 16=jV (↑O.Race.Starts.length:Int)/\σ_ 17=jV (↑af:Int)/\σ_ 39=jV (↑O.Race.Starts.length:Int)/\PHeap.Le aU φ_/\SW w [B0,.obj aa (.map ab ac)] φ φ_ [B1,B2,.blk aO 133 B3,B0,.obj aa (.map ab ac),.blk b9 169 (hD KL.encI au.l),.blk b4 169 (hD KL.encI (Arr.fill 64 0).l)] w_) cG ?_ ?_ ?_
 exact ⟨aU,rfl,aQ,bh,bS,bT,rfl,rfl,bi,aX,rfl,(zS _),(bt.pick [1,2,0,3,4,5,6] _ (by decide) rfl)⟩
 rintro ag au dp dv bb a7 ⟨bx,aY,bj,bm,bU,bn,bo,be,bH,bI,bf,cV,cu⟩ cR
 have bc:Hid ((↑ag:Int) < (↑O.Race.Starts.length:Int)):=zN (wBO a7)
 replace a7:=zN a7
 have cJ:Hid (w64 ((↑ag:Int) + 1)=(↑(ag + 1):Int)):=zN (by have h1:=a9.out;have h2:=bc.out;rw [wAb] <;> omega)
 refine sR fL1 rfl (za rfl rfl rfl rfl (fun _=>ze rfl aY bf) (eN (zL (cT Z bc (kN (zL (zY (sR fL2 rfl (zw rfl rfl rfl rfl rfl aY (yP rfl rfl rfl rfl rfl rfl (eN (zx zt [3,3,3,1,3,3,3,1,3,3,3,1,3,1,3,3,0] (wNK (.fx 16 .nil .stop)) (by kernel_rfl) ?_))))))))))))
 have aq:=cu.drew
 generalize hw_W107:({ bb with drawn:=bb.drawn + 1 }:World)=c6 at aq ⊢
 refine oM Z bo (oM Z Z (oR Z (zF Z be ZZ Z zg) (oL Z (aq.ldB (j:=2) Z Z Z zr (v:=.slice aK ai.far.length aP) Z) (oM Z bj (oR Z (Zt Z Z) (oR Z (zF Z Z ZH Z Zw) (oL Z (aq.ldB (j:=3) Z Z Z yC (v:=.map (some aa)) Z) (oM Z Z (oM Z bm (oR Z (ZB (pv:=[(0,jV (↑ag:Int)),(1,jV p1)]) (z:=[jV 0,jV 0]) (cs:=[jV (↑ag:Int),jV p1]) Z (wAG Z (wAG Z wAR)) zd wBv Z Z) (oL Z (aq.lookup1 (j:=4) (mk:=wBU) (mv:=wBc) (a:=(⟨(↑ag:Int),p1⟩:wAH)) (z:=0) Z Z Z Z (wBj ZS) wDF ZG a5) (bnK cR fun _ aR cL=>?_))))))))))))
 obtain ⟨de,bp⟩:=aq.rowSome (j:=0) rfl (by rw [wAE (f:=KL.encI) (sz:=1) (fun _=>rfl) ai.far];have hz:=wAW aR;omega)
 refine oR Z (ZM Z Z bp Z zK zC (wBq aR) (wBr aR)) ?_
 have cH:=wBK (xs:=ai.far) (wAW aR)
 refine ZE rfl rfl rfl rfl (aq.ldR (j:=0) rfl bp rfl rfl zG (wAc (sz:=1) (fun _=>rfl) _ _ 0 _ cH (by first | omega | rfl | simp) rfl)) rfl (bnK cL fun _ aS cM=>za rfl rfl rfl rfl (fun _=>Runs.iaA rfl bn rfl Tryz.runUnderlying169 Tryz.sizeOf168 (wBq aS) (wBr aS)) (bnK cM fun _ aT cN=>za rfl rfl rfl rfl (fun _=>Runs.iaA rfl rfl rfl Tryz.runUnderlying168 zC (wBq aT) (wBr aT)) ?_))
 have cI:=Arr.at_ au (k:=(af * 8 + ag)) (by have hz0:=wAW aS;have hz1:=wAW aT;omega)
 refine zX (j:=5) (vs:=[jV (gd ai.far (wBP O.number (⟨(↑ag:Int),p1⟩:wAH) 0).toNat)]) (cs':=hD KL.encI (au.set (af * 8 + ag) (gd ai.far (wBP O.number (⟨(↑ag:Int),p1⟩:wAH) 0).toNat)).l) rfl rfl rfl rfl aq rfl rfl rfl rfl zC (by have hz0:=wAW aS;have hz1:=wAW aT;simp only [List.length_append,List.length_cons,List.length_nil,wCx (f:=KL.encI) (sz:=1) (N:=64) au (fun _=>rfl) rfl];omega) rfl (wDV (sz:=1) (fo:=0) (fun _=>rfl) _ _ _ _ cI (by first | omega | rfl | simp) (zA rfl) rfl) rfl ?_
 intro bz cd
 have cf:SW w [B0,.obj aa (.map ab ac)] φ bx [B1,B2,.blk aO 133 B3,B0,.obj aa (.map ab ac),.blk b9 169 (hD KL.encI (au.set (af * 8 + ag) (gd ai.far (wBP O.number (⟨(↑ag:Int),p1⟩:wAH) 0).toNat)).l),.blk b4 169 (hD KL.encI (Arr.fill 64 0).l)] bz:=cd
 refine zf (zm (zJ (rR fL2 Z (oR Z (ZU (zh Z aY Z) (congrArg (jV) cJ.out)) (oM Z Z (zf ?_))))))
 cases cN
 exact zJ ⟨Z,⟨bx,Z,bj,bm,bU,bn,bo,be,bH,bI,bf,cV,cf⟩⟩
 rintro dr da ⟨cY,bV,bJ,bK,bL,bM,df,dg,bN,bO,bP,cS,cg⟩
 have bF:Hid (¬ ((↑(((↑O.Race.Starts.length:Int):Int) - 0).toNat:Int) < (↑O.Race.Starts.length:Int))):=zN (wAq)
 refine sR fL1 Z (oR Z (ze Z bV bP) (eN (zL (cF Z bF (Za (zq (zq (ZW (zm (zJ (rR fL2 Z (oR Z (ZU (zh Z bO Z) (congrArg (jV) cK.out)) (oM Z Z (zf ?_))))))))))))))
 cases cP
 exact zJ ⟨rfl,⟨cY,rfl,bJ,bK,bL,bM,bN,((av.trans cU).trans cS),(cg.pick [5,6,3,4] _ (by decide) rfl)⟩⟩
 rintro dt db ⟨bv,bW,dh,di,bg,bQ,bR,dk,br⟩
 have bG:Hid (¬ ((↑(((↑O.Race.Starts.length:Int):Int) - 0).toNat:Int) < (↑O.Race.Starts.length:Int))):=zN (wAq)
 refine sR fL1 rfl (za rfl rfl rfl rfl (fun _=>ze rfl bW bR) (eN (zL (cF Z bG (Za (zq (zq (ZW (zJ (sR (.fl 0 (.fx 1 .nil .stop)) rfl (ZE rfl rfl rfl rfl (br.ldBA (j:=0) rfl rfl bQ Tryz.isAgg169 Tryz.sizeOf169 (vs:=hD KL.encI aj.l) (wOZ aj (fun _=>rfl) rfl) (wCx aj (fun _=>rfl) rfl)) rfl (zX (j:=1) (vs:=hD KL.encI aj.l) rfl rfl rfl rfl br rfl bg rfl rfl (fun w=>by rw [wCx (f:=KL.encI) (sz:=1) (N:=64) aj (fun _=>rfl) rfl];exact Tryz.sizeOf169 w) (by rw [wCx (f:=KL.encI) (sz:=1) (N:=64) aj (fun _=>rfl) rfl,wCx (f:=KL.encI) (sz:=1) (N:=64) (Arr.fill 64 0) (fun _=>rfl) rfl];exact zA rfl) (wHF (fun _=>rfl) _) (wKH _ _ (by rw [wCx (f:=KL.encI) (sz:=1) (N:=64) aj (fun _=>rfl) rfl,wCx (f:=KL.encI) (sz:=1) (N:=64) (Arr.fill 64 0) (fun _=>rfl) rfl])) rfl ?_))))))))))))
 intro bA cj
 have bs:SW w [B0,.obj aa (.map ab ac)] φ bv [.blk b9 169 (hD KL.encI aj.l),.blk b4 169 (hD KL.encI aj.l),B0,.obj aa (.map ab ac)] bA:=cj
 refine eN (zO ?_)
 have hE:=nB cO;first | subst r | cases hE
 exact ⟨rfl,_,(wHW (v:=.agg (hD KL.encI aj.l).toArray) ⟨⟨_,bg,(wBQ Tryz.isAgg169 Tryz.sizeOf169 (bs.blkAt (k:=1) rfl) (wOZ aj (fun _=>rfl) rfl) (wCx aj (fun _=>rfl) rfl))⟩,trivial⟩),bv,_,(bs.pick [2,3] _ (by decide) rfl),rfl,rfl⟩
end Go.Proofs.YtlnfbjphfoipaaaGreat
namespace Go.Proofs.YtlnfbjphfoipaaaGreat
open Go.KL
set_option maxHeartbeats 4000000
theorem wId (O:wAA) (aH:Option Addr) (aI:Nat) (aZ:Option Addr) (a7:Nat) (a5:Option Addr) (a8:Nat) (a6:Option Addr) (a9:Nat) (p1:Int) (w:World) (φ:PHeap) (hS:St0 w φ []) (dt:Sl φ 1 aH aI O.Starts.length (hD KL.encI O.Starts)) (du:Sl φ 2 aZ a7 O.Splits.length (hD wAD O.Splits)) (dv:Sl φ 3 a5 a8 O.Clocks.length (hD wAF O.Clocks)) (dw:Sl φ 4 a6 a9 O.Readings.length (hD wAB O.Readings)) {r:(List wAO) × Int} (hm:wFR O p1=some r):Gv Tryz.prog 40 [.agg #[.slice aH O.Starts.length aI,.slice aZ O.Splits.length a7,.slice a5 O.Clocks.length a8,.slice a6 O.Readings.length a9],jV p1] w (wCG w [] φ (fun φ_ L_ v=>∃ (A0:Option Addr) (c0:Nat),v=.tuple #[.slice A0 r.1.length c0,jV r.2]/\L_=[.row A0 c0 39 2 (hD wAD r.1)])):=by
 unfold wFR at hm
 refine Gv.of Tryz.func40 Z Tryz.ntmps40 Tryz.results40 Z (sR gCm Z ?_)
 let B0:List Value:=[.slice aH O.Starts.length aI,.slice aZ O.Splits.length a7,.slice a5 O.Clocks.length a8,.slice a6 O.Readings.length a9]
 refine zn (cs:=B0) rfl rfl rfl rfl rfl rfl (by rfl) hS ?_
 intro W1 b2 bT
 refine oA Z Z (oA Z Z (eN (sR (.fl 0 (.fl 1 (.fx 2 (wPQ (.nil)) .stop))) Z (oL Z (bT.ldBA (j:=0) Z Z Z zo zZ (vs:=B0) Z Z) (oM Z Z ?_)))))
 have q:=bnd hm
 obtain ⟨⟨x5,x6⟩,h7,aO⟩:=q
 try dsimp only at aO
 refine zD 0 Z Z Z Z (zE Z Z Tryz.call108 (zB Z (zB Z zM)) Z) bT (fun hs=>wIc O aH aI aZ a7 a5 a8 a6 a9 p1 W1 φ hs dt du dv dw h7) (.inr Z) ?_
 rintro aQ dZ ep be ek bQ bO
 rcases x5 with _ | aJ
 try dsimp only at aO
 obtain ⟨rfl,rfl⟩:=bO
 have dh:sW w φ aQ [.blk b2 27 B0] be:=bQ
 refine oM Z Z (oR Z (zU Z Z (v:=.pointer none) Z) (oR Z (zU Z Z (v:=jV x6) Z) (oA Z Z (oA Z Z (eN (zL (sR fL2 Z (oM Z Z (oR Z (ZP Z Z Z) (eN (ifc aO ?_ ?_)))))))))))
 intro bj dP
 refine zj (zu (fun h=>h bj.out)) (kN (sR gDi Z (oM Z Z (oM Z Z ?_))))
 cases dP
 intro bj dQ
 refine cT Z bj (sR fL3 Z (oM Z Z (oA Z Z (oA Z Z (eN (zO (zQ ?_)))))))
 have di:=dh.nilrow 39 2
 cases dQ
 exact ⟨rfl,_,(wDp rfl rfl),aQ,_,(di.pick [0] _ (by decide) rfl),none,0,rfl,rfl⟩
 try dsimp only at aO
 obtain ⟨bf,bv,bG,bw,bH,bx,bI,bA,bK,ae,ag,af,bB,bL,rfl,rfl,cL,cM,cN,cO,cP,cQ⟩:=bO
 let B1:Res:=.blk bf 139 [.slice bv aJ.Race.Starts.length bG,.slice bw aJ.Race.Splits.length bH,.slice bx aJ.Race.Clocks.length bI,.slice bA aJ.Race.Readings.length bK,.map (some ae),.slice bB aJ.edges.length bL]
 have bU:sW w φ aQ [B1,.obj ae (.map ag af),.blk b2 27 B0] be:=bQ
 refine oM Z Z (oR Z (zU Z Z (v:=.pointer (some ⟨bf,0,none⟩)) Z) (oR Z (zU Z Z (v:=jV x6) Z) (oA Z Z (oA Z Z (eN (zL (sR fL2 Z (oM Z Z (oR Z (ZP Z Z Z) (eN (ifc aO ?_ ?_)))))))))))
 intro bm dR
 refine zj (zu (fun h=>h bm.out)) (kN (sR gDi Z (oM Z Z (oM Z Z (bnK dR fun aa cR dS=>zD 2 Z Z Z Z (zE Z Z Tryz.call109 (zB Z (zB Z zM)) Z) bU (fun hs=>wFy aJ bf bv bG bw bH bx bI bA bK ae ag af bB bL p1 be aQ hs cL cM cN cO cP cQ cR) (.inl Z) ?_)))))
 rintro aP d4 er cm eo dk ⟨rfl,rfl⟩
 have dl:sW w φ aP [B1,.obj ae (.map ag af),.blk b2 27 B0] cm:=dk
 refine zV (cs:=hD KL.encI (Arr.fill 64 0).l) Z Z Z Z Z Tryz.zeroValue169 Z dl ?_
 intro cn ai dm
 have dp:sW w φ aP [.blk ai 169 (hD KL.encI (Arr.fill 64 0).l),B1,.obj ae (.map ag af),.blk b2 27 B0] cn:=dm
 refine zX (j:=0) (vs:=hD KL.encI aa.l) rfl rfl rfl rfl dp rfl rfl rfl rfl (fun w=>by rw [wCx (f:=KL.encI) (sz:=1) (N:=64) aa (fun _=>rfl) rfl];exact Tryz.sizeOf169 w) (by rw [wCx (f:=KL.encI) (sz:=1) (N:=64) aa (fun _=>rfl) rfl,wCx (f:=KL.encI) (sz:=1) (N:=64) (Arr.fill 64 0) (fun _=>rfl) rfl];exact zA rfl) (wHF (fun _=>rfl) _) (wKH _ _ (by rw [wCx (f:=KL.encI) (sz:=1) (N:=64) aa (fun _=>rfl) rfl,wCx (f:=KL.encI) (sz:=1) (N:=64) (Arr.fill 64 0) (fun _=>rfl) rfl])) rfl ?_
 intro co dq
 have bV:sW w φ aP [.blk ai 169 (hD KL.encI aa.l),B1,.obj ae (.map ag af),.blk b2 27 B0] co:=dq
 refine eN (sR fL1 Z (oA Z Z (eN (zL (sR fL4 Z (oR Z (zF Z Z zT Z zg) (oL Z (bV.ldB (j:=3) Z Z Z zr (v:=.slice aH O.Starts.length aI) Z) (oR Z (zi Z Z zK) (oM Z Z (eN (zY (bnK dS fun ey dz dT=>?_))))))))))))
 have q:=wCC dz
 obtain ⟨br,dA⟩:=q
 replace br:=zN br
 refine CK.forN' (fun ak aG σ_ w_=>∃ (φ_:PHeap) (aK:Option Addr) (aM:Nat),σ_ 28=jV (↑ak:Int)/\σ_ 2=.pointer (some ⟨b2,0,none⟩)/\σ_ 8=.pointer (some ⟨ai,0,none⟩)/\σ_ 9=.slice aK aG.length aM/\σ_ 27=jV (↑O.Starts.length:Int)/\PHeap.Le aP φ_/\sW w φ φ_ [.blk ai 169 (hD KL.encI aa.l),B1,.obj ae (.map ag af),.blk b2 27 B0,.row aK aM 39 2 (hD wAD aG)] w_) dA ?_ ?_ ?_
 have dr:=bV.nilrow 39 2
 exact ⟨aP,none,0,rfl,rfl,rfl,rfl,rfl,(zS _),(dr.pick [1,2,3,4,0] _ (by decide) rfl)⟩
 rintro ak aG ew eC d9 bp ⟨bt,aK,aM,bn,bM,cu,cw,bN,dW,cU⟩ dU
 have bE:Hid ((↑ak:Int) < (↑O.Starts.length:Int)):=zN (wBO bp)
 replace bp:=zN bp
 have dE:Hid (w64 ((↑ak:Int) + 1)=(↑(ak + 1):Int)):=zN (by have h1:=br.out;have h2:=bE.out;rw [wAb] <;> omega)
 refine sR fL1 Z (oR Z (ze Z bn bN) (eN (zL (cT Z bE (kN (zL (zY (sR fL2 Z (oM Z bn (oA Z Z (eN (sR (.fl 0 gCj) Z ?_))))))))))))
 let B2:List Value:=[jV 0,jV 0]
 let B3:List Value:=[jV 1,jV 1]
 refine oR Z (ZB (pv:=[(0,jV 1),(1,jV 1)]) (z:=B2) (cs:=B3) Z (wAG Z (wAG Z wAR)) ZX wCu Z Z) (zV (cs:=B2) Z Z Z Z Z ZX Z cU ?_)
 intro d5 ap cV
 refine zX (j:=0) (vs:=B3) Z Z Z Z cV Z Z Z Z zz (zA Z) Z Z Z ?_
 intro cb cW
 let B4:Res:=.row aK aM 39 2 (hD wAD aG)
 have bP:sW w φ bt [.blk ap 39 B3,.blk ai 169 (hD KL.encI aa.l),B1,.obj ae (.map ag af),.blk b2 27 B0,B4] cb:=cW
 refine eN (zL (sR fL4 Z (oR Z (zF Z bM zT Z zg) (oL Z (bP.ldB (j:=4) Z Z Z zr (v:=.slice aH O.Starts.length aI) Z) (oR Z (zi Z Z zK) (oM Z Z (eN (zY ?_))))))))
 have q:=bnd dU
 obtain ⟨⟨ba,bb⟩,dx,bW⟩:=q
 try dsimp only at bW
 have q:=wCC dx
 obtain ⟨bq,dy⟩:=q
 replace bq:=zN bq
 refine CK.forN' (fun aq (ay,ao) σ_ w_=>∃ (φ_:PHeap),σ_ 35=jV (↑aq:Int)/\σ_ 2=.pointer (some ⟨b2,0,none⟩)/\σ_ 8=.pointer (some ⟨ai,0,none⟩)/\σ_ 9=.slice aK aG.length aM/\σ_ 10=jV (↑ak:Int)/\σ_ 11=.pointer (some ⟨ap,0,none⟩)/\σ_ 27=jV (↑O.Starts.length:Int)/\σ_ 28=jV (↑ak:Int)/\σ_ 34=jV (↑O.Starts.length:Int)/\PHeap.Le bt φ_/\sW w φ φ_ [.blk ap 39 [jV ay,jV ao],.blk ai 169 (hD KL.encI aa.l),B1,.obj ae (.map ag af),.blk b2 27 B0,B4] w_) dy ?_ ?_ ?_
 exact ⟨bt,Z,bM,cu,cw,Z,Z,bN,bn,Z,(zS _),bP⟩
 rintro aq ⟨ay,ao⟩ eu ez d6 bo ⟨az,aF,aR,au,aS,av,aj,aT,aU,aN,aX,ax⟩ bX
 try dsimp only at bX
 have bF:Hid ((↑aq:Int) < (↑O.Starts.length:Int)):=zN (wBO bo)
 replace bo:=zN bo
 have aW:Hid (w64 ((↑aq:Int) + 1)=(↑(aq + 1):Int)):=zN (by have h1:=bq.out;have h2:=bF.out;rw [wAb] <;> omega)
 refine sR fL1 Z (oR Z (ze Z aF aN) (eN (zL (cT Z bF (kN (zL (zY (sR fL2 Z (oM Z aF (oA Z Z (eN (zL (sR fL6 Z (oM Z av (oM Z Z (bnK bX fun _ am dF=>oR Z (Runs.iaA Z au Z Tryz.runUnderlying169 Tryz.sizeOf168 (wBq am) (wBr am)) (bnK dF fun _ an dG=>oR Z (Runs.iaA Z Z Z Tryz.runUnderlying168 zC (wBq an) (wBr an)) ?_)))))))))))))))))
 have dB:=Arr.at_ aa (k:=(ak * 8 + aq)) (by have hz0:=wAW am;have hz1:=wAW an;omega)
 refine ZE rfl rfl rfl rfl (ax.ldB (j:=1) rfl rfl rfl zG (wAc (sz:=1) (fun _=>rfl) _ _ 0 _ dB (by first | omega | rfl | simp) rfl)) rfl (za rfl rfl rfl rfl (fun _=>ze rfl rfl rfl) (eN (ifc dG ?_ ?_)))
 intro bg dH
 refine cT Z bg (rR (wEF (.fx 4 .nil .stop)) Z (oR Z (zF Z aj ZT Z zC) (oL Z (ax.ldB (j:=0) Z Z Z zG (v:=jV ay) Z) (oR Z (zh Z Z Z) (oR Z (zF Z aj ZT Z zC) (zX (j:=0) (vs:=[jV (w64 (ay + 1))]) Z Z Z Z ax Z Z Z Z zC (zA Z) Z Z Z ?_))))))
 intro cc cX
 have aV:sW w φ az [.blk ap 39 [jV (w64 (ay + 1)),jV ao],.blk ai 169 (hD KL.encI aa.l),B1,.obj ae (.map ag af),.blk b2 27 B0,B4] cc:=cX
 refine eN (sR fL6 Z (oM Z Z (oM Z av (oR Z (Runs.iaA Z au Z Tryz.runUnderlying169 Tryz.sizeOf168 (wBq an) (wBr an)) (oR Z (Runs.iaA Z Z Z Tryz.runUnderlying168 zC (wBq am) (wBr am)) ?_)))))
 have dC:=Arr.at_ aa (k:=(aq * 8 + ak)) (by have hz0:=wAW an;have hz1:=wAW am;omega)
 refine ZE rfl rfl rfl rfl (aV.ldB (j:=1) rfl rfl rfl zG (wAc (sz:=1) (fun _=>rfl) _ _ 0 _ dC (by first | omega | rfl | simp) rfl)) rfl (za rfl rfl rfl rfl (fun _=>yI rfl rfl rfl) (eN (ifc dH ?_ ?_)))
 intro bh dI
 refine cT Z bh (rR (wEF (.fx 4 .nil .stop)) Z (oR Z (zF Z aj ZT Z zC) (oL Z (aV.ldB (j:=0) Z Z Z zG (v:=jV ao) Z) (oR Z (zh Z Z Z) (oR Z (zF Z aj ZT Z zC) (zX (j:=0) (vs:=[jV (w64 (ao + 1))]) Z Z Z Z aV Z Z Z Z zC (zA Z) Z Z Z ?_))))))
 intro cd cY
 have cZ:sW w φ az [.blk ap 39 [jV (w64 (ay + 1)),jV (w64 (ao + 1))],.blk ai 169 (hD KL.encI aa.l),B1,.obj ae (.map ag af),.blk b2 27 B0,B4] cd:=cY
 refine zf (zm (zJ (rR fL2 Z (oR Z (ZU (zh Z aF Z) (congrArg (jV) aW.out)) (oM Z Z (zf ?_))))))
 cases dI
 exact zJ ⟨Z,⟨az,Z,aR,au,aS,av,aj,aT,aU,aN,aX,cZ⟩⟩
 intro bh dJ
 refine cF Z bh (Zf (zm (zJ (rR fL2 Z (oR Z (ZU (zh Z aF Z) (congrArg (jV) aW.out)) (oM Z Z (zf ?_)))))))
 cases dJ
 exact zJ ⟨Z,⟨az,Z,aR,au,aS,av,aj,aT,aU,aN,aX,aV⟩⟩
 intro bg dK
 refine cF Z bg (kN (sR fL6 Z (oM Z Z (oM Z av (oR Z (Runs.iaA Z au Z Tryz.runUnderlying169 Tryz.sizeOf168 (wBq an) (wBr an)) (oR Z (Runs.iaA Z Z Z Tryz.runUnderlying168 zC (wBq am) (wBr am)) ?_))))))
 have dD:=Arr.at_ aa (k:=(aq * 8 + ak)) (by have hz0:=wAW an;have hz1:=wAW am;omega)
 refine ZE rfl rfl rfl rfl (ax.ldB (j:=1) rfl rfl rfl zG (wAc (sz:=1) (fun _=>rfl) _ _ 0 _ dD (by first | omega | rfl | simp) rfl)) rfl (za rfl rfl rfl rfl (fun _=>yI rfl rfl rfl) (eN (ifc dK ?_ ?_)))
 intro bi dL
 refine cT Z bi (rR (wEF (.fx 4 .nil .stop)) Z (oR Z (zF Z aj ZT Z zC) (oL Z (ax.ldB (j:=0) Z Z Z zG (v:=jV ao) Z) (oR Z (zh Z Z Z) (oR Z (zF Z aj ZT Z zC) (zX (j:=0) (vs:=[jV (w64 (ao + 1))]) Z Z Z Z ax Z Z Z Z zC (zA Z) Z Z Z ?_))))))
 intro cf c6
 have da:sW w φ az [.blk ap 39 [jV ay,jV (w64 (ao + 1))],.blk ai 169 (hD KL.encI aa.l),B1,.obj ae (.map ag af),.blk b2 27 B0,B4] cf:=c6
 refine zf (zm (zJ (rR fL2 Z (oR Z (ZU (zh Z aF Z) (congrArg (jV) aW.out)) (oM Z Z (zf ?_))))))
 cases dL
 exact zJ ⟨Z,⟨az,Z,aR,au,aS,av,aj,aT,aU,aN,aX,da⟩⟩
 intro bi dM
 refine cF Z bi (Zf (zm (zJ (rR fL2 Z (oR Z (ZU (zh Z aF Z) (congrArg (jV) aW.out)) (oM Z Z (zf ?_)))))))
 cases dM
 exact zJ ⟨Z,⟨az,Z,aR,au,aS,av,aj,aT,aU,aN,aX,ax⟩⟩
 rintro eA d7 ⟨bs,cI,cx,cy,cz,eg,cA,cC,cD,cE,dV,bR⟩
 have cq:Hid (¬ ((↑(((↑O.Starts.length:Int):Int) - 0).toNat:Int) < (↑O.Starts.length:Int))):=zN (wAq)
 refine sR fL1 Z (oR Z (ze Z cI cE) (eN (zL (cF Z cq (Za (zq (zq (ZW (zJ (rR (.fl 0 (.fl 1 gCu)) Z (oM Z cz ?_)))))))))))
 let B5:List Value:=[jV ba,jV bb]
 refine oL Z (bR.ldBA (j:=0) Z Z cA yA zz (vs:=B5) Z Z) (ZR (pv:=[(0,.agg B5.toArray)]) (zs:=B2) (cs:=B5) Z Z Z Z Z (wAG Z wAR) ZI zz ZX Z Z Z Z Z bR ?_)
 intro cg cp db
 let B6:Res:=.row (some ⟨cp,0,none⟩) 1 39 2 (hD wAD [(⟨ba,bb⟩:wAO)])
 have bS:sW w φ bs [B6,.blk ap 39 B5,.blk ai 169 (hD KL.encI aa.l),B1,.obj ae (.map ag af),.blk b2 27 B0,B4] cg:=db
 refine bnK bW fun bY cK dN=>yb (j:=6) (enc:=wAD) (xs:=aG) (ys:=[(⟨ba,bb⟩:wAO)]) (zs:=bY) rfl rfl rfl rfl rfl Tryz.underlying23 wMy rfl rfl rfl rfl rfl rfl bS rfl rfl rfl (bS.srcR (j:=0) rfl (by decide) (wAE (f:=wAD) (sz:=2) (fun _=>rfl) [(⟨ba,bb⟩:wAO)])) (fun _=>rfl) (fun _=>rfl) cK rfl ?_
 intro bz bJ cj dd
 have de:sW w φ bs [B6,.blk ap 39 B5,.blk ai 169 (hD KL.encI aa.l),B1,.obj ae (.map ag af),.blk b2 27 B0,.row bz bJ 39 2 (hD wAD bY)] cj:=dd
 refine oA Z Z (zf (zm (zJ (rR fL2 Z (oR Z (ZU (zh Z cD Z) (congrArg (jV) dE.out)) (oM Z Z (zf ?_)))))))
 cases dN
 exact zJ ⟨rfl,⟨bs,bz,bJ,rfl,cx,cy,rfl,cC,(dW.trans dV),(de.pick [2,3,4,5,6] _ (by decide) rfl)⟩⟩
 rintro eB d8 ⟨dY,b5,cr,cJ,eh,ej,cG,cH,en,df⟩
 have ct:Hid (¬ ((↑(((↑O.Starts.length:Int):Int) - 0).toNat:Int) < (↑O.Starts.length:Int))):=zN (wAq)
 refine sR fL1 Z (oR Z (ze Z cJ cH) (eN (zL (cF Z ct (Za (zq (zq (ZW (zJ (sR fL3 Z (oM Z cG (oA Z Z (oA Z Z (eN (zO ?_)))))))))))))))
 cases dT
 exact ⟨rfl,_,(wDp rfl rfl),dY,_,(df.pick [4] _ (by decide) rfl),b5,cr,rfl,rfl⟩
 intro bm dO
 refine cT Z bm (sR fL3 Z (oM Z Z (oA Z Z (oA Z Z (eN (zO (zQ ?_)))))))
 have dg:=bU.nilrow 39 2
 cases dO
 exact ⟨rfl,_,(wDp rfl rfl),aQ,_,(dg.pick [0] _ (by decide) rfl),none,0,rfl,rfl⟩
theorem wHK (O:wAK) (p1:Int) (ae:Nat) (p2:Int) (af:Nat) (w:World) (φ:PHeap) (hS:St0 w φ []) (ag:Cl φ ae 0 [jV p1]) (ah:Cl φ af 0 [jV p2]) {r:Bool} (hm:wDH O p1 p2=some r):Gv Tryz.prog 79 [.agg #[jV O.Skier,jV O.Mat,jV O.Clock,jV O.Time],.pointer (some ⟨ae,0,none⟩),.pointer (some ⟨af,0,none⟩)] w (wCG w [] φ (fun φ_ L_ v=>v=.bool r/\L_=[])):=by
 unfold wDH at hm
 refine Gv.of Tryz.func79 rfl Tryz.ntmps79 Tryz.results79 rfl (sR gCl rfl (zn (cs:=[jV O.Skier,jV O.Mat,jV O.Clock,jV O.Time]) rfl rfl rfl rfl rfl rfl (by rfl) hS ?_))
 intro W1 b2 ac
 refine oA Z Z (eN (sR fL10 Z (oR Z (zF Z Z Zp Z zC) (oL Z (ac.ldB (j:=0) Z Z Z zG (v:=jV O.Skier) Z) (oR Z (zF Z Z Zp Z zC) (oL Z (ac.ldB (j:=0) Z Z Z zG (v:=jV O.Mat) Z) (oR Z (ZB (pv:=[(0,jV O.Skier),(1,jV O.Mat)]) (z:=[jV 0,jV 0]) (cs:=[jV O.Skier,jV O.Mat]) Z (wAG Z (wAG Z wAR)) yG wFt Z Z) (oL Z (ac.ldC (f:=0) ag (v:=jV p1) Z Z zG Z) (oL Z (ac.ldC (f:=0) ah (v:=jV p2) Z Z zG Z) (oR Z (ZB (pv:=[(0,jV p1),(1,jV p2)]) (z:=[jV 0,jV 0]) (cs:=[jV p1,jV p2]) Z (wAG Z (wAG Z wAR)) yG wFt Z Z) (oR Z (Runs.eqS (enc:=wAY) (a:=(⟨O.Skier,O.Mat⟩:wAM)) (b:=(⟨p1,p2⟩:wAM)) Z Z Z wOn wOm) (oA Z Z (eN (zO ?_))))))))))))))
 first | (obtain rfl:=nB hm) | cases hm
 exact ⟨rfl,_,(ZA rfl),φ,_,(ac.pick [] _ (by decide) rfl),rfl,rfl⟩
theorem wDA (O:List wAK) (aj:Option Addr) (ak:Nat) (p1:(wAK->Option Bool)) (am:Value) (w:World) (φ:PHeap) (hS:St0 w φ []) (aS:Sl φ 4 aj ak O.length (hD wAB O)) (aT:FnOK Tryz.prog φ am wKh wKi p1) {r:Int} (hm:wBC O p1=some r):Gv Tryz.prog 123 [.slice aj O.length ak,am] w (wCG w [] φ (fun φ_ L_ v=>v=jV r/\L_=[])):=by
 unfold wBC at hm
 refine Gv.of Tryz.func123 Z Tryz.ntmps123 Tryz.results123 Z (sR fL1 Z (oA Z Z (eN (zL (sR fL3 Z (oM Z Z (oR Z (zi Z Z ZN) (oM Z Z (eN (zY ?_))))))))))
 have q:=wCA hm
 obtain ⟨r3,af⟩:=q
 have q:=wCT af
 obtain ⟨ah,aW⟩:=q
 replace ah:=zN ah
 refine yc (fun k2 _ σ_ w_=>∃ (φ_:PHeap),σ_ 8=jV (↑k2:Int)/\σ_ 0=.slice aj O.length ak/\σ_ 1=am/\σ_ 7=jV (↑O.length:Int)/\PHeap.Le φ φ_/\sW w φ φ_ [] w_) aW ?_ ?_ ?_
 exact ⟨φ,Z,Z,Z,Z,(zS _),hS⟩
 rintro k2 ⟨⟩ bo bq W8 ag ⟨br,ae,ap,aq,au,ai,ax⟩ aE aU
 try dsimp only at aE
 have ao:Hid ((↑k2:Int) < (↑O.length:Int)):=zN (wBO ag)
 replace ag:=zN ag
 have aX:Hid (w64 ((↑k2:Int) + 1)=(↑(k2 + 1):Int)):=zN (by have h1:=ah.out;have h2:=ao.out;rw [wAb] <;> omega)
 refine sR fL1 Z (oR Z (ze Z ae au) (eN (zL (cT Z ao (kN (zL (zY (sR fL2 Z (oM Z ae (oA Z Z (eN (sR (wGD (.fx 5 .nil .stop)) Z (oM Z aq (oM Z ap (oM Z Z (bnK aE fun ab av aY=>?_))))))))))))))))
 have aL:=aS.le ai
 have q:=aL.el (fun _=>rfl) (wAe av)
 obtain ⟨be,bi,aO,aP⟩:=q
 refine oR Z (Zc Z Z aO Z ZN Zb (wCa av)) (oL Z (ax.ldCA (f:=0) aP Z Z yf Zb (us:=[jV ab.Skier,jV ab.Mat,jV ab.Clock,jV ab.Time]) Z Z) (bnK aY fun bn aM aZ=>?_))
 have aN:=aT.le ai
 refine OKS.callV (a:=ab) Z Z Z Z Z Z (zB Z zM) ax aN Z aM ?_
 rintro an bb bm aG a8 aQ ⟨rfl,rfl⟩
 have ay:sW w φ an [] aG:=aQ
 refine eN (ifc aZ ?_ ?_)
 intro ac a5
 refine ZD (congrArg hH ac.out) (sR fL2 Z (oM Z Z (oA Z Z (eN (zO (zc (zQ ?_)))))))
 have q:=wAS a5
 obtain ⟨a9,a6,aI⟩:=q
 have q:=wAt hm af (aU a9 aI)
 obtain rfl:=q
 refine zQ (zc (zQ ?_))
 cases a6
 exact ⟨Z,_,(ZA Z),an,_,ay,Z,Z⟩
 intro ac a7
 refine zj (congrArg hH (hJ.2 ac.out)) (Zf (zm (zJ (rR fL2 Z (oR Z (ZU (zh Z ae Z) (congrArg (jV) aX.out)) (oM Z Z (zf ?_)))))))
 have q:=nB a7
 obtain rfl:=q
 exact zJ ⟨Z,_,Z,⟨an,Z,ap,aq,au,(ai.trans a8),ay⟩⟩
 rintro ⟨⟩ bp bc ⟨ba,aK,bf,bg,aJ,bh,aR⟩ aV
 have az:=wCs hm af aV
 try dsimp only at az
 have aH:Hid (¬ ((↑(((↑O.length:Int):Int) - 0).toNat:Int) < (↑O.length:Int))):=zN (wAq)
 refine sR fL1 Z (oR Z (ze Z aK aJ) (eN (zL (cF Z aH (Za (zq (zq (ZW (zJ (sR fL1 Z (oA Z Z (eN (zO ?_)))))))))))))
 cases az
 exact ⟨Z,_,(ZA Z),ba,_,aR,Z,Z⟩
theorem wCr (O:List wAK) (ab:Option Addr) (ac:Nat) (p1:(wAK->Option Bool)) (ae:Value) (w:World) (φ:PHeap) (hS:St0 w φ []) (am:Sl φ 4 ab ac O.length (hD wAB O)) (an:FnOK Tryz.prog φ ae wKh wKi p1) {r:Bool} (hm:wAx O p1=some r):Gv Tryz.prog 78 [.slice ab O.length ac,ae] w (wCG w [] φ (fun φ_ L_ v=>v=.bool r/\L_=[])):=by
 unfold wAx at hm
 refine Gv.of Tryz.func78 Z Tryz.ntmps78 Tryz.results78 Z (sR fL1 Z (oA Z Z (eN (sR gDg Z (oM Z Z (oM Z Z (bnK hm fun x1 h2 af=>zD 0 Z Z Z Z (zE Z Z Tryz.call123 (zB Z (zB Z zM)) Z) hS (fun hs=>wDA O ab ac p1 ae w φ hs am an h2) (.inr Z) ?_)))))))
 rintro ag L5 v6 W7 ap ak ⟨rfl,rfl⟩
 have aj:sW w φ ag [] W7:=ak
 refine oR Z (Runs.geq Z Z Z) (oA Z Z (eN (zO ?_)))
 first | (obtain rfl:=nB af) | cases af
 exact ⟨Z,_,(ZA Z),ag,_,aj,Z,Z⟩
theorem wID (O:wAA) (aI:Option Addr) (aK:Nat) (aJ:Option Addr) (aL:Nat) (aR:Option Addr) (aS:Nat) (an:Option Addr) (ao:Nat) (w:World) (φ:PHeap) (hS:St0 w φ []) (cV:Sl φ 1 aI aK O.Starts.length (hD KL.encI O.Starts)) (cW:Sl φ 2 aJ aL O.Splits.length (hD wAD O.Splits)) (cX:Sl φ 3 aR aS O.Clocks.length (hD wAF O.Clocks)) (bz:Sl φ 4 an ao O.Readings.length (hD wAB O.Readings)) {r:(List wAM) × Int} (hm:wFE O=some r):Gv Tryz.prog 22 [.agg #[.slice aI O.Starts.length aK,.slice aJ O.Splits.length aL,.slice aR O.Clocks.length aS,.slice an O.Readings.length ao]] w (wCG w [] φ (fun φ_ L_ v=>∃ (A0:Option Addr) (c0:Nat),v=.tuple #[.slice A0 r.1.length c0,jV r.2]/\L_=[.row A0 c0 29 2 (hD wAY r.1)])):=by
 unfold wFE at hm
 refine Gv.of Tryz.func22 Z Tryz.ntmps22 Tryz.results22 Z (sR gCm Z ?_)
 let B0:List Value:=[.slice aI O.Starts.length aK,.slice aJ O.Splits.length aL,.slice aR O.Clocks.length aS,.slice an O.Readings.length ao]
 refine zn (cs:=B0) rfl rfl rfl rfl rfl rfl (by rfl) hS ?_
 intro W1 b2 bx
 refine oA Z Z (oA Z Z (eN (zL (sR (.fl 0 gCe) Z (oL Z (bx.ldBA (j:=0) Z Z Z zo zZ (vs:=B0) Z Z) (bnK hm fun x5 h6 dl=>zD 0 Z Z Z Z (zE Z Z Tryz.call33 (zB Z zM) Z) bx (fun hs=>wFB O aI aK aJ aL aR aS an ao W1 φ hs cV cW cX bz h6) (.inr Z) ?_))))))
 rintro aV L9 dG bI dp ct ⟨rfl,rfl⟩
 have bd:sW w φ aV [.blk b2 27 B0] bI:=ct
 refine oA Z Z (eN (sR fL2 Z (oM Z Z (oR Z (ZP Z Z Z) (eN (ifc dl ?_ ?_))))))
 intro a8 df
 refine zj (zu (fun h=>h a8.out)) (kN (sR fL1 Z (oA Z Z (eN (zL (sR fL4 Z (oR Z (zF Z Z zT Z zg) (oL Z (bd.ldB (j:=0) Z Z Z zr (v:=.slice aI O.Starts.length aK) Z) (oR Z (zi Z Z zK) (oM Z Z (eN (zY (bnK df fun dM cZ dk=>?_)))))))))))))
 have q:=wCC cZ
 obtain ⟨bf,c6⟩:=q
 replace bf:=zN bf
 refine CK.forN' (fun ae aP σ_ w_=>∃ (φ_:PHeap) (ap:Option Addr) (au:Nat),σ_ 16=jV (↑ae:Int)/\σ_ 1=.pointer (some ⟨b2,0,none⟩)/\σ_ 5=.slice ap aP.length au/\σ_ 15=jV (↑O.Starts.length:Int)/\PHeap.Le aV φ_/\sW w φ φ_ [.blk b2 27 B0,.row ap au 29 2 (hD wAY aP)] w_) c6 ?_ ?_ ?_
 have cK:=bd.nilrow 29 2
 exact ⟨aV,none,0,rfl,rfl,rfl,rfl,(zS _),(cK.pick [1,0] _ (by decide) rfl)⟩
 rintro ae aP dK dO dB be ⟨bF,ap,au,bc,bX,bY,bq,bC,cL⟩ dm
 have bp:Hid ((↑ae:Int) < (↑O.Starts.length:Int)):=zN (wBO be)
 replace be:=zN be
 have da:Hid (w64 ((↑ae:Int) + 1)=(↑(ae + 1):Int)):=zN (by have h1:=bf.out;have h2:=bp.out;rw [wAb] <;> omega)
 refine sR fL1 Z (oR Z (ze Z bc bq) (eN (zL (cT Z bp (kN (zL (zY (sR (.fl 0 gCj) Z (oM Z bc (zV (cs:=[jV 0]) Z Z Z Z Z ZG Z cL ?_))))))))))
 intro dC ag cM
 let B1:List Value:=[jV (↑ae:Int)]
 refine zX (j:=0) (vs:=B1) Z Z Z Z cM Z Z Z Z zC (zA Z) Z Z Z ?_
 intro bQ cN
 let B2:Res:=.row ap au 29 2 (hD wAY aP)
 have cO:sW w φ bF [.blk ag 3 B1,.blk b2 27 B0,B2] bQ:=cN
 refine eN (sR gCg Z (zV (cs:=[jV 0]) Z Z Z Z Z ZG Z cO ?_))
 intro dD a6 cP
 refine zX (j:=0) (vs:=[jV 1]) Z Z Z Z cP Z Z Z Z zC (zA Z) Z Z Z ?_
 intro bj cQ
 have cR:sW w φ bF [.blk a6 3 [jV 1],.blk ag 3 B1,.blk b2 27 B0,B2] bj:=cQ
 refine eN (zY ?_)
 have q:=cR.freeze (k:=1) rfl
 obtain ⟨aU,bD,ay,cS⟩:=q
 replace ay:=Cl.of ay
 have cU:sW w φ aU [.blk a6 3 [jV 1],.blk b2 27 B0,B2] bj:=cS
 replace ay:Cl aU ag 0 B1:=ay
 refine YI (fun (aF,aa) σ_ w_=>∃ (φ_:PHeap) (ak:Option Addr) (am:Nat) (ah:Nat),σ_ 1=.pointer (some ⟨b2,0,none⟩)/\σ_ 5=.slice ak aF.length am/\σ_ 6=.pointer (some ⟨ag,0,none⟩)/\σ_ 7=.pointer (some ⟨ah,0,none⟩)/\σ_ 15=jV (↑O.Starts.length:Int)/\σ_ 16=jV (↑ae:Int)/\PHeap.Le aU φ_/\sW w φ φ_ [.blk b2 27 B0,.row ak am 29 2 (hD wAY aF),.blk ah 3 [jV aa]] w_) dm ?_ ?_
 exact ⟨aU,ap,au,a6,bX,bY,rfl,rfl,bq,bc,(zS _),(cU.pick [1,2,0] _ (by decide) rfl)⟩
 rintro ⟨aF,aa⟩ dL dP bm ⟨du,ak,am,ah,av,a9,aO,ax,ba,bb,aG,az⟩ bg cY
 try dsimp only at bg
 refine zL (sR fL5 Z (oL Z (az.ldB (j:=2) Z Z ax zG (v:=jV aa) Z) (oR Z (zF Z av zT Z Zm) (oL Z (az.ldB (j:=0) Z Z Z Zq (v:=.slice aJ O.Splits.length aL) Z) (oR Z (zi Z Z ZI) (oR Z (Runs.leq Z Z Z) (eN ?_)))))))
 by_cases ai:aa <= (↑O.Splits.length:Int)
 have bA:=bg;rw [if_pos ai] at bA;replace ai:=zN ai
 refine cT Z ai (kN (zL (zY (sR (wDK gCk) Z (oR Z (zF Z av zT Z Zr) (oL Z (az.ldB (j:=0) Z Z Z yD (v:=.slice an O.Readings.length ao) Z) ?_))))))
 have q:=az.freeze (k:=2) rfl
 obtain ⟨aT,aQ,aj,cq⟩:=q
 replace aj:=Cl.of aj
 let B3:Res:=.row ak am 29 2 (hD wAY aF)
 have cr:sW w φ aT [.blk b2 27 B0,B3] bm:=cq
 replace aj:Cl aT ah 0 [jV aa]:=aj
 refine oR Z (YC Z zM (zB aO (zB ax zM))) ?_
 have b5:=bz.le dp
 have ca:=b5.le bC
 have cb:=ca.le bD
 have cc:=cb.le aG
 have cd:=cc.le aQ
 have cf:=ay.le aG
 have br:=cf.le aQ
 have cp:FnOK Tryz.prog aT (.func (.func 79) #[] #[.pointer (some ⟨ag,0,none⟩),.pointer (some ⟨ah,0,none⟩)]) wKh wKi (fun x=>wDH x (↑ae:Int) aa):=⟨79,[],[.pointer (some ⟨ag,0,none⟩),.pointer (some ⟨ah,0,none⟩)],rfl,Tryz.call79,fun dt w1 x y vs le hs ha hm=>by obtain rfl:=ha;exact wHK x (↑ae:Int) ag aa ah w1 dt hs (br.le le) (aj.le le) hm⟩
 refine bnK bA fun dI cg db=>zD 0 Z Z Z Z (zE Z Z Tryz.call78 (zB Z (zB Z zM)) Z) cr (fun hs=>wCr O.Readings an ao (fun x=>wDH x (↑ae:Int) aa) (.func (.func 79) #[] #[.pointer (some ⟨ag,0,none⟩),.pointer (some ⟨ah,0,none⟩)]) bm aT hs cd cp cg) (.inr Z) ?_
 rintro af dw dH bJ aH cu ⟨rfl,rfl⟩
 have aE:sW w φ af [.blk b2 27 B0,B3] bJ:=cu
 refine oR Z (Zk Z Z) (eN (ifc db ?_ ?_))
 intro a7 dd
 refine zj (nC a7.out) (Zf (zm (zJ (zL (sR fL1 Z ?_)))))
 have cj:=aj.le aH
 refine oL Z (aE.ldC (f:=0) cj (v:=jV aa) Z ax zG Z) (eN (rR gCg Z (zV (cs:=[jV 0]) Z Z Z Z Z ZG Z aE ?_)))
 intro dy aZ cw
 refine zX (j:=0) (vs:=[jV aa]) Z Z Z Z cw Z Z Z Z zC (zA Z) Z Z Z ?_
 intro bK cx
 have bt:sW w φ af [.blk aZ 3 [jV aa],.blk b2 27 B0,B3] bK:=cx
 refine eN (rR gCx Z (oL Z (bt.ldB (j:=0) Z Z Z zG (v:=jV aa) Z) (oR Z (zh Z Z Z) (zX (j:=0) (vs:=[jV (w64 (aa + 1))]) Z Z Z Z bt Z Z Z Z zC (zA Z) Z Z Z ?_))))
 intro bL cy
 have cz:sW w φ af [.blk aZ 3 [jV (w64 (aa + 1))],.blk b2 27 B0,B3] bL:=cy
 refine zf ?_
 have q:=nB dd
 obtain rfl:=q
 exact zJ ⟨rfl,_,rfl,⟨af,ak,am,aZ,av,a9,aO,rfl,ba,bb,((aG.trans aQ).trans aH),(cz.pick [1,2,0] _ (by decide) rfl)⟩⟩
 intro a7 de
 refine ZD (nF (a7.out)) (rR (wEF gCt) Z (oM Z a9 ?_))
 have cm:=br.le aH
 refine oL Z (aE.ldC (f:=0) cm (v:=jV (↑ae:Int)) Z aO zG Z) ?_
 have bs:=aj.le aH
 refine oL Z (aE.ldC (f:=0) bs (v:=jV aa) Z ax zG Z) ?_
 let B4:List Value:=[jV (↑ae:Int),jV aa]
 refine oR Z (ZB (pv:=[(0,jV (↑ae:Int)),(1,jV aa)]) (z:=[jV 0,jV 0]) (cs:=B4) Z (wAG Z (wAG Z wAR)) yG wFt Z Z) (ZR (pv:=[(0,.agg B4.toArray)]) (zs:=[jV 0,jV 0]) (cs:=B4) Z Z Z Z Z (wAG Z wAR) Zz ZV yG Z Z Z Z Z aE ?_)
 intro bM bR cA
 let B5:Res:=.row (some ⟨bR,0,none⟩) 1 29 2 (hD wAY [(⟨(↑ae:Int),aa⟩:wAM)])
 have bu:sW w φ af [B5,.blk b2 27 B0,B3] bM:=cA
 refine bnK de fun bE cn dg=>yb (j:=2) (enc:=wAY) (xs:=aF) (ys:=[(⟨(↑ae:Int),aa⟩:wAM)]) (zs:=bE) rfl rfl rfl rfl rfl Tryz.underlying56 wOl rfl rfl rfl rfl rfl rfl bu rfl rfl rfl (bu.srcR (j:=0) rfl (by decide) (wAE (f:=wAY) (sz:=2) (fun _=>rfl) [(⟨(↑ae:Int),aa⟩:wAM)])) (fun _=>rfl) (fun _=>rfl) cn rfl ?_
 intro bi bo bN cC
 let B6:Res:=.row bi bo 29 2 (hD wAY bE)
 have bv:sW w φ af [B5,.blk b2 27 B0,B6] bN:=cC
 refine oA Z Z (zf (zm (zJ (zL (sR fL1 Z (oL Z (bv.ldC (f:=0) bs (v:=jV aa) Z ax zG Z) (eN (rR gCg Z (zV (cs:=[jV 0]) Z Z Z Z Z ZG Z bv ?_)))))))))
 intro dz a5 cD
 refine zX (j:=0) (vs:=[jV aa]) Z Z Z Z cD Z Z Z Z zC (zA Z) Z Z Z ?_
 intro bO cE
 have bw:sW w φ af [.blk a5 3 [jV aa],B5,.blk b2 27 B0,B6] bO:=cE
 refine eN (rR gCx Z (oL Z (bw.ldB (j:=0) Z Z Z zG (v:=jV aa) Z) (oR Z (zh Z Z Z) (zX (j:=0) (vs:=[jV (w64 (aa + 1))]) Z Z Z Z bw Z Z Z Z zC (zA Z) Z Z Z ?_))))
 intro bP cG
 have cH:sW w φ af [.blk a5 3 [jV (w64 (aa + 1))],B5,.blk b2 27 B0,B6] bP:=cG
 refine zf ?_
 have q:=nB dg
 obtain rfl:=q
 exact zJ ⟨rfl,_,rfl,⟨af,bi,bo,a5,av,rfl,aO,rfl,ba,bb,((aG.trans aQ).trans aH),(cH.pick [2,3,0] _ (by decide) rfl)⟩⟩
 have bB:=bg;rw [if_neg ai] at bB;replace ai:=zN ai
 refine cF Z ai (Za (zq ?_))
 have q:=wAS bB
 obtain ⟨dq,dh,bU⟩:=q
 have q:=cY dq bU
 obtain rfl:=q
 refine zq (ZW (zm (zJ (rR fL2 Z (oR Z (ZU (zh Z bb Z) (congrArg (jV) da.out)) (oM Z Z (zf ?_)))))))
 cases dh
 exact zJ ⟨rfl,⟨du,ak,am,rfl,av,a9,ba,((bC.trans bD).trans aG),(az.pick [0,1] _ (by decide) rfl)⟩⟩
 rintro dN dA ⟨dv,bG,bS,bZ,dE,bV,bW,dF,cI⟩
 have bT:Hid (¬ ((↑(((↑O.Starts.length:Int):Int) - 0).toNat:Int) < (↑O.Starts.length:Int))):=zN (wAq)
 refine sR fL1 Z (oR Z (ze Z bZ bW) (eN (zL (cF Z bT (Za (zq (zq (ZW (zJ (sR fL3 Z (oM Z bV (oA Z Z (oA Z Z (eN (zO ?_)))))))))))))))
 cases dk
 exact ⟨rfl,_,(wDp rfl rfl),dv,_,(cI.pick [1] _ (by decide) rfl),bG,bS,rfl,rfl⟩
 intro a8 di
 refine cT Z a8 (sR fL3 Z (oM Z Z (oA Z Z (oA Z Z (eN (zO (zQ ?_)))))))
 have cJ:=bd.nilrow 29 2
 cases di
 exact ⟨rfl,_,(wDp rfl rfl),aV,_,(cJ.pick [0] _ (by decide) rfl),none,0,rfl,rfl⟩
end Go.Proofs.YtlnfbjphfoipaaaGreat
