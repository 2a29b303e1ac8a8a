import Derived.Test.YtlnfbjphfoipaaaGreatU5
import Derived.Test.YtlnfbjphfoipaaaGreatU4
set_option linter.all false
open List renaming flatMap->hD,getElem_cons_succ->nB,getElem_cons_zero->nD,getElem_toArray->nH,length_set->nJ,set->nK
open Go.Value renaming bool->hH
open Bool renaming eq_false_iff->nA
open Option.some renaming inj->nE
open Int renaming toNat_natCast->nI,eq_ofNat_of_zero_le->nL
namespace Go.Proofs.YtlnfbjphfoipaaaGreat
open Go.KL
def gCe:Sch:=.fx 1 (.fl 2 .nil) .stop
def gCf:Sch:=.fx 2 (.fl 3 .nil) .stop
def gCg:Sch:=.fx 0 (.fx 1 .nil .stop) .stop
def gCh:Sch:=.fl 14 (.fx 16 .nil .stop)
def gCi:Sch:=.fl 17 (.fx 18 .nil .stop)
def gCj:Sch:=.fx 1 (.fx 2 .nil .stop) .stop
def gCk:Sch:=.fx 3 (.fl 4 .nil) .stop
def gCl:Sch:=.fx 0 (.fl 1 .nil) .stop
def gCm:Sch:=.fx 0 (.fl 1 (.fl 2 .nil)) .stop
def gCn:Sch:=.fx 7 (.fl 8 (.fl 9 .nil)) .stop
def gCo:Sch:=.fl 14 (.fx 15 (.fx 16 .nil .stop) .stop)
def gCp:Sch:=.fx 13 gCh .stop
def gCq:Sch:=.fx 2 (.fl 3 (.fl 4 .nil)) .stop
def gCr:Sch:=.fx 3 (.fl 4 (.fl 5 .nil)) .stop
def gCs:Sch:=.fx 13 (.fl 14 (.fl 15 .nil)) .stop
def gCt:Sch:=.fx 4 (.fx 5 (.fl 6 .nil) .stop) .stop
def gCu:Sch:=.fx 2 gCk .stop
def gCv:Sch:=.fx 0 gCe .stop
def gCw:Sch:=.fx 10 (.fl 11 (.fl 12 .nil)) .stop
def gCx:Sch:=.fl 0 (.fl 1 (.fx 2 .nil .stop))
def gCy:Sch:=.fl 0 (.fx 1 (.fl 2 (.fl 3 .nil)) .stop)
def gCz:Sch:=.fl 0 (.fl 1 (.fx 2 (.fx 3 .nil .stop) .stop))
def gDa:Sch:=.fl 0 (.fl 1 gCf)
def gDb:Sch:=.fx 7 gCp .stop
def gDc:Sch:=.fx 12 gCs .stop
def gDd:Sch:=.fx 13 gCo (.fx 15 gCp .stop)
def gDe:Sch:=.fx 6 (.fl 12 gCp) .stop
def gDf:Sch:=.fx 4 (.fx 16 gCi .stop) (.fx 16 (.fx 4 gCi .stop) .stop)
def gDg:Sch:=.fl 0 (.fl 1 gCq)
def gDh:Sch:=.fx 0 (.fx 1 gCq .stop) .stop
def gDi:Sch:=.fl 0 (.fl 1 (.fx 2 (.fx 3 (.fx 4 .nil .stop) .stop) .stop))
def gDj:Sch:=.fx 0 gDe .stop
def gDk:Sch:=.fx 6 (.fl 12 gDd) (.fx 15 gDe .stop)
def gDl:Sch:=.fx 6 (.fl 12 gDb) (.fx 7 gDe .stop)
def gDm:Sch:=.fl 0 (.fl 2 (.fx 1 (.fx 3 gCt .stop) .stop))
def gDn:Sch:=.fl 0 (.fl 1 (.fl 3 (.fx 2 (.fx 4 (.fx 5 (.fx 6 (.fl 7 .nil) .stop) .stop) .stop) .stop)))
def gDo:Sch:=.fl 0 (.fl 1 (.fx 2 (.fl 3 (.fl 5 (.fl 6 (.fl 9 (.fl 10 (.fx 4 (.fl 7 (.fl 8 (.fx 11 (.fl 12 (.fl 13 .nil)) .stop))) .stop)))))) .stop))
set_option maxHeartbeats 4000000
theorem wEj (O:wAA) (ac:Option Addr) (ah:Nat) (ae:Option Addr) (ai:Nat) (af:Option Addr) (aj:Nat) (ag:Option Addr) (ak:Nat) (w:World) (U:PHeap) (hS:St0 w U []) (aU:Sl U 1 ac ah O.Starts.length (hD KL.encI O.Starts)) (aV:Sl U 2 ae ai O.Splits.length (hD wAC O.Splits)) (aW:Sl U 3 af aj O.Clocks.length (hD wAE O.Clocks)) (aX:Sl U 4 ag ak O.Readings.length (hD wAB O.Readings)) {r:(Option wAh) × Int} (hm:wCd O=some r):Gv Tryz.prog 80 [.agg #[.slice ac O.Starts.length ah,.slice ae O.Splits.length ai,.slice af O.Clocks.length aj,.slice ag O.Readings.length ak]] w (wCF w [] U (fun U_ L_ v=>match r.1 with | none=>v=.tuple #[.pointer none,jV r.2]/\L_=[] | some d=>∃ (b0:Nat) (A0p00:Option Addr) (c0p00:Nat) (A0p01:Option Addr) (c0p01:Nat) (A0p02:Option Addr) (c0p02:Nat) (A0p03:Option Addr) (c0p03:Nat) (m0p1:Nat) (es0p1:Array MapEntry) (ck0p1:Nat) (A0p2:Option Addr) (c0p2:Nat),v=.tuple #[.pointer (some ⟨b0,0,none⟩),jV r.2]/\L_=[.blk b0 139 [.slice A0p00 d.Race.Starts.length c0p00,.slice A0p01 d.Race.Splits.length c0p01,.slice A0p02 d.Race.Clocks.length c0p02,.slice A0p03 d.Race.Readings.length c0p03,.map (some m0p1),.slice A0p2 d.edges.length c0p2],.obj m0p1 (.map es0p1 ck0p1),.row A0p2 c0p2 184 7 (hD wAO d.edges)]/\Sl U_ 1 A0p00 c0p00 d.Race.Starts.length (hD KL.encI d.Race.Starts)/\Sl U_ 2 A0p01 c0p01 d.Race.Splits.length (hD wAC d.Race.Splits)/\Sl U_ 3 A0p02 c0p02 d.Race.Clocks.length (hD wAE d.Race.Clocks)/\Sl U_ 4 A0p03 c0p03 d.Race.Readings.length (hD wAB d.Race.Readings)/\MpR es0p1 wBW wBe d.number)):=by
 unfold wCd at hm
 refine Gv.of Tryz.func80 Z Tryz.ntmps80 Tryz.results80 Z (sR gCm Z ?_)
 let B0:List Value:=[.slice ac O.Starts.length ah,.slice ae O.Splits.length ai,.slice af O.Clocks.length aj,.slice ag O.Readings.length ak]
 refine zq (cs:=B0) rfl rfl rfl rfl rfl rfl (by rfl) hS ?_
 intro W1 b2 aT
 refine oA Z Z (oA Z Z (eN (zJ (sR (.fl 0 gCe) Z (oL Z (aT.ldBA (j:=0) Z Z Z zn zc (vs:=B0) Z Z) (bnK hm fun x5 h6 bm=>zC 0 Z Z Z Z (zD Z Z Tryz.call33 (zB Z zL) Z) aT (fun hs=>wEi O ac ah ae ai af aj ag ak W1 U hs aU aV aW aX h6) (.inr Z) ?_))))))
 rintro U8 L9 bq aJ am bf ⟨rfl,rfl⟩
 have au:sW w U U8 [.blk b2 27 B0] aJ:=bf
 refine oA Z Z (eN (sR fL2 Z (oM Z Z (oR Z (Zb Z Z Z) (eN (ifc bm ?_ ?_))))))
 intro ap bi
 refine zr (ZL (fun h=>h ap.out)) (kN (sR gCy Z (oL Z (au.ldBA (j:=0) Z Z Z zn zc (vs:=B0) Z Z) ?_)))
 have a0:=aU.le am
 have a5:=aV.le am
 have a6:=aW.le am
 have a7:=aX.le am
 refine bnK bi fun aa a8 bj=>zC 0 Z Z Z Z (zD Z Z Tryz.call124 (zB Z zL) Z) au (fun hs=>wGN O ac ah ae ai af aj ag ak aJ U8 hs a0 a5 a6 a7 a8) (.inr Z) ?_
 rintro aI bn br aZ bp bg ⟨aM,ax,aN,ay,aO,az,aP,aH,aQ,av,aS,aR,an,aq,rfl,rfl,a9,ba,bb,bc,bd⟩
 have bh:sW w U aI [.blk aM 139 [.slice ax aa.Race.Starts.length aN,.slice ay aa.Race.Splits.length aO,.slice az aa.Race.Clocks.length aP,.slice aH aa.Race.Readings.length aQ,.map (some av),.slice an aa.edges.length aq],.obj av (.map aS aR),.row an aq 184 7 (hD wAO aa.edges),.blk b2 27 B0] aZ:=bg
 refine oA Z Z (oA Z Z (eN (zR ?_)))
 cases bj
 exact ⟨rfl,_,(wDk rfl rfl),aI,_,(bh.pick [0,1,2] _ (by decide) rfl),aM,ax,aN,ay,aO,az,aP,aH,aQ,av,aS,aR,an,aq,rfl,rfl,a9,ba,bb,bc,bd⟩
 intro ap bk
 refine cT Z ap (sR fL3 Z (oM Z Z (oA Z Z (oA Z Z (eN (zR (zT ?_)))))))
 cases bk
 exact ⟨rfl,_,(wDk rfl rfl),U8,_,(au.pick [] _ (by decide) rfl),rfl,rfl⟩
theorem wDo (O:List wAL) (am:Option Addr) (an:Nat) (p1:(wAL->Option Bool)) (ao:Value) (w:World) (U:PHeap) (hS:St0 w U []) (a7:Sl U 2 am an O.length (hD wAT O)) (a8:FnOK Tryz.prog U ao wNI wNJ p1) {r:Bool} (hm:wBK O p1=some r):Gv Tryz.prog 119 [.slice am O.length an,ao] w (wCF w [] U (fun U_ L_ v=>v=.bool r/\L_=[])):=by
 unfold wBK at hm
 refine Gv.of Tryz.func119 Z Tryz.ntmps119 Tryz.results119 Z (sR fL1 Z (oA Z Z (eN (zJ (sR fL3 Z (oM Z Z (oR Z (zi Z Z Zm) (oM Z Z (eN (zX ?_))))))))))
 have q:=wCT hm
 obtain ⟨r3,ah⟩:=q
 have q:=wCS ah
 obtain ⟨aj,bb⟩:=q
 replace aj:=zM aj
 refine ya (fun k2 _ J_ w_=>∃ (U_:PHeap),J_ 9=jV (↑k2:Int)/\J_ 1=ao/\J_ 7=.slice am O.length an/\J_ 8=jV (↑O.length:Int)/\PHeap.Le U U_/\sW w U U_ [] w_) bb ?_ ?_ ?_
 exact ⟨U,Z,Z,Z,Z,(zQ _),hS⟩
 rintro k2 ⟨⟩ bA J7 W8 ai ⟨aM,ag,au,av,ax,ak,az⟩ aK a9
 try dsimp only at aK
 have aq:Hid ((↑k2:Int) < (↑O.length:Int)):=zM (wBQ ai)
 replace ai:=zM ai
 have bc:Hid (w64 ((↑k2:Int) + 1)=(↑(k2 + 1):Int)):=zM (by have h1:=aj.out;have h2:=aq.out;rw [wAY] <;> omega)
 refine sR fL1 Z (oR Z (ze Z ag ax) (eN (zJ (cT Z aq (kN (zJ (zX (sR gCz Z (bnK aK fun ab ay bd=>?_)))))))))
 have aU:=a7.le ak
 have q:=aU.el (fun _=>rfl) (wAb ay)
 obtain ⟨br,bv,aX,aY⟩:=q
 refine oR Z (ZZ Z av aX ag Zm ZR (wCc ay)) (oL Z (az.ldCA (f:=0) aY Z Z Zp ZR (us:=[jV ab.Skier,jV ab.Mat]) Z Z) (zU (cs:=[jV 0,jV 0]) Z Z Z Z Z yC Z az ?_))
 intro bo ap aZ
 let B0:List Value:=[jV ab.Skier,jV ab.Mat]
 refine zY (j:=0) (vs:=B0) Z Z Z Z aZ Z Z Z Z ZR (zA Z) Z Z Z ?_
 intro aO a0
 have aH:sW w U aM [.blk ap 29 B0] aO:=a0
 refine eN (sR gDa Z (oM Z au (oL Z (aH.ldBA (j:=0) Z Z Z Zp ZR (vs:=B0) Z Z) (bnK bd fun bz aV be=>?_))))
 have aW:=a8.le ak
 refine OKS.callV (a:=ab) Z Z Z Z Z Z (zB Z zL) aH aW Z aV ?_
 rintro ae bn bx aP bi a5 ⟨rfl,rfl⟩
 have aI:sW w U ae [.blk ap 29 B0] aP:=a5
 refine oR Z (ZY Z Z) (eN (ifc be ?_ ?_))
 intro af bf
 refine zr (nC af.out) (Ze (zl (zF (rR fL2 Z (oR Z (ZP (za Z ag Z) (congrArg (jV) bc.out)) (oM Z Z (zb ?_)))))))
 have q:=nE bf
 obtain rfl:=q
 exact zF ⟨rfl,_,rfl,⟨ae,rfl,au,av,ax,(ak.trans bi),(aI.pick [] _ (by decide) rfl)⟩⟩
 intro af bg
 refine ZK (nF (af.out)) (sR fL1 Z (oA Z Z (eN (zR (zo (zT ?_))))))
 have q:=wAV bg
 obtain ⟨bj,bh,aR⟩:=q
 have q:=wCY hm ah (a9 bj aR)
 obtain rfl:=q
 refine zT (zo (zT ?_))
 have hE:=nE bh;first | subst r | cases hE
 exact ⟨rfl,_,(ZH rfl),ae,_,(aI.pick [] _ (by decide) rfl),rfl,rfl⟩
 rintro ⟨⟩ bk bp ⟨aN,aT,bs,bt,aS,bu,a6⟩ ba
 have aJ:=wDQ hm ah ba
 try dsimp only at aJ
 have aQ:Hid (¬ ((↑(((↑O.length:Int):Int) - 0).toNat:Int) < (↑O.length:Int))):=zM (wAq)
 refine sR fL1 Z (oR Z (ze Z aT aS) (eN (zJ (cF Z aQ (ZS (zf (zf (ZN (zF (sR fL1 Z (oA Z Z (eN (zR ?_)))))))))))))
 have hE:=nE aJ;first | subst r | cases hE
 exact ⟨Z,_,(ZH Z),aN,_,a6,Z,Z⟩
theorem wHS (p0 p1:Int) (w:World) (U:PHeap) (hS:St0 w U []) {r:Int × Int} (hm:wDn p0 p1=some r):Gv Tryz.prog 132 [.int .u64 p0,.int .u64 p1] w (wCF w [] U (fun U_ L_ v=>v=.tuple #[.int .u64 r.1,.int .u64 r.2]/\L_=[])):=by
 unfold wDn at hm
 split at hm
 rename_i h
 cases hm
 obtain ⟨x,rfl⟩:=nL h.1
 obtain ⟨y,rfl⟩:=nL h.2.2.1
 refine (Go.Proofs.Tryz.bits_Mul x y (by omega) (by omega) w).mono ?_
 rintro e w' ⟨rfl,rfl⟩
 refine ⟨_,Z,U,[],hS,?_,Z⟩
 simp
 cases hm
theorem wAs (p0:List Int) (ay:Option Addr) (az:Nat) (p1:Int) (w:World) (U:PHeap) (hS:St0 w U []) (bA:Sl U 1 ay az p0.length (hD KL.encI p0)) {r:(List Int)} (hm:wBL p0 p1=some r):Gv Tryz.prog 122 [.slice ay p0.length az,jV p1] w (wCF w [] U (fun U_ L_ v=>∃ (A0:Option Addr) (c0:Nat),v=.slice A0 r.length c0/\L_=[.row A0 c0 3 1 (hD KL.encI r)])):=by
 unfold wBL at hm
 refine Gv.of Tryz.func122 Z Tryz.ntmps122 Tryz.results122 Z (sR fL1 Z (oA Z Z (eN (zJ (sR fL2 Z (oM Z Z (oR Z (ze Z Z Z) (eN ?_))))))))
 by_cases c1:p1 < 0
 have aU:=hm;rw [if_pos c1] at aU;replace c1:=zM c1
 refine cT Z c1 (rR gCg Z ?_)
 cases aU
 have aX:=hm;rw [if_neg c1] at aX;replace c1:=zM c1
 refine cF Z c1 (kN (sR (wHD (.fx 5 (wPG (.nil)) .stop)) Z (oM Z Z (oR Z (zi Z Z zG) (oR Z (Runs.cv64 Z Z Tryz.runUnderlying3 Tryz.runUnderlying207 Z Z) (oM Z Z (oR Z (Runs.cv64 Z Z Tryz.runUnderlying3 Tryz.runUnderlying207 Z Z) ?_)))))))
 have q:=bnd aX
 obtain ⟨⟨x4,x5⟩,h6,aY⟩:=q
 try dsimp only at aY
 refine zC 0 Z Z Z Z (zD Z Z Tryz.call132 (zB Z (zB Z zL)) Z) hS (fun hs=>wHS (wLz (↑p0.length:Int)) (wLz p1) w U hs h6) (.inr Z) ?_
 rintro U8 L9 cb bb bR bt ⟨rfl,rfl⟩
 have aO:sW w U U8 [] bb:=bt
 refine oM Z Z (oR Z (zV Z Z (v:=.int .u64 x4) Z) (oR Z (zV Z Z (v:=.int .u64 x5) Z) (oA Z Z (oA Z Z (eN (zJ (bnK aY fun bf a6 bI=>yX (fun J_ w_=>∃ (U_:PHeap),J_ 0=.slice ay p0.length az/\J_ 6=.int .u64 x5/\J_ 26=.bool bf/\PHeap.Le U8 U_/\sW w U U_ [] w_) ?_ ?_)))))))
 refine rR fL6 Z (oM Z Z (oR Z (yQ Z Z Z) (oM Z Z ?_)))
 by_cases ab:0 < x4
 have aV:=a6;rw [if_pos ab] at aV;replace ab:=zM ab
 refine oT Z ab (oT Z ab (oR Z (zS Z (Zh ab.out) Z) (zb ?_)))
 cases aV
 exact zF ⟨Z,⟨U8,Z,Z,Z,(zQ _),aO⟩⟩
 have aW:=a6;rw [if_neg ab] at aW;replace ab:=zM ab
 refine ZE Z Z Z (wF Z ab) Z Z (rU Z (wF Z ab) (yQ Z Z Z) (oR Z (zZ Z (ZL ab.out) Z) (zb ?_)))
 have q:=nE aW
 obtain rfl:=q
 exact zF ⟨Z,⟨U8,Z,Z,Z,(zQ _),aO⟩⟩
 rintro bV bY ⟨ak,bh,bi,aM,bS,bu⟩
 refine ifc bI ?_ ?_
 intro aq bJ
 refine ZK (aM.trans (congrArg hH aq.out)) (rR gCg Z ?_)
 cases bJ
 intro aq bK
 refine zr (aM.trans (congrArg hH (nA.2 aq.out))) (kN (sR gDa Z (oM Z bi (oR Z (Runs.cvw Z Z Tryz.runUnderlying207 Tryz.runUnderlying3 Z Z) (bnK bK fun O bj bL=>OKS.makeSlice (enc:=KL.encI) (z:=(0:Int)) (v:=jV 0) Z Z Z Z Z (wBy zG) wHd Z Z Z Z Z Z bj bu ?_)))))
 intro bc aa bv
 have aP:sW w U ak [.row (some ⟨aa,0,none⟩) O.length 3 1 (hD KL.encI O)] bc:=bv
 refine oA Z Z (eN (sR gDa Z (oM Z Z (oM Z bh ?_))))
 have bk:=bA.le bR
 have bm:=bk.le bS
 refine bnK bL fun aH bn bM=>OKS.copyM (j:=0) (f:=KL.encI) (m:=O) (ys:=p0) (z:=aH) (a:=0) (n:=O.length) rfl rfl rfl rfl rfl rfl zG zE aP rfl (fun _=>rfl) (fun _=>rfl) rfl bn rfl (by simp) (.inr (by simp)) rfl (aP.srcS bm) rfl ?_
 intro bd bw aS
 have bx:sW w U ak [.row (some ⟨aa,0,none⟩) O.length 3 1 (hD KL.encI aH)] bd:=bw
 refine oA Z Z (eN (zJ (zX (ye (fun (ac,ae) J_ w_=>∃ (U_:PHeap),J_ 7=.slice (some ⟨aa,0,none⟩) ac.length O.length/\J_ 8=jV ae/\PHeap.Le ak U_/\sW w U U_ [.row (some ⟨aa,0,none⟩) O.length 3 1 (hD KL.encI ac)] w_/\ac.length=O.length) bM ?_ ?_))))
 exact ⟨ak,(Eq.trans (b:=(.slice (some ⟨aa,0,none⟩) O.length O.length:Value)) (c:=(.slice (some ⟨aa,0,none⟩) aH.length O.length:Value)) rfl (by rw [aS])),rfl,(zQ _),bx,aS⟩
 rintro ⟨ac,ae⟩ cc bW aK ⟨ap,ai,an,bT,aQ,bp⟩ ax bF
 try dsimp only at ax
 refine zJ (sR fL4 Z (oM Z an (oM Z ai (oR Z (zi Z Z zG) (oR Z (ze Z Z Z) (eN ?_))))))
 by_cases ag:ae < (↑ac.length:Int)
 have aZ:=ax;rw [if_pos ag] at aZ;replace ag:=zM ag
 refine cT Z ag (kN (zX (ZI ZD [3,3,3,3,3,3,3,0,3,3] (wNi gCn) (by kernel_rfl) ?_)))
 have aj:=aQ.drew
 generalize hw_W76:({ aK with drawn:=aK.drawn + 1 }:World)=bZ at aj ⊢
 refine oM Z an (oM Z ai (oM Z an (bnK aZ fun a9 bq bN=>?_)))
 have q:=wIv bq
 obtain ⟨bB,bD,au,b5,av⟩:=q
 have a0:=aj.rowCap (j:=0) rfl (by decide) (wAD (f:=KL.encI) (sz:=1) (fun _=>rfl) ac)
 refine zg (v:=.slice (if O.length=(ae:Int).toNat then (some ⟨aa,0,none⟩) else Option.map (fun q:Addr=>q.add ((ae:Int).toNat * 1)) ((some ⟨aa,0,none⟩):Option Addr)) a9.length (O.length - (ae:Int).toNat)) rfl rfl rfl rfl (fun _=>ZP (Runs.slc (sz:=1) (a:=ae) (b:=(↑(ac.length):Int)) rfl rfl (.inl ⟨_,rfl,rfl⟩) (.inr ⟨rfl,rfl⟩) zG zE bB bD au a0) (by rw [av])) (ZE rfl rfl rfl rfl rfl ai (ZE rfl rfl rfl rfl rfl an (bnK bN fun ba aN bO=>?_)))
 have q:=wIv aN
 obtain ⟨bC,bE,bG,ca,bQ⟩:=q
 have a5:=aj.rowCap (j:=0) rfl (by decide) (wAD (f:=KL.encI) (sz:=1) (fun _=>rfl) ac)
 refine zg (v:=.slice (if O.length=(0:Int).toNat then (some ⟨aa,0,none⟩) else Option.map (fun q:Addr=>q.add ((0:Int).toNat * 1)) ((some ⟨aa,0,none⟩):Option Addr)) ba.length (O.length - (0:Int).toNat)) rfl rfl rfl rfl (fun _=>ZP (Runs.slc (sz:=1) (a:=0) (b:=ae) rfl rfl (.inr ⟨rfl,rfl⟩) (.inl ⟨_,rfl,rfl⟩) zG zE bC bE bG a5) (by rw [bQ])) (bnK bO fun aI br bP=>OKS.copyM (j:=0) (f:=KL.encI) (m:=ac) (ys:=ba) (z:=aI) (a:=ae) (n:=a9.length) rfl rfl rfl rfl rfl rfl zG zE aj rfl (fun _=>rfl) (fun _=>rfl) rfl br rfl (by have:=av;have:=au;omega) (cutA rfl (by have:=av;have:=au;have:=a0;omega)) rfl (aj.srcCut (f:=KL.encI) (j:=0) rfl (fun _=>rfl) rfl aN a5) rfl ?_)
 intro be bz aR
 have bs:sW w U ap [.row (some ⟨aa,0,none⟩) O.length 3 1 (hD KL.encI aI)] be:=bz
 refine oR Z (za Z Z Z) (oA Z Z (zb (zl ?_)))
 have q:=nE bP
 obtain rfl:=q
 exact zF ⟨rfl,_,rfl,⟨ap,(Eq.trans (b:=(.slice (some ⟨aa,0,none⟩) ac.length O.length:Value)) (c:=(.slice (some ⟨aa,0,none⟩) aI.length O.length:Value)) ai (by rw [aR])),rfl,bT,bs,(aR.trans bp)⟩⟩
 have aT:=ax;rw [if_neg ag] at aT;replace ag:=zM ag
 refine cF Z ag (ZS (zf ?_))
 have q:=wAV aT
 obtain ⟨bU,bH,bg⟩:=q
 have q:=bF bU bg
 obtain rfl:=q
 refine zf (ZN (zF (sR fL2 Z (oM Z ai (oA Z Z (eN (zR ?_)))))))
 have hE:=nE bH;first | subst r | cases hE
 exact ⟨Z,_,(ZH Z),ap,_,aQ,(some ⟨aa,0,none⟩),O.length,Z,Z⟩
theorem wBi (p0:wAh) (af:Nat) (cZ:Option Addr) (dd:Nat) (c6:Option Addr) (de:Nat) (da:Option Addr) (df:Nat) (db:Option Addr) (dg:Nat) (O:Nat) (ab:Array MapEntry) (ac:Nat) (aY:Option Addr) (aZ:Nat) (p1:Int) (p2:Bool) (w:World) (U:PHeap) (hS:St0 w U [.blk af 139 [.slice cZ p0.Race.Starts.length dd,.slice c6 p0.Race.Splits.length de,.slice da p0.Race.Clocks.length df,.slice db p0.Race.Readings.length dg,.map (some O),.slice aY p0.edges.length aZ],.obj O (.map ab ac)]) (xk:Sl U 1 cZ dd p0.Race.Starts.length (hD KL.encI p0.Race.Starts)) (xl:Sl U 2 c6 de p0.Race.Splits.length (hD wAC p0.Race.Splits)) (xm:Sl U 3 da df p0.Race.Clocks.length (hD wAE p0.Race.Clocks)) (xn:Sl U 4 db dg p0.Race.Readings.length (hD wAB p0.Race.Readings)) (cm:MpR ab wBW wBe p0.number) (t6:Sl U 7 aY aZ p0.edges.length (hD wAO p0.edges)) {r:wDj × Int × Bool} (hm:wAr p0 p1 p2=some r):Gv Tryz.prog 74 [.pointer (some ⟨af,0,none⟩),jV p1,.bool p2] w (wCF w [.blk af 139 [.slice cZ p0.Race.Starts.length dd,.slice c6 p0.Race.Splits.length de,.slice da p0.Race.Clocks.length df,.slice db p0.Race.Readings.length dg,.map (some O),.slice aY p0.edges.length aZ],.obj O (.map ab ac)] U (fun U_ L_ v=>∃ (fm:Option Addr) (gO:Nat) (fq:Option Addr) (gP:Nat),v=.tuple #[.agg #[.slice fm r.1.far.length gO,.slice fq r.1.by_.length gP],jV r.2.1,.bool r.2.2]/\L_=[.row fm gO 3 1 (hD KL.encI r.1.far),.row fq gP 3 1 (hD KL.encI r.1.by_),.blk af 139 [.slice cZ p0.Race.Starts.length dd,.slice c6 p0.Race.Splits.length de,.slice da p0.Race.Clocks.length df,.slice db p0.Race.Readings.length dg,.map (some O),.slice aY p0.edges.length aZ],.obj O (.map ab ac)])):=by
 unfold wAr at hm
 refine Gv.of Tryz.func74 Z Tryz.ntmps74 Tryz.results74 Z (sR gCm Z ?_)
 let B0:List Value:=[.slice none 0 0,.slice none 0 0]
 refine zU (cs:=B0) Z Z Z Z Z Zo Z hS ?_
 intro W3 b4 tt
 refine oA Z Z (oA Z Z (eN ?_))
 have q:=bnd hm
 obtain ⟨⟨l9,a8⟩,va,k5⟩:=q
 try dsimp only at k5
 let B1:Res:=.blk af 139 [.slice cZ p0.Race.Starts.length dd,.slice c6 p0.Race.Splits.length de,.slice da p0.Race.Clocks.length df,.slice db p0.Race.Readings.length dg,.map (some O),.slice aY p0.edges.length aZ]
 refine yX (fun J_ w_=>∃ (U_:PHeap) (b8:Nat) (ak:Option Addr) (am:Nat) (an:Option Addr) (ao:Nat),J_ 0=.pointer (some ⟨af,0,none⟩)/\J_ 1=jV p1/\J_ 2=.bool p2/\J_ 6=.pointer (some ⟨b4,0,none⟩)/\J_ 9=.pointer (some ⟨b8,0,none⟩)/\PHeap.Le U U_/\SW w [B1,.obj O (.map ab ac)] U U_ [.blk b4 133 B0,B1,.obj O (.map ab ac),.blk b8 133 [.slice ak l9.length am,.slice an a8.length ao],.row ak am 3 1 (hD KL.encI l9),.row an ao 3 1 (hD KL.encI a8)] w_) ?_ ?_
 refine bnK va fun ap dT uZ=>bnK uZ fun aJ dU u0=>ZI ZD [2,3,3,3,1,1,2,2,3,3,3,1,1,2,3,2,0] (fC1_5 (wJb (.fx 0 (.fx 6 (.fl 12 (.fx 7 gDd (.fx 15 gDb .stop))) (.fx 7 gDk (.fx 15 gDl .stop))) (.fx 7 (.fx 0 gDk (.fx 15 gDj .stop)) (.fx 15 (.fx 0 gDl (.fx 7 gDj .stop)) .stop))))) (by kernel_rfl) ?_
 have bG:=tt.drew
 generalize hw_W74:({ W3 with drawn:=W3.drawn + 1 }:World)=wC at bG ⊢
 refine Zj (s:=.nil) (M:=fun J_ w_=>∃ (U_:PHeap) (dC:Nat) (bJ:Option Addr) (bW:Nat) (bK:Option Addr) (bX:Nat) (dZ:Option Addr) (ep:Nat) (d3:Option Addr) (er:Nat),J_ 0=.pointer (some ⟨af,0,none⟩)/\J_ 1=jV p1/\J_ 2=.bool p2/\J_ 6=.pointer (some ⟨b4,0,none⟩)/\J_ 9=.pointer (some ⟨dC,0,none⟩)/\J_ 16=.slice dZ ([1125899906842624].length) ep/\J_ 17=.pointer (some ⟨af,0,none⟩)/\J_ 18=.pointer (some ⟨af,0,none⟩)/\J_ 19=.pointer (some ⟨af,4,none⟩)/\J_ 20=.map (some O)/\J_ 21=jV (↑(p0.number.length):Int)/\J_ 22=.slice bJ ap.length bW/\J_ 23=.slice d3 ([-1].length) er/\J_ 24=.pointer (some ⟨af,0,none⟩)/\J_ 25=.pointer (some ⟨af,0,none⟩)/\J_ 26=.pointer (some ⟨af,4,none⟩)/\J_ 27=.map (some O)/\J_ 28=jV (↑(p0.number.length):Int)/\J_ 29=.slice bK aJ.length bX/\J_ 30=.agg #[.slice bJ ap.length bW,.slice bK aJ.length bX]/\PHeap.Le U U_/\SW w [B1,.obj O (.map ab ac)] U U_ [.blk b4 133 B0,B1,.obj O (.map ab ac),.blk dC 133 [.slice bJ ap.length bW,.slice bK aJ.length bX],.row bJ bW 3 1 (hD KL.encI ap),.row bK bX 3 1 (hD KL.encI aJ)] w_/\Sl U_ 1 dZ ep [1125899906842624].length (hD KL.encI [1125899906842624])/\Sl U_ 1 d3 er [-1].length (hD KL.encI [-1])) ?_ fun lm=>?_
 rintro vM wx ⟨lR,dC,bJ,bW,bK,bX,dZ,ep,d3,er,ot,ou,ov,ow,ox,wW,wX,wY,wZ,w5,w6,w7,w8,w9,xa,xb,xc,xd,xe,xf,vm,tq,xi,xj⟩
 refine zb ?_
 cases u0
 exact zF ⟨Z,⟨lR,dC,bJ,bW,bK,bX,ot,ou,ov,ow,ox,vm,tq⟩⟩
 refine Zj (s:=.fx 16 .nil .stop) (M:=fun J_ w_=>∃ (U_:PHeap) (cE:Nat) (di:Option Addr) (dE:Nat) (bm:Option Addr) (bw:Nat) (dk:Option Addr) (dF:Nat) (bn:Option Addr) (bx:Nat),J_ 0=.pointer (some ⟨af,0,none⟩)/\J_ 1=jV p1/\J_ 2=.bool p2/\J_ 6=.pointer (some ⟨b4,0,none⟩)/\J_ 9=.pointer (some ⟨cE,0,none⟩)/\J_ 16=.slice di ([1125899906842624].length) dE/\J_ 17=.pointer (some ⟨af,0,none⟩)/\J_ 18=.pointer (some ⟨af,0,none⟩)/\J_ 19=.pointer (some ⟨af,4,none⟩)/\J_ 20=.map (some O)/\J_ 21=jV (↑(p0.number.length):Int)/\J_ 22=.slice bm ap.length bw/\J_ 23=.slice dk ([-1].length) dF/\J_ 24=.pointer (some ⟨af,0,none⟩)/\J_ 25=.pointer (some ⟨af,0,none⟩)/\J_ 26=.pointer (some ⟨af,4,none⟩)/\J_ 27=.map (some O)/\J_ 28=jV (↑(p0.number.length):Int)/\J_ 29=.slice bn aJ.length bx/\J_ 30=.agg #[.slice bm ap.length bw,.slice bn aJ.length bx]/\PHeap.Le U U_/\SW w [B1,.obj O (.map ab ac)] U U_ [.blk b4 133 B0,B1,.obj O (.map ab ac),.blk cE 133 B0,.row bm bw 3 1 (hD KL.encI ap),.row bn bx 3 1 (hD KL.encI aJ)] w_/\Sl U_ 1 di dE [1125899906842624].length (hD KL.encI [1125899906842624])/\Sl U_ 1 dk dF [-1].length (hD KL.encI [-1])) ?_ fun vb=>?_
 rintro vN wy ⟨fV,cE,di,dE,bm,bw,dk,dF,bn,bx,oy,oz,oB,oC,iN,oD,oE,oG,oH,oI,oJ,oK,oO,oP,oQ,oS,oU,oV,oW,iO,vn,tr,rD,rE⟩
 let B2:List Value:=[.slice bm ap.length bw,.slice bn aJ.length bx]
 refine zY (j:=3) (vs:=B2) Z Z Z Z tr Z iN iO Z yI (zA Z) Z Z Z ?_
 intro ma tu
 have tv:SW w [B1,.obj O (.map ab ac)] U fV [.blk b4 133 B0,B1,.obj O (.map ab ac),.blk cE 133 B2,.row bm bw 3 1 (hD KL.encI ap),.row bn bx 3 1 (hD KL.encI aJ)] ma:=tu
 exact lm _ _ ⟨fV,cE,bm,bw,bn,bx,di,dE,dk,dF,oy,oz,oB,oC,iN,oD,oE,oG,oH,oI,oJ,oK,oO,oP,oQ,oS,oU,oV,oW,iO,vn,tv,rD,rE⟩
 refine Zj (s:=gCh) (M:=fun J_ w_=>∃ (U_:PHeap) (cG:Nat) (dl:Option Addr) (dG:Nat) (bo:Option Addr) (bz:Nat) (dm:Option Addr) (dH:Nat) (bp:Option Addr) (bA:Nat),J_ 0=.pointer (some ⟨af,0,none⟩)/\J_ 1=jV p1/\J_ 2=.bool p2/\J_ 6=.pointer (some ⟨b4,0,none⟩)/\J_ 9=.pointer (some ⟨cG,0,none⟩)/\J_ 16=.slice dl ([1125899906842624].length) dG/\J_ 17=.pointer (some ⟨af,0,none⟩)/\J_ 18=.pointer (some ⟨af,0,none⟩)/\J_ 19=.pointer (some ⟨af,4,none⟩)/\J_ 20=.map (some O)/\J_ 21=jV (↑(p0.number.length):Int)/\J_ 22=.slice bo ap.length bz/\J_ 23=.slice dm ([-1].length) dH/\J_ 24=.pointer (some ⟨af,0,none⟩)/\J_ 25=.pointer (some ⟨af,0,none⟩)/\J_ 26=.pointer (some ⟨af,4,none⟩)/\J_ 27=.map (some O)/\J_ 28=jV (↑(p0.number.length):Int)/\J_ 29=.slice bp aJ.length bA/\PHeap.Le U U_/\SW w [B1,.obj O (.map ab ac)] U U_ [.blk b4 133 B0,B1,.obj O (.map ab ac),.blk cG 133 B0,.row bo bz 3 1 (hD KL.encI ap),.row bp bA 3 1 (hD KL.encI aJ)] w_/\Sl U_ 1 dl dG [1125899906842624].length (hD KL.encI [1125899906842624])/\Sl U_ 1 dm dH [-1].length (hD KL.encI [-1])) ?_ fun ln=>?_
 rintro vO wz ⟨fW,cG,dl,dG,bo,bz,dm,dH,bp,bA,oX,oY,oZ,o0,iP,o3,o5,o6,o7,o8,o9,iQ,pd,pe,pf,pg,ph,pj,iR,vo,tw,rF,rG⟩
 let B3:List Value:=[.slice bo ap.length bz,.slice bp aJ.length bA]
 refine oR Z (zu (pv:=[(0,.slice bo ap.length bz),(1,.slice bp aJ.length bA)]) (z:=B0) (cs:=B3) Z (wAG iQ (wAG iR wAP)) Zo wIx Z Z) (zY (j:=3) (vs:=B3) Z Z Z Z tw Z iP Z Z yI (zA Z) Z Z Z ?_)
 intro mb tx
 have tz:SW w [B1,.obj O (.map ab ac)] U fW [.blk b4 133 B0,B1,.obj O (.map ab ac),.blk cG 133 B3,.row bo bz 3 1 (hD KL.encI ap),.row bp bA 3 1 (hD KL.encI aJ)] mb:=tx
 exact lm _ _ ⟨fW,cG,bo,bz,bp,bA,dl,dG,dm,dH,oX,oY,oZ,o0,iP,o3,o5,o6,o7,o8,o9,iQ,pd,pe,pf,pg,ph,pj,iR,Z,vo,tz,rF,rG⟩
 refine Zj (s:=gCp) (M:=fun J_ w_=>∃ (U_:PHeap) (bR:Nat) (dp:Option Addr) (dI:Nat) (co:Option Addr) (cJ:Nat) (cp:Option Addr) (cK:Nat),J_ 0=.pointer (some ⟨af,0,none⟩)/\J_ 1=jV p1/\J_ 2=.bool p2/\J_ 6=.pointer (some ⟨b4,0,none⟩)/\J_ 9=.pointer (some ⟨bR,0,none⟩)/\J_ 16=.slice dp ([1125899906842624].length) dI/\J_ 17=.pointer (some ⟨af,0,none⟩)/\J_ 18=.pointer (some ⟨af,0,none⟩)/\J_ 19=.pointer (some ⟨af,4,none⟩)/\J_ 20=.map (some O)/\J_ 21=jV (↑(p0.number.length):Int)/\J_ 22=.slice co ap.length cJ/\J_ 23=.slice cp ([-1].length) cK/\J_ 24=.pointer (some ⟨af,0,none⟩)/\J_ 25=.pointer (some ⟨af,0,none⟩)/\J_ 26=.pointer (some ⟨af,4,none⟩)/\J_ 27=.map (some O)/\J_ 28=jV (↑(p0.number.length):Int)/\PHeap.Le U U_/\SW w [B1,.obj O (.map ab ac)] U U_ [.blk b4 133 B0,B1,.obj O (.map ab ac),.blk bR 133 B0,.row co cJ 3 1 (hD KL.encI ap),.row cp cK 3 1 (hD KL.encI [-1])] w_/\Sl U_ 1 dp dI [1125899906842624].length (hD KL.encI [1125899906842624])) ?_ fun dW=>?_
 rintro vP gA ⟨v9,bR,dp,dI,co,cJ,cp,cK,pk,pm,pn,po,pp,pq,pu,py,pz,pB,pC,pD,iS,pE,pF,pG,pH,iT,vp,tA,rH⟩
 have q:=tA.freezeR (k:=5) (n:=[-1].length) rfl (wAD (f:=KL.encI) (sz:=1) (fun _=>rfl) [-1]) (by decide)
 obtain ⟨fY,lB,k9,tB⟩:=q
 let B4:Res:=.row co cJ 3 1 (hD KL.encI ap)
 have tC:SW w [B1,.obj O (.map ab ac)] U fY [.blk b4 133 B0,B1,.obj O (.map ab ac),.blk bR 133 B0,B4] gA:=tB
 refine zC 0 Z Z Z Z (zD Z Z yu (zB iS (zB iT zL)) Z) tC (fun hs=>wAs [-1] cp cK (↑(p0.number.length):Int) gA fY hs k9 dU) (.inr Z) ?_
 rintro fZ v4 xw mc fh tD ⟨fy,gW,rfl,rfl⟩
 have tE:SW w [B1,.obj O (.map ab ac)] U fZ [.row fy gW 3 1 (hD KL.encI aJ),.blk b4 133 B0,B1,.obj O (.map ab ac),.blk bR 133 B0,B4] mc:=tD
 have rI:=rH.le lB
 have rJ:=rI.le fh
 have rK:=k9.le fh
 exact ln _ _ ⟨fZ,bR,dp,dI,co,cJ,cp,cK,fy,gW,pk,pm,pn,po,pp,pq,pu,py,pz,pB,pC,pD,iS,pE,pF,pG,pH,iT,rfl,((vp.trans lB).trans fh),(tE.pick [1,2,3,4,5,0] _ (by decide) rfl),rJ,rK⟩
 refine Zj (s:=gCo) (M:=fun J_ w_=>∃ (U_:PHeap) (dq:Option Addr) (dJ:Nat) (bL:Option Addr) (bY:Nat) (dr:Option Addr) (dK:Nat) (bM:Option Addr) (bZ:Nat),J_ 0=.pointer (some ⟨af,0,none⟩)/\J_ 1=jV p1/\J_ 2=.bool p2/\J_ 6=.pointer (some ⟨b4,0,none⟩)/\J_ 16=.slice dq ([1125899906842624].length) dJ/\J_ 17=.pointer (some ⟨af,0,none⟩)/\J_ 18=.pointer (some ⟨af,0,none⟩)/\J_ 19=.pointer (some ⟨af,4,none⟩)/\J_ 20=.map (some O)/\J_ 21=jV (↑(p0.number.length):Int)/\J_ 22=.slice bL ap.length bY/\J_ 23=.slice dr ([-1].length) dK/\J_ 24=.pointer (some ⟨af,0,none⟩)/\J_ 25=.pointer (some ⟨af,0,none⟩)/\J_ 26=.pointer (some ⟨af,4,none⟩)/\J_ 27=.map (some O)/\J_ 28=jV (↑(p0.number.length):Int)/\J_ 29=.slice bM aJ.length bZ/\PHeap.Le U U_/\SW w [B1,.obj O (.map ab ac)] U U_ [.blk b4 133 B0,B1,.obj O (.map ab ac),.row bL bY 3 1 (hD KL.encI ap),.row bM bZ 3 1 (hD KL.encI aJ)] w_/\Sl U_ 1 dq dJ [1125899906842624].length (hD KL.encI [1125899906842624])/\Sl U_ 1 dr dK [-1].length (hD KL.encI [-1])) ?_ fun lp=>?_
 rintro vQ wA ⟨lS,dq,dJ,bL,bY,dr,dK,bM,bZ,pI,pJ,pK,pL,pM,pN,pO,pP,pQ,pR,iU,pS,pT,pU,pV,pW,pX,iV,vq,tF,rL,rM⟩
 refine oR Z (zu (pv:=[(0,.slice bL ap.length bY),(1,.slice bM aJ.length bZ)]) (z:=B0) (cs:=[.slice bL ap.length bY,.slice bM aJ.length bZ]) Z (wAG iU (wAG iV wAP)) Zo wIx Z Z) (zU (cs:=B0) Z Z Z Z Z Zo Z tF ?_)
 intro wB mo tG
 exact vb _ _ ⟨lS,mo,dq,dJ,bL,bY,dr,dK,bM,bZ,pI,pJ,pK,pL,rfl,pM,pN,pO,pP,pQ,pR,iU,pS,pT,pU,pV,pW,pX,iV,rfl,vq,(tG.pick [1,2,3,0,4,5] _ (by decide) rfl),rL,rM⟩
 refine Zj (s:=.fl 12 gCp) (M:=fun J_ w_=>∃ (U_:PHeap) (bS:Nat) (dt:Option Addr) (dL:Nat) (cq:Option Addr) (cL:Nat) (cr:Option Addr) (cM:Nat),J_ 0=.pointer (some ⟨af,0,none⟩)/\J_ 1=jV p1/\J_ 2=.bool p2/\J_ 6=.pointer (some ⟨b4,0,none⟩)/\J_ 9=.pointer (some ⟨bS,0,none⟩)/\J_ 16=.slice dt ([1125899906842624].length) dL/\J_ 17=.pointer (some ⟨af,0,none⟩)/\J_ 18=.pointer (some ⟨af,0,none⟩)/\J_ 19=.pointer (some ⟨af,4,none⟩)/\J_ 20=.map (some O)/\J_ 21=jV (↑(p0.number.length):Int)/\J_ 22=.slice cq ap.length cL/\J_ 23=.slice cr ([-1].length) cM/\J_ 24=.pointer (some ⟨af,0,none⟩)/\J_ 25=.pointer (some ⟨af,0,none⟩)/\J_ 26=.pointer (some ⟨af,4,none⟩)/\J_ 27=.map (some O)/\PHeap.Le U U_/\SW w [B1,.obj O (.map ab ac)] U U_ [.blk b4 133 B0,B1,.obj O (.map ab ac),.blk bS 133 B0,.row cq cL 3 1 (hD KL.encI ap),.row cr cM 3 1 (hD KL.encI [-1])] w_/\Sl U_ 1 dt dL [1125899906842624].length (hD KL.encI [1125899906842624])) ?_ fun vc=>?_
 rintro vR gB ⟨wa,bS,dt,dL,cq,cL,cr,cM,pY,pZ,p5,p6,p7,p8,p9,qa,qb,qc,qd,qe,iW,qf,qh,qi,iX,vr,jU,rN⟩
 refine oL Z (jU.lenM (j:=2) (mk:=wBW) (mv:=wBe) Z Z iX (wBy ZQ) cm) ?_
 have q:=jU.freezeR (k:=5) (n:=[-1].length) rfl (wAD (f:=KL.encI) (sz:=1) (fun _=>rfl) [-1]) (by decide)
 obtain ⟨f5,lC,lb,tH⟩:=q
 let B5:Res:=.row cq cL 3 1 (hD KL.encI ap)
 have tI:SW w [B1,.obj O (.map ab ac)] U f5 [.blk b4 133 B0,B1,.obj O (.map ab ac),.blk bS 133 B0,B5] gB:=tH
 refine zC 0 Z Z Z Z (zD Z Z yu (zB iW (zB Z zL)) Z) tI (fun hs=>wAs [-1] cr cM (↑(p0.number.length):Int) gB f5 hs lb dU) (.inr Z) ?_
 rintro f6 v5 xx md fj tJ ⟨fz,gX,rfl,rfl⟩
 have tK:SW w [B1,.obj O (.map ab ac)] U f6 [.row fz gX 3 1 (hD KL.encI aJ),.blk b4 133 B0,B1,.obj O (.map ab ac),.blk bS 133 B0,B5] md:=tJ
 have rO:=rN.le lC
 have rP:=rO.le fj
 have rQ:=lb.le fj
 exact ln _ _ ⟨f6,bS,dt,dL,cq,cL,cr,cM,fz,gX,pY,pZ,p5,p6,p7,p8,p9,qa,qb,qc,qd,qe,iW,qf,qh,qi,iX,rfl,rfl,((vr.trans lC).trans fj),(tK.pick [1,2,3,4,5,0] _ (by decide) rfl),rP,rQ⟩
 refine Zj (s:=.fl 12 gDb) (M:=fun J_ w_=>∃ (U_:PHeap) (cH:Nat) (du:Option Addr) (dM:Nat) (ct:Option Addr) (cN:Nat),J_ 0=.pointer (some ⟨af,0,none⟩)/\J_ 1=jV p1/\J_ 2=.bool p2/\J_ 6=.pointer (some ⟨b4,0,none⟩)/\J_ 9=.pointer (some ⟨cH,0,none⟩)/\J_ 16=.slice du ([1125899906842624].length) dM/\J_ 17=.pointer (some ⟨af,0,none⟩)/\J_ 18=.pointer (some ⟨af,0,none⟩)/\J_ 19=.pointer (some ⟨af,4,none⟩)/\J_ 20=.map (some O)/\J_ 21=jV (↑(p0.number.length):Int)/\J_ 22=.slice ct ap.length cN/\J_ 24=.pointer (some ⟨af,0,none⟩)/\J_ 25=.pointer (some ⟨af,0,none⟩)/\J_ 26=.pointer (some ⟨af,4,none⟩)/\J_ 27=.map (some O)/\PHeap.Le U U_/\SW w [B1,.obj O (.map ab ac)] U U_ [.blk b4 133 B0,B1,.obj O (.map ab ac),.blk cH 133 B0,.row ct cN 3 1 (hD KL.encI ap)] w_/\Sl U_ 1 du dM [1125899906842624].length (hD KL.encI [1125899906842624])) ?_ fun vd=>?_
 rintro vS wD ⟨f7,cH,du,dM,ct,cN,qj,qk,qm,qn,qo,qp,qq,qr,qs,qt,qu,qv,qw,qx,qy,iY,vt,jW,rS⟩
 refine oL Z (jW.lenM (j:=2) (mk:=wBW) (mv:=wBe) Z Z iY (wBy ZQ) cm) (ZC (pv:=[(0,jV (-1))]) (zs:=[jV 0]) (cs:=[jV (-1)]) Z Z Z Z Z (wAG Z wAP) zG zE zy Z Z Z Z Z jW ?_)
 intro me gM tL
 have tM:SW w [B1,.obj O (.map ab ac)] U f7 [.row (some ⟨gM,0,none⟩) 1 3 1 (hD KL.encI [-1]),.blk b4 133 B0,B1,.obj O (.map ab ac),.blk cH 133 B0,.row ct cN 3 1 (hD KL.encI ap)] me:=tL
 exact dW _ _ ⟨f7,cH,du,dM,ct,cN,(some ⟨gM,0,none⟩),1,qj,qk,qm,qn,qo,qp,qq,qr,qs,qt,qu,qv,rfl,qw,qx,qy,iY,rfl,vt,(tM.pick [1,2,3,4,5,0] _ (by decide) rfl),rS⟩
 refine Zj (s:=gDe) (M:=fun J_ w_=>∃ (U_:PHeap) (bT:Nat) (cu:Option Addr) (cO:Nat) (cw:Option Addr) (cP:Nat),J_ 0=.pointer (some ⟨af,0,none⟩)/\J_ 1=jV p1/\J_ 2=.bool p2/\J_ 6=.pointer (some ⟨b4,0,none⟩)/\J_ 9=.pointer (some ⟨bT,0,none⟩)/\J_ 16=.slice cu ([1125899906842624].length) cO/\J_ 17=.pointer (some ⟨af,0,none⟩)/\J_ 18=.pointer (some ⟨af,0,none⟩)/\J_ 19=.pointer (some ⟨af,4,none⟩)/\J_ 20=.map (some O)/\J_ 21=jV (↑(p0.number.length):Int)/\J_ 23=.slice cw ([-1].length) cP/\J_ 24=.pointer (some ⟨af,0,none⟩)/\J_ 25=.pointer (some ⟨af,0,none⟩)/\J_ 26=.pointer (some ⟨af,4,none⟩)/\J_ 27=.map (some O)/\PHeap.Le U U_/\SW w [B1,.obj O (.map ab ac)] U U_ [.blk b4 133 B0,B1,.obj O (.map ab ac),.blk bT 133 B0,.row cu cO 3 1 (hD KL.encI [1125899906842624]),.row cw cP 3 1 (hD KL.encI [-1])] w_) ?_ fun e9=>?_
 rintro vT gC ⟨wb,bT,cu,cO,cw,cP,qz,qA,qB,qC,qD,iZ,qE,qF,qG,qH,i2,qI,qJ,qK,qL,qM,vu,tN⟩
 have q:=tN.freezeR (k:=4) (n:=[1125899906842624].length) rfl (wAD (f:=KL.encI) (sz:=1) (fun _=>rfl) [1125899906842624]) (by decide)
 obtain ⟨f8,vv,lf,tO⟩:=q
 let B6:Res:=.row cw cP 3 1 (hD KL.encI [-1])
 have tP:SW w [B1,.obj O (.map ab ac)] U f8 [.blk b4 133 B0,B1,.obj O (.map ab ac),.blk bT 133 B0,B6] gC:=tO
 refine zC 0 Z Z Z Z (zD Z Z yu (zB iZ (zB i2 zL)) Z) tP (fun hs=>wAs [1125899906842624] cu cO (↑(p0.number.length):Int) gC f8 hs lf dT) (.inr Z) ?_
 rintro f9 v7 xz mf lD tQ ⟨fA,gY,rfl,rfl⟩
 have tR:SW w [B1,.obj O (.map ab ac)] U f9 [.row fA gY 3 1 (hD KL.encI ap),.blk b4 133 B0,B1,.obj O (.map ab ac),.blk bT 133 B0,B6] mf:=tQ
 have rT:=lf.le lD
 exact vc _ _ ⟨f9,bT,cu,cO,fA,gY,cw,cP,qz,qA,qB,qC,qD,iZ,qE,qF,qG,qH,i2,rfl,qI,qJ,qK,qL,qM,((vu.trans vv).trans lD),(tR.pick [1,2,3,4,0,5] _ (by decide) rfl),rT⟩
 refine Zj (s:=.fl 12 gDd) (M:=fun J_ w_=>∃ (U_:PHeap) (cx:Option Addr) (cQ:Nat) (bN:Option Addr) (b5:Nat) (bO:Option Addr) (ca:Nat),J_ 0=.pointer (some ⟨af,0,none⟩)/\J_ 1=jV p1/\J_ 2=.bool p2/\J_ 6=.pointer (some ⟨b4,0,none⟩)/\J_ 16=.slice cx ([1125899906842624].length) cQ/\J_ 17=.pointer (some ⟨af,0,none⟩)/\J_ 18=.pointer (some ⟨af,0,none⟩)/\J_ 19=.pointer (some ⟨af,4,none⟩)/\J_ 20=.map (some O)/\J_ 21=jV (↑(p0.number.length):Int)/\J_ 22=.slice bN ap.length b5/\J_ 23=.slice bO ([-1].length) ca/\J_ 24=.pointer (some ⟨af,0,none⟩)/\J_ 25=.pointer (some ⟨af,0,none⟩)/\J_ 26=.pointer (some ⟨af,4,none⟩)/\J_ 27=.map (some O)/\PHeap.Le U U_/\SW w [B1,.obj O (.map ab ac)] U U_ [.blk b4 133 B0,B1,.obj O (.map ab ac),.row bN b5 3 1 (hD KL.encI ap),.row bO ca 3 1 (hD KL.encI [-1])] w_/\Sl U_ 1 cx cQ [1125899906842624].length (hD KL.encI [1125899906842624])) ?_ fun ve=>?_
 rintro vU gD ⟨lT,cx,cQ,bN,b5,bO,ca,i4,i6,i8,i9,ja,jb,jc,jd,je,jf,jg,eD,jh,ji,jj,eE,lE,eP,jB⟩
 refine oL Z (eP.lenM (j:=2) (mk:=wBW) (mv:=wBe) Z Z eE (wBy ZQ) cm) (ZB ?_ ?_)
 have q:=eP.freezeR (k:=4) (n:=[-1].length) rfl (wAD (f:=KL.encI) (sz:=1) (fun _=>rfl) [-1]) (by decide)
 obtain ⟨ga,lF,lg,tS⟩:=q
 let B7:Res:=.row bN b5 3 1 (hD KL.encI ap)
 have tT:SW w [B1,.obj O (.map ab ac)] U ga [.blk b4 133 B0,B1,.obj O (.map ab ac),B7] gD:=tS
 refine zC 0 Z Z Z Z (zD Z Z yu (zB eD (zB Z zL)) Z) tT (fun hs=>wAs [-1] bO ca (↑(p0.number.length):Int) gD ga hs lg dU) (.inr Z) ?_
 rintro gb v8 xA mg fk tU ⟨fB,gZ,rfl,rfl⟩
 have tV:SW w [B1,.obj O (.map ab ac)] U gb [.row fB gZ 3 1 (hD KL.encI aJ),.blk b4 133 B0,B1,.obj O (.map ab ac),B7] mg:=tU
 have rV:=jB.le lF
 have rW:=rV.le fk
 have rX:=lg.le fk
 exact lp _ _ ⟨gb,cx,cQ,bN,b5,bO,ca,fB,gZ,i4,i6,i8,i9,ja,jb,jc,jd,je,jf,jg,eD,jh,ji,jj,eE,rfl,rfl,((lE.trans lF).trans fk),(tV.pick [1,2,3,4,0] _ (by decide) rfl),rW,rX⟩
 refine zU (cs:=B0) Z Z Z Z Z Zo Z eP ?_
 intro wE mp tW
 exact dW _ _ ⟨lT,mp,cx,cQ,bN,b5,bO,ca,i4,i6,i8,i9,rfl,ja,jb,jc,jd,je,jf,jg,eD,jh,ji,jj,eE,rfl,lE,(tW.pick [1,2,3,0,4,5] _ (by decide) rfl),jB⟩
 refine Zj (s:=gDj) (M:=fun J_ w_=>∃ (U_:PHeap) (cI:Nat) (cy:Option Addr) (cR:Nat),J_ 0=.pointer (some ⟨af,0,none⟩)/\J_ 1=jV p1/\J_ 2=.bool p2/\J_ 6=.pointer (some ⟨b4,0,none⟩)/\J_ 9=.pointer (some ⟨cI,0,none⟩)/\J_ 17=.pointer (some ⟨af,0,none⟩)/\J_ 18=.pointer (some ⟨af,0,none⟩)/\J_ 19=.pointer (some ⟨af,4,none⟩)/\J_ 20=.map (some O)/\J_ 21=jV (↑(p0.number.length):Int)/\J_ 23=.slice cy ([-1].length) cR/\J_ 24=.pointer (some ⟨af,0,none⟩)/\J_ 25=.pointer (some ⟨af,0,none⟩)/\J_ 26=.pointer (some ⟨af,4,none⟩)/\J_ 27=.map (some O)/\PHeap.Le U U_/\SW w [B1,.obj O (.map ab ac)] U U_ [.blk b4 133 B0,B1,.obj O (.map ab ac),.blk cI 133 B0,.row cy cR 3 1 (hD KL.encI [-1])] w_) ?_ fun ls=>?_
 rintro vV wG ⟨ge,cI,cy,cR,qN,qO,qP,qQ,qR,qS,qT,qU,qV,qW,qX,qY,qZ,q0,q5,vw,tX⟩
 refine ZC (pv:=[(0,jV 1125899906842624)]) (zs:=[jV 0]) (cs:=[jV 1125899906842624]) Z Z Z Z Z (wAG Z wAP) zG zE zy Z Z Z Z Z tX ?_
 intro mh gN tY
 have tZ:SW w [B1,.obj O (.map ab ac)] U ge [.row (some ⟨gN,0,none⟩) 1 3 1 (hD KL.encI [1125899906842624]),.blk b4 133 B0,B1,.obj O (.map ab ac),.blk cI 133 B0,.row cy cR 3 1 (hD KL.encI [-1])] mh:=tY
 exact e9 _ _ ⟨ge,cI,(some ⟨gN,0,none⟩),1,cy,cR,qN,qO,qP,qQ,qR,rfl,qS,qT,qU,qV,qW,qX,qY,qZ,q0,q5,vw,(tZ.pick [1,2,3,4,0,5] _ (by decide) rfl)⟩
 refine Zj (s:=gDl) (M:=fun J_ w_=>∃ (U_:PHeap) (bi:Nat) (bq:Option Addr) (bB:Nat),J_ 0=.pointer (some ⟨af,0,none⟩)/\J_ 1=jV p1/\J_ 2=.bool p2/\J_ 6=.pointer (some ⟨b4,0,none⟩)/\J_ 9=.pointer (some ⟨bi,0,none⟩)/\J_ 16=.slice bq ([1125899906842624].length) bB/\J_ 17=.pointer (some ⟨af,0,none⟩)/\J_ 18=.pointer (some ⟨af,0,none⟩)/\J_ 19=.pointer (some ⟨af,4,none⟩)/\J_ 20=.map (some O)/\J_ 21=jV (↑(p0.number.length):Int)/\J_ 24=.pointer (some ⟨af,0,none⟩)/\J_ 25=.pointer (some ⟨af,0,none⟩)/\J_ 26=.pointer (some ⟨af,4,none⟩)/\J_ 27=.map (some O)/\PHeap.Le U U_/\SW w [B1,.obj O (.map ab ac)] U U_ [.blk b4 133 B0,B1,.obj O (.map ab ac),.blk bi 133 B0,.row bq bB 3 1 (hD KL.encI [1125899906842624])] w_) ?_ fun lu=>?_
 rintro vW gE ⟨gf,bi,bq,bB,jk,jl,jm,jo,jp,eF,jq,jr,jt,ju,eG,jv,jw,jx,jy,lG,jX⟩
 refine ZB ?_ ?_
 have q:=jX.freezeR (k:=4) (n:=[1125899906842624].length) rfl (wAD (f:=KL.encI) (sz:=1) (fun _=>rfl) [1125899906842624]) (by decide)
 obtain ⟨gg,vx,lh,t4⟩:=q
 have t5:SW w [B1,.obj O (.map ab ac)] U gg [.blk b4 133 B0,B1,.obj O (.map ab ac),.blk bi 133 B0] gE:=t4
 refine zC 0 Z Z Z Z (zD Z Z yu (zB eF (zB eG zL)) Z) t5 (fun hs=>wAs [1125899906842624] bq bB (↑(p0.number.length):Int) gE gg hs lh dT) (.inr Z) ?_
 rintro fL vX xr lU lv r0 ⟨ft,gQ,rfl,rfl⟩
 have r6:SW w [B1,.obj O (.map ab ac)] U fL [.row ft gQ 3 1 (hD KL.encI ap),.blk b4 133 B0,B1,.obj O (.map ab ac),.blk bi 133 B0] lU:=r0
 have q9:=lh.le lv
 exact vd _ _ ⟨fL,bi,bq,bB,ft,gQ,jk,jl,jm,jo,jp,eF,jq,jr,jt,ju,eG,rfl,jv,jw,jx,jy,((lG.trans vx).trans lv),(r6.pick [1,2,3,4,0] _ (by decide) rfl),q9⟩
 refine ZC (pv:=[(0,jV (-1))]) (zs:=[jV 0]) (cs:=[jV (-1)]) Z Z Z Z Z (wAG Z wAP) zG zE zy Z Z Z Z Z jX ?_
 intro lV gF r7
 have r8:SW w [B1,.obj O (.map ab ac)] U gf [.row (some ⟨gF,0,none⟩) 1 3 1 (hD KL.encI [-1]),.blk b4 133 B0,B1,.obj O (.map ab ac),.blk bi 133 B0,.row bq bB 3 1 (hD KL.encI [1125899906842624])] lV:=r7
 exact e9 _ _ ⟨gf,bi,bq,bB,(some ⟨gF,0,none⟩),1,jk,jl,jm,jo,jp,eF,jq,jr,jt,ju,eG,rfl,jv,jw,jx,jy,lG,(r8.pick [1,2,3,4,5,0] _ (by decide) rfl)⟩
 refine Zj (s:=gDk) (M:=fun J_ w_=>∃ (U_:PHeap) (bH:Option Addr) (bU:Nat) (bI:Option Addr) (bV:Nat),J_ 0=.pointer (some ⟨af,0,none⟩)/\J_ 1=jV p1/\J_ 2=.bool p2/\J_ 6=.pointer (some ⟨b4,0,none⟩)/\J_ 16=.slice bH ([1125899906842624].length) bU/\J_ 17=.pointer (some ⟨af,0,none⟩)/\J_ 18=.pointer (some ⟨af,0,none⟩)/\J_ 19=.pointer (some ⟨af,4,none⟩)/\J_ 20=.map (some O)/\J_ 21=jV (↑(p0.number.length):Int)/\J_ 23=.slice bI ([-1].length) bV/\J_ 24=.pointer (some ⟨af,0,none⟩)/\J_ 25=.pointer (some ⟨af,0,none⟩)/\J_ 26=.pointer (some ⟨af,4,none⟩)/\J_ 27=.map (some O)/\PHeap.Le U U_/\SW w [B1,.obj O (.map ab ac)] U U_ [.blk b4 133 B0,B1,.obj O (.map ab ac),.row bH bU 3 1 (hD KL.encI [1125899906842624]),.row bI bV 3 1 (hD KL.encI [-1])] w_) ?_ fun ll=>?_
 rintro vB gh ⟨lN,bH,bU,bI,bV,g7,g8,g9,ib,eu,ic,ie,ig,ii,ew,ij,ik,il,im,io,lw,jI⟩
 refine ZB ?_ ?_
 have q:=jI.freezeR (k:=3) (n:=[1125899906842624].length) rfl (wAD (f:=KL.encI) (sz:=1) (fun _=>rfl) [1125899906842624]) (by decide)
 obtain ⟨fM,vf,k7,r9⟩:=q
 let B8:Res:=.row bI bV 3 1 (hD KL.encI [-1])
 have sa:SW w [B1,.obj O (.map ab ac)] U fM [.blk b4 133 B0,B1,.obj O (.map ab ac),B8] gh:=r9
 refine zC 0 Z Z Z Z (zD Z Z yu (zB eu (zB ew zL)) Z) sa (fun hs=>wAs [1125899906842624] bH bU (↑(p0.number.length):Int) gh fM hs k7 dT) (.inr Z) ?_
 rintro fN vY xt lW lx sb ⟨fu,gR,rfl,rfl⟩
 have sc:SW w [B1,.obj O (.map ab ac)] U fN [.row fu gR 3 1 (hD KL.encI ap),.blk b4 133 B0,B1,.obj O (.map ab ac),B8] lW:=sb
 have rc:=k7.le lx
 exact ve _ _ ⟨fN,bH,bU,fu,gR,bI,bV,g7,g8,g9,ib,eu,ic,ie,ig,ii,ew,rfl,ij,ik,il,im,io,((lw.trans vf).trans lx),(sc.pick [1,2,3,0,4] _ (by decide) rfl),rc⟩
 refine zU (cs:=B0) Z Z Z Z Z Zo Z jI ?_
 intro wc mi sd
 exact e9 _ _ ⟨lN,mi,bH,bU,bI,bV,g7,g8,g9,ib,rfl,eu,ic,ie,ig,ii,ew,ij,ik,il,im,io,lw,(sd.pick [1,2,3,0,4,5] _ (by decide) rfl)⟩
 refine oM Z Z (oR Z (yB Z Z) (oR Z (zH Z Z ZM Z yD) (oL Z (bG.ldB (j:=1) Z Z Z yK (v:=.map (some O)) Z) (oL Z (bG.lenM (j:=2) (mk:=wBW) (mv:=wBe) Z Z Z (wBy ZQ) cm) (oM Z Z (oR Z (yB Z Z) (oR Z (zH Z Z ZM Z yD) (oL Z (bG.ldB (j:=1) Z Z Z yK (v:=.map (some O)) Z) (ZB ?_ ?_)))))))))
 refine ZC (pv:=[(0,jV 1125899906842624)]) (zs:=[jV 0]) (cs:=[jV 1125899906842624]) Z Z Z Z Z (wAG Z wAP) zG zE zy Z Z Z Z Z bG ?_
 intro d8 bv se
 let B9:Res:=.row (some ⟨bv,0,none⟩) 1 3 1 (hD KL.encI [1125899906842624])
 have eI:SW w [B1,.obj O (.map ab ac)] U U [B9,.blk b4 133 B0,B1,.obj O (.map ab ac)] d8:=se
 refine ZB ?_ ?_
 have q:=eI.freezeR (k:=0) (n:=[1125899906842624].length) rfl (wAD (f:=KL.encI) (sz:=1) (fun _=>rfl) [1125899906842624]) (by decide)
 obtain ⟨fO,fd,dV,sf⟩:=q
 have sg:SW w [B1,.obj O (.map ab ac)] U fO [.blk b4 133 B0,B1,.obj O (.map ab ac)] d8:=sf
 refine zC 0 Z Z Z Z (zD Z Z yu (zB Z (zB Z zL)) Z) sg (fun hs=>wAs [1125899906842624] (some ⟨bv,0,none⟩) 1 (↑(p0.number.length):Int) d8 fO hs dV dT) (.inr Z) ?_
 rintro cD vZ xu lX cn sh ⟨dh,dD,rfl,rfl⟩
 let cz:Res:=.row dh dD 3 1 (hD KL.encI ap)
 have eJ:SW w [B1,.obj O (.map ab ac)] U cD [cz,.blk b4 133 B0,B1,.obj O (.map ab ac)] lX:=sh
 refine oL Z (eJ.lenM (j:=3) (mk:=wBW) (mv:=wBe) Z Z Z (wBy ZQ) cm) (ZB ?_ ?_)
 refine ZC (pv:=[(0,jV (-1))]) (zs:=[jV 0]) (cs:=[jV (-1)]) Z Z Z Z Z (wAG Z wAP) zG zE zy Z Z Z Z Z eJ ?_
 intro d9 dA sj
 have jJ:SW w [B1,.obj O (.map ab ac)] U cD [.row (some ⟨dA,0,none⟩) 1 3 1 (hD KL.encI [-1]),cz,.blk b4 133 B0,B1,.obj O (.map ab ac)] d9:=sj
 refine ZB ?_ ?_
 have q:=jJ.freezeR (k:=0) (n:=[-1].length) rfl (wAD (f:=KL.encI) (sz:=1) (fun _=>rfl) [-1]) (by decide)
 obtain ⟨fP,ly,k8,sk⟩:=q
 have sl:SW w [B1,.obj O (.map ab ac)] U fP [cz,.blk b4 133 B0,B1,.obj O (.map ab ac)] d9:=sk
 refine zC 0 Z Z Z Z (zD Z Z yu (zB Z (zB Z zL)) Z) sl (fun hs=>wAs [-1] (some ⟨dA,0,none⟩) 1 (↑(p0.number.length):Int) d9 fP hs k8 dU) (.inr Z) ?_
 rintro fQ v3 xv lY ff sn ⟨fw,gS,rfl,rfl⟩
 have so:SW w [B1,.obj O (.map ab ac)] U fQ [.row fw gS 3 1 (hD KL.encI aJ),cz,.blk b4 133 B0,B1,.obj O (.map ab ac)] lY:=sn
 have rd:=dV.le cn
 have re:=rd.le ly
 have rf:=re.le ff
 have rh:=k8.le ff
 exact lp _ _ ⟨fQ,(some ⟨bv,0,none⟩),1,dh,dD,(some ⟨dA,0,none⟩),1,fw,gS,rfl,rfl,rfl,rfl,rfl,rfl,rfl,rfl,rfl,rfl,rfl,rfl,rfl,rfl,rfl,rfl,rfl,rfl,(((fd.trans cn).trans ly).trans ff),(so.pick [2,3,4,1,0] _ (by decide) rfl),rf,rh⟩
 refine zU (cs:=B0) Z Z Z Z Z Zo Z jJ ?_
 intro wd mj sq
 have ri:=dV.le cn
 exact dW _ _ ⟨cD,mj,(some ⟨bv,0,none⟩),1,dh,dD,(some ⟨dA,0,none⟩),1,rfl,rfl,rfl,rfl,rfl,rfl,rfl,rfl,rfl,rfl,rfl,rfl,rfl,rfl,rfl,rfl,rfl,rfl,(fd.trans cn),(sq.pick [3,4,5,0,2,1] _ (by decide) rfl),ri⟩
 refine zU (cs:=B0) Z Z Z Z Z Zo Z eJ ?_
 intro we gG sr
 refine ZC (pv:=[(0,jV (-1))]) (zs:=[jV 0]) (cs:=[jV (-1)]) Z Z Z Z Z (wAG Z wAP) zG zE zy Z Z Z Z Z sr ?_
 intro lZ gH ss
 have su:SW w [B1,.obj O (.map ab ac)] U cD [.row (some ⟨gH,0,none⟩) 1 3 1 (hD KL.encI [-1]),.blk gG 133 B0,cz,.blk b4 133 B0,B1,.obj O (.map ab ac)] lZ:=ss
 have rj:=dV.le cn
 exact dW _ _ ⟨cD,gG,(some ⟨bv,0,none⟩),1,dh,dD,(some ⟨gH,0,none⟩),1,rfl,rfl,rfl,rfl,rfl,rfl,rfl,rfl,rfl,rfl,rfl,rfl,rfl,rfl,rfl,rfl,rfl,rfl,(fd.trans cn),(su.pick [3,4,5,1,2,0] _ (by decide) rfl),rj⟩
 refine ZB ?_ ?_
 refine ZC (pv:=[(0,jV (-1))]) (zs:=[jV 0]) (cs:=[jV (-1)]) Z Z Z Z Z (wAG Z wAP) zG zE zy Z Z Z Z Z eI ?_
 intro l0 gI sv
 have sw:SW w [B1,.obj O (.map ab ac)] U U [.row (some ⟨gI,0,none⟩) 1 3 1 (hD KL.encI [-1]),B9,.blk b4 133 B0,B1,.obj O (.map ab ac)] l0:=sv
 exact ll _ _ ⟨U,(some ⟨bv,0,none⟩),1,(some ⟨gI,0,none⟩),1,rfl,rfl,rfl,rfl,rfl,rfl,rfl,rfl,rfl,rfl,rfl,rfl,rfl,rfl,rfl,(zQ _),(sw.pick [2,3,4,1,0] _ (by decide) rfl)⟩
 refine zU (cs:=B0) Z Z Z Z Z Zo Z eI ?_
 intro wg mm sA
 exact lu _ _ ⟨U,mm,(some ⟨bv,0,none⟩),1,rfl,rfl,rfl,rfl,rfl,rfl,rfl,rfl,rfl,rfl,rfl,rfl,rfl,rfl,rfl,(zQ _),(sA.pick [2,3,4,0,1] _ (by decide) rfl)⟩
 refine ZB ?_ ?_
 refine ZC (pv:=[(0,jV (-1))]) (zs:=[jV 0]) (cs:=[jV (-1)]) Z Z Z Z Z (wAG Z wAP) zG zE zy Z Z Z Z Z bG ?_
 intro l3 eg sB
 let fC:Res:=.row (some ⟨eg,0,none⟩) 1 3 1 (hD KL.encI [-1])
 have jK:SW w [B1,.obj O (.map ab ac)] U U [fC,.blk b4 133 B0,B1,.obj O (.map ab ac)] l3:=sB
 refine ZB ?_ ?_
 refine ZC (pv:=[(0,jV 1125899906842624)]) (zs:=[jV 0]) (cs:=[jV 1125899906842624]) Z Z Z Z Z (wAG Z wAP) zG zE zy Z Z Z Z Z jK ?_
 intro l4 gJ sC
 have sD:SW w [B1,.obj O (.map ab ac)] U U [.row (some ⟨gJ,0,none⟩) 1 3 1 (hD KL.encI [1125899906842624]),fC,.blk b4 133 B0,B1,.obj O (.map ab ac)] l4:=sC
 exact ll _ _ ⟨U,(some ⟨gJ,0,none⟩),1,(some ⟨eg,0,none⟩),1,rfl,rfl,rfl,rfl,rfl,rfl,rfl,rfl,rfl,rfl,rfl,rfl,rfl,rfl,rfl,(zQ _),(sD.pick [2,3,4,0,1] _ (by decide) rfl)⟩
 refine zU (cs:=B0) Z Z Z Z Z Zo Z jK ?_
 intro wh mn sE
 exact ls _ _ ⟨U,mn,(some ⟨eg,0,none⟩),1,rfl,rfl,rfl,rfl,rfl,rfl,rfl,rfl,rfl,rfl,rfl,rfl,rfl,rfl,rfl,(zQ _),(sE.pick [2,3,4,0,1] _ (by decide) rfl)⟩
 refine zU (cs:=B0) Z Z Z Z Z Zo Z bG ?_
 intro wi dB jL
 refine ZB ?_ ?_
 refine ZC (pv:=[(0,jV 1125899906842624)]) (zs:=[jV 0]) (cs:=[jV 1125899906842624]) Z Z Z Z Z (wAG Z wAP) zG zE zy Z Z Z Z Z jL ?_
 intro l5 gK sF
 have sG:SW w [B1,.obj O (.map ab ac)] U U [.row (some ⟨gK,0,none⟩) 1 3 1 (hD KL.encI [1125899906842624]),.blk dB 133 B0,.blk b4 133 B0,B1,.obj O (.map ab ac)] l5:=sF
 exact lu _ _ ⟨U,dB,(some ⟨gK,0,none⟩),1,rfl,rfl,rfl,rfl,rfl,rfl,rfl,rfl,rfl,rfl,rfl,rfl,rfl,rfl,rfl,(zQ _),(sG.pick [2,3,4,1,0] _ (by decide) rfl)⟩
 refine ZC (pv:=[(0,jV (-1))]) (zs:=[jV 0]) (cs:=[jV (-1)]) Z Z Z Z Z (wAG Z wAP) zG zE zy Z Z Z Z Z jL ?_
 intro l6 gL sH
 have sI:SW w [B1,.obj O (.map ab ac)] U U [.row (some ⟨gL,0,none⟩) 1 3 1 (hD KL.encI [-1]),.blk dB 133 B0,.blk b4 133 B0,B1,.obj O (.map ab ac)] l6:=sH
 exact ls _ _ ⟨U,dB,(some ⟨gL,0,none⟩),1,rfl,rfl,rfl,rfl,rfl,rfl,rfl,rfl,rfl,rfl,rfl,rfl,rfl,rfl,rfl,(zQ _),(sI.pick [2,3,4,1,0] _ (by decide) rfl)⟩
 rintro vC wj ⟨fR,b8,ak,am,an,ao,mw,my,mz,mA,ip,vg,jM⟩
 refine zJ (sR fL4 Z (oR Z (zH Z ip Zc Z zh) (oL Z (jM.ldB (j:=3) Z Z Z zk (v:=.slice ak l9.length am) Z) (oR Z (zi Z Z zG) (oM Z Z (eN (zX (bnK k5 fun xE t9 e8=>?_))))))))
 have q:=wBn t9
 obtain ⟨eW,ua⟩:=q
 replace eW:=zM eW
 let br:Res:=.row an ao 3 1 (hD KL.encI a8)
 refine CK.forN' (fun a6 aL J_ w_=>∃ (U_:PHeap),J_ 34=jV (↑a6:Int)/\J_ 0=.pointer (some ⟨af,0,none⟩)/\J_ 1=jV p1/\J_ 2=.bool p2/\J_ 6=.pointer (some ⟨b4,0,none⟩)/\J_ 9=.pointer (some ⟨b8,0,none⟩)/\J_ 33=jV (↑l9.length:Int)/\PHeap.Le fR U_/\SW w [B1,.obj O (.map ab ac)] U U_ [.blk b4 133 B0,B1,.obj O (.map ab ac),.row ak am 3 1 (hD KL.encI aL),br,.blk b8 133 [.slice ak aL.length am,.slice an a8.length ao]] w_/\aL.length=l9.length) ua ?_ ?_ ?_
 exact ⟨fR,rfl,mw,my,mz,mA,ip,rfl,(zQ _),(jM.pick [0,1,2,4,5,3] _ (by decide) rfl),rfl⟩
 rintro a6 aL xB vD wk eS ⟨bu,cX,ey,cS,eA,eB,cU,dN,fg,bF,eH⟩ li
 have gT:Hid ((↑a6:Int) < (↑l9.length:Int)):=zM (wBQ eS)
 replace eS:=zM eS
 have eR:Hid (w64 ((↑a6:Int) + 1)=(↑(a6 + 1):Int)):=zM (by have h1:=eW.out;have h2:=gT.out;rw [wAY] <;> omega)
 refine sR fL1 Z (oR Z (ze Z cX dN) (eN (zJ (cT Z gT (kN (zJ (zX (sR fL2 Z (oM Z cX (oA Z Z (eN (sR fL7 Z (oM Z cS (oR Z (ze Z Z Z) (oM Z Z ?_)))))))))))))))
 by_cases aN:p1 < 0
 have jY:=li;rw [if_pos aN] at jY;replace aN:=zM aN
 refine oT Z aN (oT Z aN (oT Z aN (oR Z (zS Z (Zh aN.out) Z) (eN (ZK Z (rR (wEN (.fx 4 .nil .stop)) Z (oR Z (zH Z cU Zc Z zh) (oL Z (bF.ldB (j:=5) Z Z Z zk (v:=.slice ak aL.length am) Z) (oM Z Z (bnK jY fun _ dR uD=>?_))))))))))
 obtain ⟨wH,jC⟩:=bF.rowSome (j:=3) rfl (by rw [wAD (f:=KL.encI) (sz:=1) (fun _=>rfl) aL];have hz:=wAS dR;omega)
 refine oR Z (ZZ Z Z jC Z zG zE (wAS dR)) ?_
 have uf:=wBJ (xs:=aL) (wAS dR)
 refine yp (j:=3) (vs:=[jV 0]) (cs':=hD KL.encI (nK aL a6 0)) rfl rfl rfl rfl bF rfl jC rfl rfl rfl zE (by rw [wAD (f:=KL.encI) (sz:=1) (fun _=>rfl)];have hz:=wAS dR;show _ + 1 <= _;first | omega | (simp only [nI];omega) | (simp only [nH,nB,nD];omega)) rfl (wDX (sz:=1) (fo:=0) (fun _=>rfl) _ _ _ _ uf (by first | omega | (simp only [nI];omega) | (simp only [nH,nB,nD];omega)) (zA rfl) rfl) rfl ?_
 intro gi sJ
 let d4:Res:=.row ak am 3 1 (hD KL.encI (nK aL a6 0))
 have sK:SW w [B1,.obj O (.map ab ac)] U bu [.blk b4 133 B0,B1,.obj O (.map ab ac),d4,br,.blk b8 133 [.slice ak aL.length am,.slice an a8.length ao]] gi:=sJ
 have sL:SW w [B1,.obj O (.map ab ac)] U bu [.blk b4 133 B0,B1,.obj O (.map ab ac),d4,br,.blk b8 133 [.slice ak ((nK aL a6 0).length) am,.slice an a8.length ao]] gi:=by simpa only [B0,B1,br,d4,nJ] using sK
 refine zb (zl (zF (rR fL2 Z (oR Z (ZP (za Z cX Z) (congrArg (jV) eR.out)) (oM Z Z (zb ?_))))))
 cases uD
 exact zF ⟨Z,⟨bu,Z,ey,cS,eA,eB,cU,dN,fg,sL,(nJ.trans eH)⟩⟩
 have jZ:=li;rw [if_neg aN] at jZ;replace aN:=zM aN
 refine ZE Z Z Z (wF Z aN) Z Z (ZE Z Z Z (wF Z aN) Z cS (rU Z (wF Z aN) (yV Z Z Z) (oR Z (zZ Z (ZL aN.out) Z) (eN (ifc jZ ?_ ?_)))))
 intro eh uE
 refine cT Z eh (rR (wEN (.fx 4 .nil .stop)) Z (oR Z (zH Z cU Zc Z zh) (oL Z (bF.ldB (j:=5) Z Z Z zk (v:=.slice ak aL.length am) Z) (oM Z Z (bnK uE fun _ dS uF=>?_)))))
 obtain ⟨wI,jD⟩:=bF.rowSome (j:=3) rfl (by rw [wAD (f:=KL.encI) (sz:=1) (fun _=>rfl) aL];have hz:=wAS dS;omega)
 refine oR Z (ZZ Z Z jD Z zG zE (wAS dS)) ?_
 have ug:=wBJ (xs:=aL) (wAS dS)
 refine yp (j:=3) (vs:=[jV 0]) (cs':=hD KL.encI (nK aL a6 0)) rfl rfl rfl rfl bF rfl jD rfl rfl rfl zE (by rw [wAD (f:=KL.encI) (sz:=1) (fun _=>rfl)];have hz:=wAS dS;show _ + 1 <= _;first | omega | (simp only [nI];omega) | (simp only [nH,nB,nD];omega)) rfl (wDX (sz:=1) (fo:=0) (fun _=>rfl) _ _ _ _ ug (by first | omega | (simp only [nI];omega) | (simp only [nH,nB,nD];omega)) (zA rfl) rfl) rfl ?_
 intro gj sM
 let d5:Res:=.row ak am 3 1 (hD KL.encI (nK aL a6 0))
 have sN:SW w [B1,.obj O (.map ab ac)] U bu [.blk b4 133 B0,B1,.obj O (.map ab ac),d5,br,.blk b8 133 [.slice ak aL.length am,.slice an a8.length ao]] gj:=sM
 have sO:SW w [B1,.obj O (.map ab ac)] U bu [.blk b4 133 B0,B1,.obj O (.map ab ac),d5,br,.blk b8 133 [.slice ak ((nK aL a6 0).length) am,.slice an a8.length ao]] gj:=by simpa only [B0,B1,br,d5,nJ] using sN
 refine zb (zl (zF (rR fL2 Z (oR Z (ZP (za Z cX Z) (congrArg (jV) eR.out)) (oM Z Z (zb ?_))))))
 cases uF
 exact zF ⟨Z,⟨bu,Z,ey,cS,eA,eB,cU,dN,fg,sO,(nJ.trans eH)⟩⟩
 intro eh uG
 refine cF Z eh (Ze (zl (zF (rR fL2 Z (oR Z (ZP (za Z cX Z) (congrArg (jV) eR.out)) (oM Z Z (zb ?_)))))))
 cases uG
 exact zF ⟨Z,⟨bu,Z,ey,cS,eA,eB,cU,dN,fg,bF,eH⟩⟩
 rintro vE wl ⟨fS,q6,iq,wQ,mB,mC,mD,mE,vh,eK,rk⟩
 have mq:Hid (¬ ((↑(((↑l9.length:Int):Int) - 0).toNat:Int) < (↑l9.length:Int))):=zM (wAq)
 refine sR fL1 Z (oR Z (ze Z q6 mE) (eN (zJ (cF Z mq (ZS (zf (zf (ZN (zF (sR fL1 Z (oA Z Z (eN (zJ (sR fL7 Z (oM Z iq (oR Z (yB Z Z) (oR Z (zH Z Z ZM Z yD) (oL Z (eK.ldB (j:=1) Z Z Z yK (v:=.map (some O)) Z) (oL Z (eK.lenM (j:=2) (mk:=wBW) (mv:=wBe) Z Z Z (wBy ZQ) cm) (oR Z (za Z Z Z) (oM Z Z (eN (zX ?_)))))))))))))))))))))))
 have q:=wCT e8
 obtain ⟨xq,eQ⟩:=q
 have q:=wCS eQ
 obtain ⟨eZ,ub⟩:=q
 replace eZ:=zM eZ
 refine ya (fun a7 (dX,dY,lH) J_ w_=>∃ (U_:PHeap),J_ 55=jV (↑a7:Int)/\J_ 0=.pointer (some ⟨af,0,none⟩)/\J_ 2=.bool p2/\J_ 6=.pointer (some ⟨b4,0,none⟩)/\J_ 9=.pointer (some ⟨b8,0,none⟩)/\J_ 11=jV lH/\J_ 54=jV (w64 ((↑(p0.number.length):Int) + 1))/\PHeap.Le fS U_/\SW w [B1,.obj O (.map ab ac)] U U_ [.blk b4 133 B0,B1,.obj O (.map ab ac),.row ak am 3 1 (hD KL.encI dX),.row an ao 3 1 (hD KL.encI dY),.blk b8 133 [.slice ak dX.length am,.slice an dY.length ao]] w_/\dX.length=l9.length/\dY.length=a8.length) ub ?_ ?_ ?_
 exact ⟨fS,Z,iq,mB,mC,mD,Z,Z,(zQ _),eK,rk,Z⟩
 rintro a7 ⟨dX,dY,lH⟩ xC vF wm eU ⟨fT,jz,ir,mF,mG,mH,wR,it,lz,jN,rn,ro⟩ lj t7
 try dsimp only at lj
 have gU:Hid ((↑a7:Int) < (w64 ((↑(p0.number.length):Int) + 1))):=zM (wBQ eU)
 replace eU:=zM eU
 have uB:Hid (w64 ((↑a7:Int) + 1)=(↑(a7 + 1):Int)):=zM (by have h1:=eZ.out;have h2:=gU.out;rw [wAY] <;> omega)
 refine sR fL1 Z (oR Z (ze Z jz it) (eN (zJ (cT Z gU (kN (zJ (zX (sR fL1 Z (oA Z Z (eN (zJ (sR fL6 Z (oM Z ir (oR Z (yB Z Z) (oR Z (zH Z Z ZM Z yo) (oL Z (jN.ldB (j:=1) Z Z Z Tryz.isAgg137 (v:=.slice aY p0.edges.length aZ) Z) (oR Z (zi Z Z Tryz.runUnderlying137) (oM Z Z (eN (zX ?_))))))))))))))))))))
 have q:=bnd lj
 obtain ⟨⟨lJ,lK,xF⟩,ud,j0⟩:=q
 try dsimp only at j0
 have q:=wBn ud
 obtain ⟨e6,ue⟩:=q
 replace e6:=zM e6
 refine CK.forN' (fun aH (aj,av,lI) J_ w_=>∃ (U_:PHeap),J_ 62=jV (↑aH:Int)/\J_ 0=.pointer (some ⟨af,0,none⟩)/\J_ 2=.bool p2/\J_ 6=.pointer (some ⟨b4,0,none⟩)/\J_ 9=.pointer (some ⟨b8,0,none⟩)/\J_ 11=jV lI/\J_ 54=jV (w64 ((↑(p0.number.length):Int) + 1))/\J_ 55=jV (↑a7:Int)/\J_ 60=.slice aY p0.edges.length aZ/\J_ 61=jV (↑p0.edges.length:Int)/\PHeap.Le fT U_/\SW w [B1,.obj O (.map ab ac)] U U_ [.blk b4 133 B0,B1,.obj O (.map ab ac),.row ak am 3 1 (hD KL.encI aj),.row an ao 3 1 (hD KL.encI av),.blk b8 133 [.slice ak aj.length am,.slice an av.length ao]] w_/\aj.length=l9.length/\av.length=a8.length) ue ?_ ?_ ?_
 exact ⟨fT,Z,ir,mF,mG,mH,Z,it,jz,Z,Z,(zQ _),jN,rn,ro⟩
 rintro aH ⟨aj,av,lI⟩ xD vG wn eV ⟨ay,bf,cb,bC,cc,aV,dO,cd,cf,bD,bE,lA,jO,cg,cj⟩ lk
 try dsimp only at lk
 have gV:Hid ((↑aH:Int) < (↑p0.edges.length:Int)):=zM (wBQ eV)
 replace eV:=zM eV
 have uC:Hid (w64 ((↑aH:Int) + 1)=(↑(aH + 1):Int)):=zM (by have h1:=e6.out;have h2:=gV.out;rw [wAY] <;> omega)
 refine sR fL1 Z (oR Z (ze Z bf bE) (eN (zJ (cT Z gV (kN ?_)))))
 have q:=bnd lk
 obtain ⟨⟨fb,fc,vz⟩,u7,j5⟩:=q
 try dsimp only at j5
 refine yX (fun J_ w_=>∃ (U_:PHeap),J_ 0=.pointer (some ⟨af,0,none⟩)/\J_ 2=.bool p2/\J_ 6=.pointer (some ⟨b4,0,none⟩)/\J_ 9=.pointer (some ⟨b8,0,none⟩)/\J_ 11=jV vz/\J_ 54=jV (w64 ((↑(p0.number.length):Int) + 1))/\J_ 55=jV (↑a7:Int)/\J_ 60=.slice aY p0.edges.length aZ/\J_ 61=jV (↑p0.edges.length:Int)/\J_ 62=jV (↑aH:Int)/\PHeap.Le ay U_/\SW w [B1,.obj O (.map ab ac)] U U_ [.blk b4 133 B0,B1,.obj O (.map ab ac),.row ak am 3 1 (hD KL.encI fb),.row an ao 3 1 (hD KL.encI fc),.blk b8 133 [.slice ak fb.length am,.slice an fc.length ao]] w_/\fb.length=l9.length/\fc.length=a8.length) ?_ ?_
 refine zX (sR (wDd (.fx 3 (.fl 4 (.fx 5 .nil .stop)) .stop)) Z (oM Z bf (bnK u7 fun ai jA uH=>?_)))
 have rp:=t6.le vg
 have rq:=rp.le vh
 have rv:=rq.le lz
 have rx:=rv.le lA
 have q:=rx.el (fun _=>rfl) (wAb jA)
 obtain ⟨wJ,xp,rY,rZ⟩:=q
 refine oR Z (ZZ Z bD rY bf Tryz.runUnderlying137 Tryz.sizeOf184 (wCc jA)) (oL Z (jO.ldCA (f:=0) rZ Z Z Tryz.isAgg184 Tryz.sizeOf184 (us:=[jV ai.step.Kind,jV ai.step.Skier,jV ai.step.Index,.bool ai.step.Up,jV ai.from_,jV ai.to_,jV ai.count]) Z Z) (zU (cs:=[jV 0,jV 0,jV 0,.bool false,jV 0,jV 0,jV 0]) Z Z Z Z Z Tryz.zeroValue184 Z jO ?_))
 intro wo aK sP
 refine oA Z Z ?_
 let ax:List Value:=[jV ai.step.Kind,jV ai.step.Skier,jV ai.step.Index,.bool ai.step.Up,jV ai.from_,jV ai.to_,jV ai.count]
 refine zY (j:=0) (vs:=ax) Z Z Z Z sP Z Z Z Z Tryz.sizeOf184 (zA Z) Z Z Z ?_
 intro ef sQ
 let aQ:Res:=.row an ao 3 1 (hD KL.encI av)
 let be:Res:=.blk b8 133 [.slice ak aj.length am,.slice an av.length ao]
 have sS:SW w [B1,.obj O (.map ab ac)] U ay [.blk aK 184 ax,.blk b4 133 B0,B1,.obj O (.map ab ac),.row ak am 3 1 (hD KL.encI aj),aQ,be] ef:=sQ
 refine eN (zJ (ZI ZD [3,1,3,1,3,3] fL6 (by kernel_rfl) ?_))
 have cY:=sS.drew
 generalize hw_W1431:({ ef with drawn:=ef.drawn + 1 }:World)=dz at cY ⊢
 refine oR Z (zH Z Z yj Z zE) (oL Z (cY.ldB (j:=0) Z Z Z zK (v:=jV ai.from_) Z) (oR Z (zH Z Z yj Z zE) (oL Z (cY.ldB (j:=0) Z Z Z zK (v:=jV ai.to_) Z) (oA Z Z (oA Z Z (eN (zJ (sR fL1 Z (oM Z bC (eN (ifc uH ?_ ?_)))))))))))
 intro ej uI
 refine ZK (congrArg hH ej.out) (rR fL4 rfl (ZE rfl rfl rfl rfl rfl rfl (ZE rfl rfl rfl rfl rfl rfl (yY rfl rfl rfl rfl rfl rfl (yY rfl rfl rfl rfl rfl rfl (eN (zJ (ZI ZD [3,1,3,3,1,3,3,3,1,3,3,1,3,1,3,3,1,3,3,1,3,3] fL22 (by kernel_rfl) ?_))))))))
 have aW:=cY.drew
 generalize hw_W1435:({ dz with drawn:=dz.drawn + 1 }:World)=gk at aW ⊢
 refine oR Z (zH Z aV Zc Z zh) (oL Z (aW.ldB (j:=6) Z Z Z zk (v:=.slice ak aj.length am) Z) (oM Z Z (bnK uI fun _ ba uJ=>?_)))
 obtain ⟨wK,a0⟩:=aW.rowSome (j:=4) rfl (by rw [wAD (f:=KL.encI) (sz:=1) (fun _=>rfl) aj];have hz:=wAS ba;omega)
 refine oR Z (ZT Z Z a0 Z zG zE (wCH ba) (wCI ba)) ?_
 have uh:=wBJ (xs:=aj) (wAS ba)
 refine zx rfl rfl rfl rfl (aW.ldR (j:=4) rfl a0 rfl rfl zK (wAW (sz:=1) (fun _=>rfl) _ _ 0 _ uh (by first | omega | rfl | simp) rfl)) rfl (zg rfl rfl rfl rfl (fun _=>ze rfl rfl rfl) (ZE rfl rfl rfl rfl rfl rfl (ifc uJ ?_ ?_)))
 intro aq uK
 refine rU Z (wT Z aq) (zH Z aV Zc Z zh) (zx Z Z Z (wT Z aq) (aW.ldB (j:=6) Z Z Z zk (v:=.slice ak aj.length am) Z) Z (ZE Z Z Z (wT Z aq) Z Z (rU Z (wT Z aq) (ZT Z Z a0 Z zG zE (wCH ba) (wCI ba)) ?_)))
 have ui:=wBJ (xs:=aj) (wAS ba)
 refine zx rfl rfl rfl (zN rfl rfl (Zh aq.out)) (aW.ldR (j:=4) rfl a0 rfl rfl zK (wAW (sz:=1) (fun _=>rfl) _ _ 0 _ ui (by first | omega | rfl | simp) rfl)) rfl (zg rfl rfl rfl (zN rfl rfl (Zh aq.out)) (fun _=>zH rfl rfl yj rfl zE) (zx rfl rfl rfl (zN rfl rfl (Zh aq.out)) (aW.ldB (j:=0) rfl rfl rfl zK (v:=jV ai.count) rfl) rfl (zg rfl rfl rfl (zN rfl rfl (Zh aq.out)) (fun _=>za rfl rfl rfl) (zg rfl rfl rfl (zN rfl rfl (Zh aq.out)) (fun _=>zH rfl aV Zc rfl zh) (zx rfl rfl rfl (zN rfl rfl (Zh aq.out)) (aW.ldB (j:=6) rfl rfl rfl zk (v:=.slice ak aj.length am) rfl) rfl (ZE rfl rfl rfl (zN rfl rfl (Zh aq.out)) rfl rfl (bnK uK fun _ bg uL=>zg rfl rfl rfl (zN rfl rfl (Zh aq.out)) (fun _=>ZT rfl rfl a0 rfl zG zE (wCH bg) (wCI bg)) ?_)))))))
 have uj:=wBJ (xs:=aj) (wAS bg)
 refine zx rfl rfl rfl (zN rfl rfl (Zh aq.out)) (aW.ldR (j:=4) rfl a0 rfl rfl zK (wAW (sz:=1) (fun _=>rfl) _ _ 0 _ uj (by first | omega | rfl | simp) rfl)) rfl (zg rfl rfl rfl (zN rfl rfl (Zh aq.out)) (fun _=>ze rfl rfl rfl) (zg rfl rfl rfl rfl (fun _=>zS rfl (Zh aq.out) rfl) (eN (ifc uL ?_ ?_))))
 intro ek uM
 refine cT Z ek ?_
 have q:=bnd uM
 obtain ⟨⟨⟩,u8,j6⟩:=q
 try dsimp only at j6
 let aR:Res:=.row ak am 3 1 (hD KL.encI (nK aj ai.from_.toNat (w64 ((gd aj ai.to_.toNat) + ai.count))))
 let cA:Res:=.blk b8 133 [.slice ak ((nK aj ai.from_.toNat (w64 ((gd aj ai.to_.toNat) + ai.count))).length) am,.slice an ((nK av ai.from_.toNat (↑aH:Int)).length) ao]
 let bs:Res:=.row an ao 3 1 (hD KL.encI (nK av ai.from_.toNat (↑aH:Int)))
 refine yX (fun J_ w_=>∃ (U_:PHeap),J_ 0=.pointer (some ⟨af,0,none⟩)/\J_ 2=.bool p2/\J_ 6=.pointer (some ⟨b4,0,none⟩)/\J_ 9=.pointer (some ⟨b8,0,none⟩)/\J_ 15=jV ai.from_/\J_ 54=jV (w64 ((↑(p0.number.length):Int) + 1))/\J_ 55=jV (↑a7:Int)/\J_ 60=.slice aY p0.edges.length aZ/\J_ 61=jV (↑p0.edges.length:Int)/\J_ 62=jV (↑aH:Int)/\PHeap.Le ay U_/\SW w [B1,.obj O (.map ab ac)] U U_ [.blk aK 184 ax,.blk b4 133 B0,B1,.obj O (.map ab ac),aR,bs,cA] w_) ?_ ?_
 refine yt fun aT aO=>?_
 have iu:aT 0=.pointer (some ⟨af,0,none⟩):=(aO 0).trans cb
 have iv:aT 2=.bool p2:=(aO 2).trans bC
 have iw:aT 6=.pointer (some ⟨b4,0,none⟩):=(aO 6).trans cc
 have cV:aT 9=.pointer (some ⟨b8,0,none⟩):=(aO 9).trans aV
 have mI:aT 12=jV (↑aH:Int):=(aO 12).trans rfl
 have mJ:aT 13=.pointer (some ⟨aK,0,none⟩):=(aO 13).trans rfl
 have mK:aT 14=jV ai.to_:=(aO 14).trans rfl
 have dP:aT 15=jV ai.from_:=(aO 15).trans rfl
 have ix:aT 54=jV (w64 ((↑(p0.number.length):Int) + 1)):=(aO 54).trans cd
 have iy:aT 55=jV (↑a7:Int):=(aO 55).trans cf
 have iz:aT 60=.slice aY p0.edges.length aZ:=(aO 60).trans bD
 have iA:aT 61=jV (↑p0.edges.length:Int):=(aO 61).trans bE
 have iB:aT 62=jV (↑aH:Int):=(aO 62).trans bf
 clear aO
 refine bnK u8 fun _ bb j7=>ZI ZD [3,1,3,3,2,3,3,1,3,3,1,3,1,3,3,3,0,3,0] (wEN (wMx gDf)) (by kernel_rfl) ?_
 have bj:=aW.drew
 generalize hw_W1484:({ gk with drawn:=gk.drawn + 1 }:World)=wp at bj ⊢
 refine oR Z (zH Z cV Zc Z zh) (oL Z (bj.ldB (j:=6) Z Z Z zk (v:=.slice ak aj.length am) Z) (oM Z dP (oR Z (zH Z cV Zc Z zh) (oM Z dP (oR Z (zH Z cV Zc Z zh) (oL Z (bj.ldB (j:=6) Z Z Z zk (v:=.slice ak aj.length am) Z) (oM Z mK (oR Z (ZT Z Z a0 Z zG zE (wCH ba) (wCI ba)) ?_))))))))
 have uk:=wBJ (xs:=aj) (wAS ba)
 refine zx rfl rfl rfl rfl (bj.ldR (j:=4) rfl a0 rfl rfl zK (wAW (sz:=1) (fun _=>rfl) _ _ 0 _ uk (by first | omega | rfl | simp) rfl)) rfl (zg rfl rfl rfl rfl (fun _=>zH rfl mJ yj rfl zE) (zx rfl rfl rfl rfl (bj.ldB (j:=0) rfl rfl rfl zK (v:=jV ai.count) rfl) rfl (zg rfl rfl rfl rfl (fun _=>za rfl rfl rfl) (ZE rfl rfl rfl rfl rfl mI (zg rfl rfl rfl rfl (fun _=>ZT rfl rfl a0 rfl zG zE (wCH bg) (wCI bg)) (ZB ?_ ?_))))))
 refine Zi Z Z Z Z (bj.ldB (j:=6) Z Z Z zk (v:=.slice an av.length ao) Z) ?_
 have ul:=wBJ (xs:=aj) (wAS bg)
 refine yp (j:=4) (vs:=[jV (w64 ((gd aj ai.to_.toNat) + ai.count))]) (cs':=hD KL.encI (nK aj ai.from_.toNat (w64 ((gd aj ai.to_.toNat) + ai.count)))) rfl rfl rfl rfl bj rfl a0 rfl rfl rfl zE (by rw [wAD (f:=KL.encI) (sz:=1) (fun _=>rfl)];have hz:=wAS bg;show _ + 1 <= _;first | omega | (simp only [nI];omega) | (simp only [nH,nB,nD];omega)) rfl (wDX (sz:=1) (fo:=0) (fun _=>rfl) _ _ _ _ ul (by first | omega | (simp only [nI];omega) | (simp only [nH,nB,nD];omega)) (zA rfl) rfl) rfl ?_
 intro gm sT
 have sU:SW w [B1,.obj O (.map ab ac)] U ay [.blk aK 184 ax,.blk b4 133 B0,B1,.obj O (.map ab ac),aR,aQ,be] gm:=sT
 let dv:Res:=.blk b8 133 [.slice ak ((nK aj ai.from_.toNat (w64 ((gd aj ai.to_.toNat) + ai.count))).length) am,.slice an av.length ao]
 have jP:SW w [B1,.obj O (.map ab ac)] U ay [.blk aK 184 ax,.blk b4 133 B0,B1,.obj O (.map ab ac),aR,aQ,dv] gm:=by simpa only [B0,B1,ax,aQ,be,aR,dv,nJ] using sU
 obtain ⟨wL,jE⟩:=jP.rowSome (j:=5) rfl (by rw [wAD (f:=KL.encI) (sz:=1) (fun _=>rfl) av];have hz:=wAS bb;omega)
 refine oR Z (ZT Z Z jE Z zG zE (wCH bb) (wCI bb)) ?_
 have um:=wBJ (xs:=av) (wAS bb)
 refine yp (j:=5) (vs:=[jV (↑aH:Int)]) (cs':=hD KL.encI (nK av ai.from_.toNat (↑aH:Int))) rfl rfl rfl rfl jP rfl jE rfl rfl rfl zE (by rw [wAD (f:=KL.encI) (sz:=1) (fun _=>rfl)];have hz:=wAS bb;show _ + 1 <= _;first | omega | (simp only [nI];omega) | (simp only [nH,nB,nD];omega)) rfl (wDX (sz:=1) (fo:=0) (fun _=>rfl) _ _ _ _ um (by first | omega | (simp only [nI];omega) | (simp only [nH,nB,nD];omega)) (zA rfl) rfl) rfl ?_
 intro gp sV
 have sX:SW w [B1,.obj O (.map ab ac)] U ay [.blk aK 184 ax,.blk b4 133 B0,B1,.obj O (.map ab ac),aR,bs,dv] gp:=sV
 have sY:SW w [B1,.obj O (.map ab ac)] U ay [.blk aK 184 ax,.blk b4 133 B0,B1,.obj O (.map ab ac),aR,bs,cA] gp:=by simpa only [B0,B1,ax,aR,cA,bs,dv,nJ] using sX
 refine zb ?_
 cases j7
 exact zF ⟨Z,⟨ay,iu,iv,iw,cV,dP,ix,iy,iz,iA,iB,(zQ _),sY⟩⟩
 have uo:=wBJ (xs:=aj) (wAS bg)
 refine yp (j:=4) (vs:=[jV (w64 ((gd aj ai.to_.toNat) + ai.count))]) (cs':=hD KL.encI (nK aj ai.from_.toNat (w64 ((gd aj ai.to_.toNat) + ai.count)))) rfl rfl rfl rfl bj rfl a0 rfl rfl rfl zE (by rw [wAD (f:=KL.encI) (sz:=1) (fun _=>rfl)];have hz:=wAS bg;show _ + 1 <= _;first | omega | (simp only [nI];omega) | (simp only [nH,nB,nD];omega)) rfl (wDX (sz:=1) (fo:=0) (fun _=>rfl) _ _ _ _ uo (by first | omega | (simp only [nI];omega) | (simp only [nH,nB,nD];omega)) (zA rfl) rfl) rfl ?_
 intro gq sZ
 have s3:SW w [B1,.obj O (.map ab ac)] U ay [.blk aK 184 ax,.blk b4 133 B0,B1,.obj O (.map ab ac),aR,aQ,be] gq:=sZ
 let dw:Res:=.blk b8 133 [.slice ak ((nK aj ai.from_.toNat (w64 ((gd aj ai.to_.toNat) + ai.count))).length) am,.slice an av.length ao]
 have eL:SW w [B1,.obj O (.map ab ac)] U ay [.blk aK 184 ax,.blk b4 133 B0,B1,.obj O (.map ab ac),aR,aQ,dw] gq:=by simpa only [B0,B1,ax,aQ,be,aR,dw,nJ] using s3
 refine Zi Z Z Z Z (eL.ldB (j:=6) Z Z Z zk (v:=.slice an av.length ao) Z) ?_
 obtain ⟨wM,jF⟩:=eL.rowSome (j:=5) rfl (by rw [wAD (f:=KL.encI) (sz:=1) (fun _=>rfl) av];have hz:=wAS bb;omega)
 refine oR Z (ZT Z Z jF Z zG zE (wCH bb) (wCI bb)) ?_
 have uq:=wBJ (xs:=av) (wAS bb)
 refine yp (j:=5) (vs:=[jV (↑aH:Int)]) (cs':=hD KL.encI (nK av ai.from_.toNat (↑aH:Int))) rfl rfl rfl rfl eL rfl jF rfl rfl rfl zE (by rw [wAD (f:=KL.encI) (sz:=1) (fun _=>rfl)];have hz:=wAS bb;show _ + 1 <= _;first | omega | (simp only [nI];omega) | (simp only [nH,nB,nD];omega)) rfl (wDX (sz:=1) (fo:=0) (fun _=>rfl) _ _ _ _ uq (by first | omega | (simp only [nI];omega) | (simp only [nH,nB,nD];omega)) (zA rfl) rfl) rfl ?_
 intro gt s4
 have s5:SW w [B1,.obj O (.map ab ac)] U ay [.blk aK 184 ax,.blk b4 133 B0,B1,.obj O (.map ab ac),aR,bs,dw] gt:=s4
 have s6:SW w [B1,.obj O (.map ab ac)] U ay [.blk aK 184 ax,.blk b4 133 B0,B1,.obj O (.map ab ac),aR,bs,cA] gt:=by simpa only [B0,B1,ax,aR,cA,bs,dw,nJ] using s5
 refine zb ?_
 cases j7
 exact zF ⟨Z,⟨ay,iu,iv,iw,cV,dP,ix,iy,iz,iA,iB,(zQ _),s6⟩⟩
 rintro vH wq ⟨lO,mL,mM,mN,mO,mP,mQ,mR,mS,mT,mU,vi,s7⟩
 refine rR fL2 Z (oM Z mP (oA Z Z (zb (zl ?_))))
 cases j6
 exact zF ⟨rfl,⟨lO,mL,mM,mN,mO,rfl,mQ,mR,mS,mT,mU,vi,(s7.pick [1,2,3,4,5,6] _ (by decide) rfl),(nJ.trans cg),(nJ.trans cj)⟩⟩
 intro ek uN
 refine cF Z ek (Ze (zl ?_))
 cases uN
 exact zF ⟨rfl,⟨ay,cb,bC,cc,aV,dO,cd,cf,bD,bE,bf,(zQ _),(aW.pick [1,2,3,4,5,6] _ (by decide) rfl),cg,cj⟩⟩
 intro aq uO
 refine oF Z aq (oF Z aq (oF Z aq (oF Z aq (oF Z aq (oF Z aq (oF Z aq (oF Z aq (oF Z aq (oF Z aq (oF Z aq (oF Z aq (oF Z aq (oF Z aq (oR Z (zZ Z (ZL aq.out) Z) (eN (zr Z (Ze (zl ?_))))))))))))))))))
 cases uO
 exact zF ⟨rfl,⟨ay,cb,bC,cc,aV,dO,cd,cf,bD,bE,bf,(zQ _),(aW.pick [1,2,3,4,5,6] _ (by decide) rfl),cg,cj⟩⟩
 intro ej uP
 refine zr (congrArg hH (nA.2 ej.out)) (kN (zJ (ZI ZD [3,1,3,3,1,3,3,3,1,3,3,1,3,1,3,3,1,3,3,1,3,3] fL22 (by kernel_rfl) ?_)))
 have aX:=cY.drew
 generalize hw_W1538:({ dz with drawn:=dz.drawn + 1 }:World)=gu at aX ⊢
 refine oR Z (zH Z aV Zc Z zh) (oL Z (aX.ldB (j:=6) Z Z Z zk (v:=.slice ak aj.length am) Z) (oM Z Z (bnK uP fun _ bc uQ=>?_)))
 obtain ⟨wN,a5⟩:=aX.rowSome (j:=4) rfl (by rw [wAD (f:=KL.encI) (sz:=1) (fun _=>rfl) aj];have hz:=wAS bc;omega)
 refine oR Z (ZT Z Z a5 Z zG zE (wCH bc) (wCI bc)) ?_
 have ur:=wBJ (xs:=aj) (wAS bc)
 refine zx rfl rfl rfl rfl (aX.ldR (j:=4) rfl a5 rfl rfl zK (wAW (sz:=1) (fun _=>rfl) _ _ 0 _ ur (by first | omega | rfl | simp) rfl)) rfl (zg rfl rfl rfl rfl (fun _=>ze rfl rfl rfl) (ZE rfl rfl rfl rfl rfl rfl (ifc uQ ?_ ?_)))
 intro au uR
 refine rU Z (wT Z au) (zH Z aV Zc Z zh) (zx Z Z Z (wT Z au) (aX.ldB (j:=6) Z Z Z zk (v:=.slice ak aj.length am) Z) Z (ZE Z Z Z (wT Z au) Z Z (rU Z (wT Z au) (ZT Z Z a5 Z zG zE (wCH bc) (wCI bc)) ?_)))
 have uu:=wBJ (xs:=aj) (wAS bc)
 refine zx rfl rfl rfl (zN rfl rfl (Zh au.out)) (aX.ldR (j:=4) rfl a5 rfl rfl zK (wAW (sz:=1) (fun _=>rfl) _ _ 0 _ uu (by first | omega | rfl | simp) rfl)) rfl (zg rfl rfl rfl (zN rfl rfl (Zh au.out)) (fun _=>zH rfl rfl yj rfl zE) (zx rfl rfl rfl (zN rfl rfl (Zh au.out)) (aX.ldB (j:=0) rfl rfl rfl zK (v:=jV ai.count) rfl) rfl (zg rfl rfl rfl (zN rfl rfl (Zh au.out)) (fun _=>za rfl rfl rfl) (zg rfl rfl rfl (zN rfl rfl (Zh au.out)) (fun _=>zH rfl aV Zc rfl zh) (zx rfl rfl rfl (zN rfl rfl (Zh au.out)) (aX.ldB (j:=6) rfl rfl rfl zk (v:=.slice ak aj.length am) rfl) rfl (ZE rfl rfl rfl (zN rfl rfl (Zh au.out)) rfl rfl (bnK uR fun _ bh uS=>zg rfl rfl rfl (zN rfl rfl (Zh au.out)) (fun _=>ZT rfl rfl a5 rfl zG zE (wCH bh) (wCI bh)) ?_)))))))
 have uv:=wBJ (xs:=aj) (wAS bh)
 refine zx rfl rfl rfl (zN rfl rfl (Zh au.out)) (aX.ldR (j:=4) rfl a5 rfl rfl zK (wAW (sz:=1) (fun _=>rfl) _ _ 0 _ uv (by first | omega | rfl | simp) rfl)) rfl (zg rfl rfl rfl (zN rfl rfl (Zh au.out)) (fun _=>ze rfl rfl rfl) (zg rfl rfl rfl rfl (fun _=>zS rfl (Zh au.out) rfl) (eN (ifc uS ?_ ?_))))
 intro en uT
 refine cT Z en ?_
 have q:=bnd uT
 obtain ⟨⟨⟩,u9,j8⟩:=q
 try dsimp only at j8
 let aS:Res:=.row ak am 3 1 (hD KL.encI (nK aj ai.to_.toNat (w64 ((gd aj ai.from_.toNat) + ai.count))))
 let cC:Res:=.blk b8 133 [.slice ak ((nK aj ai.to_.toNat (w64 ((gd aj ai.from_.toNat) + ai.count))).length) am,.slice an ((nK av ai.to_.toNat (↑aH:Int)).length) ao]
 let bt:Res:=.row an ao 3 1 (hD KL.encI (nK av ai.to_.toNat (↑aH:Int)))
 refine yX (fun J_ w_=>∃ (U_:PHeap),J_ 0=.pointer (some ⟨af,0,none⟩)/\J_ 2=.bool p2/\J_ 6=.pointer (some ⟨b4,0,none⟩)/\J_ 9=.pointer (some ⟨b8,0,none⟩)/\J_ 15=jV ai.to_/\J_ 54=jV (w64 ((↑(p0.number.length):Int) + 1))/\J_ 55=jV (↑a7:Int)/\J_ 60=.slice aY p0.edges.length aZ/\J_ 61=jV (↑p0.edges.length:Int)/\J_ 62=jV (↑aH:Int)/\PHeap.Le ay U_/\SW w [B1,.obj O (.map ab ac)] U U_ [.blk aK 184 ax,.blk b4 133 B0,B1,.obj O (.map ab ac),aS,bt,cC] w_) ?_ ?_
 refine yt fun aU aP=>?_
 have iC:aU 0=.pointer (some ⟨af,0,none⟩):=(aP 0).trans cb
 have iD:aU 2=.bool p2:=(aP 2).trans bC
 have iE:aU 6=.pointer (some ⟨b4,0,none⟩):=(aP 6).trans cc
 have cW:aU 9=.pointer (some ⟨b8,0,none⟩):=(aP 9).trans aV
 have mV:aU 12=jV (↑aH:Int):=(aP 12).trans rfl
 have mW:aU 13=.pointer (some ⟨aK,0,none⟩):=(aP 13).trans rfl
 have mX:aU 14=jV ai.from_:=(aP 14).trans rfl
 have dQ:aU 15=jV ai.to_:=(aP 15).trans rfl
 have iF:aU 54=jV (w64 ((↑(p0.number.length):Int) + 1)):=(aP 54).trans cd
 have iG:aU 55=jV (↑a7:Int):=(aP 55).trans cf
 have iH:aU 60=.slice aY p0.edges.length aZ:=(aP 60).trans bD
 have iI:aU 61=jV (↑p0.edges.length:Int):=(aP 61).trans bE
 have iJ:aU 62=jV (↑aH:Int):=(aP 62).trans bf
 clear aP
 refine bnK u9 fun _ bd j9=>ZI ZD [3,1,3,3,2,3,3,1,3,3,1,3,1,3,3,3,0,3,0] (wEN (wMx gDf)) (by kernel_rfl) ?_
 have bk:=aX.drew
 generalize hw_W1587:({ gu with drawn:=gu.drawn + 1 }:World)=ws at bk ⊢
 refine oR Z (zH Z cW Zc Z zh) (oL Z (bk.ldB (j:=6) Z Z Z zk (v:=.slice ak aj.length am) Z) (oM Z dQ (oR Z (zH Z cW Zc Z zh) (oM Z dQ (oR Z (zH Z cW Zc Z zh) (oL Z (bk.ldB (j:=6) Z Z Z zk (v:=.slice ak aj.length am) Z) (oM Z mX (oR Z (ZT Z Z a5 Z zG zE (wCH bc) (wCI bc)) ?_))))))))
 have uw:=wBJ (xs:=aj) (wAS bc)
 refine zx rfl rfl rfl rfl (bk.ldR (j:=4) rfl a5 rfl rfl zK (wAW (sz:=1) (fun _=>rfl) _ _ 0 _ uw (by first | omega | rfl | simp) rfl)) rfl (zg rfl rfl rfl rfl (fun _=>zH rfl mW yj rfl zE) (zx rfl rfl rfl rfl (bk.ldB (j:=0) rfl rfl rfl zK (v:=jV ai.count) rfl) rfl (zg rfl rfl rfl rfl (fun _=>za rfl rfl rfl) (ZE rfl rfl rfl rfl rfl mV (zg rfl rfl rfl rfl (fun _=>ZT rfl rfl a5 rfl zG zE (wCH bh) (wCI bh)) (ZB ?_ ?_))))))
 refine Zi Z Z Z Z (bk.ldB (j:=6) Z Z Z zk (v:=.slice an av.length ao) Z) ?_
 have ux:=wBJ (xs:=aj) (wAS bh)
 refine yp (j:=4) (vs:=[jV (w64 ((gd aj ai.from_.toNat) + ai.count))]) (cs':=hD KL.encI (nK aj ai.to_.toNat (w64 ((gd aj ai.from_.toNat) + ai.count)))) rfl rfl rfl rfl bk rfl a5 rfl rfl rfl zE (by rw [wAD (f:=KL.encI) (sz:=1) (fun _=>rfl)];have hz:=wAS bh;show _ + 1 <= _;first | omega | (simp only [nI];omega) | (simp only [nH,nB,nD];omega)) rfl (wDX (sz:=1) (fo:=0) (fun _=>rfl) _ _ _ _ ux (by first | omega | (simp only [nI];omega) | (simp only [nH,nB,nD];omega)) (zA rfl) rfl) rfl ?_
 intro gv s8
 have s9:SW w [B1,.obj O (.map ab ac)] U ay [.blk aK 184 ax,.blk b4 133 B0,B1,.obj O (.map ab ac),aS,aQ,be] gv:=s8
 let dx:Res:=.blk b8 133 [.slice ak ((nK aj ai.to_.toNat (w64 ((gd aj ai.from_.toNat) + ai.count))).length) am,.slice an av.length ao]
 have jQ:SW w [B1,.obj O (.map ab ac)] U ay [.blk aK 184 ax,.blk b4 133 B0,B1,.obj O (.map ab ac),aS,aQ,dx] gv:=by simpa only [B0,B1,ax,aQ,be,aS,dx,nJ] using s9
 obtain ⟨wO,jG⟩:=jQ.rowSome (j:=5) rfl (by rw [wAD (f:=KL.encI) (sz:=1) (fun _=>rfl) av];have hz:=wAS bd;omega)
 refine oR Z (ZT Z Z jG Z zG zE (wCH bd) (wCI bd)) ?_
 have uy:=wBJ (xs:=av) (wAS bd)
 refine yp (j:=5) (vs:=[jV (↑aH:Int)]) (cs':=hD KL.encI (nK av ai.to_.toNat (↑aH:Int))) rfl rfl rfl rfl jQ rfl jG rfl rfl rfl zE (by rw [wAD (f:=KL.encI) (sz:=1) (fun _=>rfl)];have hz:=wAS bd;show _ + 1 <= _;first | omega | (simp only [nI];omega) | (simp only [nH,nB,nD];omega)) rfl (wDX (sz:=1) (fo:=0) (fun _=>rfl) _ _ _ _ uy (by first | omega | (simp only [nI];omega) | (simp only [nH,nB,nD];omega)) (zA rfl) rfl) rfl ?_
 intro gw ta
 have tb:SW w [B1,.obj O (.map ab ac)] U ay [.blk aK 184 ax,.blk b4 133 B0,B1,.obj O (.map ab ac),aS,bt,dx] gw:=ta
 have tc:SW w [B1,.obj O (.map ab ac)] U ay [.blk aK 184 ax,.blk b4 133 B0,B1,.obj O (.map ab ac),aS,bt,cC] gw:=by simpa only [B0,B1,ax,aS,cC,bt,dx,nJ] using tb
 refine zb ?_
 cases j9
 exact zF ⟨Z,⟨ay,iC,iD,iE,cW,dQ,iF,iG,iH,iI,iJ,(zQ _),tc⟩⟩
 have uz:=wBJ (xs:=aj) (wAS bh)
 refine yp (j:=4) (vs:=[jV (w64 ((gd aj ai.from_.toNat) + ai.count))]) (cs':=hD KL.encI (nK aj ai.to_.toNat (w64 ((gd aj ai.from_.toNat) + ai.count)))) rfl rfl rfl rfl bk rfl a5 rfl rfl rfl zE (by rw [wAD (f:=KL.encI) (sz:=1) (fun _=>rfl)];have hz:=wAS bh;show _ + 1 <= _;first | omega | (simp only [nI];omega) | (simp only [nH,nB,nD];omega)) rfl (wDX (sz:=1) (fo:=0) (fun _=>rfl) _ _ _ _ uz (by first | omega | (simp only [nI];omega) | (simp only [nH,nB,nD];omega)) (zA rfl) rfl) rfl ?_
 intro gx te
 have tf:SW w [B1,.obj O (.map ab ac)] U ay [.blk aK 184 ax,.blk b4 133 B0,B1,.obj O (.map ab ac),aS,aQ,be] gx:=te
 let dy:Res:=.blk b8 133 [.slice ak ((nK aj ai.to_.toNat (w64 ((gd aj ai.from_.toNat) + ai.count))).length) am,.slice an av.length ao]
 have eM:SW w [B1,.obj O (.map ab ac)] U ay [.blk aK 184 ax,.blk b4 133 B0,B1,.obj O (.map ab ac),aS,aQ,dy] gx:=by simpa only [B0,B1,ax,aQ,be,aS,dy,nJ] using tf
 refine Zi Z Z Z Z (eM.ldB (j:=6) Z Z Z zk (v:=.slice an av.length ao) Z) ?_
 obtain ⟨wP,jH⟩:=eM.rowSome (j:=5) rfl (by rw [wAD (f:=KL.encI) (sz:=1) (fun _=>rfl) av];have hz:=wAS bd;omega)
 refine oR Z (ZT Z Z jH Z zG zE (wCH bd) (wCI bd)) ?_
 have uA:=wBJ (xs:=av) (wAS bd)
 refine yp (j:=5) (vs:=[jV (↑aH:Int)]) (cs':=hD KL.encI (nK av ai.to_.toNat (↑aH:Int))) rfl rfl rfl rfl eM rfl jH rfl rfl rfl zE (by rw [wAD (f:=KL.encI) (sz:=1) (fun _=>rfl)];have hz:=wAS bd;show _ + 1 <= _;first | omega | (simp only [nI];omega) | (simp only [nH,nB,nD];omega)) rfl (wDX (sz:=1) (fo:=0) (fun _=>rfl) _ _ _ _ uA (by first | omega | (simp only [nI];omega) | (simp only [nH,nB,nD];omega)) (zA rfl) rfl) rfl ?_
 intro gy tg
 have th:SW w [B1,.obj O (.map ab ac)] U ay [.blk aK 184 ax,.blk b4 133 B0,B1,.obj O (.map ab ac),aS,bt,dy] gy:=tg
 have tj:SW w [B1,.obj O (.map ab ac)] U ay [.blk aK 184 ax,.blk b4 133 B0,B1,.obj O (.map ab ac),aS,bt,cC] gy:=by simpa only [B0,B1,ax,aS,cC,bt,dy,nJ] using th
 refine zb ?_
 cases j9
 exact zF ⟨Z,⟨ay,iC,iD,iE,cW,dQ,iF,iG,iH,iI,iJ,(zQ _),tj⟩⟩
 rintro vI wt ⟨lP,mY,mZ,m3,m4,m5,m6,m7,m8,m9,n3,vj,tl⟩
 refine rR fL2 Z (oM Z m5 (oA Z Z (zb (zl ?_))))
 cases j8
 exact zF ⟨rfl,⟨lP,mY,mZ,m3,m4,rfl,m6,m7,m8,m9,n3,vj,(tl.pick [1,2,3,4,5,6] _ (by decide) rfl),(nJ.trans cg),(nJ.trans cj)⟩⟩
 intro en uU
 refine cF Z en (Ze (zl ?_))
 cases uU
 exact zF ⟨rfl,⟨ay,cb,bC,cc,aV,dO,cd,cf,bD,bE,bf,(zQ _),(aX.pick [1,2,3,4,5,6] _ (by decide) rfl),cg,cj⟩⟩
 intro au uV
 refine oF Z au (oF Z au (oF Z au (oF Z au (oF Z au (oF Z au (oF Z au (oF Z au (oF Z au (oF Z au (oF Z au (oF Z au (oF Z au (oF Z au (oR Z (zZ Z (ZL au.out) Z) (eN (zr Z (Ze (zl ?_))))))))))))))))))
 cases uV
 exact zF ⟨rfl,⟨ay,cb,bC,cc,aV,dO,cd,cf,bD,bE,bf,(zQ _),(aX.pick [1,2,3,4,5,6] _ (by decide) rfl),cg,cj⟩⟩
 rintro vJ wu ⟨lQ,n4,n5,n6,n7,n8,n9,oa,oc,od,oe,vk,tm,ry,rz⟩
 refine rR fL2 Z (oR Z (ZP (za Z oe Z) (congrArg (jV) uC.out)) (oM Z Z (zb ?_)))
 cases j5
 exact zF ⟨Z,⟨lQ,Z,n4,n5,n6,n7,n8,n9,oa,oc,od,(lA.trans vk),tm,ry,rz⟩⟩
 rintro vK wv ⟨d7,q7,og,oh,eC,iK,iL,oi,oj,wS,ol,vl,eO,rA,rC⟩
 have mr:Hid (¬ ((↑(((↑p0.edges.length:Int):Int) - 0).toNat:Int) < (↑p0.edges.length:Int))):=zM (wAq)
 refine sR fL1 Z (oR Z (ze Z q7 ol) (eN (zJ (cF Z mr (ZS (zf (zf (ZN (zF (sR fL2 Z (oM Z iL (oR Z (ze Z Z Z) (eN (ifc j0 ?_ ?_))))))))))))))
 intro eo uW
 refine cT Z eo (sR gCy Z ?_)
 let bP:List Value:=[.slice ak lJ.length am,.slice an lK.length ao]
 refine oL Z (eO.ldBA (j:=5) Z Z iK Tryz.isAgg133 yI (vs:=bP) Z Z) (zY (j:=0) (vs:=bP) Z Z Z Z eO Z eC Z Z yI (zA Z) Z Z Z ?_)
 intro l7 tn
 have jR:SW w [B1,.obj O (.map ab ac)] U d7 [.blk b4 133 bP,B1,.obj O (.map ab ac),.row ak am 3 1 (hD KL.encI lJ),.row an ao 3 1 (hD KL.encI lK),.blk b8 133 bP] l7:=tn
 refine oA Z Z (oA Z Z (eN (zR (zo (zT ?_)))))
 have q:=wAV uW
 obtain ⟨vy,uX,mu⟩:=q
 have q:=wCY e8 eQ (t7 vy mu)
 obtain rfl:=q
 refine zT (zo (zT ?_))
 cases uX
 exact ⟨rfl,_,(wER (rs:=[.cell 6 133,.tmp 7,.tmp 8]) (vs:=[.agg bP.toArray,jV 0,.bool true]) ⟨⟨_,eC,(wBF Tryz.isAgg133 yI (jR.blkAt (k:=0) rfl) (vs:=bP) rfl rfl)⟩,⟨rfl,⟨rfl,trivial⟩⟩⟩ rfl),d7,_,(jR.pick [3,4,1,2] _ (by decide) rfl),ak,am,an,ao,rfl,rfl⟩
 intro eo uY
 refine cF Z eo (Ze (zl (zF (rR fL2 Z (oR Z (ZP (za Z oj Z) (congrArg (jV) uB.out)) (oM Z Z (zb ?_)))))))
 have q:=nE uY
 obtain rfl:=q
 exact zF ⟨Z,_,Z,⟨d7,Z,og,oh,eC,iK,iL,oi,(lz.trans vl),eO,rA,rC⟩⟩
 rintro ⟨lL,lM,vA⟩ vL ww ⟨fU,q8,wU,wV,iM,om,oo,oq,xo,jS,xg,xh⟩ t8
 have k6:=wDQ e8 eQ t8
 try dsimp only at k6
 have ms:Hid (¬ ((↑((w64 ((↑(p0.number.length):Int) + 1):Int) - 0).toNat:Int) < (w64 ((↑(p0.number.length):Int) + 1)))):=zM (wAq)
 refine sR fL1 Z (oR Z (ze Z q8 oq) (eN (zJ (cF Z ms (ZS (zf (zf (ZN (zF (sR gDg Z ?_))))))))))
 let bQ:List Value:=[.slice ak lL.length am,.slice an lM.length ao]
 refine oL Z (jS.ldBA (j:=5) Z Z om Tryz.isAgg133 yI (vs:=bQ) Z Z) (oM Z oo (zY (j:=0) (vs:=bQ) Z Z Z Z jS Z iM Z Z yI (zA Z) Z Z Z ?_))
 intro l8 tp
 have jT:SW w [B1,.obj O (.map ab ac)] U fU [.blk b4 133 bQ,B1,.obj O (.map ab ac),.row ak am 3 1 (hD KL.encI lL),.row an ao 3 1 (hD KL.encI lM),.blk b8 133 bQ] l8:=tp
 refine oA Z Z (oA Z Z (eN (zR ?_)))
 cases k6
 exact ⟨rfl,_,(wER (rs:=[.cell 6 133,.tmp 7,.tmp 8]) (vs:=[.agg bQ.toArray,jV vA,.bool false]) ⟨⟨_,iM,(wBF Tryz.isAgg133 yI (jT.blkAt (k:=0) rfl) (vs:=bQ) rfl rfl)⟩,⟨rfl,⟨rfl,trivial⟩⟩⟩ rfl),fU,_,(jT.pick [3,4,1,2] _ (by decide) rfl),ak,am,an,ao,rfl,rfl⟩
end Go.Proofs.YtlnfbjphfoipaaaGreat
namespace Go.Proofs.YtlnfbjphfoipaaaGreat
open Go.KL
set_option maxHeartbeats 4000000
theorem wCR (O:wAh) (aj:Nat) (ae:Option Addr) (ak:Nat) (af:Option Addr) (am:Nat) (ag:Option Addr) (an:Nat) (ah:Option Addr) (ao:Nat) (aa:Nat) (ab:Array MapEntry) (ac:Nat) (ai:Option Addr) (ap:Nat) (w:World) (U:PHeap) (hS:St0 w U [.blk aj 139 [.slice ae O.Race.Starts.length ak,.slice af O.Race.Splits.length am,.slice ag O.Race.Clocks.length an,.slice ah O.Race.Readings.length ao,.map (some aa),.slice ai O.edges.length ap],.obj aa (.map ab ac)]) (aV:Sl U 1 ae ak O.Race.Starts.length (hD KL.encI O.Race.Starts)) (aW:Sl U 2 af am O.Race.Splits.length (hD wAC O.Race.Splits)) (aX:Sl U 3 ag an O.Race.Clocks.length (hD wAE O.Race.Clocks)) (aY:Sl U 4 ah ao O.Race.Readings.length (hD wAB O.Race.Readings)) (aZ:MpR ab wBW wBe O.number) (a0:Sl U 7 ai ap O.edges.length (hD wAO O.edges)) {r:Bool} (hm:wAj O=some r):Gv Tryz.prog 81 [.pointer (some ⟨aj,0,none⟩)] w (wCF w [.blk aj 139 [.slice ae O.Race.Starts.length ak,.slice af O.Race.Splits.length am,.slice ag O.Race.Clocks.length an,.slice ah O.Race.Readings.length ao,.map (some aa),.slice ai O.edges.length ap],.obj aa (.map ab ac)] U (fun U_ L_ v=>v=.bool r/\L_=[.blk aj 139 [.slice ae O.Race.Starts.length ak,.slice af O.Race.Splits.length am,.slice ag O.Race.Clocks.length an,.slice ah O.Race.Readings.length ao,.map (some aa),.slice ai O.edges.length ap],.obj aa (.map ab ac)])):=by
 unfold wAj at hm
 refine Gv.of Tryz.func81 Z Tryz.ntmps81 Tryz.results81 Z (sR fL1 Z (oA Z Z (eN (sR (.fl 0 (.fx 1 (wNk (.fx 6 gCn .stop)) .stop)) Z (oM Z Z ?_)))))
 have q:=bnd hm
 obtain ⟨⟨x3,x4,x5⟩,h6,aL⟩:=q
 try dsimp only at aL
 refine zC 2 Z Z Z Z (zD Z Z Tryz.call74 (zB Z (zB Z (zB Z zL))) Z) hS (fun hs=>wBi O aj ae ak af am ag an ah ao aa ab ac ai ap (-1) false w U hs aV aW aX aY aZ a0 h6) (.inl Z) ?_
 rintro U8 L9 ba aM a9 aQ ⟨av,az,ax,aH,rfl,rfl⟩
 let B0:Res:=.blk aj 139 [.slice ae O.Race.Starts.length ak,.slice af O.Race.Splits.length am,.slice ag O.Race.Clocks.length an,.slice ah O.Race.Readings.length ao,.map (some aa),.slice ai O.edges.length ap]
 let B1:Res:=.row av az 3 1 (hD KL.encI x3.far)
 let B2:Res:=.row ax aH 3 1 (hD KL.encI x3.by_)
 have aR:SW w [B0,.obj aa (.map ab ac)] U U8 [B1,B2,B0,.obj aa (.map ab ac)] aM:=aQ
 refine oM Z Z (oR Z (zV Z Z (v:=.agg #[.slice av x3.far.length az,.slice ax x3.by_.length aH]) Z) (oR Z (zV Z Z (v:=jV x4) Z) (oR Z (zV Z Z (v:=.bool x5) Z) (zU (cs:=[.slice none 0 0,.slice none 0 0]) Z Z Z Z Z Zo Z aR ?_))))
 intro a8 aO aS
 let B3:List Value:=[.slice av x3.far.length az,.slice ax x3.by_.length aH]
 refine zY (j:=0) (vs:=B3) Z Z Z Z aS Z Z Z Z yI (zA Z) Z Z Z ?_
 intro aN aT
 have aU:SW w [B0,.obj aa (.map ab ac)] U U8 [.blk aO 133 B3,B1,B2,B0,.obj aa (.map ab ac)] aN:=aT
 refine oA Z Z (oA Z Z (eN (sR fL2 Z (oM Z Z (oA Z Z (eN (zR ?_)))))))
 have hE:=nE aL;first | subst r | cases hE
 exact ⟨rfl,_,(ZH rfl),U8,_,(aU.pick [3,4] _ (by decide) rfl),rfl,rfl⟩
theorem wEk (O:wAA) (ak:Option Addr) (ap:Nat) (am:Option Addr) (aq:Nat) (an:Option Addr) (au:Nat) (ao:Option Addr) (av:Nat) (p1:List wAL) (aN:Option Addr) (aO:Nat) (w:World) (U:PHeap) (hS:St0 w U []) (bb:Sl U 1 ak ap O.Starts.length (hD KL.encI O.Starts)) (bc:Sl U 2 am aq O.Splits.length (hD wAC O.Splits)) (bd:Sl U 3 an au O.Clocks.length (hD wAE O.Clocks)) (be:Sl U 4 ao av O.Readings.length (hD wAB O.Readings)) (bw:Sl U 2 aN aO p1.length (hD wAT p1)) {r:(Option wAh) × Int} (hm:wCv O p1=some r):Gv Tryz.prog 63 [.agg #[.slice ak O.Starts.length ap,.slice am O.Splits.length aq,.slice an O.Clocks.length au,.slice ao O.Readings.length av],.slice aN p1.length aO] w (wCF w [] U (fun U_ L_ v=>match r.1 with | none=>v=.tuple #[.pointer none,jV r.2]/\L_=[] | some d=>∃ (b0:Nat) (A0p00:Option Addr) (c0p00:Nat) (A0p01:Option Addr) (c0p01:Nat) (A0p02:Option Addr) (c0p02:Nat) (A0p03:Option Addr) (c0p03:Nat) (m0p1:Nat) (es0p1:Array MapEntry) (ck0p1:Nat) (A0p2:Option Addr) (c0p2:Nat),v=.tuple #[.pointer (some ⟨b0,0,none⟩),jV r.2]/\L_=[.blk b0 139 [.slice A0p00 d.Race.Starts.length c0p00,.slice A0p01 d.Race.Splits.length c0p01,.slice A0p02 d.Race.Clocks.length c0p02,.slice A0p03 d.Race.Readings.length c0p03,.map (some m0p1),.slice A0p2 d.edges.length c0p2],.obj m0p1 (.map es0p1 ck0p1)]/\Sl U_ 1 A0p00 c0p00 d.Race.Starts.length (hD KL.encI d.Race.Starts)/\Sl U_ 2 A0p01 c0p01 d.Race.Splits.length (hD wAC d.Race.Splits)/\Sl U_ 3 A0p02 c0p02 d.Race.Clocks.length (hD wAE d.Race.Clocks)/\Sl U_ 4 A0p03 c0p03 d.Race.Readings.length (hD wAB d.Race.Readings)/\MpR es0p1 wBW wBe d.number/\Sl U_ 7 A0p2 c0p2 d.edges.length (hD wAO d.edges))):=by
 unfold wCv at hm
 refine Gv.of Tryz.func63 Z Tryz.ntmps63 Tryz.results63 Z (sR gCm Z ?_)
 let B0:List Value:=[.slice ak O.Starts.length ap,.slice am O.Splits.length aq,.slice an O.Clocks.length au,.slice ao O.Readings.length av]
 refine zq (cs:=B0) rfl rfl rfl rfl rfl rfl (by rfl) hS ?_
 intro W1 b2 bu
 refine oA Z Z (oA Z Z (eN (sR (.fl 0 (.fx 1 (wFy (.nil)) .stop)) Z (oL Z (bu.ldBA (j:=0) Z Z Z zn zc (vs:=B0) Z Z) ?_))))
 have q:=bnd hm
 obtain ⟨⟨x5,x6⟩,h7,ax⟩:=q
 try dsimp only at ax
 refine zC 0 Z Z Z Z (zD Z Z Tryz.call80 (zB Z zL) Z) bu (fun hs=>wEj O ak ap am aq an au ao av W1 U hs bb bc bd be h7) (.inr Z) ?_
 rintro U9 cI cO aI ab bt br
 rcases x5 with _ | ac
 try dsimp only at ax
 obtain ⟨rfl,rfl⟩:=br
 have a9:sW w U U9 [.blk b2 27 B0] aI:=bt
 refine oM Z Z (oR Z (zV Z Z (v:=.pointer none) Z) (oR Z (zV Z Z (v:=jV x6) Z) (oA Z Z (oA Z Z (eN (zJ (zX (sR fL3 Z (oM Z Z (oR Z (Zb Z Z Z) (oA Z Z (eN (ifc ax ?_ ?_)))))))))))))
 intro a5 cw
 refine zr (ZL (fun h=>h a5.out)) (sR (wDd gCr) Z (oM Z Z (oL Z (a9.ldBA (j:=0) Z Z Z zn zc (vs:=B0) Z Z) (oR Z (Runs.mkf Z (zB Z zL) zL) ?_))))
 have bI:=bw.le ab
 have bJ:=bb.le ab
 have bK:=bc.le ab
 have bL:=bd.le ab
 have bM:=be.le ab
 have cd:FnOK Tryz.prog U9 (.func (.func 99) #[.agg B0.toArray] #[]) wNI wNJ (fun x=>wAp O x):=⟨99,[.agg B0.toArray],[],rfl,Tryz.call99,fun U1 w1 x y vs le hs ha hm=>by obtain rfl:=ha;exact wCz O ak ap am aq an au ao av x w1 U1 hs (bJ.le le) (bK.le le) (bL.le le) (bM.le le) hm⟩
 refine bnK cw fun cR bN cx=>zC 0 Z Z Z Z (zD Z Z Tryz.call119 (zB Z (zB Z zL)) Z) a9 (fun hs=>wDo p1 aN aO (fun x=>wAp O x) (.func (.func 99) #[.agg B0.toArray] #[]) aI U9 hs bI cd bN) (.inr Z) ?_
 rintro bh cK cP bC cM cj ⟨rfl,rfl⟩
 have cm:sW w U bh [.blk b2 27 B0] bC:=cj
 refine oR Z (ZY Z Z) (oA Z Z (eN (ifc cx ?_ ?_)))
 intro a6 cy
 refine zr (nC a6.out) (sR gCy Z (oM Z Z ?_))
 cases cy
 intro a6 cz
 refine ZK (nF (a6.out)) (sR fL2 Z (oA Z Z (oA Z Z (eN (zR (zo (zT ?_)))))))
 cases cz
 exact ⟨rfl,_,(wDk rfl rfl),bh,_,(cm.pick [] _ (by decide) rfl),rfl,rfl⟩
 intro a5 cA
 refine cT Z a5 (sR fL3 Z (oM Z Z (oA Z Z (oA Z Z (eN (zR (zo (zT ?_))))))))
 cases cA
 exact ⟨rfl,_,(wDk rfl rfl),U9,_,(a9.pick [] _ (by decide) rfl),rfl,rfl⟩
 try dsimp only at ax
 obtain ⟨aJ,aP,aX,aQ,aY,aR,aZ,aS,a0,af,ai,ah,az,aK,rfl,rfl,bO,bP,bQ,bR,bm⟩:=br
 let B1:Res:=.blk aJ 139 [.slice aP ac.Race.Starts.length aX,.slice aQ ac.Race.Splits.length aY,.slice aR ac.Race.Clocks.length aZ,.slice aS ac.Race.Readings.length a0,.map (some af),.slice az ac.edges.length aK]
 let B2:Res:=.row az aK 184 7 (hD wAO ac.edges)
 have ba:sW w U U9 [B1,.obj af (.map ai ah),B2,.blk b2 27 B0] aI:=bt
 refine oM Z Z (oR Z (zV Z Z (v:=.pointer (some ⟨aJ,0,none⟩)) Z) (oR Z (zV Z Z (v:=jV x6) Z) (oA Z Z (oA Z Z (eN (zJ (zX (sR fL3 Z (oM Z Z (oR Z (Zb Z Z Z) (oA Z Z (eN (ifc ax ?_ ?_)))))))))))))
 intro a7 cC
 refine zr (ZL (fun h=>h a7.out)) (sR (wDd gCr) Z (oM Z Z (oL Z (ba.ldBA (j:=3) Z Z Z zn zc (vs:=B0) Z Z) (oR Z (Runs.mkf Z (zB Z zL) zL) ?_))))
 have bS:=bw.le ab
 have bT:=bb.le ab
 have bU:=bc.le ab
 have bV:=bd.le ab
 have bW:=be.le ab
 have cf:FnOK Tryz.prog U9 (.func (.func 99) #[.agg B0.toArray] #[]) wNI wNJ (fun x=>wAp O x):=⟨99,[.agg B0.toArray],[],rfl,Tryz.call99,fun U1 w1 x y vs le hs ha hm=>by obtain rfl:=ha;exact wCz O ak ap am aq an au ao av x w1 U1 hs (bT.le le) (bU.le le) (bV.le le) (bW.le le) hm⟩
 refine bnK cC fun cS bY cD=>zC 0 Z Z Z Z (zD Z Z Tryz.call119 (zB Z (zB Z zL)) Z) ba (fun hs=>wDo p1 aN aO (fun x=>wAp O x) (.func (.func 99) #[.agg B0.toArray] #[]) aI U9 hs bS cf bY) (.inr Z) ?_
 rintro bi cL cQ aV aL cn ⟨rfl,rfl⟩
 have bv:sW w U bi [B1,.obj af (.map ai ah),B2,.blk b2 27 B0] aV:=cn
 refine oR Z (ZY Z Z) (oA Z Z (eN (ifc cD ?_ ?_)))
 intro a8 cE
 refine zr (nC a8.out) (sR gCy Z (oM Z Z ?_))
 have q:=bv.freezeR (k:=2) (n:=ac.edges.length) rfl (wAD (f:=wAO) (sz:=7) (fun _=>rfl) ac.edges) (by decide)
 obtain ⟨bj,aM,bx,co⟩:=q
 have cp:sW w U bj [B1,.obj af (.map ai ah),.blk b2 27 B0] aV:=co
 have bZ:=bO.le aL
 have bn:=bZ.le aM
 have b5:=bP.le aL
 have bo:=b5.le aM
 have ca:=bQ.le aL
 have bp:=ca.le aM
 have cb:=bR.le aL
 have bq:=cb.le aM
 refine bnK cE fun cU cc cG=>zC 2 Z Z Z Z (zD Z Z Tryz.call81 (zB Z zL) Z) cp (fun hs=>wCR ac aJ aP aX aQ aY aR aZ aS a0 af ai ah az aK aV bj hs bn bo bp bq bm bx cc) (.inl Z) ?_
 rintro aU cJ cN bB ay cg ⟨rfl,rfl⟩
 have bs:sW w U aU [B1,.obj af (.map ai ah),.blk b2 27 B0] bB:=cg
 refine oR Z (ZY Z Z) (oA Z Z (eN (ifc cG ?_ ?_)))
 intro aW cq
 refine zr (nC aW.out) (Ze (zl (zF (sR fL3 Z (oM Z Z (oA Z Z (oA Z Z (eN (zR ?_)))))))))
 have bD:=bn.le ay
 have bE:=bo.le ay
 have bF:=bp.le ay
 have bG:=bq.le ay
 have bH:=bx.le ay
 cases cq
 exact ⟨rfl,_,(wDk rfl rfl),aU,_,(bs.pick [0,1] _ (by decide) rfl),aJ,aP,aX,aQ,aY,aR,aZ,aS,a0,af,ai,ah,az,aK,rfl,rfl,bD,bE,bF,bG,bm,bH⟩
 intro aW cr
 refine ZK (nF (aW.out)) (sR fL2 Z (oA Z Z (oA Z Z (eN (zR (zo (zT ?_)))))))
 cases cr
 exact ⟨rfl,_,(wDk rfl rfl),aU,_,(bs.pick [] _ (by decide) rfl),rfl,rfl⟩
 intro a8 ct
 refine ZK (nF (a8.out)) (sR fL2 Z (oA Z Z (oA Z Z (eN (zR (zo (zT ?_)))))))
 cases ct
 exact ⟨rfl,_,(wDk rfl rfl),bi,_,(bv.pick [] _ (by decide) rfl),rfl,rfl⟩
 intro a7 cu
 refine cT Z a7 (sR fL3 Z (oM Z Z (oA Z Z (oA Z Z (eN (zR (zo (zT ?_))))))))
 cases cu
 exact ⟨rfl,_,(wDk rfl rfl),U9,_,(ba.pick [] _ (by decide) rfl),rfl,rfl⟩
theorem wBj (O:wAL) (w:World) (U:PHeap) (hS:St0 w U [])  {r:wAI} (hm:wCe O=some r):Gv Tryz.prog 66 [.agg #[jV O.Skier,jV O.Mat]] w (wCF w [] U (fun U_ L_ v=>v=.agg #[jV r.skier,jV r.mat]/\L_=[])):=by
 unfold wCe at hm
 refine Gv.of Tryz.func66 Z Tryz.ntmps66 Tryz.results66 Z (sR gCg Z ?_)
 let B0:List Value:=[jV O.Skier,jV O.Mat]
 refine zq (cs:=B0) rfl rfl rfl rfl rfl rfl (by rfl) hS ?_
 intro W1 b2 ai
 refine zU (cs:=[jV 0,jV 0]) Z Z Z Z Z zd Z ai ?_
 intro W5 b6 ab
 refine eN (sR (wHD (.fx 5 .nil .stop)) Z (oR Z (zH Z Z Tryz.runUnderlying29 Z zE) (oL Z (ab.ldB (j:=1) Z Z Z zK (v:=jV O.Skier) Z) (oR Z (zH Z Z Tryz.runUnderlying29 Z zE) (oL Z (ab.ldB (j:=1) Z Z Z zK (v:=jV O.Mat) Z) (oR Z (zu (pv:=[(0,jV O.Skier),(1,jV O.Mat)]) (z:=[jV 0,jV 0]) (cs:=B0) Z (wAG Z (wAG Z wAP)) zd wBg Z Z) (zY (j:=0) (vs:=B0) Z Z Z Z ab Z Z Z Z zI (zA Z) Z Z Z ?_)))))))
 intro W9 ah
 have ac:sW w U U [.blk b6 123 B0,.blk b2 29 B0] W9:=ah
 refine eN (zR ?_)
 cases hm
 exact ⟨rfl,_,(wGy (v:=.agg B0.toArray) ⟨⟨_,rfl,(wBF zj zI (ac.blkAt (k:=0) rfl) (vs:=B0) rfl rfl)⟩,trivial⟩),U,_,(ac.pick [] _ (by decide) rfl),rfl,rfl⟩
theorem wAm (O:wAh) (au:Nat) (az:Option Addr) (aL:Nat) (aH:Option Addr) (aM:Nat) (aI:Option Addr) (aN:Nat) (aJ:Option Addr) (aO:Nat) (aa:Nat) (ab:Array MapEntry) (ac:Nat) (aK:Option Addr) (aP:Nat) (p1:wAI) (p2:wAI) (w:World) (U:PHeap) (hS:St0 w U [.blk au 139 [.slice az O.Race.Starts.length aL,.slice aH O.Race.Splits.length aM,.slice aI O.Race.Clocks.length aN,.slice aJ O.Race.Readings.length aO,.map (some aa),.slice aK O.edges.length aP],.obj aa (.map ab ac)]) (bz:Sl U 1 az aL O.Race.Starts.length (hD KL.encI O.Race.Starts)) (bA:Sl U 2 aH aM O.Race.Splits.length (hD wAC O.Race.Splits)) (bB:Sl U 3 aI aN O.Race.Clocks.length (hD wAE O.Race.Clocks)) (bC:Sl U 4 aJ aO O.Race.Readings.length (hD wAB O.Race.Readings)) (aQ:MpR ab wBW wBe O.number) (bD:Sl U 7 aK aP O.edges.length (hD wAO O.edges)) {r:wAN} (hm:wBG O p1 p2=some r):Gv Tryz.prog 64 [.pointer (some ⟨au,0,none⟩),.agg #[jV p1.skier,jV p1.mat],.agg #[jV p2.skier,jV p2.mat]] w (wCF w [.blk au 139 [.slice az O.Race.Starts.length aL,.slice aH O.Race.Splits.length aM,.slice aI O.Race.Clocks.length aN,.slice aJ O.Race.Readings.length aO,.map (some aa),.slice aK O.edges.length aP],.obj aa (.map ab ac)] U (fun U_ L_ v=>v=.agg #[jV r.Lo,jV r.Hi]/\L_=[.blk au 139 [.slice az O.Race.Starts.length aL,.slice aH O.Race.Splits.length aM,.slice aI O.Race.Clocks.length aN,.slice aJ O.Race.Readings.length aO,.map (some aa),.slice aK O.edges.length aP],.obj aa (.map ab ac)])):=by
 unfold wBG at hm
 refine Gv.of Tryz.func64 Z Tryz.ntmps64 Tryz.results64 Z (sR (.fx 0 gCj .stop) Z ?_)
 let B0:List Value:=[jV p1.skier,jV p1.mat]
 refine zq (cs:=B0) rfl rfl rfl rfl rfl rfl (by rfl) hS ?_
 intro W3 b4 dE
 let B1:List Value:=[jV p2.skier,jV p2.mat]
 refine zq (cs:=B1) rfl rfl rfl rfl rfl rfl (by rfl) dE ?_
 intro W7 b8 dM
 let B2:List Value:=[jV 0,jV 0]
 refine zU (cs:=B2) Z Z Z Z Z zz Z dM ?_
 intro cb ah dp
 refine eN ?_
 have q:=bnd hm
 obtain ⟨⟨ay,bF⟩,dT,cC⟩:=q
 try dsimp only at cC
 let B3:Res:=.blk au 139 [.slice az O.Race.Starts.length aL,.slice aH O.Race.Splits.length aM,.slice aI O.Race.Clocks.length aN,.slice aJ O.Race.Readings.length aO,.map (some aa),.slice aK O.edges.length aP]
 refine yX (fun J_ w_=>∃ (U_:PHeap) (a7:Nat) (aV:Option Addr) (aX:Nat) (a5:Option Addr) (a9:Nat),J_ 0=.pointer (some ⟨au,0,none⟩)/\J_ 4=.pointer (some ⟨b4,0,none⟩)/\J_ 5=.pointer (some ⟨b8,0,none⟩)/\J_ 6=.pointer (some ⟨ah,0,none⟩)/\J_ 7=.pointer (some ⟨a7,0,none⟩)/\PHeap.Le U U_/\SW w [B3,.obj aa (.map ab ac)] U U_ [B3,.obj aa (.map ab ac),.blk ah 39 B2,.blk b8 123 B1,.blk b4 123 B0,.blk a7 133 [.slice aV ay.length aX,.slice a5 bF.length a9],.row aV aX 3 1 (hD KL.encI ay),.row a5 a9 3 1 (hD KL.encI bF)] w_) ?_ ?_
 have q:=bnd dT
 obtain ⟨⟨ao,cG,cH⟩,cw,bO⟩:=q
 try dsimp only at bO
 refine ZI ZD [3,3,3,3,1,1,1,0,3,3,3,3,2,0,3,3] (wNi (.fx 7 (wJb gDc) (.fx 12 (.fx 7 (wJb gCs) (.stop)) (.stop)))) (by kernel_rfl) ?_
 have aZ:=dp.drew
 generalize hw_W54:({ cb with drawn:=cb.drawn + 1 }:World)=cg at aZ ⊢
 refine oM Z Z (oM Z Z (oR Z (yB Z Z) (oR Z (zH Z Z ZM Z yD) (oL Z (aZ.ldB (j:=3) Z Z Z yK (v:=.map (some aa)) Z) (oL Z (aZ.ldBA (j:=2) Z Z Z zj zI (vs:=B0) Z Z) (oL Z (aZ.lookup1 (j:=4) (mk:=wBW) (mv:=wBe) (a:=p1) (z:=0) Z Z Z Z (wBy ZQ) wDZ zy aQ) (ZB ?_ ?_)))))))
 have dF:SW w [B3,.obj aa (.map ab ac)] U U [B3,.obj aa (.map ab ac),.blk ah 39 B2,.blk b8 123 B1,.blk b4 123 B0] cg:=aZ.pick [3,4,0,1,2] _ (by decide) rfl
 refine zC 2 Z Z Z Z (zD Z Z Tryz.call74 (zB Z (zB Z (zB Z zL))) Z) dF (fun hs=>wBi O au az aL aH aM aI aN aJ aO aa ab ac aK aP (wBX O.number p1 0) false cg U hs bz bA bB bC aQ bD cw) (.inl Z) ?_
 rintro bK d5 ep cP dW dG ⟨bg,bt,bh,bu,rfl,rfl⟩
 let B4:Res:=.row bg bt 3 1 (hD KL.encI ao.far)
 let B5:Res:=.row bh bu 3 1 (hD KL.encI ao.by_)
 have dH:SW w [B3,.obj aa (.map ab ac)] U bK [B4,B5,B3,.obj aa (.map ab ac),.blk ah 39 B2,.blk b8 123 B1,.blk b4 123 B0] cP:=dG
 refine oM Z Z (oR Z (zV Z Z (v:=.agg #[.slice bg ao.far.length bt,.slice bh ao.by_.length bu]) Z) (oR Z (zV Z Z (v:=jV cG) Z) (oR Z (zV Z Z (v:=.bool cH) Z) (zU (cs:=[.slice none 0 0,.slice none 0 0]) Z Z Z Z Z Zo Z dH ?_))))
 intro eg cn dI
 let B6:List Value:=[.slice bg ao.far.length bt,.slice bh ao.by_.length bu]
 refine zY (j:=0) (vs:=B6) Z Z Z Z dI Z Z Z Z yI (zA Z) Z Z Z ?_
 intro cQ dJ
 have dK:SW w [B3,.obj aa (.map ab ac)] U bK [.blk cn 133 B6,B4,B5,B3,.obj aa (.map ab ac),.blk ah 39 B2,.blk b8 123 B1,.blk b4 123 B0] cQ:=dJ
 refine oA Z Z (oA Z Z (zb ?_))
 cases bO
 exact zF ⟨rfl,⟨bK,cn,bg,bt,bh,bu,rfl,rfl,rfl,rfl,rfl,dW,(dK.pick [3,4,5,6,7,0,1,2] _ (by decide) rfl)⟩⟩
 let B7:List Value:=[.slice none 0 0,.slice none 0 0]
 refine zU (cs:=B7) Z Z Z Z Z Zo Z aZ ?_
 intro cj bm dL
 have dN:SW w [B3,.obj aa (.map ab ac)] U U [B3,.obj aa (.map ab ac),.blk bm 133 B7,.blk ah 39 B2,.blk b8 123 B1,.blk b4 123 B0] cj:=dL.pick [4,5,0,1,2,3] _ (by decide) rfl
 refine zC 2 Z Z Z Z (zD Z Z Tryz.call74 (zB Z (zB Z (zB Z zL))) Z) dN (fun hs=>wBi O au az aL aH aM aI aN aJ aO aa ab ac aK aP (wBX O.number p1 0) false cj U hs bz bA bB bC aQ bD cw) (.inl Z) ?_
 rintro bL d6 er cR dX dh ⟨ba,bn,bb,bo,rfl,rfl⟩
 let B8:Res:=.row ba bn 3 1 (hD KL.encI ao.far)
 let B9:Res:=.row bb bo 3 1 (hD KL.encI ao.by_)
 have di:SW w [B3,.obj aa (.map ab ac)] U bL [B8,B9,B3,.obj aa (.map ab ac),.blk bm 133 B7,.blk ah 39 B2,.blk b8 123 B1,.blk b4 123 B0] cR:=dh
 refine oM Z Z (oR Z (zV Z Z (v:=.agg #[.slice ba ao.far.length bn,.slice bb ao.by_.length bo]) Z) (oR Z (zV Z Z (v:=jV cG) Z) (oR Z (zV Z Z (v:=.bool cH) Z) ?_)))
 let bP:List Value:=[.slice ba ao.far.length bn,.slice bb ao.by_.length bo]
 refine zY (j:=4) (vs:=bP) Z Z Z Z di Z Z Z Z yI (zA Z) Z Z Z ?_
 intro cI dk
 have dl:SW w [B3,.obj aa (.map ab ac)] U bL [B8,B9,B3,.obj aa (.map ab ac),.blk bm 133 bP,.blk ah 39 B2,.blk b8 123 B1,.blk b4 123 B0] cI:=dk
 refine oA Z Z (oA Z Z (zb ?_))
 cases bO
 exact zF ⟨rfl,⟨bL,bm,ba,bn,bb,bo,rfl,rfl,rfl,rfl,rfl,dX,(dl.pick [2,3,5,6,7,4,0,1] _ (by decide) rfl)⟩⟩
 rintro dY cc ⟨bi,a7,aV,aX,a5,a9,bv,co,bM,cp,cq,av,dm⟩
 have q:=bnd cC
 obtain ⟨⟨ax,bE⟩,dS,cA⟩:=q
 try dsimp only at cA
 let aR:Res:=.blk a7 133 [.slice aV ay.length aX,.slice a5 bF.length a9]
 let aS:Res:=.row aV aX 3 1 (hD KL.encI ay)
 let aT:Res:=.row a5 a9 3 1 (hD KL.encI bF)
 refine yX (fun J_ w_=>∃ (U_:PHeap) (bj:Nat) (aU:Option Addr) (aW:Nat) (a0:Option Addr) (a8:Nat),J_ 0=.pointer (some ⟨au,0,none⟩)/\J_ 4=.pointer (some ⟨b4,0,none⟩)/\J_ 5=.pointer (some ⟨b8,0,none⟩)/\J_ 6=.pointer (some ⟨ah,0,none⟩)/\J_ 7=.pointer (some ⟨a7,0,none⟩)/\J_ 10=.pointer (some ⟨bj,0,none⟩)/\PHeap.Le bi U_/\SW w [B3,.obj aa (.map ab ac)] U U_ [B3,.obj aa (.map ab ac),.blk ah 39 B2,.blk b8 123 B1,.blk b4 123 B0,aS,aT,aR,.blk bj 133 [.slice aU ax.length aW,.slice a0 bE.length a8],.row aU aW 3 1 (hD KL.encI ax),.row a0 a8 3 1 (hD KL.encI bE)] w_) ?_ ?_
 have q:=bnd dS
 obtain ⟨⟨an,cD,cE⟩,cu,bN⟩:=q
 try dsimp only at bN
 refine ZI ZD [3,3,3,3,1,1,1,0,3,3,3,3,2,0,3,3] (wNi (.fx 7 (wJb gDc) (.fx 12 (.fx 7 (wJb gCs) (.stop)) (.stop)))) (by kernel_rfl) ?_
 have aY:=dm.drew
 generalize hw_W172:({ cc with drawn:=cc.drawn + 1 }:World)=cJ at aY ⊢
 refine oM Z bv (oM Z bv (oR Z (yB Z Z) (oR Z (zH Z Z ZM Z yD) (oL Z (aY.ldB (j:=0) Z Z Z yK (v:=.map (some aa)) Z) (oL Z (aY.ldBA (j:=3) Z Z bM zj zI (vs:=B1) Z Z) (oL Z (aY.lookup1 (j:=1) (mk:=wBW) (mv:=wBe) (a:=p2) (z:=0) Z Z Z Z (wBy ZQ) wDZ zy aQ) (ZB ?_ ?_)))))))
 have cX:=bz.le av
 have cY:=bA.le av
 have cZ:=bB.le av
 have c6:=bC.le av
 have da:=bD.le av
 refine zC 2 Z Z Z Z (zD Z Z Tryz.call74 (zB Z (zB Z (zB Z zL))) Z) aY (fun hs=>wBi O au az aL aH aM aI aN aJ aO aa ab ac aK aP (wBX O.number p2 0) false cJ bi hs cX cY cZ c6 aQ da cu) (.inl Z) ?_
 rintro bI d3 en cK dU dq ⟨bc,bp,bd,bq,rfl,rfl⟩
 let bQ:Res:=.row bc bp 3 1 (hD KL.encI an.far)
 let bR:Res:=.row bd bq 3 1 (hD KL.encI an.by_)
 have dr:SW w [B3,.obj aa (.map ab ac)] U bI [bQ,bR,B3,.obj aa (.map ab ac),.blk ah 39 B2,.blk b8 123 B1,.blk b4 123 B0,aR,aS,aT] cK:=dq
 refine oM Z Z (oR Z (zV Z Z (v:=.agg #[.slice bc an.far.length bp,.slice bd an.by_.length bq]) Z) (oR Z (zV Z Z (v:=jV cD) Z) (oR Z (zV Z Z (v:=.bool cE) Z) (zU (cs:=[.slice none 0 0,.slice none 0 0]) Z Z Z Z Z Zo Z dr ?_))))
 intro d7 cm dt
 let bS:List Value:=[.slice bc an.far.length bp,.slice bd an.by_.length bq]
 refine zY (j:=0) (vs:=bS) Z Z Z Z dt Z Z Z Z yI (zA Z) Z Z Z ?_
 intro cL du
 have dv:SW w [B3,.obj aa (.map ab ac)] U bI [.blk cm 133 bS,bQ,bR,B3,.obj aa (.map ab ac),.blk ah 39 B2,.blk b8 123 B1,.blk b4 123 B0,aR,aS,aT] cL:=du
 refine oA Z Z (oA Z Z (zb ?_))
 cases bN
 exact zF ⟨rfl,⟨bI,cm,bc,bp,bd,bq,bv,co,bM,cp,cq,rfl,dU,(dv.pick [3,4,5,6,7,9,10,8,0,1,2] _ (by decide) rfl)⟩⟩
 let bG:List Value:=[.slice none 0 0,.slice none 0 0]
 refine zU (cs:=bG) Z Z Z Z Z Zo Z aY ?_
 intro cd bk dw
 have db:=bz.le av
 have dd:=bA.le av
 have de:=bB.le av
 have df:=bC.le av
 have dg:=bD.le av
 have dx:SW w [B3,.obj aa (.map ab ac)] U bi [B3,.obj aa (.map ab ac),.blk bk 133 bG,.blk ah 39 B2,.blk b8 123 B1,.blk b4 123 B0,aR,aS,aT] cd:=dw.pick [1,2,0,3,4,5,6,7,8] _ (by decide) rfl
 refine zC 2 Z Z Z Z (zD Z Z Tryz.call74 (zB Z (zB Z (zB Z zL))) Z) dx (fun hs=>wBi O au az aL aH aM aI aN aJ aO aa ab ac aK aP (wBX O.number p2 0) false cd bi hs db dd de df aQ dg cu) (.inl Z) ?_
 rintro bJ d4 eo cM dV dy ⟨be,br,bf,bs,rfl,rfl⟩
 let bT:Res:=.row be br 3 1 (hD KL.encI an.far)
 let bU:Res:=.row bf bs 3 1 (hD KL.encI an.by_)
 have dz:SW w [B3,.obj aa (.map ab ac)] U bJ [bT,bU,B3,.obj aa (.map ab ac),.blk bk 133 bG,.blk ah 39 B2,.blk b8 123 B1,.blk b4 123 B0,aR,aS,aT] cM:=dy
 refine oM Z Z (oR Z (zV Z Z (v:=.agg #[.slice be an.far.length br,.slice bf an.by_.length bs]) Z) (oR Z (zV Z Z (v:=jV cD) Z) (oR Z (zV Z Z (v:=.bool cE) Z) ?_)))
 let bV:List Value:=[.slice be an.far.length br,.slice bf an.by_.length bs]
 refine zY (j:=4) (vs:=bV) Z Z Z Z dz Z Z Z Z yI (zA Z) Z Z Z ?_
 intro cN dA
 have dB:SW w [B3,.obj aa (.map ab ac)] U bJ [bT,bU,B3,.obj aa (.map ab ac),.blk bk 133 bV,.blk ah 39 B2,.blk b8 123 B1,.blk b4 123 B0,aR,aS,aT] cN:=dA
 refine oA Z Z (oA Z Z (zb ?_))
 cases bN
 exact zF ⟨rfl,⟨bJ,bk,be,br,bf,bs,bv,co,bM,cp,cq,rfl,dV,(dB.pick [2,3,5,6,7,9,10,8,4,0,1] _ (by decide) rfl)⟩⟩
 rintro dZ cf ⟨ca,bj,aU,aW,a0,a8,cr,cS,cU,ct,cV,cW,ek,dC⟩
 refine zJ (ZI ZD [3,1,3,3,3,1,1,1,3,1,3,3,1,3,3,3,1,1,1,3,1,3,0] (wMw (.fx 22 .nil .stop)) (by kernel_rfl) ?_)
 have am:=dC.drew
 generalize hw_W258:({ cf with drawn:=cf.drawn + 1 }:World)=d8 at am ⊢
 refine oR Z (zH Z cW Zc Z zh) (oL Z (am.ldB (j:=8) Z Z Z zk (v:=.slice aU ax.length aW) Z) (oM Z cr (oR Z (yB Z Z) (oR Z (zH Z Z ZM Z yD) (oL Z (am.ldB (j:=0) Z Z Z yK (v:=.map (some aa)) Z) (oL Z (am.ldBA (j:=4) Z Z cS zj zI (vs:=B0) Z Z) (oL Z (am.lookup1 (j:=1) (mk:=wBW) (mv:=wBe) (a:=p1) (z:=0) Z Z Z Z (wBy ZQ) wDZ zy aQ) (bnK cA fun _ bw dQ=>?_))))))))
 obtain ⟨eh,cx⟩:=am.rowSome (j:=9) rfl (by rw [wAD (f:=KL.encI) (sz:=1) (fun _=>rfl) ax];have hz:=wAS bw;omega)
 refine oR Z (ZT Z Z cx Z zG zE (wCH bw) (wCI bw)) ?_
 have dO:=wBJ (xs:=ax) (wAS bw)
 refine zx rfl rfl rfl rfl (am.ldR (j:=9) rfl cx rfl rfl zK (wAW (sz:=1) (fun _=>rfl) _ _ 0 _ dO (by first | omega | rfl | simp) rfl)) rfl (zg rfl rfl rfl rfl (fun _=>Runs.negw rfl rfl) (zg rfl rfl rfl rfl (fun _=>zH rfl cV Zc rfl zh) (zx rfl rfl rfl rfl (am.ldB (j:=7) rfl rfl rfl zk (v:=.slice aV ay.length aX) rfl) rfl (ZE rfl rfl rfl rfl rfl cr (zg rfl rfl rfl rfl (fun _=>yB rfl rfl) (zg rfl rfl rfl rfl (fun _=>zH rfl rfl ZM rfl yD) (zx rfl rfl rfl rfl (am.ldB (j:=0) rfl rfl rfl yK (v:=.map (some aa)) rfl) rfl (zx rfl rfl rfl rfl (am.ldBA (j:=3) rfl rfl cU zj zI (vs:=B1) rfl rfl) rfl (zx rfl rfl rfl rfl (am.lookup1 (j:=1) (mk:=wBW) (mv:=wBe) (a:=p2) (z:=0) rfl rfl rfl rfl (wBy ZQ) wDZ zy aQ) rfl (bnK dQ fun _ bx dR=>?_))))))))))
 obtain ⟨ej,cy⟩:=am.rowSome (j:=5) rfl (by rw [wAD (f:=KL.encI) (sz:=1) (fun _=>rfl) ay];have hz:=wAS bx;omega)
 refine oR Z (ZT Z Z cy Z zG zE (wCH bx) (wCI bx)) ?_
 have dP:=wBJ (xs:=ay) (wAS bx)
 refine zx rfl rfl rfl rfl (am.ldR (j:=5) rfl cy rfl rfl zK (wAW (sz:=1) (fun _=>rfl) _ _ 0 _ dP (by first | omega | rfl | simp) rfl)) rfl ?_
 let a6:List Value:=[jV (w64 (-(gd ax (wBX O.number p1 0).toNat))),jV (gd ay (wBX O.number p2 0).toNat)]
 refine oR Z (zu (pv:=[(0,jV (w64 (-(gd ax (wBX O.number p1 0).toNat)))),(1,jV (gd ay (wBX O.number p2 0).toNat))]) (z:=B2) (cs:=a6) Z (wAG Z (wAG Z wAP)) zz wCn Z Z) (zY (j:=2) (vs:=a6) Z Z Z Z am Z ct Z Z zm (zA Z) Z Z Z ?_)
 intro cO dD
 have cz:SW w [B3,.obj aa (.map ab ac)] U ca [B3,.obj aa (.map ab ac),.blk ah 39 a6,.blk b8 123 B1,.blk b4 123 B0,aS,aT,aR,.blk bj 133 [.slice aU ax.length aW,.slice a0 bE.length a8],.row aU aW 3 1 (hD KL.encI ax),.row a0 a8 3 1 (hD KL.encI bE)] cO:=dD
 refine eN (zR ?_)
 cases dR
 exact ⟨rfl,_,(wGy (v:=.agg a6.toArray) ⟨⟨_,ct,(wBF Zu zm (cz.blkAt (k:=2) rfl) (vs:=a6) rfl rfl)⟩,trivial⟩),ca,_,(cz.pick [0,1] _ (by decide) rfl),rfl,rfl⟩
theorem wGu (p0:wAA) (az:Option Addr) (aK:Nat) (aH:Option Addr) (aL:Nat) (aI:Option Addr) (aM:Nat) (aJ:Option Addr) (aN:Nat) (p1:wAL) (w:World) (U:PHeap) (hS:St0 w U []) (cz:Sl U 1 az aK p0.Starts.length (hD KL.encI p0.Starts)) (cA:Sl U 2 aH aL p0.Splits.length (hD wAC p0.Splits)) (cC:Sl U 3 aI aM p0.Clocks.length (hD wAE p0.Clocks)) (cD:Sl U 4 aJ aN p0.Readings.length (hD wAB p0.Readings)) {r:wAN × Int} (hm:wEh p0 p1=some r):Gv Tryz.prog 12 [.agg #[.slice az p0.Starts.length aK,.slice aH p0.Splits.length aL,.slice aI p0.Clocks.length aM,.slice aJ p0.Readings.length aN],.agg #[jV p1.Skier,jV p1.Mat]] w (wCF w [] U (fun U_ L_ v=>v=.tuple #[.agg #[jV r.1.Lo,jV r.1.Hi],jV r.2]/\L_=[])):=by
 unfold wEh at hm
 refine Gv.of Tryz.func12 Z Tryz.ntmps12 Tryz.results12 Z (sR (.fx 0 (.fx 1 gCf .stop) .stop) Z ?_)
 let B0:List Value:=[.slice az p0.Starts.length aK,.slice aH p0.Splits.length aL,.slice aI p0.Clocks.length aM,.slice aJ p0.Readings.length aN]
 refine zq (cs:=B0) rfl rfl rfl rfl rfl rfl (by rfl) hS ?_
 intro W1 b2 cr
 let B1:List Value:=[jV p1.Skier,jV p1.Mat]
 refine zq (cs:=B1) rfl rfl rfl rfl rfl rfl (by rfl) cr ?_
 intro W5 b6 cw
 let O:List Value:=[jV 0,jV 0]
 refine zU (cs:=O) Z Z Z Z Z zz Z cw ?_
 intro W9 ae aU
 refine oA Z Z (eN (sR (.fl 0 (.fl 1 (.fx 2 (.fx 3 (wNm (.nil)) .stop) .stop))) Z (oL Z (aU.ldBA (j:=2) Z Z Z zn zc (vs:=B0) Z Z) (oL Z (aU.ldBA (j:=1) Z Z Z Zp ZR (vs:=B1) Z Z) (ZC (pv:=[(0,.agg B1.toArray)]) (zs:=O) (cs:=B1) Z Z Z Z Z (wAG Z wAP) Zm ZR yC Z Z Z Z Z aU ?_)))))
 intro aQ bd cn
 have co:sW w U U [.row (some ⟨bd,0,none⟩) 1 29 2 (hD wAT [p1]),.blk ae 39 O,.blk b6 29 B1,.blk b2 27 B0] aQ:=cn
 have q:=co.freezeR (k:=0) (n:=[p1].length) rfl (wAD (f:=wAT) (sz:=2) (fun _=>rfl) [p1]) (by decide)
 obtain ⟨a7,ay,cO,cp⟩:=q
 have cq:sW w U a7 [.blk ae 39 O,.blk b6 29 B1,.blk b2 27 B0] aQ:=cp
 have bN:=cz.le ay
 have bO:=cA.le ay
 have bP:=cC.le ay
 have bQ:=cD.le ay
 have q:=bnd hm
 obtain ⟨⟨cQ,aO⟩,bR,aq⟩:=q
 try dsimp only at aq
 refine zC 0 Z Z Z Z (zD Z Z Tryz.call63 (zB Z (zB Z zL)) Z) cq (fun hs=>wEk p0 az aK aH aL aI aM aJ aN [p1] (some ⟨bd,0,none⟩) 1 aQ a7 hs bN bO bP bQ cO bR) (.inr Z) ?_
 rintro ai cV dl ao de bn bj
 rcases cQ with _ | ap
 try dsimp only at aq
 obtain ⟨rfl,rfl⟩:=bj
 have bo:sW w U ai [.blk ae 39 O,.blk b6 29 B1,.blk b2 27 B0] ao:=bn
 refine oM Z Z (oR Z (zV Z Z (v:=.pointer none) Z) (oR Z (zV Z Z (v:=jV aO) Z) (oA Z Z (oA Z Z (eN (zJ (sR fL2 Z (oM Z Z (oR Z (Zb Z Z Z) (eN (ifc aq ?_ ?_)))))))))))
 intro aS cI
 refine zr (ZL (fun h=>h aS.out)) (kN (zJ (ZI ZD [3,2,1,2,0,0,3] gDm (by kernel_rfl) ?_)))
 have aV:=bo.drew
 generalize hw_W57:({ ao with drawn:=ao.drawn + 1 }:World)=bw at aV ⊢
 refine oM Z Z (oL Z (aV.ldBA (j:=1) Z Z Z Zp ZR (vs:=B1) Z Z) (bnK cI fun dq bS cJ=>zC 0 Z Z Z Z (zD Z Z yF zL Z) aV (fun hs=>wAw bw ai hs bS) (.inr Z) ?_))
 rintro a8 cW dm bc df ct ⟨rfl,rfl⟩
 have cu:sW w U a8 [.blk ae 39 O,.blk b6 29 B1,.blk b2 27 B0] bc:=ct
 refine bnK cJ fun dr bT cK=>zC 0 Z Z Z Z (zD Z Z yJ (zB Z zL) Z) cu (fun hs=>wBj p1 bc a8 hs bT) (.inr Z) ?_
 rintro bs cX dp bx dg cx ⟨rfl,rfl⟩
 have db:sW w U bs [.blk ae 39 O,.blk b6 29 B1,.blk b2 27 B0] bx:=cx
 cases cK
 intro aS cL
 refine cT Z aS (sR gDa Z (oR Z (zu (pv:=[]) (z:=O) (cs:=O) Z wAP zz wCn Z Z) (oM Z Z (zY (j:=0) (vs:=O) Z Z Z Z bo Z Z Z Z zm (zA Z) Z Z Z ?_))))
 intro bz cy
 have bp:sW w U ai [.blk ae 39 O,.blk b6 29 B1,.blk b2 27 B0] bz:=cy
 refine oA Z Z (eN (zR (zT ?_)))
 cases cL
 exact ⟨rfl,_,(wER (rs:=[.cell 4 39,.tmp 5]) (vs:=[.agg O.toArray,jV aO]) ⟨⟨_,rfl,(wBF Zu zm (bp.blkAt (k:=0) rfl) (vs:=O) rfl rfl)⟩,⟨rfl,trivial⟩⟩ rfl),ai,_,(bp.pick [] _ (by decide) rfl),rfl,rfl⟩
 try dsimp only at aq
 obtain ⟨aR,aX,be,aY,bf,aZ,bg,a0,bh,aj,am,ak,a5,bi,rfl,rfl,bU,bV,bW,bX,bY,bZ⟩:=bj
 let B3:Res:=.blk aR 139 [.slice aX ap.Race.Starts.length be,.slice aY ap.Race.Splits.length bf,.slice aZ ap.Race.Clocks.length bg,.slice a0 ap.Race.Readings.length bh,.map (some aj),.slice a5 ap.edges.length bi]
 have bq:sW w U ai [B3,.obj aj (.map am ak),.blk ae 39 O,.blk b6 29 B1,.blk b2 27 B0] ao:=bn
 refine oM Z Z (oR Z (zV Z Z (v:=.pointer (some ⟨aR,0,none⟩)) Z) (oR Z (zV Z Z (v:=jV aO) Z) (oA Z Z (oA Z Z (eN (zJ (sR fL2 Z (oM Z Z (oR Z (Zb Z Z Z) (eN (ifc aq ?_ ?_)))))))))))
 intro aT cM
 refine zr (ZL (fun h=>h aT.out)) (kN (zJ (ZI ZD [3,2,1,2,0,0,3] gDm (by kernel_rfl) ?_)))
 have aW:=bq.drew
 generalize hw_W94:({ ao with drawn:=ao.drawn + 1 }:World)=bA at aW ⊢
 refine oM Z Z (oL Z (aW.ldBA (j:=3) Z Z Z Zp ZR (vs:=B1) Z Z) (bnK cM fun cR b5 cN=>zC 0 Z Z Z Z (zD Z Z yF zL Z) aW (fun hs=>wAw bA ai hs b5) (.inr Z) ?_))
 rintro a9 cY dh ba au ca ⟨rfl,rfl⟩
 have cb:sW w U a9 [B3,.obj aj (.map am ak),.blk ae 39 O,.blk b6 29 B1,.blk b2 27 B0] ba:=ca
 refine bnK cN fun cP bB cE=>zC 0 Z Z Z Z (zD Z Z yJ (zB Z zL) Z) cb (fun hs=>wBj p1 ba a9 hs bB) (.inr Z) ?_
 rintro a6 cS di bb av cc ⟨rfl,rfl⟩
 have cd:sW w U a6 [B3,.obj aj (.map am ak),.blk ae 39 O,.blk b6 29 B1,.blk b2 27 B0] bb:=cc
 have bC:=bU.le au
 have bD:=bC.le av
 have bE:=bV.le au
 have bF:=bE.le av
 have bG:=bW.le au
 have bH:=bG.le av
 have bI:=bX.le au
 have bJ:=bI.le av
 have bK:=bZ.le au
 have bL:=bK.le av
 refine bnK cE fun br bM cG=>zC 2 Z Z Z Z (zD Z Z yk (zB Z (zB Z (zB Z zL))) Z) cd (fun hs=>wAm ap aR aX be aY bf aZ bg a0 bh aj am ak a5 bi cR cP bb a6 hs bD bF bH bJ bY bL bM) (.inl Z) ?_
 rintro aP cU dk bt dd cf ⟨rfl,rfl⟩
 have cg:sW w U aP [B3,.obj aj (.map am ak),.blk ae 39 O,.blk b6 29 B1,.blk b2 27 B0] bt:=cf
 let B4:List Value:=[jV br.Lo,jV br.Hi]
 refine zY (j:=2) (vs:=B4) Z Z Z Z cg Z Z Z Z zm (zA Z) Z Z Z ?_
 intro bu cj
 have bk:sW w U aP [B3,.obj aj (.map am ak),.blk ae 39 B4,.blk b6 29 B1,.blk b2 27 B0] bu:=cj
 refine oA Z Z (eN (zR ?_))
 cases cG
 exact ⟨rfl,_,(wER (rs:=[.cell 4 39,.tmp 5]) (vs:=[.agg B4.toArray,jV 0]) ⟨⟨_,rfl,(wBF Zu zm (bk.blkAt (k:=2) rfl) (vs:=B4) rfl rfl)⟩,⟨rfl,trivial⟩⟩ rfl),aP,_,(bk.pick [] _ (by decide) rfl),rfl,rfl⟩
 intro aT cH
 refine cT Z aT (sR gDa Z (oR Z (zu (pv:=[]) (z:=O) (cs:=O) Z wAP zz wCn Z Z) (oM Z Z (zY (j:=2) (vs:=O) Z Z Z Z bq Z Z Z Z zm (zA Z) Z Z Z ?_))))
 intro bv cm
 have bm:sW w U ai [B3,.obj aj (.map am ak),.blk ae 39 O,.blk b6 29 B1,.blk b2 27 B0] bv:=cm
 refine oA Z Z (eN (zR (zT ?_)))
 cases cH
 exact ⟨rfl,_,(wER (rs:=[.cell 4 39,.tmp 5]) (vs:=[.agg O.toArray,jV aO]) ⟨⟨_,rfl,(wBF Zu zm (bm.blkAt (k:=2) rfl) (vs:=O) rfl rfl)⟩,⟨rfl,trivial⟩⟩ rfl),ai,_,(bm.pick [] _ (by decide) rfl),rfl,rfl⟩
end Go.Proofs.YtlnfbjphfoipaaaGreat
namespace Go.Proofs.YtlnfbjphfoipaaaGreat
open Go.KL
set_option maxHeartbeats 4000000
theorem wKk (p0:wAA) (aM:Option Addr) (aQ:Nat) (aN:Option Addr) (aR:Nat) (aO:Option Addr) (aS:Nat) (aP:Option Addr) (aT:Nat) (p1:wAL) (p2:wAL) (w:World) (U:PHeap) (hS:St0 w U []) (cE:Sl U 1 aM aQ p0.Starts.length (hD KL.encI p0.Starts)) (cG:Sl U 2 aN aR p0.Splits.length (hD wAC p0.Splits)) (cH:Sl U 3 aO aS p0.Clocks.length (hD wAE p0.Clocks)) (cI:Sl U 4 aP aT p0.Readings.length (hD wAB p0.Readings)) {r:wAN × Int} (hm:wGf p0 p1 p2=some r):Gv Tryz.prog 16 [.agg #[.slice aM p0.Starts.length aQ,.slice aN p0.Splits.length aR,.slice aO p0.Clocks.length aS,.slice aP p0.Readings.length aT],.agg #[jV p1.Skier,jV p1.Mat],.agg #[jV p2.Skier,jV p2.Mat]] w (wCF w [] U (fun U_ L_ v=>v=.tuple #[.agg #[jV r.1.Lo,jV r.1.Hi],jV r.2]/\L_=[])):=by
 unfold wGf at hm
 refine Gv.of Tryz.func16 Z Tryz.ntmps16 Tryz.results16 Z (sR (.fx 0 (.fx 1 gCu .stop) .stop) Z ?_)
 let B0:List Value:=[.slice aM p0.Starts.length aQ,.slice aN p0.Splits.length aR,.slice aO p0.Clocks.length aS,.slice aP p0.Readings.length aT]
 refine zq (cs:=B0) rfl rfl rfl rfl rfl rfl (by rfl) hS ?_
 intro W1 b2 cx
 let B1:List Value:=[jV p1.Skier,jV p1.Mat]
 refine zq (cs:=B1) rfl rfl rfl rfl rfl rfl (by rfl) cx ?_
 intro W5 b6 cy
 let B2:List Value:=[jV p2.Skier,jV p2.Mat]
 refine zq (cs:=B2) rfl rfl rfl rfl rfl rfl (by rfl) cy ?_
 intro W9 ah cg
 let O:List Value:=[jV 0,jV 0]
 refine zU (cs:=O) Z Z Z Z Z zz Z cg ?_
 intro de ai aI
 refine oA Z Z (eN (sR (wDd (.fx 3 (.fx 4 (wJz (.nil)) .stop) .stop)) Z (oL Z (aI.ldBA (j:=3) Z Z Z zn zc (vs:=B0) Z Z) (oL Z (aI.ldBA (j:=2) Z Z Z Zp ZR (vs:=B1) Z Z) (oL Z (aI.ldBA (j:=1) Z Z Z Zp ZR (vs:=B2) Z Z) (ZC (pv:=[(0,.agg B1.toArray),(1,.agg B2.toArray)]) (zs:=[jV 0,jV 0,jV 0,jV 0]) (cs:=[jV p1.Skier,jV p1.Mat,jV p2.Skier,jV p2.Mat]) Z Z Z Z Z (wAG Z (wAG Z wAP)) Zm ZR yC Z Z Z Z Z aI ?_))))))
 intro aW bg cr
 have ct:sW w U U [.row (some ⟨bg,0,none⟩) 2 29 2 (hD wAT [p1,p2]),.blk ai 39 O,.blk ah 29 B2,.blk b6 29 B1,.blk b2 27 B0] aW:=cr
 have q:=ct.freezeR (k:=0) (n:=[p1,p2].length) rfl (wAD (f:=wAT) (sz:=2) (fun _=>rfl) [p1,p2]) (by decide)
 obtain ⟨bb,aL,cS,cu⟩:=q
 have cw:sW w U bb [.blk ai 39 O,.blk ah 29 B2,.blk b6 29 B1,.blk b2 27 B0] aW:=cu
 have bR:=cE.le aL
 have bS:=cG.le aL
 have bT:=cH.le aL
 have bU:=cI.le aL
 have q:=bnd hm
 obtain ⟨⟨cV,aU⟩,bV,ax⟩:=q
 try dsimp only at ax
 refine zC 0 Z Z Z Z (zD Z Z Tryz.call63 (zB Z (zB Z zL)) Z) cw (fun hs=>wEk p0 aM aQ aN aR aO aS aP aT [p1,p2] (some ⟨bg,0,none⟩) 2 aW bb hs bR bS bT bU cS bV) (.inr Z) ?_
 rintro am c6 dt au dk bq bn
 rcases cV with _ | av
 try dsimp only at ax
 obtain ⟨rfl,rfl⟩:=bn
 have br:sW w U am [.blk ai 39 O,.blk ah 29 B2,.blk b6 29 B1,.blk b2 27 B0] au:=bq
 refine oM Z Z (oR Z (zV Z Z (v:=.pointer none) Z) (oR Z (zV Z Z (v:=jV aU) Z) (oA Z Z (oA Z Z (eN (zJ (sR fL2 Z (oM Z Z (oR Z (Zb Z Z Z) (eN (ifc ax ?_ ?_)))))))))))
 intro aY cN
 refine zr (ZL (fun h=>h aY.out)) (kN (zJ (ZI ZD [3,1,2,1,2,0,0,3] gDn (by kernel_rfl) ?_)))
 have aJ:=br.drew
 generalize hw_W61:({ au with drawn:=au.drawn + 1 }:World)=bA at aJ ⊢
 refine oM Z Z (oL Z (aJ.ldBA (j:=2) Z Z Z Zp ZR (vs:=B1) Z Z) (oL Z (aJ.ldBA (j:=1) Z Z Z Zp ZR (vs:=B2) Z Z) (bnK cN fun dw bW cO=>zC 0 Z Z Z Z (zD Z Z yJ (zB Z zL) Z) aJ (fun hs=>wBj p1 bA am hs bW) (.inr Z) ?_)))
 rintro bc da du bf dl cz ⟨rfl,rfl⟩
 have cA:sW w U bc [.blk ai 39 O,.blk ah 29 B2,.blk b6 29 B1,.blk b2 27 B0] bf:=cz
 refine bnK cO fun dx bX cP=>zC 0 Z Z Z Z (zD Z Z yJ (zB Z zL) Z) cA (fun hs=>wBj p2 bf bc hs bX) (.inr Z) ?_
 rintro bv db dv bB dm cC ⟨rfl,rfl⟩
 have dh:sW w U bv [.blk ai 39 O,.blk ah 29 B2,.blk b6 29 B1,.blk b2 27 B0] bB:=cC
 cases cP
 intro aY cQ
 refine cT Z aY (sR gDa Z (oR Z (zu (pv:=[]) (z:=O) (cs:=O) Z wAP zz wCn Z Z) (oM Z Z (zY (j:=0) (vs:=O) Z Z Z Z br Z Z Z Z zm (zA Z) Z Z Z ?_))))
 intro bC cD
 have bs:sW w U am [.blk ai 39 O,.blk ah 29 B2,.blk b6 29 B1,.blk b2 27 B0] bC:=cD
 refine oA Z Z (eN (zR (zT ?_)))
 cases cQ
 exact ⟨rfl,_,(wER (rs:=[.cell 6 39,.tmp 7]) (vs:=[.agg O.toArray,jV aU]) ⟨⟨_,rfl,(wBF Zu zm (bs.blkAt (k:=0) rfl) (vs:=O) rfl rfl)⟩,⟨rfl,trivial⟩⟩ rfl),am,_,(bs.pick [] _ (by decide) rfl),rfl,rfl⟩
 try dsimp only at ax
 obtain ⟨aX,a0,bh,a5,bi,a6,bj,a7,bk,an,ap,ao,a8,bm,rfl,rfl,bY,bZ,b5,ca,cb,cc⟩:=bn
 let B4:Res:=.blk aX 139 [.slice a0 av.Race.Starts.length bh,.slice a5 av.Race.Splits.length bi,.slice a6 av.Race.Clocks.length bj,.slice a7 av.Race.Readings.length bk,.map (some an),.slice a8 av.edges.length bm]
 have bt:sW w U am [B4,.obj an (.map ap ao),.blk ai 39 O,.blk ah 29 B2,.blk b6 29 B1,.blk b2 27 B0] au:=bq
 refine oM Z Z (oR Z (zV Z Z (v:=.pointer (some ⟨aX,0,none⟩)) Z) (oR Z (zV Z Z (v:=jV aU) Z) (oA Z Z (oA Z Z (eN (zJ (sR fL2 Z (oM Z Z (oR Z (Zb Z Z Z) (eN (ifc ax ?_ ?_)))))))))))
 intro aZ cR
 refine zr (ZL (fun h=>h aZ.out)) (kN (zJ (ZI ZD [3,1,2,1,2,0,0,3] gDn (by kernel_rfl) ?_)))
 have aK:=bt.drew
 generalize hw_W98:({ au with drawn:=au.drawn + 1 }:World)=bD at aK ⊢
 refine oM Z Z (oL Z (aK.ldBA (j:=4) Z Z Z Zp ZR (vs:=B1) Z Z) (oL Z (aK.ldBA (j:=3) Z Z Z Zp ZR (vs:=B2) Z Z) (bnK cR fun cW bE cJ=>zC 0 Z Z Z Z (zD Z Z yJ (zB Z zL) Z) aK (fun hs=>wBj p1 bD am hs bE) (.inr Z) ?_)))
 rintro a9 cX dp bd ay cd ⟨rfl,rfl⟩
 have cf:sW w U a9 [B4,.obj an (.map ap ao),.blk ai 39 O,.blk ah 29 B2,.blk b6 29 B1,.blk b2 27 B0] bd:=cd
 refine bnK cJ fun cU bF cK=>zC 0 Z Z Z Z (zD Z Z yJ (zB Z zL) Z) cf (fun hs=>wBj p2 bd a9 hs bF) (.inr Z) ?_
 rintro ba cY dq be az cj ⟨rfl,rfl⟩
 have cm:sW w U ba [B4,.obj an (.map ap ao),.blk ai 39 O,.blk ah 29 B2,.blk b6 29 B1,.blk b2 27 B0] be:=cj
 have bG:=bY.le ay
 have bH:=bG.le az
 have bI:=bZ.le ay
 have bJ:=bI.le az
 have bK:=b5.le ay
 have bL:=bK.le az
 have bM:=ca.le ay
 have bN:=bM.le az
 have bO:=cc.le ay
 have bP:=bO.le az
 refine bnK cK fun bu bQ cL=>zC 2 Z Z Z Z (zD Z Z yk (zB Z (zB Z (zB Z zL))) Z) cm (fun hs=>wAm av aX a0 bh a5 bi a6 bj a7 bk an ap ao a8 bm cW cU be ba hs bH bJ bL bN cb bP bQ) (.inl Z) ?_
 rintro aV cZ dr bw di cn ⟨rfl,rfl⟩
 have co:sW w U aV [B4,.obj an (.map ap ao),.blk ai 39 O,.blk ah 29 B2,.blk b6 29 B1,.blk b2 27 B0] bw:=cn
 let B5:List Value:=[jV bu.Lo,jV bu.Hi]
 refine zY (j:=2) (vs:=B5) Z Z Z Z co Z Z Z Z zm (zA Z) Z Z Z ?_
 intro bx cp
 have bo:sW w U aV [B4,.obj an (.map ap ao),.blk ai 39 B5,.blk ah 29 B2,.blk b6 29 B1,.blk b2 27 B0] bx:=cp
 refine oA Z Z (eN (zR ?_))
 cases cL
 exact ⟨rfl,_,(wER (rs:=[.cell 6 39,.tmp 7]) (vs:=[.agg B5.toArray,jV 0]) ⟨⟨_,rfl,(wBF Zu zm (bo.blkAt (k:=2) rfl) (vs:=B5) rfl rfl)⟩,⟨rfl,trivial⟩⟩ rfl),aV,_,(bo.pick [] _ (by decide) rfl),rfl,rfl⟩
 intro aZ cM
 refine cT Z aZ (sR gDa Z (oR Z (zu (pv:=[]) (z:=O) (cs:=O) Z wAP zz wCn Z Z) (oM Z Z (zY (j:=2) (vs:=O) Z Z Z Z bt Z Z Z Z zm (zA Z) Z Z Z ?_))))
 intro bz cq
 have bp:sW w U am [B4,.obj an (.map ap ao),.blk ai 39 O,.blk ah 29 B2,.blk b6 29 B1,.blk b2 27 B0] bz:=cq
 refine oA Z Z (eN (zR (zT ?_)))
 cases cM
 exact ⟨rfl,_,(wER (rs:=[.cell 6 39,.tmp 7]) (vs:=[.agg O.toArray,jV aU]) ⟨⟨_,rfl,(wBF Zu zm (bp.blkAt (k:=2) rfl) (vs:=O) rfl rfl)⟩,⟨rfl,trivial⟩⟩ rfl),am,_,(bp.pick [] _ (by decide) rfl),rfl,rfl⟩
theorem wGO (p0:wAA) (ah:Option Addr) (am:Nat) (ai:Option Addr) (an:Nat) (aj:Option Addr) (ao:Nat) (ak:Option Addr) (ap:Nat) (O:wAH) (w:World) (U:PHeap) (hS:St0 w U []) (aT:Sl U 1 ah am p0.Starts.length (hD KL.encI p0.Starts)) (aU:Sl U 2 ai an p0.Splits.length (hD wAC p0.Splits)) (aV:Sl U 3 aj ao p0.Clocks.length (hD wAE p0.Clocks)) (aW:Sl U 4 ak ap p0.Readings.length (hD wAB p0.Readings)) {r:Bool} (hm:wCf p0 O=some r):Gv Tryz.prog 128 [.agg #[.slice ah p0.Starts.length am,.slice ai p0.Splits.length an,.slice aj p0.Clocks.length ao,.slice ak p0.Readings.length ap],.agg #[jV O.Kind,jV O.Skier,jV O.Index,.bool O.Up]] w (wCF w [] U (fun U_ L_ v=>v=.bool r/\L_=[])):=by
 unfold wCf at hm
 refine Gv.of Tryz.func128 Z Tryz.ntmps128 Tryz.results128 Z ?_
 by_cases c1:O.Kind=0
 have bZ:=hm;rw [if_pos c1] at bZ
 refine sR gCv Z ?_
 let B0:List Value:=[.slice ah p0.Starts.length am,.slice ai p0.Splits.length an,.slice aj p0.Clocks.length ao,.slice ak p0.Readings.length ap]
 refine zq (cs:=B0) rfl rfl rfl rfl rfl rfl (by rfl) hS ?_
 intro W6 b7 dX
 let B1:List Value:=[jV O.Kind,jV O.Skier,jV O.Index,.bool O.Up]
 refine zq (cs:=B1) rfl rfl rfl rfl rfl rfl (by rfl) dX ?_
 intro bC bf dy
 refine yY rfl rfl rfl rfl rfl rfl (eN (zJ (ZI ZD [3,1,2,3,2,3,1,3,3,1,1,2,3,3] gDo (by kernel_rfl) ?_)))
 have bp:=dy.drew
 generalize hw_W15:({ bC with drawn:=bC.drawn + 1 }:World)=cf at bp ⊢
 refine oR Z (zH Z Z zt Z yN) (oL Z (bp.ldB (j:=0) Z Z Z yS (v:=jV O.Kind) Z) (bnK bZ fun fC cG d9=>zC 0 Z Z Z Z (zD Z Z yP (zB Z (zB Z (zB Z zL))) Z) bp (fun hs=>wCE O.Kind 0 3 cf U hs cG) (.inr Z) ?_))
 rintro bb eG fm bK a5 dP ⟨rfl,rfl⟩
 have aO:sW w U bb [.blk bf 93 B1,.blk b7 27 B0] bK:=dP
 refine oM Z Z (ifc d9 ?_ ?_)
 intro ae eo
 refine zg Z Z Z (zN Z Z (congrArg hH ae.out)) (fun _=>zH Z Z zt Z yN) (zx Z Z Z (zN Z Z (congrArg hH ae.out)) (aO.ldB (j:=0) Z Z Z yS (v:=jV O.Kind) Z) Z (zx Z Z Z (zN Z Z (congrArg hH ae.out)) (aO.ldBA (j:=1) Z Z Z zn zc (vs:=B0) Z Z) Z (zx Z Z Z (zN Z Z (congrArg hH ae.out)) (aO.ldBA (j:=0) Z Z Z Zx Zg (vs:=B1) Z Z) Z ?_)))
 have q:=bnd eo
 obtain ⟨⟨⟩,cV,bY⟩:=q
 try dsimp only at bY
 refine zC 0 Z Z Z (zN Z Z (congrArg hH ae.out)) (zD Z Z yT zL Z) aO (fun hs=>wBI bK bb hs cV) (.inr Z) ?_
 rintro bx eK fu bM a6 dQ ⟨rfl,rfl⟩
 have dR:sW w U bx [.blk bf 93 B1,.blk b7 27 B0] bM:=dQ
 refine zg rfl rfl rfl (zN rfl rfl (congrArg hH ae.out)) (fun _=>(yn (i:=0) rfl rfl (congrArg (jV) c1) Zs ZU (by decide) (by decide) (wDT yc ZU rfl))) (zg rfl rfl rfl (zN rfl rfl (congrArg hH ae.out)) (fun _=>Runs.fld rfl rfl Zv rfl (wFI Tryz.isAgg196 (v:=.func (.func 133) #[] #[]) rfl)) ?_)
 have cW:=aT.le a5
 have cX:=cW.le a6
 have cY:=aU.le a5
 have cZ:=cY.le a6
 have c6:=aV.le a5
 have da:=c6.le a6
 have db:=aW.le a5
 have dd:=db.le a6
 refine bnK bY fun fH de ep=>zC 0 Z Z Z (zN Z Z (congrArg hH ae.out)) (zD Z Z Tryz.call133 (zB Z (zB Z zL)) Z) dR (fun hs=>wHj p0 ah am ai an aj ao ak ap O bM bx hs cX cZ da dd de) (.inr Z) ?_
 rintro bz eL fw cp fb dS ⟨rfl,rfl⟩
 have dT:sW w U bz [.blk bf 93 B1,.blk b7 27 B0] cp:=dS
 refine oR Z (zS Z (congrArg hH ae.out) Z) (oA Z Z (eN (zR ?_)))
 have hE:=nE ep;first | subst r | cases hE
 exact ⟨rfl,_,(ZH rfl),bz,_,(dT.pick [] _ (by decide) rfl),rfl,rfl⟩
 intro ae er
 refine zw Z Z Z (zO Z Z (congrArg hH (nA.2 ae.out)) Z) (zw Z Z Z (zO Z Z (congrArg hH (nA.2 ae.out)) Z) (zw Z Z Z (zO Z Z (congrArg hH (nA.2 ae.out)) Z) (zw Z Z Z (zO Z Z (congrArg hH (nA.2 ae.out)) Z) (ZA Z Z Z (zO Z Z (congrArg hH (nA.2 ae.out)) Z) (zw Z Z Z (zO Z Z (congrArg hH (nA.2 ae.out)) Z) (zw Z Z Z (zO Z Z (congrArg hH (nA.2 ae.out)) Z) (ZA Z Z Z (zO Z Z (congrArg hH (nA.2 ae.out)) Z) (oR Z (zZ Z (congrArg hH (nA.2 ae.out)) Z) (oA Z Z (eN (zR ?_)))))))))))
 have hE:=nE er;first | subst r | cases hE
 exact ⟨rfl,_,(ZH rfl),bb,_,(aO.pick [] _ (by decide) rfl),rfl,rfl⟩
 by_cases c2:O.Kind=1
 have b5:=hm;rw [if_neg c1,if_pos c2] at b5
 refine sR gCv Z ?_
 let B2:List Value:=[.slice ah p0.Starts.length am,.slice ai p0.Splits.length an,.slice aj p0.Clocks.length ao,.slice ak p0.Readings.length ap]
 refine zq (cs:=B2) rfl rfl rfl rfl rfl rfl (by rfl) hS ?_
 intro eS bj dU
 let B3:List Value:=[jV O.Kind,jV O.Skier,jV O.Index,.bool O.Up]
 refine zq (cs:=B3) rfl rfl rfl rfl rfl rfl (by rfl) dU ?_
 intro bN bk dV
 refine yY rfl rfl rfl rfl rfl rfl (eN (zJ (ZI ZD [3,1,2,3,2,3,1,3,3,1,1,2,3,3] gDo (by kernel_rfl) ?_)))
 have bs:=dV.drew
 generalize hw_W66:({ bN with drawn:=bN.drawn + 1 }:World)=cq at bs ⊢
 refine oR Z (zH Z Z zt Z yN) (oL Z (bs.ldB (j:=0) Z Z Z yS (v:=jV O.Kind) Z) (bnK b5 fun fI df eu=>zC 0 Z Z Z Z (zD Z Z yP (zB Z (zB Z (zB Z zL))) Z) bs (fun hs=>wCE O.Kind 0 3 cq U hs df) (.inr Z) ?_))
 rintro bd eM fy bO a7 dW ⟨rfl,rfl⟩
 have aP:sW w U bd [.blk bk 93 B3,.blk bj 27 B2] bO:=dW
 refine oM Z Z (ifc eu ?_ ?_)
 intro af ew
 refine zg Z Z Z (zN Z Z (congrArg hH af.out)) (fun _=>zH Z Z zt Z yN) (zx Z Z Z (zN Z Z (congrArg hH af.out)) (aP.ldB (j:=0) Z Z Z yS (v:=jV O.Kind) Z) Z (zx Z Z Z (zN Z Z (congrArg hH af.out)) (aP.ldBA (j:=1) Z Z Z zn zc (vs:=B2) Z Z) Z (zx Z Z Z (zN Z Z (congrArg hH af.out)) (aP.ldBA (j:=0) Z Z Z Zx Zg (vs:=B3) Z Z) Z ?_)))
 have q:=bnd ew
 obtain ⟨⟨⟩,dg,ca⟩:=q
 try dsimp only at ca
 refine zC 0 Z Z Z (zN Z Z (congrArg hH af.out)) (zD Z Z yT zL Z) aP (fun hs=>wBI bO bd hs dg) (.inr Z) ?_
 rintro bA eO fz bP a8 dY ⟨rfl,rfl⟩
 have dZ:sW w U bA [.blk bk 93 B3,.blk bj 27 B2] bP:=dY
 refine zg rfl rfl rfl (zN rfl rfl (congrArg hH af.out)) (fun _=>(yn (i:=1) rfl rfl (congrArg (jV) c2) Zs ZU (by decide) (by decide) (wDT yc ZU rfl))) (zg rfl rfl rfl (zN rfl rfl (congrArg hH af.out)) (fun _=>Runs.fld rfl rfl Zv rfl (wFI Tryz.isAgg196 (v:=.func (.func 136) #[] #[]) rfl)) ?_)
 have dh:=aT.le a7
 have di:=dh.le a8
 have dk:=aU.le a7
 have dl:=dk.le a8
 have dm:=aV.le a7
 have dp:=dm.le a8
 have dq:=aW.le a7
 have dr:=dq.le a8
 refine bnK ca fun fJ dt ey=>zC 0 Z Z Z (zN Z Z (congrArg hH af.out)) (zD Z Z Tryz.call136 (zB Z (zB Z zL)) Z) dZ (fun hs=>wHm p0 ah am ai an aj ao ak ap O bP bA hs di dl dp dr dt) (.inr Z) ?_
 rintro bB eA fc cc eW du ⟨rfl,rfl⟩
 have dv:sW w U bB [.blk bk 93 B3,.blk bj 27 B2] cc:=du
 refine oR Z (zS Z (congrArg hH af.out) Z) (oA Z Z (eN (zR ?_)))
 have hE:=nE ey;first | subst r | cases hE
 exact ⟨rfl,_,(ZH rfl),bB,_,(dv.pick [] _ (by decide) rfl),rfl,rfl⟩
 intro af d3
 refine zw Z Z Z (zO Z Z (congrArg hH (nA.2 af.out)) Z) (zw Z Z Z (zO Z Z (congrArg hH (nA.2 af.out)) Z) (zw Z Z Z (zO Z Z (congrArg hH (nA.2 af.out)) Z) (zw Z Z Z (zO Z Z (congrArg hH (nA.2 af.out)) Z) (ZA Z Z Z (zO Z Z (congrArg hH (nA.2 af.out)) Z) (zw Z Z Z (zO Z Z (congrArg hH (nA.2 af.out)) Z) (zw Z Z Z (zO Z Z (congrArg hH (nA.2 af.out)) Z) (ZA Z Z Z (zO Z Z (congrArg hH (nA.2 af.out)) Z) (oR Z (zZ Z (congrArg hH (nA.2 af.out)) Z) (oA Z Z (eN (zR ?_)))))))))))
 have hE:=nE d3;first | subst r | cases hE
 exact ⟨rfl,_,(ZH rfl),bd,_,(aP.pick [] _ (by decide) rfl),rfl,rfl⟩
 by_cases c3:O.Kind=2
 have bS:=hm;rw [if_neg c1,if_neg c2,if_pos c3] at bS
 refine sR gCv Z ?_
 let B4:List Value:=[.slice ah p0.Starts.length am,.slice ai p0.Splits.length an,.slice aj p0.Clocks.length ao,.slice ak p0.Readings.length ap]
 refine zq (cs:=B4) rfl rfl rfl rfl rfl rfl (by rfl) hS ?_
 intro eP be dw
 let B5:List Value:=[jV O.Kind,jV O.Skier,jV O.Index,.bool O.Up]
 refine zq (cs:=B5) rfl rfl rfl rfl rfl rfl (by rfl) dw ?_
 intro bD bg dx
 refine yY rfl rfl rfl rfl rfl rfl (eN (zJ (ZI ZD [3,1,2,3,2,3,1,3,3,1,1,2,3,3] gDo (by kernel_rfl) ?_)))
 have bo:=dx.drew
 generalize hw_W117:({ bD with drawn:=bD.drawn + 1 }:World)=cd at bo ⊢
 refine oR Z (zH Z Z zt Z yN) (oL Z (bo.ldB (j:=0) Z Z Z yS (v:=jV O.Kind) Z) (bnK bS fun fA cr d4=>zC 0 Z Z Z Z (zD Z Z yP (zB Z (zB Z (zB Z zL))) Z) bo (fun hs=>wCE O.Kind 0 3 cd U hs cr) (.inr Z) ?_))
 rintro a9 eB fd bE aX dz ⟨rfl,rfl⟩
 have aL:sW w U a9 [.blk bg 93 B5,.blk be 27 B4] bE:=dz
 refine oM Z Z (ifc d4 ?_ ?_)
 intro ab d5
 refine zg Z Z Z (zN Z Z (congrArg hH ab.out)) (fun _=>zH Z Z zt Z yN) (zx Z Z Z (zN Z Z (congrArg hH ab.out)) (aL.ldB (j:=0) Z Z Z yS (v:=jV O.Kind) Z) Z (zx Z Z Z (zN Z Z (congrArg hH ab.out)) (aL.ldBA (j:=1) Z Z Z zn zc (vs:=B4) Z Z) Z (zx Z Z Z (zN Z Z (congrArg hH ab.out)) (aL.ldBA (j:=0) Z Z Z Zx Zg (vs:=B5) Z Z) Z ?_)))
 have q:=bnd d5
 obtain ⟨⟨⟩,ct,bT⟩:=q
 try dsimp only at bT
 refine zC 0 Z Z Z (zN Z Z (congrArg hH ab.out)) (zD Z Z yT zL Z) aL (fun hs=>wBI bE a9 hs ct) (.inr Z) ?_
 rintro bt eC ff bF aY dA ⟨rfl,rfl⟩
 have dB:sW w U bt [.blk bg 93 B5,.blk be 27 B4] bF:=dA
 refine zg rfl rfl rfl (zN rfl rfl (congrArg hH ab.out)) (fun _=>(yn (i:=2) rfl rfl (congrArg (jV) c3) Zs ZU (by decide) (by decide) (wDT yc ZU rfl))) (zg rfl rfl rfl (zN rfl rfl (congrArg hH ab.out)) (fun _=>Runs.fld rfl rfl Zv rfl (wFI Tryz.isAgg196 (v:=.func (.func 139) #[] #[]) rfl)) ?_)
 have cu:=aT.le aX
 have cw:=cu.le aY
 have cx:=aU.le aX
 have cy:=cx.le aY
 have cz:=aV.le aX
 have cA:=cz.le aY
 have cC:=aW.le aX
 have cD:=cC.le aY
 refine bnK bT fun fB cE d6=>zC 0 Z Z Z (zN Z Z (congrArg hH ab.out)) (zD Z Z Tryz.call139 (zB Z (zB Z zL)) Z) dB (fun hs=>wHp p0 ah am ai an aj ao ak ap O bF bt hs cw cy cA cD cE) (.inr Z) ?_
 rintro bu eD fg cg eZ dC ⟨rfl,rfl⟩
 have dD:sW w U bu [.blk bg 93 B5,.blk be 27 B4] cg:=dC
 refine oR Z (zS Z (congrArg hH ab.out) Z) (oA Z Z (eN (zR ?_)))
 have hE:=nE d6;first | subst r | cases hE
 exact ⟨rfl,_,(ZH rfl),bu,_,(dD.pick [] _ (by decide) rfl),rfl,rfl⟩
 intro ab d7
 refine zw Z Z Z (zO Z Z (congrArg hH (nA.2 ab.out)) Z) (zw Z Z Z (zO Z Z (congrArg hH (nA.2 ab.out)) Z) (zw Z Z Z (zO Z Z (congrArg hH (nA.2 ab.out)) Z) (zw Z Z Z (zO Z Z (congrArg hH (nA.2 ab.out)) Z) (ZA Z Z Z (zO Z Z (congrArg hH (nA.2 ab.out)) Z) (zw Z Z Z (zO Z Z (congrArg hH (nA.2 ab.out)) Z) (zw Z Z Z (zO Z Z (congrArg hH (nA.2 ab.out)) Z) (ZA Z Z Z (zO Z Z (congrArg hH (nA.2 ab.out)) Z) (oR Z (zZ Z (congrArg hH (nA.2 ab.out)) Z) (oA Z Z (eN (zR ?_)))))))))))
 have hE:=nE d7;first | subst r | cases hE
 exact ⟨rfl,_,(ZH rfl),a9,_,(aL.pick [] _ (by decide) rfl),rfl,rfl⟩
 by_cases c4:O.Kind=3
 have bU:=hm;rw [if_neg c1,if_neg c2,if_neg c3,if_pos c4] at bU
 refine sR gCv Z ?_
 let B6:List Value:=[.slice ah p0.Starts.length am,.slice ai p0.Splits.length an,.slice aj p0.Clocks.length ao,.slice ak p0.Readings.length ap]
 refine zq (cs:=B6) rfl rfl rfl rfl rfl rfl (by rfl) hS ?_
 intro eQ bh dE
 let B7:List Value:=[jV O.Kind,jV O.Skier,jV O.Index,.bool O.Up]
 refine zq (cs:=B7) rfl rfl rfl rfl rfl rfl (by rfl) dE ?_
 intro bG bi dF
 refine yY rfl rfl rfl rfl rfl rfl (eN (zJ (ZI ZD [3,1,2,3,2,3,1,3,3,1,1,2,3,3] gDo (by kernel_rfl) ?_)))
 have bq:=dF.drew
 generalize hw_W168:({ bG with drawn:=bG.drawn + 1 }:World)=cj at bq ⊢
 refine oR Z (zH Z Z zt Z yN) (oL Z (bq.ldB (j:=0) Z Z Z yS (v:=jV O.Kind) Z) (bnK bU fun fD cH d8=>zC 0 Z Z Z Z (zD Z Z yP (zB Z (zB Z (zB Z zL))) Z) bq (fun hs=>wCE O.Kind 0 3 cj U hs cH) (.inr Z) ?_))
 rintro ba eE fh bH aZ dG ⟨rfl,rfl⟩
 have aM:sW w U ba [.blk bi 93 B7,.blk bh 27 B6] bH:=dG
 refine oM Z Z (ifc d8 ?_ ?_)
 intro ac ef
 refine zg Z Z Z (zN Z Z (congrArg hH ac.out)) (fun _=>zH Z Z zt Z yN) (zx Z Z Z (zN Z Z (congrArg hH ac.out)) (aM.ldB (j:=0) Z Z Z yS (v:=jV O.Kind) Z) Z (zx Z Z Z (zN Z Z (congrArg hH ac.out)) (aM.ldBA (j:=1) Z Z Z zn zc (vs:=B6) Z Z) Z (zx Z Z Z (zN Z Z (congrArg hH ac.out)) (aM.ldBA (j:=0) Z Z Z Zx Zg (vs:=B7) Z Z) Z ?_)))
 have q:=bnd ef
 obtain ⟨⟨⟩,cI,bV⟩:=q
 try dsimp only at bV
 refine zC 0 Z Z Z (zN Z Z (congrArg hH ac.out)) (zD Z Z yT zL Z) aM (fun hs=>wBI bH ba hs cI) (.inr Z) ?_
 rintro bv eF fj bI a0 dH ⟨rfl,rfl⟩
 have dI:sW w U bv [.blk bi 93 B7,.blk bh 27 B6] bI:=dH
 refine zg rfl rfl rfl (zN rfl rfl (congrArg hH ac.out)) (fun _=>(yn (i:=3) rfl rfl (congrArg (jV) c4) Zs ZU (by decide) (by decide) (wDT yc ZU rfl))) (zg rfl rfl rfl (zN rfl rfl (congrArg hH ac.out)) (fun _=>Runs.fld rfl rfl Zv rfl (wFI Tryz.isAgg196 (v:=.func (.func 142) #[] #[]) rfl)) ?_)
 have cJ:=aT.le aZ
 have cK:=cJ.le a0
 have cL:=aU.le aZ
 have cM:=cL.le a0
 have cN:=aV.le aZ
 have cO:=cN.le a0
 have cP:=aW.le aZ
 have cQ:=cP.le a0
 refine bnK bV fun fE cR eg=>zC 0 Z Z Z (zN Z Z (congrArg hH ac.out)) (zD Z Z Tryz.call142 (zB Z (zB Z zL)) Z) dI (fun hs=>wHP p0 ah am ai an aj ao ak ap O bI bv hs cK cM cO cQ cR) (.inr Z) ?_
 rintro bw eH fk cm e6 dJ ⟨rfl,rfl⟩
 have dK:sW w U bw [.blk bi 93 B7,.blk bh 27 B6] cm:=dJ
 refine oR Z (zS Z (congrArg hH ac.out) Z) (oA Z Z (eN (zR ?_)))
 have hE:=nE eg;first | subst r | cases hE
 exact ⟨rfl,_,(ZH rfl),bw,_,(dK.pick [] _ (by decide) rfl),rfl,rfl⟩
 intro ac eh
 refine zw Z Z Z (zO Z Z (congrArg hH (nA.2 ac.out)) Z) (zw Z Z Z (zO Z Z (congrArg hH (nA.2 ac.out)) Z) (zw Z Z Z (zO Z Z (congrArg hH (nA.2 ac.out)) Z) (zw Z Z Z (zO Z Z (congrArg hH (nA.2 ac.out)) Z) (ZA Z Z Z (zO Z Z (congrArg hH (nA.2 ac.out)) Z) (zw Z Z Z (zO Z Z (congrArg hH (nA.2 ac.out)) Z) (zw Z Z Z (zO Z Z (congrArg hH (nA.2 ac.out)) Z) (ZA Z Z Z (zO Z Z (congrArg hH (nA.2 ac.out)) Z) (oR Z (zZ Z (congrArg hH (nA.2 ac.out)) Z) (oA Z Z (eN (zR ?_)))))))))))
 have hE:=nE eh;first | subst r | cases hE
 exact ⟨rfl,_,(ZH rfl),ba,_,(aM.pick [] _ (by decide) rfl),rfl,rfl⟩
 have bW:=hm;rw [if_neg c1,if_neg c2,if_neg c3,if_neg c4] at bW
 refine sR gCv Z ?_
 let B8:List Value:=[.slice ah p0.Starts.length am,.slice ai p0.Splits.length an,.slice aj p0.Clocks.length ao,.slice ak p0.Readings.length ap]
 refine zq (cs:=B8) rfl rfl rfl rfl rfl rfl (by rfl) hS ?_
 intro eR bQ dL
 let B9:List Value:=[jV O.Kind,jV O.Skier,jV O.Index,.bool O.Up]
 refine zq (cs:=B9) rfl rfl rfl rfl rfl rfl (by rfl) dL ?_
 intro bJ bR dM
 refine yY rfl rfl rfl rfl rfl rfl (eN (zJ (ZI ZD [3,1,2,3,2,3,1,3,3,1,1,2,3,3] gDo (by kernel_rfl) ?_)))
 have br:=dM.drew
 generalize hw_W219:({ bJ with drawn:=bJ.drawn + 1 }:World)=cn at br ⊢
 refine oR Z (zH Z Z zt Z yN) (oL Z (br.ldB (j:=0) Z Z Z yS (v:=jV O.Kind) Z) (bnK bW fun fG cS ej=>zC 0 Z Z Z Z (zD Z Z yP (zB Z (zB Z (zB Z zL))) Z) br (fun hs=>wCE O.Kind 0 3 cn U hs cS) (.inr Z) ?_))
 rintro bc eI fq bL e8 dN ⟨rfl,rfl⟩
 have aN:sW w U bc [.blk bR 93 B9,.blk bQ 27 B8] bL:=dN
 refine oM Z Z (ifc ej ?_ ?_)
 intro ag ek
 refine zg Z Z Z (zN Z Z (congrArg hH ag.out)) (fun _=>zH Z Z zt Z yN) (zx Z Z Z (zN Z Z (congrArg hH ag.out)) (aN.ldB (j:=0) Z Z Z yS (v:=jV O.Kind) Z) Z (zx Z Z Z (zN Z Z (congrArg hH ag.out)) (aN.ldBA (j:=1) Z Z Z zn zc (vs:=B8) Z Z) Z (zx Z Z Z (zN Z Z (congrArg hH ag.out)) (aN.ldBA (j:=0) Z Z Z Zx Zg (vs:=B9) Z Z) Z ?_)))
 have q:=bnd ek
 obtain ⟨⟨⟩,cU,bX⟩:=q
 try dsimp only at bX
 refine zC 0 Z Z Z (zN Z Z (congrArg hH ag.out)) (zD Z Z yT zL Z) aN (fun hs=>wBI bL bc hs cU) (.inr Z) ?_
 rintro cb eJ ft co e9 dO ⟨rfl,rfl⟩
 have eV:sW w U cb [.blk bR 93 B9,.blk bQ 27 B8] co:=dO
 cases bX
 intro ag en
 refine zw Z Z Z (zO Z Z (congrArg hH (nA.2 ag.out)) Z) (zw Z Z Z (zO Z Z (congrArg hH (nA.2 ag.out)) Z) (zw Z Z Z (zO Z Z (congrArg hH (nA.2 ag.out)) Z) (zw Z Z Z (zO Z Z (congrArg hH (nA.2 ag.out)) Z) (ZA Z Z Z (zO Z Z (congrArg hH (nA.2 ag.out)) Z) (zw Z Z Z (zO Z Z (congrArg hH (nA.2 ag.out)) Z) (zw Z Z Z (zO Z Z (congrArg hH (nA.2 ag.out)) Z) (ZA Z Z Z (zO Z Z (congrArg hH (nA.2 ag.out)) Z) (oR Z (zZ Z (congrArg hH (nA.2 ag.out)) Z) (oA Z Z (eN (zR ?_)))))))))))
 have hE:=nE en;first | subst r | cases hE
 exact ⟨rfl,_,(ZH rfl),bc,_,(aN.pick [] _ (by decide) rfl),rfl,rfl⟩
theorem wFB (O:List wAH) (am:Option Addr) (an:Nat) (p1:(wAH->Option Bool)) (ao:Value) (w:World) (U:PHeap) (hS:St0 w U []) (a7:Sl U 4 am an O.length (hD wCA O)) (a8:FnOK Tryz.prog U ao wMD wOW p1) {r:Bool} (hm:wCw O p1=some r):Gv Tryz.prog 129 [.slice am O.length an,ao] w (wCF w [] U (fun U_ L_ v=>v=.bool r/\L_=[])):=by
 unfold wCw at hm
 refine Gv.of Tryz.func129 Z Tryz.ntmps129 Tryz.results129 Z (sR fL1 Z (oA Z Z (eN (zJ (sR fL3 Z (oM Z Z (oR Z (zi Z Z yU) (oM Z Z (eN (zX ?_))))))))))
 have q:=wCT hm
 obtain ⟨r3,ah⟩:=q
 have q:=wCS ah
 obtain ⟨aj,bb⟩:=q
 replace aj:=zM aj
 refine ya (fun k2 _ J_ w_=>∃ (U_:PHeap),J_ 9=jV (↑k2:Int)/\J_ 1=ao/\J_ 7=.slice am O.length an/\J_ 8=jV (↑O.length:Int)/\PHeap.Le U U_/\sW w U U_ [] w_) bb ?_ ?_ ?_
 exact ⟨U,Z,Z,Z,Z,(zQ _),hS⟩
 rintro k2 ⟨⟩ bA J7 W8 ai ⟨aM,ag,au,av,ax,ak,az⟩ aK a9
 try dsimp only at aK
 have aq:Hid ((↑k2:Int) < (↑O.length:Int)):=zM (wBQ ai)
 replace ai:=zM ai
 have bc:Hid (w64 ((↑k2:Int) + 1)=(↑(k2 + 1):Int)):=zM (by have h1:=aj.out;have h2:=aq.out;rw [wAY] <;> omega)
 refine sR fL1 Z (oR Z (ze Z ag ax) (eN (zJ (cT Z aq (kN (zJ (zX (sR gCz Z (bnK aK fun aa ay bd=>?_)))))))))
 have aU:=a7.le ak
 have q:=aU.el (fun _=>rfl) (wAb ay)
 obtain ⟨br,bv,aX,aY⟩:=q
 refine oR Z (ZZ Z av aX ag yU Zg (wCc ay)) (oL Z (az.ldCA (f:=0) aY Z Z Zx Zg (us:=[jV aa.Kind,jV aa.Skier,jV aa.Index,.bool aa.Up]) Z Z) (zU (cs:=[jV 0,jV 0,jV 0,.bool false]) Z Z Z Z Z Zw Z az ?_))
 intro bo ap aZ
 let B0:List Value:=[jV aa.Kind,jV aa.Skier,jV aa.Index,.bool aa.Up]
 refine zY (j:=0) (vs:=B0) Z Z Z Z aZ Z Z Z Z Zg (zA Z) Z Z Z ?_
 intro aO a0
 have aH:sW w U aM [.blk ap 93 B0] aO:=a0
 refine eN (sR gDa Z (oM Z au (oL Z (aH.ldBA (j:=0) Z Z Z Zx Zg (vs:=B0) Z Z) (bnK bd fun bz aV be=>?_))))
 have aW:=a8.le ak
 refine OKS.callV (a:=aa) Z Z Z Z Z Z (zB Z zL) aH aW Z aV ?_
 rintro ae bn bx aP bi a5 ⟨rfl,rfl⟩
 have aI:sW w U ae [.blk ap 93 B0] aP:=a5
 refine oR Z (ZY Z Z) (eN (ifc be ?_ ?_))
 intro af bf
 refine zr (nC af.out) (Ze (zl (zF (rR fL2 Z (oR Z (ZP (za Z ag Z) (congrArg (jV) bc.out)) (oM Z Z (zb ?_)))))))
 have q:=nE bf
 obtain rfl:=q
 exact zF ⟨rfl,_,rfl,⟨ae,rfl,au,av,ax,(ak.trans bi),(aI.pick [] _ (by decide) rfl)⟩⟩
 intro af bg
 refine ZK (nF (af.out)) (sR fL1 Z (oA Z Z (eN (zR (zo (zT ?_))))))
 have q:=wAV bg
 obtain ⟨bj,bh,aR⟩:=q
 have q:=wCY hm ah (a9 bj aR)
 obtain rfl:=q
 refine zT (zo (zT ?_))
 have hE:=nE bh;first | subst r | cases hE
 exact ⟨rfl,_,(ZH rfl),ae,_,(aI.pick [] _ (by decide) rfl),rfl,rfl⟩
 rintro ⟨⟩ bk bp ⟨aN,aT,bs,bt,aS,bu,a6⟩ ba
 have aJ:=wDQ hm ah ba
 try dsimp only at aJ
 have aQ:Hid (¬ ((↑(((↑O.length:Int):Int) - 0).toNat:Int) < (↑O.length:Int))):=zM (wAq)
 refine sR fL1 Z (oR Z (ze Z aT aS) (eN (zJ (cF Z aQ (ZS (zf (zf (ZN (zF (sR fL1 Z (oA Z Z (eN (zR ?_)))))))))))))
 have hE:=nE aJ;first | subst r | cases hE
 exact ⟨Z,_,(ZH Z),aN,_,a6,Z,Z⟩
theorem wEY (O:wAA) (ae:Option Addr) (ai:Nat) (af:Option Addr) (aj:Nat) (ag:Option Addr) (ak:Nat) (ah:Option Addr) (am:Nat) (p1:List wAH) (aq:Option Addr) (au:Nat) (w:World) (U:PHeap) (hS:St0 w U []) (aN:Sl U 1 ae ai O.Starts.length (hD KL.encI O.Starts)) (aO:Sl U 2 af aj O.Splits.length (hD wAC O.Splits)) (aP:Sl U 3 ag ak O.Clocks.length (hD wAE O.Clocks)) (aQ:Sl U 4 ah am O.Readings.length (hD wAB O.Readings)) (aR:Sl U 4 aq au p1.length (hD wCA p1)) {r:Int} (hm:wCx O p1=some r):Gv Tryz.prog 111 [.agg #[.slice ae O.Starts.length ai,.slice af O.Splits.length aj,.slice ag O.Clocks.length ak,.slice ah O.Readings.length am],.slice aq p1.length au] w (wCF w [] U (fun U_ L_ v=>v=jV r/\L_=[])):=by
 unfold wCx at hm
 refine Gv.of Tryz.func111 Z Tryz.ntmps111 Tryz.results111 Z (sR gCl Z ?_)
 let B0:List Value:=[.slice ae O.Starts.length ai,.slice af O.Splits.length aj,.slice ag O.Clocks.length ak,.slice ah O.Readings.length am]
 refine zq (cs:=B0) rfl rfl rfl rfl rfl rfl (by rfl) hS ?_
 intro W1 b2 ap
 refine oA Z Z (eN (sR fL3 Z (oL Z (ap.ldBA (j:=0) Z Z Z zn zc (vs:=B0) Z Z) (oR Z (Runs.mkf Z (zB Z zL) zL) (oA Z Z (eN (zJ (zX (sR fL4 Z (oM Z Z (oR Z (zi Z Z yU) (oR Z (yQ Z Z Z) (oA Z Z (eN ?_))))))))))))))
 by_cases c5:80 < (↑p1.length:Int)
 have ax:=hm;rw [if_pos c5] at ax;replace c5:=zM c5
 refine cT Z c5 (sR fL1 Z (oA Z Z (eN (zR (zo (zT ?_))))))
 cases ax
 exact ⟨rfl,_,(ZH rfl),U,_,(ap.pick [] _ (by decide) rfl),rfl,rfl⟩
 have ay:=hm;rw [if_neg c5] at ay;replace c5:=zM c5
 refine cF Z c5 (sR gDg Z (oM Z Z (oM Z Z ?_)))
 have aL:FnOK Tryz.prog U (.func (.func 128) #[.agg B0.toArray] #[]) wMD wOW (fun x=>wCf O x):=⟨128,[.agg B0.toArray],[],rfl,Tryz.call128,fun U1 w1 x y vs le hs ha hm=>by obtain rfl:=ha;exact wGO O ae ai af aj ag ak ah am x w1 U1 hs (aN.le le) (aO.le le) (aP.le le) (aQ.le le) hm⟩
 refine bnK ay fun x9 aK aS=>zC 0 Z Z Z Z (zD Z Z Tryz.call129 (zB Z (zB Z zL)) Z) ap (fun hs=>wFB p1 aq au (fun x=>wCf O x) (.func (.func 128) #[.agg B0.toArray] #[]) W1 U hs aR aL aK) (.inr Z) ?_
 rintro an aW aY aI aX aM ⟨rfl,rfl⟩
 have av:sW w U an [.blk b2 27 B0] aI:=aM
 refine oR Z (ZY Z Z) (oA Z Z (eN (ifc aS ?_ ?_)))
 intro ao aT
 refine zr (nC ao.out) (Ze (zl (zF (sR fL1 Z (oA Z Z (eN (zR ?_)))))))
 cases aT
 exact ⟨rfl,_,(ZH rfl),an,_,(av.pick [] _ (by decide) rfl),rfl,rfl⟩
 intro ao aU
 refine ZK (nF (ao.out)) (sR fL1 Z (oA Z Z (eN (zR (zo (zT ?_))))))
 cases aU
 exact ⟨rfl,_,(ZH rfl),an,_,(av.pick [] _ (by decide) rfl),rfl,rfl⟩
end Go.Proofs.YtlnfbjphfoipaaaGreat
namespace Go.Proofs.YtlnfbjphfoipaaaGreat
open Go.KL
set_option maxHeartbeats 4000000
theorem wDO (O:wAA) (aJ:Option Addr) (aN:Nat) (aK:Option Addr) (aO:Nat) (aL:Option Addr) (aP:Nat) (aM:Option Addr) (aQ:Nat) (p1:wAI) (p2:List wAH) (a5:Option Addr) (a6:Nat) (w:World) (U:PHeap) (hS:St0 w U []) (ca:Sl U 1 aJ aN O.Starts.length (hD KL.encI O.Starts)) (cb:Sl U 2 aK aO O.Splits.length (hD wAC O.Splits)) (cc:Sl U 3 aL aP O.Clocks.length (hD wAE O.Clocks)) (cd:Sl U 4 aM aQ O.Readings.length (hD wAB O.Readings)) (cf:Sl U 4 a5 a6 p2.length (hD wCA p2)) {r:wAI × Int × Bool} (hm:wDN O p1 p2=some r):Gv Tryz.prog 112 [.agg #[.slice aJ O.Starts.length aN,.slice aK O.Splits.length aO,.slice aL O.Clocks.length aP,.slice aM O.Readings.length aQ],.agg #[jV p1.skier,jV p1.mat],.slice a5 p2.length a6] w (wCF w [] U (fun U_ L_ v=>v=.tuple #[.agg #[jV r.1.skier,jV r.1.mat],jV r.2.1,.bool r.2.2]/\L_=[])):=by
 unfold wDN at hm
 refine Gv.of Tryz.func112 Z Tryz.ntmps112 Tryz.results112 Z (sR gDh Z ?_)
 let B0:List Value:=[.slice aJ O.Starts.length aN,.slice aK O.Splits.length aO,.slice aL O.Clocks.length aP,.slice aM O.Readings.length aQ]
 refine zq (cs:=B0) rfl rfl rfl rfl rfl rfl (by rfl) hS ?_
 intro W1 b2 bO
 refine zq (cs:=[jV p1.skier,jV p1.mat]) rfl rfl rfl rfl rfl rfl (by rfl) bO ?_
 intro W5 b6 bR
 let B1:List Value:=[jV 0,jV 0]
 refine zU (cs:=B1) Z Z Z Z Z zd Z bR ?_
 intro W9 ae bM
 refine oA Z Z (oA Z Z (eN (sR fL1 Z (oA Z Z (eN (zJ (sR fL3 Z (oM Z Z (oR Z (zi Z Z yU) (oM Z Z (eN (zX ?_))))))))))))
 have q:=wCT hm
 obtain ⟨cS,aY⟩:=q
 have q:=wCS aY
 obtain ⟨a0,cm⟩:=q
 replace a0:=zM a0
 refine ya (fun av (aR,aS,bo) J_ w_=>∃ (U_:PHeap),J_ 17=jV (↑av:Int)/\J_ 3=.pointer (some ⟨b2,0,none⟩)/\J_ 4=.pointer (some ⟨b6,0,none⟩)/\J_ 6=.pointer (some ⟨ae,0,none⟩)/\J_ 9=jV bo/\J_ 15=.slice a5 p2.length a6/\J_ 16=jV (↑p2.length:Int)/\PHeap.Le U U_/\sW w U U_ [.blk ae 123 B1,.blk b6 123 [jV aR,jV aS],.blk b2 27 B0] w_) cm ?_ ?_ ?_
 exact ⟨U,Z,Z,Z,Z,Z,Z,Z,(zQ _),bM⟩
 rintro av ⟨aR,aS,bo⟩ cV cC cH aZ ⟨a8,aW,bc,aI,aV,bB,bd,be,au,bj⟩ bn cj
 try dsimp only at bn
 have ba:Hid ((↑av:Int) < (↑p2.length:Int)):=zM (wBQ aZ)
 replace aZ:=zM aZ
 have cn:Hid (w64 ((↑av:Int) + 1)=(↑(av + 1):Int)):=zM (by have h1:=a0.out;have h2:=ba.out;rw [wAY] <;> omega)
 refine sR fL1 Z (oR Z (ze Z aW be) (eN (zJ (cT Z ba (kN (zJ (zX (sR gCz Z (bnK bn fun ai bf cq=>?_)))))))))
 have bD:=cf.le au
 have q:=bD.el (fun _=>rfl) (wAb bf)
 obtain ⟨cN,cR,bJ,bK⟩:=q
 refine oR Z (ZZ Z bd bJ aW yU Zg (wCc bf)) (oL Z (bj.ldCA (f:=0) bK Z Z Zx Zg (us:=[jV ai.Kind,jV ai.Skier,jV ai.Index,.bool ai.Up]) Z Z) (zU (cs:=[jV 0,jV 0,jV 0,.bool false]) Z Z Z Z Z Zw Z bj ?_))
 intro cJ ap bP
 let B2:List Value:=[jV ai.Kind,jV ai.Skier,jV ai.Index,.bool ai.Up]
 refine zY (j:=0) (vs:=B2) Z Z Z Z bP Z Z Z Z Zg (zA Z) Z Z Z ?_
 intro a9 bQ
 let B3:List Value:=[jV aR,jV aS]
 have aX:sW w U a8 [.blk ap 93 B2,.blk ae 123 B1,.blk b6 123 B3,.blk b2 27 B0] a9:=bQ
 refine eN (sR (.fl 0 (.fl 1 (.fx 2 (wMZ (.fx 7 (.fx 8 (.fx 9 (.fx 10 (.fl 11 .nil) .stop) .stop) .stop) .stop)) .stop))) Z (oL Z (aX.ldBA (j:=3) Z Z bc zn zc (vs:=B0) Z Z) (oL Z (aX.ldBA (j:=0) Z Z Z Zx Zg (vs:=B2) Z Z) ?_)))
 have bE:=ca.le au
 have bF:=cb.le au
 have bG:=cc.le au
 have bH:=cd.le au
 have q:=bnd cq
 obtain ⟨⟨ay,aT,cw⟩,bI,bm⟩:=q
 try dsimp only at bm
 refine zC 0 Z Z Z Z (zD Z Z Tryz.call107 (zB Z (zB Z zL)) Z) aX (fun hs=>wBw O aJ aN aK aO aL aP aM aQ ai a9 a8 hs bE bF bG bH bI) (.inr Z) ?_
 rintro am cD cU br ct bS ⟨rfl,rfl⟩
 have bT:sW w U am [.blk ap 93 B2,.blk ae 123 B1,.blk b6 123 B3,.blk b2 27 B0] br:=bS
 refine oM Z Z (oR Z (zV Z Z (v:=.agg #[jV ay.skier,jV ay.mat]) Z) (oR Z (zV Z Z (v:=.agg #[jV aT.skier,jV aT.mat]) Z) (oR Z (zV Z Z (v:=jV cw) Z) (zU (cs:=B1) Z Z Z Z Z zd Z bT ?_))))
 intro cK az bU
 refine zU (cs:=B1) Z Z Z Z Z zd Z bU ?_
 intro cL aH bV
 let B4:List Value:=[jV ay.skier,jV ay.mat]
 refine zY (j:=1) (vs:=B4) Z Z Z Z bV Z Z Z Z zI (zA Z) Z Z Z ?_
 intro bs bW
 have bX:sW w U am [.blk aH 123 B1,.blk az 123 B4,.blk ap 93 B2,.blk ae 123 B1,.blk b6 123 B3,.blk b2 27 B0] bs:=bW
 let B5:List Value:=[jV aT.skier,jV aT.mat]
 refine zY (j:=0) (vs:=B5) Z Z Z Z bX Z Z Z Z zI (zA Z) Z Z Z ?_
 intro bt bY
 have aq:sW w U am [.blk aH 123 B5,.blk az 123 B4,.blk ap 93 B2,.blk ae 123 B1,.blk b6 123 B3,.blk b2 27 B0] bt:=bY
 refine oA Z Z (eN (zJ (sR fL3 Z (oL Z (aq.ldBA (j:=1) Z Z Z zj zI (vs:=B4) Z Z) (oL Z (aq.ldBA (j:=4) Z Z aI zj zI (vs:=B3) Z Z) (oR Z (ZP (Runs.neS (enc:=wCD) (a:=ay) (b:=(⟨aR,aS⟩:wAI)) Z Z Z wLT wLS) (congrArg hH (decide_not).symm)) (eN (ifc bm ?_ ?_))))))))
 intro aU cr
 refine zr (ZL (fun h=>h aU.out)) (kN (rR (wEN (.fx 4 (.fl 5 .nil) .stop)) Z (oL Z (aq.ldBA (j:=0) Z Z Z zj zI (vs:=B5) Z Z) (oM Z bB (oM Z Z (oR Z (za Z Z Z) (zY (j:=4) (vs:=B5) Z Z Z Z aq Z aI Z Z zI (zA Z) Z Z Z ?_)))))))
 intro bu bZ
 have b5:sW w U am [.blk aH 123 B5,.blk az 123 B4,.blk ap 93 B2,.blk ae 123 B1,.blk b6 123 B5,.blk b2 27 B0] bu:=bZ
 refine oA Z Z (zb (zl (zF (rR fL2 Z (oR Z (ZP (za Z aW Z) (congrArg (jV) cn.out)) (oM Z Z (zb ?_)))))))
 have q:=nE cr
 obtain rfl:=q
 exact zF ⟨rfl,_,rfl,⟨am,rfl,bc,aI,aV,rfl,bd,be,(au.trans ct),(b5.pick [3,4,5] _ (by decide) rfl)⟩⟩
 intro aU co
 refine cT Z aU (sR gCy Z (oL Z (aq.ldBA (j:=4) Z Z aI zj zI (vs:=B3) Z Z) (zY (j:=3) (vs:=B3) Z Z Z Z aq Z aV Z Z zI (zA Z) Z Z Z ?_)))
 intro bp bL
 have bg:sW w U am [.blk aH 123 B5,.blk az 123 B4,.blk ap 93 B2,.blk ae 123 B3,.blk b6 123 B3,.blk b2 27 B0] bp:=bL
 refine oA Z Z (oA Z Z (eN (zR (zT (zo (zT ?_))))))
 have q:=wAV co
 obtain ⟨cu,cp,bw⟩:=q
 have q:=wCY hm aY (cj cu bw)
 obtain rfl:=q
 refine zT (zo (zT ?_))
 cases cp
 exact ⟨rfl,_,(wER (rs:=[.cell 6 123,.tmp 7,.tmp 8]) (vs:=[.agg B3.toArray,jV 0,.bool false]) ⟨⟨_,aV,(wBF zj zI (bg.blkAt (k:=3) rfl) (vs:=B3) rfl rfl)⟩,⟨rfl,⟨rfl,trivial⟩⟩⟩ rfl),am,_,(bg.pick [] _ (by decide) rfl),rfl,rfl⟩
 rintro ⟨cx,cy,cz⟩ cA cG ⟨a7,bC,cO,bx,bb,bz,cP,bA,cQ,bh⟩ cg
 have bk:=wDQ hm aY cg
 try dsimp only at bk
 have bv:Hid (¬ ((↑(((↑p2.length:Int):Int) - 0).toNat:Int) < (↑p2.length:Int))):=zM (wAq)
 refine sR fL1 Z (oR Z (ze Z bC bA) (eN (zJ (cF Z bv (ZS (zf (zf (ZN (zF (sR gDg Z ?_))))))))))
 let B6:List Value:=[jV cx,jV cy]
 refine oL Z (bh.ldBA (j:=1) Z Z bx zj zI (vs:=B6) Z Z) (oM Z bz (zY (j:=0) (vs:=B6) Z Z Z Z bh Z bb Z Z zI (zA Z) Z Z Z ?_))
 intro bq bN
 have bi:sW w U a7 [.blk ae 123 B6,.blk b6 123 B6,.blk b2 27 B0] bq:=bN
 refine oA Z Z (oA Z Z (eN (zR ?_)))
 cases bk
 exact ⟨rfl,_,(wER (rs:=[.cell 6 123,.tmp 7,.tmp 8]) (vs:=[.agg B6.toArray,jV cz,.bool true]) ⟨⟨_,bb,(wBF zj zI (bi.blkAt (k:=0) rfl) (vs:=B6) rfl rfl)⟩,⟨rfl,⟨rfl,trivial⟩⟩⟩ rfl),a7,_,(bi.pick [] _ (by decide) rfl),rfl,rfl⟩
theorem wIQ (O:wAA) (an:Option Addr) (au:Nat) (ao:Option Addr) (av:Nat) (ap:Option Addr) (ax:Nat) (aq:Option Addr) (ay:Nat) (p1:wAL) (p2:wAL) (p3:List wAH) (aK:Option Addr) (aL:Nat) (w:World) (U:PHeap) (hS:St0 w U []) (bS:Sl U 1 an au O.Starts.length (hD KL.encI O.Starts)) (bT:Sl U 2 ao av O.Splits.length (hD wAC O.Splits)) (bU:Sl U 3 ap ax O.Clocks.length (hD wAE O.Clocks)) (bV:Sl U 4 aq ay O.Readings.length (hD wAB O.Readings)) (dO:Sl U 4 aK aL p3.length (hD wCA p3)) {r:Int × Int} (hm:wEy O p1 p2 p3=some r):Gv Tryz.prog 48 [.agg #[.slice an O.Starts.length au,.slice ao O.Splits.length av,.slice ap O.Clocks.length ax,.slice aq O.Readings.length ay],.agg #[jV p1.Skier,jV p1.Mat],.agg #[jV p2.Skier,jV p2.Mat],.slice aK p3.length aL] w (wCF w [] U (fun U_ L_ v=>v=.tuple #[jV r.1,jV r.2]/\L_=[])):=by
 unfold wEy at hm
 refine Gv.of Tryz.func48 Z Tryz.ntmps48 Tryz.results48 Z (sR gDh Z ?_)
 let B0:List Value:=[.slice an O.Starts.length au,.slice ao O.Splits.length av,.slice ap O.Clocks.length ax,.slice aq O.Readings.length ay]
 refine zq (cs:=B0) rfl rfl rfl rfl rfl rfl (by rfl) hS ?_
 intro W1 b2 dJ
 let B1:List Value:=[jV p1.Skier,jV p1.Mat]
 refine zq (cs:=B1) rfl rfl rfl rfl rfl rfl (by rfl) dJ ?_
 intro W5 b6 dM
 let B2:List Value:=[jV p2.Skier,jV p2.Mat]
 refine zq (cs:=B2) rfl rfl rfl rfl rfl rfl (by rfl) dM ?_
 intro W9 ae bO
 refine oA Z Z (oA Z Z (eN (sR (.fl 0 gCe) Z (oL Z (bO.ldBA (j:=2) Z Z Z zn zc (vs:=B0) Z Z) (bnK hm fun eW cA dQ=>zC 0 Z Z Z Z (zD Z Z Tryz.call33 (zB Z zL) Z) bO (fun hs=>wEi O an au ao av ap ax aq ay W9 U hs bS bT bU bV cA) (.inr Z) ?_)))))
 rintro ba eu eM bz aP dA ⟨rfl,rfl⟩
 have aZ:sW w U ba [.blk ae 29 B2,.blk b6 29 B1,.blk b2 27 B0] bz:=dA
 refine oA Z Z (eN (zJ (zX (sR fL3 Z (oM Z Z (oR Z (Zb Z Z Z) (oA Z Z (eN (ifc dQ ?_ ?_)))))))))
 intro bi dR
 refine zr (ZL (fun h=>h bi.out)) (sR (.fl 0 (.fl 1 (.fx 2 (wMZ (.fx 7 (wNA (.nil)) .stop)) .stop))) Z (oL Z (aZ.ldBA (j:=2) Z Z Z zn zc (vs:=B0) Z Z) (oL Z (aZ.ldBA (j:=1) Z Z Z Zp ZR (vs:=B1) Z Z) ?_)))
 have bF:=bS.le aP
 have bG:=bT.le aP
 have bH:=bU.le aP
 have bI:=bV.le aP
 refine bnK dR fun eZ df d4=>zC 0 Z Z Z Z (zD Z Z Tryz.call99 (zB Z (zB Z zL)) Z) aZ (fun hs=>wCz O an au ao av ap ax aq ay p1 bz ba hs bF bG bH bI df) (.inr Z) ?_
 rintro be eC eS bC aQ dK ⟨rfl,rfl⟩
 have a0:sW w U be [.blk ae 29 B2,.blk b6 29 B1,.blk b2 27 B0] bC:=dK
 refine oR Z (ZY Z Z) (oM Z Z (ifc d4 ?_ ?_))
 intro am d5
 refine zx Z Z Z (zN Z Z (nC am.out)) (a0.ldBA (j:=2) Z Z Z zn zc (vs:=B0) Z Z) Z (zx Z Z Z (zN Z Z (nC am.out)) (a0.ldBA (j:=0) Z Z Z Zp ZR (vs:=B2) Z Z) Z ?_)
 have bJ:=bF.le aQ
 have bK:=bG.le aQ
 have bL:=bH.le aQ
 have bM:=bI.le aQ
 refine bnK d5 fun e6 dg d6=>zC 0 Z Z Z (zN Z Z (nC am.out)) (zD Z Z Tryz.call99 (zB Z (zB Z zL)) Z) a0 (fun hs=>wCz O an au ao av ap ax aq ay p2 bC be hs bJ bK bL bM dg) (.inr Z) ?_
 rintro bf eD eU bD aR dL ⟨rfl,rfl⟩
 have bo:sW w U bf [.blk ae 29 B2,.blk b6 29 B1,.blk b2 27 B0] bD:=dL
 refine zg Z Z Z (zN Z Z (nC am.out)) (fun _=>ZY Z Z) (oR Z (zZ Z (nC am.out) Z) (oA Z Z (eN (ifc d6 ?_ ?_))))
 intro bk d7
 refine zr (nC bk.out) (Ze (zl (zF (zJ (sR gDa Z (oL Z (bo.ldBA (j:=2) Z Z Z zn zc (vs:=B0) Z Z) (oM Z Z ?_)))))))
 have aU:=bJ.le aR
 have aV:=bK.le aR
 have aW:=bL.le aR
 have aX:=bM.le aR
 have dh:=dO.le aP
 have di:=dh.le aQ
 have aY:=di.le aR
 refine bnK d7 fun e8 dk d8=>zC 0 Z Z Z Z (zD Z Z Tryz.call111 (zB Z (zB Z zL)) Z) bo (fun hs=>wEY O an au ao av ap ax aq ay p3 aK aL bD bf hs aU aV aW aX aY dk) (.inr Z) ?_
 rintro aM eE eV bg af dN ⟨rfl,rfl⟩
 have bR:sW w U aM [.blk ae 29 B2,.blk b6 29 B1,.blk b2 27 B0] bg:=dN
 refine oA Z Z (eN (sR fL2 Z (oM Z Z (oR Z (Zb Z Z Z) (eN (ifc d8 ?_ ?_))))))
 intro bm d9
 refine zr (ZL (fun h=>h bm.out)) (kN ?_)
 have q:=bnd d9
 obtain ⟨⟨bX,bY,en,cp⟩,ef,bW⟩:=q
 try dsimp only at bW
 let B3:List Value:=[jV bX,jV bY]
 refine yX (fun J_ w_=>∃ (U_:PHeap) (aT:Nat),J_ 6=.pointer (some ⟨ae,0,none⟩)/\J_ 12=.pointer (some ⟨aT,0,none⟩)/\J_ 13=jV en/\J_ 14=.bool cp/\PHeap.Le aM U_/\sW w U U_ [.blk ae 29 B2,.blk b6 29 B1,.blk b2 27 B0,.blk aT 123 B3] w_) ?_ ?_
 refine bnK ef fun br bN dP=>?_
 have q:=bnd dP
 obtain ⟨⟨aj,bp,bq⟩,bn,a5⟩:=q
 try dsimp only at a5
 refine ZI ZD [1,1,2,3,2,3,3,3,3,2,0,3,3] (.fl 0 (.fl 1 (.fl 3 (.fx 2 (.fx 4 (wIA (.fx 9 gCw .stop)) (.fx 9 (.fx 4 (wIA gCw) (.stop)) (.stop))) (.fx 9 (.fx 2 (.fx 4 (wIA gCw) (.stop)) (.stop)) (.stop)))))) (by kernel_rfl) ?_
 have aN:=bR.drew
 generalize hw_W127:({ bg with drawn:=bg.drawn + 1 }:World)=bZ at aN ⊢
 refine oL Z (aN.ldBA (j:=2) Z Z Z zn zc (vs:=B0) Z Z) (oL Z (aN.ldBA (j:=1) Z Z Z Zp ZR (vs:=B1) Z Z) (oM Z Z (ZB ?_ ?_)))
 refine zC 0 Z Z Z Z (zD Z Z yJ (zB Z zL) Z) aN (fun hs=>wBj p1 bZ aM hs bN) (.inr Z) ?_
 rintro a8 ep eK bx ai dl ⟨rfl,rfl⟩
 have bP:sW w U a8 [.blk ae 29 B2,.blk b6 29 B1,.blk b2 27 B0] bx:=dl
 refine ZB ?_ ?_
 have cw:=aU.le af
 have cx:=cw.le ai
 have cy:=aV.le af
 have cz:=cy.le ai
 have cC:=aW.le af
 have cD:=cC.le ai
 have cE:=aX.le af
 have cG:=cE.le ai
 have cH:=aY.le af
 have cI:=cH.le ai
 refine zC 0 Z Z Z Z (zD Z Z Tryz.call112 (zB Z (zB Z (zB Z zL))) Z) bP (fun hs=>wDO O an au ao av ap ax aq ay br p3 aK aL bx a8 hs cx cz cD cG cI bn) (.inr Z) ?_
 rintro a9 er eL b5 eg dm ⟨rfl,rfl⟩
 have dp:sW w U a9 [.blk ae 29 B2,.blk b6 29 B1,.blk b2 27 B0] b5:=dm
 refine oM Z Z (oR Z (zV Z Z (v:=.agg #[jV aj.skier,jV aj.mat]) Z) (oR Z (zV Z Z (v:=jV bp) Z) (oR Z (zV Z Z (v:=.bool bq) Z) (zU (cs:=[jV 0,jV 0]) Z Z Z Z Z zd Z dp ?_))))
 intro eG bE dq
 let B4:List Value:=[jV aj.skier,jV aj.mat]
 refine zY (j:=0) (vs:=B4) Z Z Z Z dq Z Z Z Z zI (zA Z) Z Z Z ?_
 intro ca dr
 have dt:sW w U a9 [.blk bE 123 B4,.blk ae 29 B2,.blk b6 29 B1,.blk b2 27 B0] ca:=dr
 refine oA Z Z (oA Z Z (zb ?_))
 cases a5
 exact zF ⟨rfl,⟨a9,bE,rfl,rfl,rfl,rfl,(ai.trans eg),(dt.pick [1,2,3,0] _ (by decide) rfl)⟩⟩
 refine zU (cs:=[jV 0,jV 0]) Z Z Z Z Z zd Z bP ?_
 intro cb bh du
 have cJ:=aU.le af
 have cK:=cJ.le ai
 have cL:=aV.le af
 have cM:=cL.le ai
 have cN:=aW.le af
 have cO:=cN.le ai
 have cP:=aX.le af
 have cQ:=cP.le ai
 have cR:=aY.le af
 have cS:=cR.le ai
 refine zC 0 Z Z Z Z (zD Z Z Tryz.call112 (zB Z (zB Z (zB Z zL))) Z) du (fun hs=>wDO O an au ao av ap ax aq ay br p3 aK aL cb a8 hs cK cM cO cQ cS bn) (.inr Z) ?_
 rintro bb ew eO cc eh dv ⟨rfl,rfl⟩
 have dw:sW w U bb [.blk bh 123 [jV 0,jV 0],.blk ae 29 B2,.blk b6 29 B1,.blk b2 27 B0] cc:=dv
 refine oM Z Z (oR Z (zV Z Z (v:=.agg #[jV aj.skier,jV aj.mat]) Z) (oR Z (zV Z Z (v:=jV bp) Z) (oR Z (zV Z Z (v:=.bool bq) Z) ?_)))
 let B5:List Value:=[jV aj.skier,jV aj.mat]
 refine zY (j:=0) (vs:=B5) Z Z Z Z dw Z Z Z Z zI (zA Z) Z Z Z ?_
 intro cd dx
 have dy:sW w U bb [.blk bh 123 B5,.blk ae 29 B2,.blk b6 29 B1,.blk b2 27 B0] cd:=dx
 refine oA Z Z (oA Z Z (zb ?_))
 cases a5
 exact zF ⟨rfl,⟨bb,bh,rfl,rfl,rfl,rfl,(ai.trans eh),(dy.pick [1,2,3,0] _ (by decide) rfl)⟩⟩
 let B6:List Value:=[jV 0,jV 0]
 refine zU (cs:=B6) Z Z Z Z Z zd Z aN ?_
 intro cf aS dz
 refine zC 0 Z Z Z Z (zD Z Z yJ (zB Z zL) Z) dz (fun hs=>wBj p1 cf aM hs bN) (.inr Z) ?_
 rintro bv ey eP bA aJ dB ⟨rfl,rfl⟩
 have dC:sW w U bv [.blk aS 123 B6,.blk ae 29 B2,.blk b6 29 B1,.blk b2 27 B0] bA:=dB
 have cU:=aU.le af
 have cV:=cU.le aJ
 have cW:=aV.le af
 have cX:=cW.le aJ
 have cY:=aW.le af
 have cZ:=cY.le aJ
 have c6:=aX.le af
 have da:=c6.le aJ
 have db:=aY.le af
 have dd:=db.le aJ
 refine zC 0 Z Z Z Z (zD Z Z Tryz.call112 (zB Z (zB Z (zB Z zL))) Z) dC (fun hs=>wDO O an au ao av ap ax aq ay br p3 aK aL bA bv hs cV cX cZ da dd bn) (.inr Z) ?_
 rintro bc eA eQ cg ej dD ⟨rfl,rfl⟩
 have dE:sW w U bc [.blk aS 123 B6,.blk ae 29 B2,.blk b6 29 B1,.blk b2 27 B0] cg:=dD
 refine oM Z Z (oR Z (zV Z Z (v:=.agg #[jV aj.skier,jV aj.mat]) Z) (oR Z (zV Z Z (v:=jV bp) Z) (oR Z (zV Z Z (v:=.bool bq) Z) ?_)))
 let B7:List Value:=[jV aj.skier,jV aj.mat]
 refine zY (j:=0) (vs:=B7) Z Z Z Z dE Z Z Z Z zI (zA Z) Z Z Z ?_
 intro cj dF
 have dG:sW w U bc [.blk aS 123 B7,.blk ae 29 B2,.blk b6 29 B1,.blk b2 27 B0] cj:=dF
 refine oA Z Z (oA Z Z (zb ?_))
 cases a5
 exact zF ⟨rfl,⟨bc,aS,rfl,rfl,rfl,rfl,(aJ.trans ej),(dG.pick [1,2,3,0] _ (by decide) rfl)⟩⟩
 rintro eo bB ⟨bw,aT,cq,cr,ct,cu,eI,dH⟩
 refine zJ (zJ (ZI ZD [3,3,3,1,1,2,3,3] (wHD (.fx 5 (.fl 6 (.fl 7 .nil)) .stop)) (by kernel_rfl) ?_))
 have aO:=dH.drew
 generalize hw_W253:({ bB with drawn:=bB.drawn + 1 }:World)=cm at aO ⊢
 refine oM Z cu (oR Z (ZY Z Z) (oM Z Z (ifc bW ?_ ?_)))
 intro ak dS
 refine zx Z Z Z (zN Z Z (nC ak.out)) (aO.ldBA (j:=3) Z Z cr zj zI (vs:=B3) Z Z) Z (zx Z Z Z (zN Z Z (nC ak.out)) (aO.ldBA (j:=0) Z Z cq Zp ZR (vs:=B2) Z Z) Z (bnK dS fun ek de dT=>zC 0 Z Z Z (zN Z Z (nC ak.out)) (zD Z Z yJ (zB Z zL) Z) aO (fun hs=>wBj p2 cm bw hs de) (.inr Z) ?_))
 rintro bd eB eR cn eJ dI ⟨rfl,rfl⟩
 have bQ:sW w U bd [.blk ae 29 B2,.blk b6 29 B1,.blk b2 27 B0,.blk aT 123 B3] cn:=dI
 refine zg Z Z Z (zN Z Z (nC ak.out)) (fun _=>ZP (Runs.neS (enc:=wCD) (a:=(⟨bX,bY⟩:wAI)) (b:=ek) Z Z Z wLT wLS) (congrArg hH (decide_not).symm)) (oR Z (zZ Z (nC ak.out) Z) (eN (ifc dT ?_ ?_)))
 intro bj dU
 refine zr (ZL (fun h=>h bj.out)) (kN (sR fL3 Z (oM Z ct (oA Z Z (oA Z Z (eN (zR ?_)))))))
 cases dU
 exact ⟨rfl,_,(wDk rfl rfl),bd,_,(bQ.pick [] _ (by decide) rfl),rfl,rfl⟩
 intro bj dV
 refine cT Z bj (sR fL2 Z (oA Z Z (oA Z Z (eN (zR (zT ?_))))))
 cases dV
 exact ⟨rfl,_,(wDk rfl rfl),bd,_,(bQ.pick [] _ (by decide) rfl),rfl,rfl⟩
 intro ak dW
 refine zw Z Z Z (zO Z Z (nF (ak.out)) Z) (zw Z Z Z (zO Z Z (nF (ak.out)) Z) (ZA Z Z Z (zO Z Z (nF (ak.out)) Z) (zw Z Z Z (zO Z Z (nF (ak.out)) Z) (oR Z (zS Z (nF (ak.out)) Z) (eN (ZK Z (sR fL2 Z (oA Z Z (oA Z Z (eN (zR (zT ?_))))))))))))
 cases dW
 exact ⟨rfl,_,(wDk rfl rfl),bw,_,(aO.pick [] _ (by decide) rfl),rfl,rfl⟩
 intro bm dX
 refine cT Z bm (sR fL3 Z (oM Z Z (oA Z Z (oA Z Z (eN (zR (zT ?_)))))))
 cases dX
 exact ⟨rfl,_,(wDk rfl rfl),aM,_,(bR.pick [] _ (by decide) rfl),rfl,rfl⟩
 intro bk dY
 refine ZK (nF (bk.out)) (sR fL2 Z (oA Z Z (oA Z Z (eN (zR (zo (zT ?_)))))))
 cases dY
 exact ⟨rfl,_,(wDk rfl rfl),bf,_,(bo.pick [] _ (by decide) rfl),rfl,rfl⟩
 intro am dZ
 refine zw Z Z Z (zO Z Z (nF (am.out)) Z) (zw Z Z Z (zO Z Z (nF (am.out)) Z) (ZA Z Z Z (zO Z Z (nF (am.out)) Z) (zw Z Z Z (zO Z Z (nF (am.out)) Z) (oR Z (zS Z (nF (am.out)) Z) (oA Z Z (eN (ZK Z (sR fL2 Z (oA Z Z (oA Z Z (eN (zR (zo (zT ?_))))))))))))))
 cases dZ
 exact ⟨rfl,_,(wDk rfl rfl),be,_,(a0.pick [] _ (by decide) rfl),rfl,rfl⟩
 intro bi d3
 refine cT Z bi (sR fL3 Z (oM Z Z (oA Z Z (oA Z Z (eN (zR (zo (zT ?_))))))))
 cases d3
 exact ⟨rfl,_,(wDk rfl rfl),ba,_,(aZ.pick [] _ (by decide) rfl),rfl,rfl⟩
theorem wIR (O:wAA) (ai:Option Addr) (an:Nat) (aj:Option Addr) (ao:Nat) (ak:Option Addr) (ap:Nat) (am:Option Addr) (aq:Nat) (p1:Int) (w:World) (U:PHeap) (hS:St0 w U []) (bm:Sl U 1 ai an O.Starts.length (hD KL.encI O.Starts)) (bn:Sl U 2 aj ao O.Splits.length (hD wAC O.Splits)) (bo:Sl U 3 ak ap O.Clocks.length (hD wAE O.Clocks)) (bp:Sl U 4 am aq O.Readings.length (hD wAB O.Readings)) {r:(Option wAh) × Int} (hm:wEz O p1=some r):Gv Tryz.prog 108 [.agg #[.slice ai O.Starts.length an,.slice aj O.Splits.length ao,.slice ak O.Clocks.length ap,.slice am O.Readings.length aq],jV p1] w (wCF w [] U (fun U_ L_ v=>match r.1 with | none=>v=.tuple #[.pointer none,jV r.2]/\L_=[] | some d=>∃ (b0:Nat) (A0p00:Option Addr) (c0p00:Nat) (A0p01:Option Addr) (c0p01:Nat) (A0p02:Option Addr) (c0p02:Nat) (A0p03:Option Addr) (c0p03:Nat) (m0p1:Nat) (es0p1:Array MapEntry) (ck0p1:Nat) (A0p2:Option Addr) (c0p2:Nat),v=.tuple #[.pointer (some ⟨b0,0,none⟩),jV r.2]/\L_=[.blk b0 139 [.slice A0p00 d.Race.Starts.length c0p00,.slice A0p01 d.Race.Splits.length c0p01,.slice A0p02 d.Race.Clocks.length c0p02,.slice A0p03 d.Race.Readings.length c0p03,.map (some m0p1),.slice A0p2 d.edges.length c0p2],.obj m0p1 (.map es0p1 ck0p1)]/\Sl U_ 1 A0p00 c0p00 d.Race.Starts.length (hD KL.encI d.Race.Starts)/\Sl U_ 2 A0p01 c0p01 d.Race.Splits.length (hD wAC d.Race.Splits)/\Sl U_ 3 A0p02 c0p02 d.Race.Clocks.length (hD wAE d.Race.Clocks)/\Sl U_ 4 A0p03 c0p03 d.Race.Readings.length (hD wAB d.Race.Readings)/\MpR es0p1 wBW wBe d.number/\Sl U_ 7 A0p2 c0p2 d.edges.length (hD wAO d.edges))):=by
 unfold wEz at hm
 refine Gv.of Tryz.func108 Z Tryz.ntmps108 Tryz.results108 Z (sR gCm Z ?_)
 let B0:List Value:=[.slice ai O.Starts.length an,.slice aj O.Splits.length ao,.slice ak O.Clocks.length ap,.slice am O.Readings.length aq]
 refine zq (cs:=B0) rfl rfl rfl rfl rfl rfl (by rfl) hS ?_
 intro W1 b2 aY
 refine oA Z Z (oA Z Z (eN (sR (wDd (.fx 3 (.fx 4 (wIA (.nil)) .stop) .stop)) Z (oL Z (aY.ldBA (j:=0) Z Z Z zn zc (vs:=B0) Z Z) (oM Z Z ?_)))))
 let B1:List Value:=[jV 0,jV p1]
 refine oR Z (zu (pv:=[(0,jV 0),(1,jV p1)]) (z:=[jV 0,jV 0]) (cs:=B1) Z (wAG Z (wAG Z wAP)) yC wFX Z Z) (ZC (pv:=[(0,.agg B1.toArray)]) (zs:=[jV 0,jV 0]) (cs:=B1) Z Z Z Z Z (wAG Z wAP) Zm ZR yC Z Z Z Z Z aY ?_)
 intro W5 b6 bj
 have bk:sW w U U [.row (some ⟨b6,0,none⟩) 1 29 2 (hD wAT [(⟨0,p1⟩:wAL)]),.blk b2 27 B0] W5:=bj
 have q:=bk.freezeR (k:=0) (n:=[(⟨0,p1⟩:wAL)].length) rfl (wAD (f:=wAT) (sz:=2) (fun _=>rfl) [(⟨0,p1⟩:wAL)]) (by decide)
 obtain ⟨aL,ah,bq,bf⟩:=q
 have bg:sW w U aL [.blk b2 27 B0] W5:=bf
 have a0:=bm.le ah
 have a5:=bn.le ah
 have a6:=bo.le ah
 have a7:=bp.le ah
 have q:=bnd hm
 obtain ⟨⟨br,aZ⟩,a8,ac⟩:=q
 try dsimp only at ac
 refine zC 0 Z Z Z Z (zD Z Z Tryz.call63 (zB Z (zB Z zL)) Z) bg (fun hs=>wEk O ai an aj ao ak ap am aq [(⟨0,p1⟩:wAL)] (some ⟨b6,0,none⟩) 1 W5 aL hs a0 a5 a6 a7 bq a8) (.inr Z) ?_
 rintro af bs bv aM bu aX aW
 rcases br with _ | ae
 try dsimp only at ac
 obtain ⟨rfl,rfl⟩:=aW
 have bh:sW w U af [.blk b2 27 B0] aM:=aX
 refine oR Z (zV Z Z (v:=.pointer none) Z) (oR Z (zV Z Z (v:=jV aZ) Z) (oA Z Z (oA Z Z (eN (zR ?_)))))
 cases ac
 exact ⟨rfl,_,(wDk rfl rfl),af,_,(bh.pick [] _ (by decide) rfl),rfl,rfl⟩
 try dsimp only at ac
 obtain ⟨ax,az,aP,aH,aQ,aI,aR,aJ,aS,ay,aV,aT,aK,aU,rfl,rfl,a9,ba,bb,bc,bd,be⟩:=aW
 have bi:sW w U af [.blk ax 139 [.slice az ae.Race.Starts.length aP,.slice aH ae.Race.Splits.length aQ,.slice aI ae.Race.Clocks.length aR,.slice aJ ae.Race.Readings.length aS,.map (some ay),.slice aK ae.edges.length aU],.obj ay (.map aV aT),.blk b2 27 B0] aM:=aX
 refine oR Z (zV Z Z (v:=.pointer (some ⟨ax,0,none⟩)) Z) (oR Z (zV Z Z (v:=jV aZ) Z) (oA Z Z (oA Z Z (eN (zR ?_)))))
 cases ac
 exact ⟨rfl,_,(wDk rfl rfl),af,_,(bi.pick [0,1] _ (by decide) rfl),ax,az,aP,aH,aQ,aI,aR,aJ,aS,ay,aV,aT,aK,aU,rfl,rfl,a9,ba,bb,bc,bd,be⟩
theorem wFb (O:wAh) (ao:Nat) (an:Option Addr) (ap:Nat) (ax:Option Addr) (aI:Nat) (ay:Option Addr) (aJ:Nat) (az:Option Addr) (aK:Nat) (aa:Nat) (ab:Array MapEntry) (ac:Nat) (aH:Option Addr) (aL:Nat) (p1:Int) (w:World) (U:PHeap) (hS:St0 w U [.blk ao 139 [.slice an O.Race.Starts.length ap,.slice ax O.Race.Splits.length aI,.slice ay O.Race.Clocks.length aJ,.slice az O.Race.Readings.length aK,.map (some aa),.slice aH O.edges.length aL],.obj aa (.map ab ac)]) (cy:Sl U 1 an ap O.Race.Starts.length (hD KL.encI O.Race.Starts)) (cz:Sl U 2 ax aI O.Race.Splits.length (hD wAC O.Race.Splits)) (cA:Sl U 3 ay aJ O.Race.Clocks.length (hD wAE O.Race.Clocks)) (cC:Sl U 4 az aK O.Race.Readings.length (hD wAB O.Race.Readings)) (a7:MpR ab wBW wBe O.number) (cD:Sl U 7 aH aL O.edges.length (hD wAO O.edges)) {r:(Arr Int 64)} (hm:wDY O p1=some r):Gv Tryz.prog 109 [.pointer (some ⟨ao,0,none⟩),jV p1] w (wCF w [.blk ao 139 [.slice an O.Race.Starts.length ap,.slice ax O.Race.Splits.length aI,.slice ay O.Race.Clocks.length aJ,.slice az O.Race.Readings.length aK,.map (some aa),.slice aH O.edges.length aL],.obj aa (.map ab ac)] U (fun U_ L_ v=>v=.agg (hD KL.encI r.l).toArray/\L_=[.blk ao 139 [.slice an O.Race.Starts.length ap,.slice ax O.Race.Splits.length aI,.slice ay O.Race.Clocks.length aJ,.slice az O.Race.Readings.length aK,.map (some aa),.slice aH O.edges.length aL],.obj aa (.map ab ac)])):=by
 unfold wDY at hm
 refine Gv.of Tryz.func109 Z Tryz.ntmps109 Tryz.results109 Z (sR (.fx 0 .nil .stop) Z (zU (cs:=hD KL.encI (Arr.fill 64 0).l) Z Z Z Z Z Tryz.zeroValue169 Z hS ?_))
 intro W3 b4 co
 let B0:Res:=.blk ao 139 [.slice an O.Race.Starts.length ap,.slice ax O.Race.Splits.length aI,.slice ay O.Race.Clocks.length aJ,.slice az O.Race.Readings.length aK,.map (some aa),.slice aH O.edges.length aL]
 have cu:SW w [B0,.obj aa (.map ab ac)] U U [.blk b4 169 (hD KL.encI (Arr.fill 64 0).l),B0,.obj aa (.map ab ac)] W3:=co
 refine eN (sR (.fx 0 .nil .stop) Z (zU (cs:=hD KL.encI (Arr.fill 64 0).l) Z Z Z Z Z Tryz.zeroValue169 Z cu ?_))
 intro W8 b9 cf
 have bu:SW w [B0,.obj aa (.map ab ac)] U U [.blk b9 169 (hD KL.encI (Arr.fill 64 0).l),.blk b4 169 (hD KL.encI (Arr.fill 64 0).l),B0,.obj aa (.map ab ac)] W8:=cf
 refine eN (zJ (sR fL7 Z (oM Z Z (oR Z (yB Z Z) (oR Z (zH Z Z ZM Z zc) (oR Z (zH Z Z zP Z zh) (oL Z (bu.ldB (j:=2) Z Z Z zk (v:=.slice an O.Race.Starts.length ap) Z) (oR Z (zi Z Z zG) (oM Z Z (eN (zX (bnK hm fun aj cE cQ=>?_))))))))))))
 have q:=wBn cE
 obtain ⟨ba,cG⟩:=q
 replace ba:=zM ba
 refine CK.forN' (fun af aM J_ w_=>∃ (U_:PHeap),J_ 17=jV (↑af:Int)/\J_ 0=.pointer (some ⟨ao,0,none⟩)/\J_ 1=jV p1/\J_ 4=.pointer (some ⟨b4,0,none⟩)/\J_ 5=.pointer (some ⟨b9,0,none⟩)/\J_ 16=jV (↑O.Race.Starts.length:Int)/\PHeap.Le U U_/\SW w [B0,.obj aa (.map ab ac)] U U_ [.blk b9 169 (hD KL.encI aM.l),.blk b4 169 (hD KL.encI (Arr.fill 64 0).l),B0,.obj aa (.map ab ac)] w_) cG ?_ ?_ ?_
 exact ⟨U,Z,Z,Z,Z,Z,Z,(zQ _),bu⟩
 rintro af aM du db bf a8 ⟨bd,a0,aU,bn,bU,bV,bo,av,a6⟩ cS
 have bi:Hid ((↑af:Int) < (↑O.Race.Starts.length:Int)):=zM (wBQ a8)
 replace a8:=zM a8
 have cM:Hid (w64 ((↑af:Int) + 1)=(↑(af + 1):Int)):=zM (by have h1:=ba.out;have h2:=bi.out;rw [wAY] <;> omega)
 refine sR fL1 Z (oR Z (ze Z a0 bo) (eN (zJ (cT Z bi (kN (zJ (zX (sR fL2 Z (oM Z a0 (oA Z Z (eN (sR (fC0_8 (.fx 9 (wNo (.fx 14 (.fx 15 (.fl 16 (.fl 17 .nil)) .stop) .stop)) .stop)) Z (oM Z aU (oM Z aU (oR Z (yB Z Z) (oR Z (zH Z Z ZM Z yD) (oL Z (a6.ldB (j:=2) Z Z Z yK (v:=.map (some aa)) Z) (oM Z Z (oM Z bn (oR Z (zu (pv:=[(0,jV (↑af:Int)),(1,jV p1)]) (z:=[jV 0,jV 0]) (cs:=[jV (↑af:Int),jV p1]) Z (wAG Z (wAG Z wAP)) zd wBg Z Z) (oL Z (a6.lookup1 (j:=3) (mk:=wBW) (mv:=wBe) (a:=(⟨(↑af:Int),p1⟩:wAI)) (z:=0) Z Z Z Z (wBy ZQ) wDZ zy a7) ?_)))))))))))))))))))))
 have bZ:=cy.le av
 have b5:=cz.le av
 have ca:=cA.le av
 have cb:=cC.le av
 have cc:=cD.le av
 have q:=bnd cS
 obtain ⟨⟨ai,cY,cZ⟩,cd,bz⟩:=q
 try dsimp only at bz
 have cp:SW w [B0,.obj aa (.map ab ac)] U bd [B0,.obj aa (.map ab ac),.blk b9 169 (hD KL.encI aM.l),.blk b4 169 (hD KL.encI (Arr.fill 64 0).l)] bf:=a6.pick [2,3,0,1] _ (by decide) rfl
 refine zC 2 Z Z Z Z (zD Z Z Tryz.call74 (zB Z (zB Z (zB Z zL))) Z) cp (fun hs=>wBi O ao an ap ax aI ay aJ az aK aa ab ac aH aL (wBX O.number (⟨(↑af:Int),p1⟩:wAI) 0) false bf bd hs bZ b5 ca cb a7 cc cd) (.inl Z) ?_
 rintro aR de dt bE cW cq ⟨aN,aT,aY,aZ,rfl,rfl⟩
 let B1:Res:=.row aN aT 3 1 (hD KL.encI ai.far)
 let B2:Res:=.row aY aZ 3 1 (hD KL.encI ai.by_)
 have cr:SW w [B0,.obj aa (.map ab ac)] U aR [B1,B2,B0,.obj aa (.map ab ac),.blk b9 169 (hD KL.encI aM.l),.blk b4 169 (hD KL.encI (Arr.fill 64 0).l)] bE:=cq
 refine oM Z Z (oR Z (zV Z Z (v:=.agg #[.slice aN ai.far.length aT,.slice aY ai.by_.length aZ]) Z) (oR Z (zV Z Z (v:=jV cY) Z) (oR Z (zV Z Z (v:=.bool cZ) Z) (zU (cs:=[.slice none 0 0,.slice none 0 0]) Z Z Z Z Z Zo Z cr ?_))))
 intro di aS ct
 let B3:List Value:=[.slice aN ai.far.length aT,.slice aY ai.by_.length aZ]
 refine zY (j:=0) (vs:=B3) Z Z Z Z ct Z Z Z Z yI (zA Z) Z Z Z ?_
 intro bF cw
 have bx:SW w [B0,.obj aa (.map ab ac)] U aR [.blk aS 133 B3,B1,B2,B0,.obj aa (.map ab ac),.blk b9 169 (hD KL.encI aM.l),.blk b4 169 (hD KL.encI (Arr.fill 64 0).l)] bF:=cw
 refine oA Z Z (oA Z Z (eN (sR fL7 Z (oM Z aU (oR Z (yB Z Z) (oR Z (zH Z Z ZM Z zc) (oR Z (zH Z Z zP Z zh) (oL Z (bx.ldB (j:=3) Z Z Z zk (v:=.slice an O.Race.Starts.length ap) Z) (oR Z (zi Z Z zG) (oM Z Z (eN (zX (bnK bz fun dw cH cR=>?_)))))))))))))
 have q:=wBn cH
 obtain ⟨bb,cI⟩:=q
 replace bb:=zM bb
 refine CK.forN' (fun ag au J_ w_=>∃ (U_:PHeap),J_ 40=jV (↑ag:Int)/\J_ 0=.pointer (some ⟨ao,0,none⟩)/\J_ 1=jV p1/\J_ 4=.pointer (some ⟨b4,0,none⟩)/\J_ 5=.pointer (some ⟨b9,0,none⟩)/\J_ 6=jV (↑af:Int)/\J_ 7=.pointer (some ⟨aS,0,none⟩)/\J_ 16=jV (↑O.Race.Starts.length:Int)/\J_ 17=jV (↑af:Int)/\J_ 39=jV (↑O.Race.Starts.length:Int)/\PHeap.Le aR U_/\SW w [B0,.obj aa (.map ab ac)] U U_ [B1,B2,.blk aS 133 B3,B0,.obj aa (.map ab ac),.blk b9 169 (hD KL.encI au.l),.blk b4 169 (hD KL.encI (Arr.fill 64 0).l)] w_) cI ?_ ?_ ?_
 exact ⟨aR,rfl,aU,bn,bU,bV,rfl,rfl,bo,a0,rfl,(zQ _),(bx.pick [1,2,0,3,4,5,6] _ (by decide) rfl)⟩
 rintro ag au dv dd bg a9 ⟨be,a5,bp,bq,bW,br,bs,bj,bJ,bK,bk,cX,cx⟩ cU
 have bh:Hid ((↑ag:Int) < (↑O.Race.Starts.length:Int)):=zM (wBQ a9)
 replace a9:=zM a9
 have cL:Hid (w64 ((↑ag:Int) + 1)=(↑(ag + 1):Int)):=zM (by have h1:=bb.out;have h2:=bh.out;rw [wAY] <;> omega)
 refine sR fL1 rfl (zg rfl rfl rfl rfl (fun _=>ze rfl a5 bk) (eN (zJ (cT Z bh (kN (zJ (zX (sR fL2 rfl (ZE rfl rfl rfl rfl rfl a5 (yY rfl rfl rfl rfl rfl rfl (eN (ZI ZD [3,3,3,1,3,3,3,1,3,3,3,1,3,1,3,3,0] (wOx (.fx 16 .nil .stop)) (by kernel_rfl) ?_))))))))))))
 have aq:=cx.drew
 generalize hw_W107:({ bg with drawn:=bg.drawn + 1 }:World)=df at aq ⊢
 refine oM Z bs (oM Z Z (oR Z (zH Z bj Zc Z zh) (oL Z (aq.ldB (j:=2) Z Z Z zk (v:=.slice aN ai.far.length aT) Z) (oM Z bp (oR Z (yB Z Z) (oR Z (zH Z Z ZM Z yD) (oL Z (aq.ldB (j:=3) Z Z Z yK (v:=.map (some aa)) Z) (oM Z Z (oM Z bq (oR Z (zu (pv:=[(0,jV (↑ag:Int)),(1,jV p1)]) (z:=[jV 0,jV 0]) (cs:=[jV (↑ag:Int),jV p1]) Z (wAG Z (wAG Z wAP)) zd wBg Z Z) (oL Z (aq.lookup1 (j:=4) (mk:=wBW) (mv:=wBe) (a:=(⟨(↑ag:Int),p1⟩:wAI)) (z:=0) Z Z Z Z (wBy ZQ) wDZ zy a7) (bnK cU fun _ aV cN=>?_))))))))))))
 obtain ⟨dk,bt⟩:=aq.rowSome (j:=0) rfl (by rw [wAD (f:=KL.encI) (sz:=1) (fun _=>rfl) ai.far];have hz:=wAS aV;omega)
 refine oR Z (ZT Z Z bt Z zG zE (wCH aV) (wCI aV)) ?_
 have cJ:=wBJ (xs:=ai.far) (wAS aV)
 refine zx rfl rfl rfl rfl (aq.ldR (j:=0) rfl bt rfl rfl zK (wAW (sz:=1) (fun _=>rfl) _ _ 0 _ cJ (by first | omega | rfl | simp) rfl)) rfl (bnK cN fun _ aW cO=>zg rfl rfl rfl rfl (fun _=>Runs.iaA rfl br rfl Tryz.runUnderlying169 Tryz.sizeOf168 (wCH aW) (wCI aW)) (bnK cO fun _ aX cP=>zg rfl rfl rfl rfl (fun _=>Runs.iaA rfl rfl rfl Tryz.runUnderlying168 zE (wCH aX) (wCI aX)) ?_))
 have cK:=Arr.at_ au (k:=(af * 8 + ag)) (by have hz0:=wAS aW;have hz1:=wAS aX;omega)
 refine zY (j:=5) (vs:=[jV (gd ai.far (wBX O.number (⟨(↑ag:Int),p1⟩:wAI) 0).toNat)]) (cs':=hD KL.encI (au.set (af * 8 + ag) (gd ai.far (wBX O.number (⟨(↑ag:Int),p1⟩:wAI) 0).toNat)).l) rfl rfl rfl rfl aq rfl rfl rfl rfl zE (by have hz0:=wAS aW;have hz1:=wAS aX;simp only [List.length_append,List.length_cons,List.length_nil,wCp (f:=KL.encI) (sz:=1) (N:=64) au (fun _=>rfl) rfl];omega) rfl (wDX (sz:=1) (fo:=0) (fun _=>rfl) _ _ _ _ cK (by first | omega | rfl | simp) (zA rfl) rfl) rfl ?_
 intro bB cg
 have cj:SW w [B0,.obj aa (.map ab ac)] U be [B1,B2,.blk aS 133 B3,B0,.obj aa (.map ab ac),.blk b9 169 (hD KL.encI (au.set (af * 8 + ag) (gd ai.far (wBX O.number (⟨(↑ag:Int),p1⟩:wAI) 0).toNat)).l),.blk b4 169 (hD KL.encI (Arr.fill 64 0).l)] bB:=cg
 refine zb (zl (zF (rR fL2 Z (oR Z (ZP (za Z a5 Z) (congrArg (jV) cL.out)) (oM Z Z (zb ?_))))))
 cases cP
 exact zF ⟨Z,⟨be,Z,bp,bq,bW,br,bs,bj,bJ,bK,bk,cX,cj⟩⟩
 rintro c6 dg ⟨bA,bX,bL,bM,bN,bO,dl,dm,bP,bQ,bR,cV,cm⟩
 have bH:Hid (¬ ((↑(((↑O.Race.Starts.length:Int):Int) - 0).toNat:Int) < (↑O.Race.Starts.length:Int))):=zM (wAq)
 refine sR fL1 Z (oR Z (ze Z bX bR) (eN (zJ (cF Z bH (ZS (zf (zf (ZN (zl (zF (rR fL2 Z (oR Z (ZP (za Z bQ Z) (congrArg (jV) cM.out)) (oM Z Z (zb ?_))))))))))))))
 cases cR
 exact zF ⟨rfl,⟨bA,rfl,bL,bM,bN,bO,bP,((av.trans cW).trans cV),(cm.pick [5,6,3,4] _ (by decide) rfl)⟩⟩
 rintro da dh ⟨bc,bY,dp,dq,bm,bS,bT,dr,bv⟩
 have bI:Hid (¬ ((↑(((↑O.Race.Starts.length:Int):Int) - 0).toNat:Int) < (↑O.Race.Starts.length:Int))):=zM (wAq)
 refine sR fL1 rfl (zg rfl rfl rfl rfl (fun _=>ze rfl bY bT) (eN (zJ (cF Z bI (ZS (zf (zf (ZN (zF (sR (.fl 0 (.fx 1 .nil .stop)) rfl (zx rfl rfl rfl rfl (bv.ldBA (j:=0) rfl rfl bS Tryz.isAgg169 Tryz.sizeOf169 (vs:=hD KL.encI aj.l) (wOJ aj (fun _=>rfl) rfl) (wCp aj (fun _=>rfl) rfl)) rfl (zY (j:=1) (vs:=hD KL.encI aj.l) rfl rfl rfl rfl bv rfl bm rfl rfl (fun w=>by rw [wCp (f:=KL.encI) (sz:=1) (N:=64) aj (fun _=>rfl) rfl];exact Tryz.sizeOf169 w) (by rw [wCp (f:=KL.encI) (sz:=1) (N:=64) aj (fun _=>rfl) rfl,wCp (f:=KL.encI) (sz:=1) (N:=64) (Arr.fill 64 0) (fun _=>rfl) rfl];exact zA rfl) (wGt (fun _=>rfl) _) (wKF _ _ (by rw [wCp (f:=KL.encI) (sz:=1) (N:=64) aj (fun _=>rfl) rfl,wCp (f:=KL.encI) (sz:=1) (N:=64) (Arr.fill 64 0) (fun _=>rfl) rfl])) rfl ?_))))))))))))
 intro bC cn
 have bw:SW w [B0,.obj aa (.map ab ac)] U bc [.blk b9 169 (hD KL.encI aj.l),.blk b4 169 (hD KL.encI aj.l),B0,.obj aa (.map ab ac)] bC:=cn
 refine eN (zR ?_)
 have hE:=nE cQ;first | subst r | cases hE
 exact ⟨rfl,_,(wGy (v:=.agg (hD KL.encI aj.l).toArray) ⟨⟨_,bm,(wBF Tryz.isAgg169 Tryz.sizeOf169 (bw.blkAt (k:=1) rfl) (wOJ aj (fun _=>rfl) rfl) (wCp aj (fun _=>rfl) rfl))⟩,trivial⟩),bc,_,(bw.pick [2,3] _ (by decide) rfl),rfl,rfl⟩
end Go.Proofs.YtlnfbjphfoipaaaGreat
namespace Go.Proofs.YtlnfbjphfoipaaaGreat
open Go.KL
set_option maxHeartbeats 4000000
theorem wIS (O:wAA) (aK:Option Addr) (aL:Nat) (a6:Option Addr) (a9:Nat) (a7:Option Addr) (ba:Nat) (a8:Option Addr) (bb:Nat) (p1:Int) (w:World) (U:PHeap) (hS:St0 w U []) (dv:Sl U 1 aK aL O.Starts.length (hD KL.encI O.Starts)) (dw:Sl U 2 a6 a9 O.Splits.length (hD wAC O.Splits)) (dx:Sl U 3 a7 ba O.Clocks.length (hD wAE O.Clocks)) (dy:Sl U 4 a8 bb O.Readings.length (hD wAB O.Readings)) {r:(List wAN) × Int} (hm:wFA O p1=some r):Gv Tryz.prog 40 [.agg #[.slice aK O.Starts.length aL,.slice a6 O.Splits.length a9,.slice a7 O.Clocks.length ba,.slice a8 O.Readings.length bb],jV p1] w (wCF w [] U (fun U_ L_ v=>∃ (A0:Option Addr) (c0:Nat),v=.tuple #[.slice A0 r.1.length c0,jV r.2]/\L_=[.row A0 c0 39 2 (hD wAC r.1)])):=by
 unfold wFA at hm
 refine Gv.of Tryz.func40 Z Tryz.ntmps40 Tryz.results40 Z (sR gCm Z ?_)
 let B0:List Value:=[.slice aK O.Starts.length aL,.slice a6 O.Splits.length a9,.slice a7 O.Clocks.length ba,.slice a8 O.Readings.length bb]
 refine zq (cs:=B0) rfl rfl rfl rfl rfl rfl (by rfl) hS ?_
 intro W1 b2 bU
 refine oA Z Z (oA Z Z (eN (sR (.fl 0 (.fl 1 (.fx 2 (wNl (.nil)) .stop))) Z (oL Z (bU.ldBA (j:=0) Z Z Z zn zc (vs:=B0) Z Z) (oM Z Z ?_)))))
 have q:=bnd hm
 obtain ⟨⟨x5,x6⟩,h7,aT⟩:=q
 try dsimp only at aT
 refine zC 0 Z Z Z Z (zD Z Z Tryz.call108 (zB Z (zB Z zL)) Z) bU (fun hs=>wIR O aK aL a6 a9 a7 ba a8 bb p1 W1 U hs dv dw dx dy h7) (.inr Z) ?_
 rintro U9 d7 ew bi ep bR bP
 rcases x5 with _ | aM
 try dsimp only at aT
 obtain ⟨rfl,rfl⟩:=bP
 have dk:sW w U U9 [.blk b2 27 B0] bi:=bR
 refine oM Z Z (oR Z (zV Z Z (v:=.pointer none) Z) (oR Z (zV Z Z (v:=jV x6) Z) (oA Z Z (oA Z Z (eN (zJ (sR fL2 Z (oM Z Z (oR Z (Zb Z Z Z) (eN (ifc aT ?_ ?_)))))))))))
 intro bo dR
 refine zr (ZL (fun h=>h bo.out)) (kN (sR gDi Z (oM Z Z (oM Z Z ?_))))
 cases dR
 intro bo dS
 refine cT Z bo (sR fL3 Z (oM Z Z (oA Z Z (oA Z Z (eN (zR (zT ?_)))))))
 have dl:=dk.nilrow 39 2
 cases dS
 exact ⟨rfl,_,(wDk rfl rfl),U9,_,(dl.pick [0] _ (by decide) rfl),none,0,rfl,rfl⟩
 try dsimp only at aT
 obtain ⟨bj,bw,bH,bx,bI,bz,bJ,bB,bL,ae,ag,af,bC,bM,rfl,rfl,cN,cO,cP,cQ,cR,cS⟩:=bP
 let B1:Res:=.blk bj 139 [.slice bw aM.Race.Starts.length bH,.slice bx aM.Race.Splits.length bI,.slice bz aM.Race.Clocks.length bJ,.slice bB aM.Race.Readings.length bL,.map (some ae),.slice bC aM.edges.length bM]
 have bV:sW w U U9 [B1,.obj ae (.map ag af),.blk b2 27 B0] bi:=bR
 refine oM Z Z (oR Z (zV Z Z (v:=.pointer (some ⟨bj,0,none⟩)) Z) (oR Z (zV Z Z (v:=jV x6) Z) (oA Z Z (oA Z Z (eN (zJ (sR fL2 Z (oM Z Z (oR Z (Zb Z Z Z) (eN (ifc aT ?_ ?_)))))))))))
 intro bp dT
 refine zr (ZL (fun h=>h bp.out)) (kN (sR gDi Z (oM Z Z (oM Z Z (bnK dT fun aa cU dU=>zC 2 Z Z Z Z (zD Z Z Tryz.call109 (zB Z (zB Z zL)) Z) bV (fun hs=>wFb aM bj bw bH bx bI bz bJ bB bL ae ag af bC bM p1 bi U9 hs cN cO cP cQ cR cS cU) (.inl Z) ?_)))))
 rintro aP d8 ey co eu dm ⟨rfl,rfl⟩
 have dp:sW w U aP [B1,.obj ae (.map ag af),.blk b2 27 B0] co:=dm
 refine zU (cs:=hD KL.encI (Arr.fill 64 0).l) Z Z Z Z Z Tryz.zeroValue169 Z dp ?_
 intro cp ai dq
 have dr:sW w U aP [.blk ai 169 (hD KL.encI (Arr.fill 64 0).l),B1,.obj ae (.map ag af),.blk b2 27 B0] cp:=dq
 refine zY (j:=0) (vs:=hD KL.encI aa.l) rfl rfl rfl rfl dr rfl rfl rfl rfl (fun w=>by rw [wCp (f:=KL.encI) (sz:=1) (N:=64) aa (fun _=>rfl) rfl];exact Tryz.sizeOf169 w) (by rw [wCp (f:=KL.encI) (sz:=1) (N:=64) aa (fun _=>rfl) rfl,wCp (f:=KL.encI) (sz:=1) (N:=64) (Arr.fill 64 0) (fun _=>rfl) rfl];exact zA rfl) (wGt (fun _=>rfl) _) (wKF _ _ (by rw [wCp (f:=KL.encI) (sz:=1) (N:=64) aa (fun _=>rfl) rfl,wCp (f:=KL.encI) (sz:=1) (N:=64) (Arr.fill 64 0) (fun _=>rfl) rfl])) rfl ?_
 intro cq dt
 have bW:sW w U aP [.blk ai 169 (hD KL.encI aa.l),B1,.obj ae (.map ag af),.blk b2 27 B0] cq:=dt
 refine eN (sR fL1 Z (oA Z Z (eN (zJ (sR fL4 Z (oR Z (zH Z Z zP Z zh) (oL Z (bW.ldB (j:=3) Z Z Z zk (v:=.slice aK O.Starts.length aL) Z) (oR Z (zi Z Z zG) (oM Z Z (eN (zX (bnK dU fun eC dB dV=>?_))))))))))))
 have q:=wBn dB
 obtain ⟨bu,dC⟩:=q
 replace bu:=zM bu
 refine CK.forN' (fun ak aJ J_ w_=>∃ (U_:PHeap) (aN:Option Addr) (aR:Nat),J_ 28=jV (↑ak:Int)/\J_ 2=.pointer (some ⟨b2,0,none⟩)/\J_ 8=.pointer (some ⟨ai,0,none⟩)/\J_ 9=.slice aN aJ.length aR/\J_ 27=jV (↑O.Starts.length:Int)/\PHeap.Le aP U_/\sW w U U_ [.blk ai 169 (hD KL.encI aa.l),B1,.obj ae (.map ag af),.blk b2 27 B0,.row aN aR 39 2 (hD wAC aJ)] w_) dC ?_ ?_ ?_
 have du:=bW.nilrow 39 2
 exact ⟨aP,none,0,rfl,rfl,rfl,rfl,rfl,(zQ _),(du.pick [1,2,3,4,0] _ (by decide) rfl)⟩
 rintro ak aJ eB d6 ej bs ⟨bh,aN,aR,bq,bN,cx,cy,bO,dY,cW⟩ dW
 have bF:Hid ((↑ak:Int) < (↑O.Starts.length:Int)):=zM (wBQ bs)
 replace bs:=zM bs
 have dG:Hid (w64 ((↑ak:Int) + 1)=(↑(ak + 1):Int)):=zM (by have h1:=bu.out;have h2:=bF.out;rw [wAY] <;> omega)
 refine sR fL1 Z (oR Z (ze Z bq bO) (eN (zJ (cT Z bF (kN (zJ (zX (sR fL2 Z (oM Z bq (oA Z Z (eN (sR (.fl 0 gCj) Z ?_))))))))))))
 let B2:List Value:=[jV 0,jV 0]
 let B3:List Value:=[jV 1,jV 1]
 refine oR Z (zu (pv:=[(0,jV 1),(1,jV 1)]) (z:=B2) (cs:=B3) Z (wAG Z (wAG Z wAP)) zz wCn Z Z) (zU (cs:=B2) Z Z Z Z Z zz Z cW ?_)
 intro d9 ap cX
 refine zY (j:=0) (vs:=B3) Z Z Z Z cX Z Z Z Z zm (zA Z) Z Z Z ?_
 intro cd cY
 let B4:Res:=.row aN aR 39 2 (hD wAC aJ)
 have bQ:sW w U bh [.blk ap 39 B3,.blk ai 169 (hD KL.encI aa.l),B1,.obj ae (.map ag af),.blk b2 27 B0,B4] cd:=cY
 refine eN (zJ (sR fL4 Z (oR Z (zH Z bN zP Z zh) (oL Z (bQ.ldB (j:=4) Z Z Z zk (v:=.slice aK O.Starts.length aL) Z) (oR Z (zi Z Z zG) (oM Z Z (eN (zX ?_))))))))
 have q:=bnd dW
 obtain ⟨⟨bc,bd⟩,dz,bX⟩:=q
 try dsimp only at bX
 have q:=wBn dz
 obtain ⟨bt,dA⟩:=q
 replace bt:=zM bt
 refine CK.forN' (fun aq (az,ao) J_ w_=>∃ (U_:PHeap),J_ 35=jV (↑aq:Int)/\J_ 2=.pointer (some ⟨b2,0,none⟩)/\J_ 8=.pointer (some ⟨ai,0,none⟩)/\J_ 9=.slice aN aJ.length aR/\J_ 10=jV (↑ak:Int)/\J_ 11=.pointer (some ⟨ap,0,none⟩)/\J_ 27=jV (↑O.Starts.length:Int)/\J_ 28=jV (↑ak:Int)/\J_ 34=jV (↑O.Starts.length:Int)/\PHeap.Le bh U_/\sW w U U_ [.blk ap 39 [jV az,jV ao],.blk ai 169 (hD KL.encI aa.l),B1,.obj ae (.map ag af),.blk b2 27 B0,B4] w_) dA ?_ ?_ ?_
 exact ⟨bh,Z,bN,cx,cy,Z,Z,bO,bq,Z,(zQ _),bQ⟩
 rintro aq ⟨az,ao⟩ eA d3 ef br ⟨au,aI,aU,av,aV,ax,aj,aW,aX,aS,a0,ay⟩ bY
 try dsimp only at bY
 have bG:Hid ((↑aq:Int) < (↑O.Starts.length:Int)):=zM (wBQ br)
 replace br:=zM br
 have aZ:Hid (w64 ((↑aq:Int) + 1)=(↑(aq + 1):Int)):=zM (by have h1:=bt.out;have h2:=bG.out;rw [wAY] <;> omega)
 refine sR fL1 Z (oR Z (ze Z aI aS) (eN (zJ (cT Z bG (kN (zJ (zX (sR fL2 Z (oM Z aI (oA Z Z (eN (zJ (sR fL6 Z (oM Z ax (oM Z Z (bnK bY fun _ am dH=>oR Z (Runs.iaA Z av Z Tryz.runUnderlying169 Tryz.sizeOf168 (wCH am) (wCI am)) (bnK dH fun _ an dI=>oR Z (Runs.iaA Z Z Z Tryz.runUnderlying168 zE (wCH an) (wCI an)) ?_)))))))))))))))))
 have dD:=Arr.at_ aa (k:=(ak * 8 + aq)) (by have hz0:=wAS am;have hz1:=wAS an;omega)
 refine zx rfl rfl rfl rfl (ay.ldB (j:=1) rfl rfl rfl zK (wAW (sz:=1) (fun _=>rfl) _ _ 0 _ dD (by first | omega | rfl | simp) rfl)) rfl (zg rfl rfl rfl rfl (fun _=>ze rfl rfl rfl) (eN (ifc dI ?_ ?_)))
 intro bk dJ
 refine cT Z bk (rR (wEN (.fx 4 .nil .stop)) Z (oR Z (zH Z aj ZJ Z zE) (oL Z (ay.ldB (j:=0) Z Z Z zK (v:=jV az) Z) (oR Z (za Z Z Z) (oR Z (zH Z aj ZJ Z zE) (zY (j:=0) (vs:=[jV (w64 (az + 1))]) Z Z Z Z ay Z Z Z Z zE (zA Z) Z Z Z ?_))))))
 intro cf cZ
 have aY:sW w U au [.blk ap 39 [jV (w64 (az + 1)),jV ao],.blk ai 169 (hD KL.encI aa.l),B1,.obj ae (.map ag af),.blk b2 27 B0,B4] cf:=cZ
 refine eN (sR fL6 Z (oM Z Z (oM Z ax (oR Z (Runs.iaA Z av Z Tryz.runUnderlying169 Tryz.sizeOf168 (wCH an) (wCI an)) (oR Z (Runs.iaA Z Z Z Tryz.runUnderlying168 zE (wCH am) (wCI am)) ?_)))))
 have dE:=Arr.at_ aa (k:=(aq * 8 + ak)) (by have hz0:=wAS an;have hz1:=wAS am;omega)
 refine zx rfl rfl rfl rfl (aY.ldB (j:=1) rfl rfl rfl zK (wAW (sz:=1) (fun _=>rfl) _ _ 0 _ dE (by first | omega | rfl | simp) rfl)) rfl (zg rfl rfl rfl rfl (fun _=>yQ rfl rfl rfl) (eN (ifc dJ ?_ ?_)))
 intro bm dK
 refine cT Z bm (rR (wEN (.fx 4 .nil .stop)) Z (oR Z (zH Z aj ZJ Z zE) (oL Z (aY.ldB (j:=0) Z Z Z zK (v:=jV ao) Z) (oR Z (za Z Z Z) (oR Z (zH Z aj ZJ Z zE) (zY (j:=0) (vs:=[jV (w64 (ao + 1))]) Z Z Z Z aY Z Z Z Z zE (zA Z) Z Z Z ?_))))))
 intro cg c6
 have da:sW w U au [.blk ap 39 [jV (w64 (az + 1)),jV (w64 (ao + 1))],.blk ai 169 (hD KL.encI aa.l),B1,.obj ae (.map ag af),.blk b2 27 B0,B4] cg:=c6
 refine zb (zl (zF (rR fL2 Z (oR Z (ZP (za Z aI Z) (congrArg (jV) aZ.out)) (oM Z Z (zb ?_))))))
 cases dK
 exact zF ⟨Z,⟨au,Z,aU,av,aV,ax,aj,aW,aX,aS,a0,da⟩⟩
 intro bm dL
 refine cF Z bm (Ze (zl (zF (rR fL2 Z (oR Z (ZP (za Z aI Z) (congrArg (jV) aZ.out)) (oM Z Z (zb ?_)))))))
 cases dL
 exact zF ⟨Z,⟨au,Z,aU,av,aV,ax,aj,aW,aX,aS,a0,aY⟩⟩
 intro bk dM
 refine cF Z bk (kN (sR fL6 Z (oM Z Z (oM Z ax (oR Z (Runs.iaA Z av Z Tryz.runUnderlying169 Tryz.sizeOf168 (wCH an) (wCI an)) (oR Z (Runs.iaA Z Z Z Tryz.runUnderlying168 zE (wCH am) (wCI am)) ?_))))))
 have dF:=Arr.at_ aa (k:=(aq * 8 + ak)) (by have hz0:=wAS an;have hz1:=wAS am;omega)
 refine zx rfl rfl rfl rfl (ay.ldB (j:=1) rfl rfl rfl zK (wAW (sz:=1) (fun _=>rfl) _ _ 0 _ dF (by first | omega | rfl | simp) rfl)) rfl (zg rfl rfl rfl rfl (fun _=>yQ rfl rfl rfl) (eN (ifc dM ?_ ?_)))
 intro bn dN
 refine cT Z bn (rR (wEN (.fx 4 .nil .stop)) Z (oR Z (zH Z aj ZJ Z zE) (oL Z (ay.ldB (j:=0) Z Z Z zK (v:=jV ao) Z) (oR Z (za Z Z Z) (oR Z (zH Z aj ZJ Z zE) (zY (j:=0) (vs:=[jV (w64 (ao + 1))]) Z Z Z Z ay Z Z Z Z zE (zA Z) Z Z Z ?_))))))
 intro cj db
 have dd:sW w U au [.blk ap 39 [jV az,jV (w64 (ao + 1))],.blk ai 169 (hD KL.encI aa.l),B1,.obj ae (.map ag af),.blk b2 27 B0,B4] cj:=db
 refine zb (zl (zF (rR fL2 Z (oR Z (ZP (za Z aI Z) (congrArg (jV) aZ.out)) (oM Z Z (zb ?_))))))
 cases dN
 exact zF ⟨Z,⟨au,Z,aU,av,aV,ax,aj,aW,aX,aS,a0,dd⟩⟩
 intro bn dO
 refine cF Z bn (Ze (zl (zF (rR fL2 Z (oR Z (ZP (za Z aI Z) (congrArg (jV) aZ.out)) (oM Z Z (zb ?_)))))))
 cases dO
 exact zF ⟨Z,⟨au,Z,aU,av,aV,ax,aj,aW,aX,aS,a0,ay⟩⟩
 rintro d4 eg ⟨bg,cK,cz,cA,cC,ek,cD,cE,cG,cH,dX,bS⟩
 have ct:Hid (¬ ((↑(((↑O.Starts.length:Int):Int) - 0).toNat:Int) < (↑O.Starts.length:Int))):=zM (wAq)
 refine sR fL1 Z (oR Z (ze Z cK cH) (eN (zJ (cF Z ct (ZS (zf (zf (ZN (zF (rR (.fl 0 (.fl 1 gCu)) Z (oM Z cC ?_)))))))))))
 let B5:List Value:=[jV bc,jV bd]
 refine oL Z (bS.ldBA (j:=0) Z Z cD Zu zm (vs:=B5) Z Z) (ZC (pv:=[(0,.agg B5.toArray)]) (zs:=B2) (cs:=B5) Z Z Z Z Z (wAG Z wAP) ZG zm zz Z Z Z Z Z bS ?_)
 intro cm cr de
 let B6:Res:=.row (some ⟨cr,0,none⟩) 1 39 2 (hD wAC [(⟨bc,bd⟩:wAN)])
 have bT:sW w U bg [B6,.blk ap 39 B5,.blk ai 169 (hD KL.encI aa.l),B1,.obj ae (.map ag af),.blk b2 27 B0,B4] cm:=de
 refine bnK bX fun bZ cM dP=>yG (j:=6) (enc:=wAC) (xs:=aJ) (ys:=[(⟨bc,bd⟩:wAN)]) (zs:=bZ) rfl rfl rfl rfl rfl Tryz.underlying23 wMl rfl rfl rfl rfl rfl rfl bT rfl rfl rfl (bT.srcR (j:=0) rfl (by decide) (wAD (f:=wAC) (sz:=2) (fun _=>rfl) [(⟨bc,bd⟩:wAN)])) (fun _=>rfl) (fun _=>rfl) cM rfl ?_
 intro bA bK cn df
 have dg:sW w U bg [B6,.blk ap 39 B5,.blk ai 169 (hD KL.encI aa.l),B1,.obj ae (.map ag af),.blk b2 27 B0,.row bA bK 39 2 (hD wAC bZ)] cn:=df
 refine oA Z Z (zb (zl (zF (rR fL2 Z (oR Z (ZP (za Z cG Z) (congrArg (jV) dG.out)) (oM Z Z (zb ?_)))))))
 cases dP
 exact zF ⟨rfl,⟨bg,bA,bK,rfl,cz,cA,rfl,cE,(dY.trans dX),(dg.pick [2,3,4,5,6] _ (by decide) rfl)⟩⟩
 rintro d5 eh ⟨cb,ca,cu,cL,en,eo,cI,cJ,er,dh⟩
 have cw:Hid (¬ ((↑(((↑O.Starts.length:Int):Int) - 0).toNat:Int) < (↑O.Starts.length:Int))):=zM (wAq)
 refine sR fL1 Z (oR Z (ze Z cL cJ) (eN (zJ (cF Z cw (ZS (zf (zf (ZN (zF (sR fL3 Z (oM Z cI (oA Z Z (oA Z Z (eN (zR ?_)))))))))))))))
 cases dV
 exact ⟨rfl,_,(wDk rfl rfl),cb,_,(dh.pick [4] _ (by decide) rfl),ca,cu,rfl,rfl⟩
 intro bp dQ
 refine cT Z bp (sR fL3 Z (oM Z Z (oA Z Z (oA Z Z (eN (zR (zT ?_)))))))
 have di:=bV.nilrow 39 2
 cases dQ
 exact ⟨rfl,_,(wDk rfl rfl),U9,_,(di.pick [0] _ (by decide) rfl),none,0,rfl,rfl⟩
theorem wGz (O:wAJ) (p1:Int) (ae:Nat) (p2:Int) (af:Nat) (w:World) (U:PHeap) (hS:St0 w U []) (ag:Cl U ae 0 [jV p1]) (ah:Cl U af 0 [jV p2]) {r:Bool} (hm:wCJ O p1 p2=some r):Gv Tryz.prog 79 [.agg #[jV O.Skier,jV O.Mat,jV O.Clock,jV O.Time],.pointer (some ⟨ae,0,none⟩),.pointer (some ⟨af,0,none⟩)] w (wCF w [] U (fun U_ L_ v=>v=.bool r/\L_=[])):=by
 unfold wCJ at hm
 refine Gv.of Tryz.func79 rfl Tryz.ntmps79 Tryz.results79 rfl (sR gCl rfl (zq (cs:=[jV O.Skier,jV O.Mat,jV O.Clock,jV O.Time]) rfl rfl rfl rfl rfl rfl (by rfl) hS ?_))
 intro W1 b2 ac
 refine oA Z Z (eN (sR fL10 Z (oR Z (zH Z Z Zn Z zE) (oL Z (ac.ldB (j:=0) Z Z Z zK (v:=jV O.Skier) Z) (oR Z (zH Z Z Zn Z zE) (oL Z (ac.ldB (j:=0) Z Z Z zK (v:=jV O.Mat) Z) (oR Z (zu (pv:=[(0,jV O.Skier),(1,jV O.Mat)]) (z:=[jV 0,jV 0]) (cs:=[jV O.Skier,jV O.Mat]) Z (wAG Z (wAG Z wAP)) yC wFX Z Z) (oL Z (ac.ldC (f:=0) ag (v:=jV p1) Z Z zK Z) (oL Z (ac.ldC (f:=0) ah (v:=jV p2) Z Z zK Z) (oR Z (zu (pv:=[(0,jV p1),(1,jV p2)]) (z:=[jV 0,jV 0]) (cs:=[jV p1,jV p2]) Z (wAG Z (wAG Z wAP)) yC wFX Z Z) (oR Z (Runs.eqS (enc:=wAT) (a:=(⟨O.Skier,O.Mat⟩:wAL)) (b:=(⟨p1,p2⟩:wAL)) Z Z Z wOa wOZ) (oA Z Z (eN (zR ?_))))))))))))))
 first | (obtain rfl:=nE hm) | cases hm
 exact ⟨rfl,_,(ZH rfl),U,_,(ac.pick [] _ (by decide) rfl),rfl,rfl⟩
theorem wCt (O:List wAJ) (ak:Option Addr) (am:Nat) (p1:(wAJ->Option Bool)) (an:Value) (w:World) (U:PHeap) (hS:St0 w U []) (aW:Sl U 4 ak am O.length (hD wAB O)) (aX:FnOK Tryz.prog U an wKg wKh p1) {r:Int} (hm:wAi O p1=some r):Gv Tryz.prog 123 [.slice ak O.length am,an] w (wCF w [] U (fun U_ L_ v=>v=jV r/\L_=[])):=by
 unfold wAi at hm
 refine Gv.of Tryz.func123 Z Tryz.ntmps123 Tryz.results123 Z (sR fL1 Z (oA Z Z (eN (zJ (sR fL3 Z (oM Z Z (oR Z (zi Z Z ZF) (oM Z Z (eN (zX ?_))))))))))
 have q:=wCT hm
 obtain ⟨r3,ag⟩:=q
 have q:=wCS ag
 obtain ⟨ai,a0⟩:=q
 replace ai:=zM ai
 refine ya (fun k2 _ J_ w_=>∃ (U_:PHeap),J_ 8=jV (↑k2:Int)/\J_ 0=.slice ak O.length am/\J_ 1=an/\J_ 7=jV (↑O.length:Int)/\PHeap.Le U U_/\sW w U U_ [] w_) a0 ?_ ?_ ?_
 exact ⟨U,Z,Z,Z,Z,(zQ _),hS⟩
 rintro k2 ⟨⟩ bs J7 W8 ah ⟨bg,af,ap,aq,au,aj,ax⟩ aH aY
 try dsimp only at aH
 have ao:Hid ((↑k2:Int) < (↑O.length:Int)):=zM (wBQ ah)
 replace ah:=zM ah
 have a5:Hid (w64 ((↑k2:Int) + 1)=(↑(k2 + 1):Int)):=zM (by have h1:=ai.out;have h2:=ao.out;rw [wAY] <;> omega)
 refine sR fL1 Z (oR Z (ze Z af au) (eN (zJ (cT Z ao (kN (zJ (zX (sR fL2 Z (oM Z af (oA Z Z (eN (sR (wHD (.fx 5 .nil .stop)) Z (oM Z aq (oM Z ap (oM Z Z (bnK aH fun ab av a6=>?_))))))))))))))))
 have aP:=aW.le aj
 have q:=aP.el (fun _=>rfl) (wAb av)
 obtain ⟨bj,bo,aS,aT⟩:=q
 refine oR Z (ZZ Z Z aS Z ZF ZW (wCc av)) (oL Z (ax.ldCA (f:=0) aT Z Z yb ZW (us:=[jV ab.Skier,jV ab.Mat,jV ab.Clock,jV ab.Time]) Z Z) (bnK a6 fun br aQ a7=>?_))
 have aR:=aX.le aj
 refine OKS.callV (a:=ab) Z Z Z Z Z Z (zB Z zL) ax aR Z aQ ?_
 rintro ac bf bq aK bb aU ⟨rfl,rfl⟩
 have ay:sW w U ac [] aK:=aU
 refine eN (ifc a7 ?_ ?_)
 intro ae a8
 refine ZK (congrArg hH ae.out) (sR fL2 Z (oM Z Z (oA Z Z (eN (zR (zo (zT ?_)))))))
 have q:=wAV a8
 obtain ⟨bc,a9,aM⟩:=q
 have q:=wCY hm ag (aY bc aM)
 obtain rfl:=q
 refine zT (zo (zT ?_))
 cases a9
 exact ⟨Z,_,(ZH Z),ac,_,ay,Z,Z⟩
 intro ae ba
 refine zr (congrArg hH (nA.2 ae.out)) (Ze (zl (zF (rR fL2 Z (oR Z (ZP (za Z af Z) (congrArg (jV) a5.out)) (oM Z Z (zb ?_)))))))
 have q:=nE ba
 obtain rfl:=q
 exact zF ⟨Z,_,Z,⟨ac,Z,ap,aq,au,(aj.trans bb),ay⟩⟩
 rintro ⟨⟩ bd bh ⟨aJ,aO,bk,bm,aN,bn,aV⟩ aZ
 have az:=wDQ hm ag aZ
 try dsimp only at az
 have aL:Hid (¬ ((↑(((↑O.length:Int):Int) - 0).toNat:Int) < (↑O.length:Int))):=zM (wAq)
 refine sR fL1 Z (oR Z (ze Z aO aN) (eN (zJ (cF Z aL (ZS (zf (zf (ZN (zF (sR fL1 Z (oA Z Z (eN (zR ?_)))))))))))))
 cases az
 exact ⟨Z,_,(ZH Z),aJ,_,aV,Z,Z⟩
theorem wCl (O:List wAJ) (ab:Option Addr) (ac:Nat) (p1:(wAJ->Option Bool)) (ae:Value) (w:World) (U:PHeap) (hS:St0 w U []) (am:Sl U 4 ab ac O.length (hD wAB O)) (an:FnOK Tryz.prog U ae wKg wKh p1) {r:Bool} (hm:wAc O p1=some r):Gv Tryz.prog 78 [.slice ab O.length ac,ae] w (wCF w [] U (fun U_ L_ v=>v=.bool r/\L_=[])):=by
 unfold wAc at hm
 refine Gv.of Tryz.func78 Z Tryz.ntmps78 Tryz.results78 Z (sR fL1 Z (oA Z Z (eN (sR gDg Z (oM Z Z (oM Z Z (bnK hm fun x1 h2 ag=>zC 0 Z Z Z Z (zD Z Z Tryz.call123 (zB Z (zB Z zL)) Z) hS (fun hs=>wCt O ab ac p1 ae w U hs am an h2) (.inr Z) ?_)))))))
 rintro U4 L5 v6 W7 ap ak ⟨rfl,rfl⟩
 have aj:sW w U U4 [] W7:=ak
 refine oR Z (Runs.geq Z Z Z) (oA Z Z (eN (zR ?_)))
 first | (obtain rfl:=nE ag) | cases ag
 exact ⟨Z,_,(ZH Z),U4,_,aj,Z,Z⟩
theorem wFk (O:wAA) (aL:Option Addr) (aN:Nat) (aM:Option Addr) (aO:Nat) (aX:Option Addr) (aY:Nat) (an:Option Addr) (ao:Nat) (w:World) (U:PHeap) (hS:St0 w U []) (cZ:Sl U 1 aL aN O.Starts.length (hD KL.encI O.Starts)) (c6:Sl U 2 aM aO O.Splits.length (hD wAC O.Splits)) (da:Sl U 3 aX aY O.Clocks.length (hD wAE O.Clocks)) (bB:Sl U 4 an ao O.Readings.length (hD wAB O.Readings)) {r:(List wAL) × Int} (hm:wDH O=some r):Gv Tryz.prog 22 [.agg #[.slice aL O.Starts.length aN,.slice aM O.Splits.length aO,.slice aX O.Clocks.length aY,.slice an O.Readings.length ao]] w (wCF w [] U (fun U_ L_ v=>∃ (A0:Option Addr) (c0:Nat),v=.tuple #[.slice A0 r.1.length c0,jV r.2]/\L_=[.row A0 c0 29 2 (hD wAT r.1)])):=by
 unfold wDH at hm
 refine Gv.of Tryz.func22 Z Tryz.ntmps22 Tryz.results22 Z (sR gCm Z ?_)
 let B0:List Value:=[.slice aL O.Starts.length aN,.slice aM O.Splits.length aO,.slice aX O.Clocks.length aY,.slice an O.Readings.length ao]
 refine zq (cs:=B0) rfl rfl rfl rfl rfl rfl (by rfl) hS ?_
 intro W1 b2 bA
 refine oA Z Z (oA Z Z (eN (zJ (sR (.fl 0 gCe) Z (oL Z (bA.ldBA (j:=0) Z Z Z zn zc (vs:=B0) Z Z) (bnK hm fun x5 h6 dr=>zC 0 Z Z Z Z (zD Z Z Tryz.call33 (zB Z zL) Z) bA (fun hs=>wEi O aL aN aM aO aX aY an ao W1 U hs cZ c6 da bB h6) (.inr Z) ?_))))))
 rintro U8 L9 dK bM du cy ⟨rfl,rfl⟩
 have bf:sW w U U8 [.blk b2 27 B0] bM:=cy
 refine oA Z Z (eN (sR fL2 Z (oM Z Z (oR Z (Zb Z Z Z) (eN (ifc dr ?_ ?_))))))
 intro ba dk
 refine zr (ZL (fun h=>h ba.out)) (kN (sR fL1 Z (oA Z Z (eN (zJ (sR fL4 Z (oR Z (zH Z Z zP Z zh) (oL Z (bf.ldB (j:=0) Z Z Z zk (v:=.slice aL O.Starts.length aN) Z) (oR Z (zi Z Z zG) (oM Z Z (eN (zX (bnK dk fun dQ dd dq=>?_)))))))))))))
 have q:=wBn dd
 obtain ⟨bh,de⟩:=q
 replace bh:=zM bh
 refine CK.forN' (fun ae aV J_ w_=>∃ (U_:PHeap) (ap:Option Addr) (au:Nat),J_ 16=jV (↑ae:Int)/\J_ 1=.pointer (some ⟨b2,0,none⟩)/\J_ 5=.slice ap aV.length au/\J_ 15=jV (↑O.Starts.length:Int)/\PHeap.Le U8 U_/\sW w U U_ [.blk b2 27 B0,.row ap au 29 2 (hD wAT aV)] w_) de ?_ ?_ ?_
 have cO:=bf.nilrow 29 2
 exact ⟨U8,none,0,rfl,rfl,rfl,rfl,(zQ _),(cO.pick [1,0] _ (by decide) rfl)⟩
 rintro ae aV dO dy dF bg ⟨bm,ap,au,be,ca,cb,bs,bE,cP⟩ dt
 have br:Hid ((↑ae:Int) < (↑O.Starts.length:Int)):=zM (wBQ bg)
 replace bg:=zM bg
 have df:Hid (w64 ((↑ae:Int) + 1)=(↑(ae + 1):Int)):=zM (by have h1:=bh.out;have h2:=br.out;rw [wAY] <;> omega)
 refine sR fL1 Z (oR Z (ze Z be bs) (eN (zJ (cT Z br (kN (zJ (zX (sR (.fl 0 gCj) Z (oM Z be (zU (cs:=[jV 0]) Z Z Z Z Z zy Z cP ?_))))))))))
 intro dG ag cQ
 let B1:List Value:=[jV (↑ae:Int)]
 refine zY (j:=0) (vs:=B1) Z Z Z Z cQ Z Z Z Z zE (zA Z) Z Z Z ?_
 intro bU cR
 let B2:Res:=.row ap au 29 2 (hD wAT aV)
 have cS:sW w U bm [.blk ag 3 B1,.blk b2 27 B0,B2] bU:=cR
 refine eN (sR gCg Z (zU (cs:=[jV 0]) Z Z Z Z Z zy Z cS ?_))
 intro dH a8 cU
 refine zY (j:=0) (vs:=[jV 1]) Z Z Z Z cU Z Z Z Z zE (zA Z) Z Z Z ?_
 intro bn cV
 have cW:sW w U bm [.blk a8 3 [jV 1],.blk ag 3 B1,.blk b2 27 B0,B2] bn:=cV
 refine eN (zX ?_)
 have q:=cW.freeze (k:=1) rfl
 obtain ⟨aS,bF,ay,cX⟩:=q
 replace ay:=Cl.of ay
 have cY:sW w U aS [.blk a8 3 [jV 1],.blk b2 27 B0,B2] bn:=cX
 replace ay:Cl aS ag 0 B1:=ay
 refine ye (fun (aI,aa) J_ w_=>∃ (U_:PHeap) (ak:Option Addr) (am:Nat) (ah:Nat),J_ 1=.pointer (some ⟨b2,0,none⟩)/\J_ 5=.slice ak aI.length am/\J_ 6=.pointer (some ⟨ag,0,none⟩)/\J_ 7=.pointer (some ⟨ah,0,none⟩)/\J_ 15=jV (↑O.Starts.length:Int)/\J_ 16=jV (↑ae:Int)/\PHeap.Le aS U_/\sW w U U_ [.blk b2 27 B0,.row ak am 29 2 (hD wAT aI),.blk ah 3 [jV aa]] w_) dt ?_ ?_
 exact ⟨aS,ap,au,a8,ca,cb,rfl,rfl,bs,be,(zQ _),(cY.pick [1,2,0] _ (by decide) rfl)⟩
 rintro ⟨aI,aa⟩ dP dz bo ⟨bJ,ak,am,ah,av,bb,aU,ax,bc,bd,aJ,az⟩ bi db
 try dsimp only at bi
 refine zJ (sR fL5 Z (oL Z (az.ldB (j:=2) Z Z ax zK (v:=jV aa) Z) (oR Z (zH Z av zP Z Zf) (oL Z (az.ldB (j:=0) Z Z Z Zl (v:=.slice aM O.Splits.length aO) Z) (oR Z (zi Z Z ZG) (oR Z (Runs.leq Z Z Z) (eN ?_)))))))
 by_cases ai:aa <= (↑O.Splits.length:Int)
 have bC:=bi;rw [if_pos ai] at bC;replace ai:=zM ai
 refine cT Z ai (kN (zJ (zX (sR (wDd gCk) Z (oR Z (zH Z av zP Z Zk) (oL Z (az.ldB (j:=0) Z Z Z Zr (v:=.slice an O.Readings.length ao) Z) ?_))))))
 have q:=az.freeze (k:=2) rfl
 obtain ⟨aR,aW,aj,cw⟩:=q
 replace aj:=Cl.of aj
 let B3:Res:=.row ak am 29 2 (hD wAT aI)
 have cx:sW w U aR [.blk b2 27 B0,B3] bo:=cw
 replace aj:Cl aR ah 0 [jV aa]:=aj
 refine oR Z (Runs.mkf Z zL (zB aU (zB ax zL))) ?_
 have cd:=bB.le du
 have cf:=cd.le bE
 have cg:=cf.le bF
 have cj:=cg.le aJ
 have cm:=cj.le aW
 have cn:=ay.le aJ
 have bt:=cn.le aW
 have cu:FnOK Tryz.prog aR (.func (.func 79) #[] #[.pointer (some ⟨ag,0,none⟩),.pointer (some ⟨ah,0,none⟩)]) wKg wKh (fun x=>wCJ x (↑ae:Int) aa):=⟨79,[],[.pointer (some ⟨ag,0,none⟩),.pointer (some ⟨ah,0,none⟩)],rfl,Tryz.call79,fun U1 w1 x y vs le hs ha hm=>by obtain rfl:=ha;exact wGz x (↑ae:Int) ag aa ah w1 U1 hs (bt.le le) (aj.le le) hm⟩
 refine bnK bC fun dM co dg=>zC 0 Z Z Z Z (zD Z Z Tryz.call78 (zB Z (zB Z zL)) Z) cx (fun hs=>wCl O.Readings an ao (fun x=>wCJ x (↑ae:Int) aa) (.func (.func 79) #[] #[.pointer (some ⟨ag,0,none⟩),.pointer (some ⟨ah,0,none⟩)]) bo aR hs cm cu co) (.inr Z) ?_
 rintro af dA dL bN aK cz ⟨rfl,rfl⟩
 have aH:sW w U af [.blk b2 27 B0,B3] bN:=cz
 refine oR Z (ZY Z Z) (eN (ifc dg ?_ ?_))
 intro a9 dh
 refine zr (nC a9.out) (Ze (zl (zF (zJ (sR fL1 Z ?_)))))
 have cp:=aj.le aK
 refine oL Z (aH.ldC (f:=0) cp (v:=jV aa) Z ax zK Z) (eN (rR gCg Z (zU (cs:=[jV 0]) Z Z Z Z Z zy Z aH ?_)))
 intro dC a6 cA
 refine zY (j:=0) (vs:=[jV aa]) Z Z Z Z cA Z Z Z Z zE (zA Z) Z Z Z ?_
 intro bO cC
 have bv:sW w U af [.blk a6 3 [jV aa],.blk b2 27 B0,B3] bO:=cC
 refine eN (rR gCx Z (oL Z (bv.ldB (j:=0) Z Z Z zK (v:=jV aa) Z) (oR Z (za Z Z Z) (zY (j:=0) (vs:=[jV (w64 (aa + 1))]) Z Z Z Z bv Z Z Z Z zE (zA Z) Z Z Z ?_))))
 intro bP cD
 have cE:sW w U af [.blk a6 3 [jV (w64 (aa + 1))],.blk b2 27 B0,B3] bP:=cD
 refine zb ?_
 have q:=nE dh
 obtain rfl:=q
 exact zF ⟨rfl,_,rfl,⟨af,ak,am,a6,av,bb,aU,rfl,bc,bd,((aJ.trans aW).trans aK),(cE.pick [1,2,0] _ (by decide) rfl)⟩⟩
 intro a9 di
 refine ZK (nF (a9.out)) (rR (wEN gCt) Z (oM Z bb ?_))
 have cq:=bt.le aK
 refine oL Z (aH.ldC (f:=0) cq (v:=jV (↑ae:Int)) Z aU zK Z) ?_
 have bu:=aj.le aK
 refine oL Z (aH.ldC (f:=0) bu (v:=jV aa) Z ax zK Z) ?_
 let B4:List Value:=[jV (↑ae:Int),jV aa]
 refine oR Z (zu (pv:=[(0,jV (↑ae:Int)),(1,jV aa)]) (z:=[jV 0,jV 0]) (cs:=B4) Z (wAG Z (wAG Z wAP)) yC wFX Z Z) (ZC (pv:=[(0,.agg B4.toArray)]) (zs:=[jV 0,jV 0]) (cs:=B4) Z Z Z Z Z (wAG Z wAP) Zm ZR yC Z Z Z Z Z aH ?_)
 intro bQ bV cG
 let B5:Res:=.row (some ⟨bV,0,none⟩) 1 29 2 (hD wAT [(⟨(↑ae:Int),aa⟩:wAL)])
 have bw:sW w U af [B5,.blk b2 27 B0,B3] bQ:=cG
 refine bnK di fun bG cr dl=>yG (j:=2) (enc:=wAT) (xs:=aI) (ys:=[(⟨(↑ae:Int),aa⟩:wAL)]) (zs:=bG) rfl rfl rfl rfl rfl Tryz.underlying56 wOX rfl rfl rfl rfl rfl rfl bw rfl rfl rfl (bw.srcR (j:=0) rfl (by decide) (wAD (f:=wAT) (sz:=2) (fun _=>rfl) [(⟨(↑ae:Int),aa⟩:wAL)])) (fun _=>rfl) (fun _=>rfl) cr rfl ?_
 intro bk bq bR cH
 let B6:Res:=.row bk bq 29 2 (hD wAT bG)
 have bx:sW w U af [B5,.blk b2 27 B0,B6] bR:=cH
 refine oA Z Z (zb (zl (zF (zJ (sR fL1 Z (oL Z (bx.ldC (f:=0) bu (v:=jV aa) Z ax zK Z) (eN (rR gCg Z (zU (cs:=[jV 0]) Z Z Z Z Z zy Z bx ?_)))))))))
 intro dD a7 cI
 refine zY (j:=0) (vs:=[jV aa]) Z Z Z Z cI Z Z Z Z zE (zA Z) Z Z Z ?_
 intro bS cJ
 have bz:sW w U af [.blk a7 3 [jV aa],B5,.blk b2 27 B0,B6] bS:=cJ
 refine eN (rR gCx Z (oL Z (bz.ldB (j:=0) Z Z Z zK (v:=jV aa) Z) (oR Z (za Z Z Z) (zY (j:=0) (vs:=[jV (w64 (aa + 1))]) Z Z Z Z bz Z Z Z Z zE (zA Z) Z Z Z ?_))))
 intro bT cK
 have cL:sW w U af [.blk a7 3 [jV (w64 (aa + 1))],B5,.blk b2 27 B0,B6] bT:=cK
 refine zb ?_
 have q:=nE dl
 obtain rfl:=q
 exact zF ⟨rfl,_,rfl,⟨af,bk,bq,a7,av,rfl,aU,rfl,bc,bd,((aJ.trans aW).trans aK),(cL.pick [2,3,0] _ (by decide) rfl)⟩⟩
 have bD:=bi;rw [if_neg ai] at bD;replace ai:=zM ai
 refine cF Z ai (ZS (zf ?_))
 have q:=wAV bD
 obtain ⟨dv,dm,bY⟩:=q
 have q:=db dv bY
 obtain rfl:=q
 refine zf (ZN (zl (zF (rR fL2 Z (oR Z (ZP (za Z bd Z) (congrArg (jV) df.out)) (oM Z Z (zb ?_)))))))
 cases dm
 exact zF ⟨rfl,⟨bJ,ak,am,rfl,av,bb,bc,((bE.trans bF).trans aJ),(az.pick [0,1] _ (by decide) rfl)⟩⟩
 rintro dx dE ⟨bK,bH,bW,cc,dI,bZ,b5,dJ,cM⟩
 have bX:Hid (¬ ((↑(((↑O.Starts.length:Int):Int) - 0).toNat:Int) < (↑O.Starts.length:Int))):=zM (wAq)
 refine sR fL1 Z (oR Z (ze Z cc b5) (eN (zJ (cF Z bX (ZS (zf (zf (ZN (zF (sR fL3 Z (oM Z bZ (oA Z Z (oA Z Z (eN (zR ?_)))))))))))))))
 cases dq
 exact ⟨rfl,_,(wDk rfl rfl),bK,_,(cM.pick [1] _ (by decide) rfl),bH,bW,rfl,rfl⟩
 intro ba dp
 refine cT Z ba (sR fL3 Z (oM Z Z (oA Z Z (oA Z Z (eN (zR (zT ?_)))))))
 have cN:=bf.nilrow 29 2
 cases dp
 exact ⟨rfl,_,(wDk rfl rfl),U8,_,(cN.pick [0] _ (by decide) rfl),none,0,rfl,rfl⟩
end Go.Proofs.YtlnfbjphfoipaaaGreat
