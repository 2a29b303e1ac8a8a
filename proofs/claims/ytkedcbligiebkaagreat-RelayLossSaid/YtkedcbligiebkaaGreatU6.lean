import Derived.Test.YtkedcbligiebkaaGreatU5
import Derived.Test.YtkedcbligiebkaaGreatU4
set_option linter.all false
open List renaming flatMap->hH,set->nB,forall_mem_cons->nD,length_append->nE,getElem_cons_succ->nG,getElem_cons_zero->nH,getElem_toArray->nI
open Option.some renaming inj->nA
namespace Go.Proofs.YtkedcbligiebkaaGreat
open Go.KL
def gBf:Sch:=.fx 0 (.fx 1 .nil .stop) .stop
def gBg:Sch:=.fl 0 (.fx 1 .nil .stop)
def gBh:Sch:=.fx 4 (.fl 5 .nil) .stop
def gBi:Sch:=.fl 13 (.fx 14 .nil .stop)
def gBj:Sch:=.fl 0 (.fx 1 (.fl 2 .nil) .stop)
def gBk:Sch:=.fx 12 gBi .stop
def gBl:Sch:=.fx 0 (.fx 1 (.fl 2 (.fl 3 .nil)) .stop) .stop
def gBm:Sch:=.fl 0 (.fl 1 (.fx 2 (.fl 3 .nil) .stop))
def gBn:Sch:=.fx 10 gBk .stop
def gBo:Sch:=.fl 11 (.fx 9 gBn .stop)
def gBp:Sch:=.fx 7 (.fl 11 gBn) .stop
def gBq:Sch:=.fx 5 (.fl 11 gBn) .stop
def gBr:Sch:=.fx 4 gBq .stop
def gBs:Sch:=.fx 5 gBo (.fx 9 gBq .stop)
def gBt:Sch:=.fx 5 gBp (.fx 7 gBq .stop)
def gBu:Sch:=.fx 3 gBr .stop
def gBv:Sch:=.fx 4 gBs (.fx 9 gBr .stop)
def gBw:Sch:=.fx 4 gBt (.fx 7 gBr .stop)
set_option maxHeartbeats 4000000
theorem wBl (p0:wAM) (aW:Option Addr) (aZ:Nat) (aX:Option Addr) (a0:Nat) (aY:Option Addr) (ba:Nat) (p1:Int) (w:World) (U:PHeap) (hS:St0 w U []) (cj:Sl U 1 aW aZ p0.Squad.Classes.length (hH KL.encI p0.Squad.Classes)) (cm:SlR U wIT aX a0 p0.Squad.Times) (cn:Sl U 1 aY ba p0.rules.Classes.length (hH KL.encI p0.rules.Classes)) {r:(List Int) × Int} (hm:wAm p0 p1=some r):Gv Tryz.prog 40 [.agg #[.slice aW p0.Squad.Classes.length aZ,.slice aX p0.Squad.Times.length a0,.slice aY p0.rules.Classes.length ba,jV p0.rules.Each,jV p0.rules.Laps,jV p0.rules.Spare,jV p0.rules.Loop,jV p0.rules.Unused],jV p1] w (wCE w [] U (fun U_ L_ v=>∃ (A0:Option Addr) (c0:Nat),v=.tuple #[.slice A0 r.1.length c0,jV r.2]/\L_=[.row A0 c0 3 1 (hH KL.encI r.1)]/\(r.1=[]->A0=none))):=by
 unfold wAm at hm
 refine Gv.of Tryz.func40 Z Tryz.ntmps40 Tryz.results40 Z (sR gBl Z ?_)
 let B0:List Value:=[.slice aW p0.Squad.Classes.length aZ,.slice aX p0.Squad.Times.length a0,.slice aY p0.rules.Classes.length ba,jV p0.rules.Each,jV p0.rules.Laps,jV p0.rules.Spare,jV p0.rules.Loop,jV p0.rules.Unused]
 refine ZG (cs:=B0) rfl rfl rfl rfl rfl rfl (by rfl) hS ?_
 intro W1 b2 bV
 have q:=bV.freeze (k:=0) rfl
 obtain ⟨U5,bh,aq,cg⟩:=q
 replace aq:=Cl.of aq
 have ci:sW w U U5 [] W1:=cg
 replace aq:Cl U5 b2 0 B0:=aq
 refine ZG (cs:=[jV p1]) rfl rfl rfl rfl rfl rfl (by rfl) ci ?_
 intro bw aR bO
 have q:=bO.freeze (k:=0) rfl
 obtain ⟨az,aV,am,bP⟩:=q
 replace am:=Cl.of am
 have bQ:sW w U az [] bw:=bP
 replace am:Cl az aR 0 [jV p1]:=am
 refine oA Z Z (oA Z Z (eN (sR (.fx 0 .nil .stop) Z (ZI (cs:=[.slice none 0 0]) Z Z Z Z Z zg Z bQ ?_))))
 intro cq ab bR
 refine eN (sR gBf Z (ZI (cs:=[jV 0]) Z Z Z Z Z zn Z bR ?_))
 intro cr aj bS
 refine ZC (j:=0) (vs:=[jV 0]) Z Z Z Z bS Z Z Z Z zI (zE Z) Z Z Z ?_
 intro bz bT
 let B1:Res:=.blk aj 3 [jV 0]
 let B2:Res:=.blk ab 23 [.slice none 0 0]
 have bU:sW w U az [B1,B2] bz:=bT
 refine eN (sR (.fx 0 .nil .stop) Z (ZI (cs:=[.nilFunc]) Z Z Z Z Z Tryz.zeroValue171 Z bU ?_))
 intro ct ak bW
 refine eN (sR gBg Z (oR Z (Runs.mkf Z zH (zA Z (zA Z (zA Z (zA Z (zA Z zH)))))) ?_))
 let B3:List Value:=[.func (.func 77) #[] #[.pointer (some ⟨b2,0,none⟩),.pointer (some ⟨ab,0,none⟩),.pointer (some ⟨aj,0,none⟩),.pointer (some ⟨aR,0,none⟩),.pointer (some ⟨ak,0,none⟩)]]
 refine ZC (j:=0) (vs:=B3) Z Z Z Z bW Z Z Z Z Tryz.sizeOf171 (zE Z) Z Z Z ?_
 intro ai bX
 have bq:sW w U az [.blk ak 171 B3,B1,B2] ai:=bX
 refine eN (sR gBg Z (oL Z (bq.ldB (j:=0) Z Z Z Tryz.isAgg171 (v:=.func (.func 77) #[] #[.pointer (some ⟨b2,0,none⟩),.pointer (some ⟨ab,0,none⟩),.pointer (some ⟨aj,0,none⟩),.pointer (some ⟨aR,0,none⟩),.pointer (some ⟨ak,0,none⟩)]) Z) ?_))
 have q:=bq.freeze (k:=0) rfl
 obtain ⟨ah,ar,ap,bY⟩:=q
 replace ap:=Cl.of ap
 have bZ:sW w U ah [B1,B2] ai:=bY
 replace ap:Cl ah ak 0 B3:=ap
 have b5:=bZ.nilrow 3 1
 let B4:Res:=.row none 0 3 1 (hH KL.encI ([]:List Int))
 let B5:Res:=.blk ab 23 [.slice none (([]:List Int).length) 0]
 have b8:sW w U ah [B4,B1,B5] ai:=b5
 have bA:=aq.le aV
 have bB:=bA.le ar
 have bC:=cj.le bh
 have bD:=bC.le aV
 have bE:=bD.le ar
 have bF:=cm.le bh
 have bG:=bF.le aV
 have bH:=bG.le ar
 have bI:=cn.le bh
 have bJ:=bI.le aV
 have bK:=bJ.le ar
 have bL:=am.le ar
 have q:=bnd hm
 obtain ⟨⟨bi,bu⟩,bM,br⟩:=q
 try dsimp only at br
 have b9:sW w U ah [B5,B4,B1] ai:=b8.pick [2,0,1] _ (by decide) rfl
 refine zF 3 rfl rfl rfl rfl (zC rfl rfl Tryz.call77 (zA rfl zH) rfl) b9 (fun hs=>wDQ 1000 [] none 0 p0 b2 aW aZ aX a0 aY ba ([]:List Int) ab none 0 0 aj p1 aR () ak ai ah hs (by first | exact Sl.nil _ _ _ _ | exact SlR.nil) bB bE bH bK (fun _=>rfl) bL ap bM) (.inl rfl) ?_
 rintro bo cp cx bg cw cd ⟨av,aT,rfl,rfl,bN⟩
 have cf:sW w U bo [.row av aT 3 1 (hH KL.encI bi),.blk ab 23 [.slice av bi.length aT],.blk aj 3 [jV bu]] bg:=cd
 refine eN (zP (ZT ZQ [1,1,3,3] fL4 (by kernel_rfl) ?_))
 have aU:=cf.drew
 generalize hw_W74:({ bg with drawn:=bg.drawn + 1 }:World)=cu at aU ⊢
 refine oL Z (aU.ldB (j:=1) Z Z Z zd (v:=.slice av bi.length aT) Z) (oL Z (aU.ldB (j:=2) Z Z Z zj (v:=jV bu) Z) (oA Z Z (oA Z Z (eN (zJ ?_)))))
 cases br
 exact ⟨rfl,_,(wMn rfl rfl),bo,_,(aU.pick [0] _ (by decide) rfl),av,aT,rfl,rfl,bN⟩
theorem wCa (p0:wAB) (ai:Option Addr) (am:Nat) (p1:wAC) (aj:Option Addr) (ap:Nat) (ak:Option Addr) (aq:Nat) (w:World) (U:PHeap) (hS:St0 w U []) (be:Sl U 1 ai am p0.Classes.length (hH KL.encI p0.Classes)) (bf:Sl U 1 aj ap p1.Classes.length (hH KL.encI p1.Classes)) (bg:SlR U wIT ak aq p1.Times) {r:(List Int) × Int × Int} (hm:wBY p0 p1=some r):Gv Tryz.prog 16 [.agg #[.slice ai p0.Classes.length am,jV p0.Each,jV p0.Laps,jV p0.Spare,jV p0.Loop,jV p0.Unused],.agg #[.slice aj p1.Classes.length ap,.slice ak p1.Times.length aq]] w (wCE w [] U (fun U_ L_ v=>∃ (A0:Option Addr) (c0:Nat),v=.tuple #[.slice A0 r.1.length c0,jV r.2.1,jV r.2.2]/\L_=[.row A0 c0 3 1 (hH KL.encI r.1)])):=by
 unfold wBY at hm
 refine Gv.of Tryz.func16 Z Tryz.ntmps16 Tryz.results16 Z (sR (.fx 0 (.fx 1 (fC2_4 (.nil)) .stop) .stop) Z ?_)
 let B0:List Value:=[.slice ai p0.Classes.length am,jV p0.Each,jV p0.Laps,jV p0.Spare,jV p0.Loop,jV p0.Unused]
 refine ZG (cs:=B0) rfl rfl rfl rfl rfl rfl (by rfl) hS ?_
 intro W1 b2 bv
 let B1:List Value:=[.slice aj p1.Classes.length ap,.slice ak p1.Times.length aq]
 refine ZG (cs:=B1) rfl rfl rfl rfl rfl rfl (by rfl) bv ?_
 intro W5 b6 aV
 refine oA Z Z (oA Z Z (oA Z Z (eN (zP (sR gBm Z (oL Z (aV.ldBA (j:=1) Z Z Z zp zS (vs:=B0) Z Z) (oL Z (aV.ldBA (j:=0) Z Z Z ZA zZ (vs:=B1) Z Z) (bnK hm fun x9 bk bB=>zF 0 Z Z Z Z (zC Z Z Tryz.call39 (zA Z (zA Z zH)) Z) aV (fun hs=>wCY p0 ai am p1 aj ap ak aq W5 U hs be bf bg bk) (.inr Z) ?_))))))))
 rintro av bH bL aZ aW bu ⟨rfl,rfl⟩
 have au:sW w U av [.blk b6 63 B1,.blk b2 61 B0] aZ:=bu
 refine oA Z Z (eN (sR fL2 Z (oM Z Z (oR Z (Runs.neq Z Z Z) (eN (ifc bB ?_ ?_))))))
 intro aR bC
 refine ZM (zz (fun h=>h aR.out)) (kN (sR (wFx (.fx 3 (wPo (.nil)) .stop)) Z (oL Z (au.ldBA (j:=0) Z Z Z ZA zZ (vs:=B1) Z Z) (oL Z (au.ldBA (j:=1) Z Z Z zp zS (vs:=B0) Z Z) (oR Z (ZY (pv:=[(0,.agg B1.toArray),(1,.agg B0.toArray)]) (z:=[.slice none 0 0,.slice none 0 0,.slice none 0 0,jV 0,jV 0,jV 0,jV 0,jV 0]) (cs:=[.slice aj p1.Classes.length ap,.slice ak p1.Times.length aq,.slice ai p0.Classes.length am,jV p0.Each,jV p0.Laps,jV p0.Spare,jV p0.Loop,jV p0.Unused]) Z (wAH Z (wAH Z wAR)) Tryz.zeroValue110 wHW Z Z) ?_)))))
 have bm:=bf.le aW
 have bn:=bg.le aW
 have bo:=be.le aW
 have q:=bnd bC
 obtain ⟨⟨aX,bG⟩,bp,bh⟩:=q
 try dsimp only at bh
 refine zF 0 Z Z Z Z (zC Z Z Tryz.call40 (zA Z (zA Z zH)) Z) au (fun hs=>wBl (⟨p1,p0⟩:wAM) aj ap ak aq ai am (-1) aZ av hs bm bn bo bp) (.inr Z) ?_
 rintro az bI bM bi bK bw ⟨ar,aS,rfl,rfl,bq⟩
 have aU:sW w U az [.row ar aS 3 1 (hH KL.encI aX),.blk b6 63 B1,.blk b2 61 B0] bi:=bw
 refine oM Z Z (oR Z (zy Z Z (v:=.slice ar aX.length aS) Z) (oR Z (zy Z Z (v:=jV bG) Z) (oA Z Z (oA Z Z (eN (zP (sR fL2 Z (oM Z Z ?_))))))))
 have br:ar.isNone=decide (aX=[]):=wHl (j:=0) aU rfl (fun _=>rfl) (by decide) bq
 refine oR Z (Runs.eqNilR Z Z Z zB br) (eN (ifc bh ?_ ?_))
 intro aT bD
 refine cT Z aT (sR fL3 Z (oA Z Z (oA Z Z (oA Z Z (eN (zJ (ze ?_)))))))
 have bz:=aU.nilrow 3 1
 cases bD
 exact ⟨rfl,_,(res3 rfl rfl rfl),az,_,(bz.pick [0] _ (by decide) rfl),none,0,rfl,rfl⟩
 intro aT bE
 refine cF Z aT (kN (sR fL5 Z (oM Z Z (oM Z Z (oA Z Z (oA Z Z (oA Z Z (eN (zJ ?_)))))))))
 cases bE
 exact ⟨rfl,_,(res3 rfl rfl rfl),az,_,(aU.pick [0] _ (by decide) rfl),ar,aS,rfl,rfl⟩
 intro aR bF
 refine cT Z aR (sR fL4 Z (oM Z Z (oA Z Z (oA Z Z (oA Z Z (eN (zJ (ze ?_))))))))
 have bA:=au.nilrow 3 1
 cases bF
 exact ⟨rfl,_,(res3 rfl rfl rfl),av,_,(bA.pick [0] _ (by decide) rfl),none,0,rfl,rfl⟩
theorem wCJ (w:World) (U:PHeap) (hS:St0 w U []) {r:Bool} (hm:wBT=some r):Gv Tryz.prog 17 [] w (wCE w [] U (fun U_ L_ v=>v=.bool r/\L_=[])):=by
 cases hm
 refine (xr17 w).mono ?_
 rintro v w' ⟨rfl,k⟩
 exact ⟨U,[],hS.grow k,Z,Z⟩
theorem wEY (p0:Int) (p1:Int) (w:World) (U:PHeap) (hS:St0 w U [])  {r:Int} (hm:wBU p0 p1=some r):Gv Tryz.prog 18 [jV p0,jV p1] w (wCE w [] U (fun U_ L_ v=>v=jV r/\L_=[])):=by
 unfold wBU at hm
 refine Gv.of Tryz.func18 Z Tryz.ntmps18 Tryz.results18 Z (sR fL1 Z (oA Z Z (eN (zP (sR fL2 Z (oM Z Z (oR Z (Runs.leq Z Z Z) (eN ?_))))))))
 by_cases c1:p1 <= 0
 have ae:=hm;rw [if_pos c1] at ae;replace c1:=zO c1
 refine cT Z c1 (sR fL1 Z (oA Z Z (eN (zJ (ze ?_)))))
 cases ae
 exact ⟨Z,_,(zh Z),U,_,hS,Z,Z⟩
 have ah:=hm;rw [if_neg c1] at ah;replace c1:=zO c1
 refine cF Z c1 (kN (sR fL8 Z (oM Z Z (oM Z Z (bnK ah fun x4 h5 am=>oR Z (Runs.rem Z Z Z h5) (oM Z Z (oR Z (zq Z Z Z) (oM Z Z (bnK am fun x7 h8 ap=>oR Z (Runs.rem Z Z Z h8) (oA Z Z (eN (zJ ?_))))))))))))
 have hE:=nA ap;first | subst r | cases hE
 exact ⟨Z,_,(zh Z),U,_,hS,Z,Z⟩
theorem wEi (p0:wAB) (am:Option Addr) (aq:Nat) (p1:wAC) (ai:Option Addr) (aj:Nat) (ap:Option Addr) (ar:Nat) (p2:Int) (w:World) (U:PHeap) (hS:St0 w U []) (bD:Sl U 1 am aq p0.Classes.length (hH KL.encI p0.Classes)) (bE:Sl U 1 ai aj p1.Classes.length (hH KL.encI p1.Classes)) (bF:SlR U wIT ap ar p1.Times) {r:Int × Int} (hm:wBn p0 p1 p2=some r):Gv Tryz.prog 19 [.agg #[.slice am p0.Classes.length aq,jV p0.Each,jV p0.Laps,jV p0.Spare,jV p0.Loop,jV p0.Unused],.agg #[.slice ai p1.Classes.length aj,.slice ap p1.Times.length ar],jV p2] w (wCE w [] U (fun U_ L_ v=>v=.tuple #[jV r.1,jV r.2]/\L_=[])):=by
 unfold wBn at hm
 refine Gv.of Tryz.func19 Z Tryz.ntmps19 Tryz.results19 Z (sR gBl Z ?_)
 let B0:List Value:=[.slice am p0.Classes.length aq,jV p0.Each,jV p0.Laps,jV p0.Spare,jV p0.Loop,jV p0.Unused]
 refine ZG (cs:=B0) rfl rfl rfl rfl rfl rfl (by rfl) hS ?_
 intro W1 b2 b9
 let B1:List Value:=[.slice ai p1.Classes.length aj,.slice ap p1.Times.length ar]
 refine ZG (cs:=B1) rfl rfl rfl rfl rfl rfl (by rfl) b9 ?_
 intro W5 b6 be
 refine oA Z Z (oA Z Z (eN (sR gBm Z (oL Z (be.ldBA (j:=1) Z Z Z zp zS (vs:=B0) Z Z) (oL Z (be.ldBA (j:=0) Z Z Z ZA zZ (vs:=B1) Z Z) (bnK hm fun x9 bO cj=>zF 0 Z Z Z Z (zC Z Z Tryz.call39 (zA Z (zA Z zH)) Z) be (fun hs=>wCY p0 am aq p1 ai aj ap ar W5 U hs bD bE bF bO) (.inr Z) ?_))))))
 rintro aW cw cH bp bg b5 ⟨rfl,rfl⟩
 have bb:sW w U aW [.blk b6 63 B1,.blk b2 61 B0] bp:=b5
 refine oA Z Z (eN (zP (zt (sR fL3 Z (oM Z Z (oR Z (Runs.neq Z Z Z) (oA Z Z (eN (ifc cj ?_ ?_)))))))))
 intro aZ cm
 refine ZM (zz (fun h=>h aZ.out)) (sR (wIb (.fx 5 (.fl 6 (.fl 7 .nil)) .stop)) Z (oM Z Z (oR Z (zN Z Z zK Z zD) (oL Z (bb.ldB (j:=0) Z Z Z zd (v:=.slice ai p1.Classes.length aj) Z) (oR Z (zw Z Z zB) (oR Z (Runs.subw Z Z Z) (bnK cm fun cL bP cn=>zF 0 Z Z Z Z (zC Z Z Tryz.call54 (zA Z (zA Z (zA Z zH))) Z) bb (fun hs=>wCL p2 0 (w64 ((↑p1.Classes.length:Int) - 1)) bp aW hs bP) (.inr Z) ?_)))))))
 rintro aR cx cI bJ bh b8 ⟨rfl,rfl⟩
 have aS:sW w U aR [.blk b6 63 B1,.blk b2 61 B0] bJ:=b8
 refine oR Z (ZE Z Z) (oA Z Z (eN (ifc cn ?_ ?_)))
 intro a0 cp
 refine ZM (nC a0.out) (CK.skip (ZP (zU (sR (wFx (.fx 3 (.fx 4 .nil .stop) .stop)) Z (oL Z (aS.ldBA (j:=0) Z Z Z ZA zZ (vs:=B1) Z Z) (oL Z (aS.ldBA (j:=1) Z Z Z zp zS (vs:=B0) Z Z) ?_))))))
 let B2:List Value:=[.slice ai p1.Classes.length aj,.slice ap p1.Times.length ar,.slice am p0.Classes.length aq,jV p0.Each,jV p0.Laps,jV p0.Spare,jV p0.Loop,jV p0.Unused]
 let B3:List Value:=[.slice none 0 0,.slice none 0 0,.slice none 0 0,jV 0,jV 0,jV 0,jV 0,jV 0]
 refine oR Z (ZY (pv:=[(0,.agg B1.toArray),(1,.agg B0.toArray)]) (z:=B3) (cs:=B2) Z (wAH Z (wAH Z wAR)) Tryz.zeroValue110 wHW Z Z) (ZI (cs:=B3) Z Z Z Z Z Tryz.zeroValue110 Z aS ?_)
 intro cB aY cd
 refine ZC (j:=0) (vs:=B2) Z Z Z Z cd Z Z Z Z Tryz.sizeOf110 (zE Z) Z Z Z ?_
 intro bq cf
 have bB:sW w U aR [.blk aY 110 B2,.blk b6 63 B1,.blk b2 61 B0] bq:=cf
 refine eN (sR (.fl 0 (.fx 1 (fC2_6 (.nil)) .stop)) Z (oL Z (bB.ldBA (j:=0) Z Z Z Tryz.isAgg110 Tryz.sizeOf110 (vs:=B2) Z Z) ?_))
 have bQ:=bE.le bg
 have bw:=bQ.le bh
 have bR:=bF.le bg
 have bz:=bR.le bh
 have bS:=bD.le bg
 have bA:=bS.le bh
 have q:=bnd cp
 obtain ⟨⟨x46,x47⟩,bT,bG⟩:=q
 try dsimp only at bG
 refine zF 0 Z Z Z Z (zC Z Z Tryz.call40 (zA Z (zA Z zH)) Z) bB (fun hs=>wBl (⟨p1,p0⟩:wAM) ai aj ap ar am aq (-1) bq aR hs bw bz bA bT) (.inr Z) ?_
 rintro bo cy cJ br bi cg ⟨bk,bu,rfl,rfl,cE⟩
 let B4:Res:=.row bk bu 3 1 (hH KL.encI x46)
 have bC:sW w U bo [B4,.blk aY 110 B2,.blk b6 63 B1,.blk b2 61 B0] br:=cg
 refine oM Z Z (oR Z (zy Z Z (v:=.slice bk x46.length bu) Z) (oR Z (zy Z Z (v:=jV x47) Z) (oA Z Z (oA Z Z (eN (sR (.fl 0 (.fl 1 (.fx 2 (wPn (.nil)) .stop))) Z (oL Z (bC.ldBA (j:=1) Z Z Z Tryz.isAgg110 Tryz.sizeOf110 (vs:=B2) Z Z) (oM Z Z ?_))))))))
 have bU:=bw.le bi
 have bV:=bz.le bi
 have bW:=bA.le bi
 have q:=bnd bG
 obtain ⟨⟨bj,bI⟩,bX,bH⟩:=q
 try dsimp only at bH
 refine zF 0 Z Z Z Z (zC Z Z Tryz.call40 (zA Z (zA Z zH)) Z) bC (fun hs=>wBl (⟨p1,p0⟩:wAM) ai aj ap ar am aq p2 br bo hs bU bV bW bX) (.inr Z) ?_
 rintro aX cz cK bL cG ci ⟨aV,bv,rfl,rfl,bY⟩
 have bf:sW w U aX [.row aV bv 3 1 (hH KL.encI bj),B4,.blk aY 110 B2,.blk b6 63 B1,.blk b2 61 B0] bL:=ci
 refine oM Z Z (oR Z (zy Z Z (v:=.slice aV bj.length bv) Z) (oR Z (zy Z Z (v:=jV bI) Z) (oA Z Z (oA Z Z (eN (zP (sR fL2 Z (oM Z Z ?_))))))))
 have bZ:aV.isNone=decide (bj=[]):=wHl (j:=0) bf rfl (fun _=>rfl) (by decide) bY
 refine oR Z (Runs.eqNilR Z Z Z zB bZ) (eN (ifc bH ?_ ?_))
 intro ba cq
 refine cT Z ba (sR fL2 Z (oA Z Z (oA Z Z (eN (zJ (ze ?_))))))
 cases cq
 exact ⟨rfl,_,(wMn rfl rfl),aX,_,(bf.pick [] _ (by decide) rfl),rfl,rfl⟩
 intro ba cr
 refine cF Z ba (kN (zP (CK.fresh fun aU az=>?_)))
 have cC:aU 6=jV 0:=(az 6).trans rfl
 have cD:aU 7=jV 0:=(az 7).trans rfl
 have bM:aU 11=jV x47:=(az 11).trans rfl
 have bN:aU 13=jV bI:=(az 13).trans rfl
 clear az
 refine rR fL5 Z (oM Z bN (oM Z bM (oR Z (Runs.subw Z Z Z) (oA Z Z (oA Z Z (eN (zJ ?_)))))))
 cases cr
 exact ⟨rfl,_,(wMn rfl rfl),aX,_,(bf.pick [] _ (by decide) rfl),rfl,rfl⟩
 intro a0 ct
 refine ZL (nF (a0.out)) (sR fL2 Z (oA Z Z (oA Z Z (eN (zJ (ZD (ze ?_)))))))
 cases ct
 exact ⟨rfl,_,(wMn rfl rfl),aR,_,(aS.pick [] _ (by decide) rfl),rfl,rfl⟩
 intro aZ cu
 refine cT Z aZ (sR fL3 Z (oM Z Z (oA Z Z (oA Z Z (eN (zJ (ZD (ze ?_))))))))
 cases cu
 exact ⟨rfl,_,(wMn rfl rfl),aW,_,(bb.pick [] _ (by decide) rfl),rfl,rfl⟩
theorem wDB (p0:List Int) (aq:Option Addr) (ar:Nat) (p1:Int) (w:World) (U:PHeap) (hS:St0 w U []) (bh:Sl U 1 aq ar p0.length (hH KL.encI p0)) {r:Int} (hm:wBP p0 p1=some r):Gv Tryz.prog 55 [.slice aq p0.length ar,jV p1] w (wCE w [] U (fun U_ L_ v=>v=jV r/\L_=[])):=by
 unfold wBP at hm
 refine Gv.of Tryz.func55 Z Tryz.ntmps55 Tryz.results55 Z (sR fL1 Z (oA Z Z (eN (zP (sR fL3 Z (oM Z Z (oR Z (zw Z Z zB) (oM Z Z (eN (zt ?_))))))))))
 have q:=wFG hm
 obtain ⟨r3,aj⟩:=q
 have q:=wFF aj
 obtain ⟨am,bk⟩:=q
 replace am:=zO am
 refine CK.forN (fun k2 _ σ_ w_=>∃ (U_:PHeap),σ_ 8=jV (↑k2:Int)/\σ_ 0=.slice aq p0.length ar/\σ_ 1=jV p1/\σ_ 7=jV (↑p0.length:Int)/\PHeap.Le U U_/\sW w U U_ [] w_) bk ?_ ?_ ?_
 exact ⟨U,Z,Z,Z,Z,(zX _),hS⟩
 rintro k2 ⟨⟩ bF bH W8 ak ⟨au,ah,az,aR,aS,aW,ai⟩ aV bi
 try dsimp only at aV
 have av:Hid ((↑k2:Int) < (↑p0.length:Int)):=zO (wCt ak)
 replace ak:=zO ak
 have bm:Hid (w64 ((↑k2:Int) + 1)=(↑(k2 + 1):Int)):=zO (by have h1:=am.out;have h2:=av.out;rw [wBR] <;> omega)
 refine sR fL1 Z (oR Z (zx Z ah aS) (eN (zP (cT Z av (kN (zP (zt (sR fL2 Z (oM Z ah (oA Z Z (eN (sR fL6 Z (oM Z aR (oM Z az (oM Z Z (bnK aV fun bu aT bn=>?_))))))))))))))))
 have bb:=bh.le aW
 have q:=bb.el (fun _=>rfl) (wBs aT)
 obtain ⟨bz,bD,be,bf⟩:=q
 refine oR Z (Runs.iaN Z Z be Z zB zI (wDy aT)) (oL Z (ai.ldC (f:=0) bf (v:=jV bu) Z Z zj Z) (oR Z (ZO Z Z Z) (eN (ifc bn ?_ ?_))))
 intro ae bo
 refine cT Z ae (sR fL2 Z (oM Z Z (oA Z Z (eN (zJ (ZD (ze ?_)))))))
 have q:=wDS bo
 obtain ⟨br,bp,aZ⟩:=q
 have q:=wGG hm aj (bi br aZ)
 obtain rfl:=q
 refine ze (ZD (ze ?_))
 cases bp
 exact ⟨Z,_,(zh Z),au,_,ai,Z,Z⟩
 intro ae bq
 refine cF Z ae (CK.skip (ZP (zU (rR fL2 Z (oR Z (Za (zq Z ah Z) (congrArg (jV) bm.out)) (oM Z Z (ZF ?_)))))))
 have q:=nA bq
 obtain rfl:=q
 exact zU ⟨Z,_,Z,⟨au,Z,az,aR,aS,aW,ai⟩⟩
 rintro ⟨⟩ bG bv ⟨aX,ba,bA,bB,a0,bC,bg⟩ bj
 have aU:=wGy hm aj bj
 try dsimp only at aU
 have aY:Hid (¬ ((↑(((↑p0.length:Int):Int) - 0).toNat:Int) < (↑p0.length:Int))):=zO (wCG)
 refine sR fL1 Z (oR Z (zx Z ba a0) (eN (zP (cF Z aY (CK.exit (ZH (ZH (Zb (zU (sR fL1 Z (oA Z Z (eN (zJ ?_)))))))))))))
 cases aU
 exact ⟨Z,_,(zh Z),aX,_,bg,Z,Z⟩
theorem wBB (p0:List Int) (ae:Option Addr) (ah:Nat) (p1:Int) (w:World) (U:PHeap) (hS:St0 w U []) (ar:Sl U 1 ae ah p0.length (hH KL.encI p0)) {r:Bool} (hm:wAI p0 p1=some r):Gv Tryz.prog 20 [.slice ae p0.length ah,jV p1] w (wCE w [] U (fun U_ L_ v=>v=.bool r/\L_=[])):=by
 unfold wAI at hm
 refine Gv.of Tryz.func20 Z Tryz.ntmps20 Tryz.results20 Z (sR fL1 Z (oA Z Z (eN (sR (.fl 0 (.fl 1 (.fx 2 (.fl 3 (.fl 4 .nil)) .stop))) Z (oM Z Z (oM Z Z (bnK hm fun x1 h2 aj=>zF 0 Z Z Z Z (zC Z Z Tryz.call55 (zA Z (zA Z zH)) Z) hS (fun hs=>wDB p0 ae ah p1 w U hs ar h2) (.inr Z) ?_)))))))
 rintro U4 L5 v6 W7 av aq ⟨rfl,rfl⟩
 have ap:sW w U U4 [] W7:=aq
 refine oR Z (Runs.geq Z Z Z) (oA Z Z (eN (zJ ?_)))
 first | (obtain rfl:=nA aj) | cases aj
 exact ⟨Z,_,(zh Z),U4,_,ap,Z,Z⟩
theorem wBe (p0:List Int) (ak:Option Addr) (am:Nat) (w:World) (U:PHeap) (hS:St0 w U []) (aR:Sl U 1 ak am p0.length (hH KL.encI p0)) {r:(List Int)} (hm:wAZ p0=some r):Gv Tryz.prog 56 [.slice ak p0.length am] w (wCE w [] U (fun U_ L_ v=>∃ (A0:Option Addr) (c0:Nat),v=.slice A0 r.length c0/\L_=[.row A0 c0 3 1 (hH KL.encI r)])):=by
 unfold wAZ at hm
 refine Gv.of Tryz.func56 Z Tryz.ntmps56 Tryz.results56 Z (sR fL1 Z (oA Z Z (eN (sR gBj Z (oM Z Z ?_)))))
 have au:=hS.nilrow 3 1
 have aj:sW w U U [.row none 0 3 1 (hH KL.encI ([]:List Int))] w:=au
 refine bnK hm fun x4 h5 aS=>zu (j:=0) (enc:=KL.encI) (xs:=([]:List Int)) (ys:=p0) (zs:=x4) Z Z Z Z Z zk wDX Z Z Z Z Z Z aj Z Z Z (aj.srcS aR) (fun _=>Z) (fun _=>Z) h5 Z ?_
 intro A7 c8 W9 av
 have az:sW w U U [.row A7 c8 3 1 (hH KL.encI x4)] W9:=av
 refine oA Z Z (eN (zJ ?_))
 have hE:=nA aS;first | subst r | cases hE
 exact ⟨Z,_,(zh Z),U,_,az,A7,c8,Z,Z⟩
theorem wCe (p0:List (List Int)) (a0:Option Addr) (bb:Nat) (w:World) (U:PHeap) (hS:St0 w U []) (cm:SlR U wIT a0 bb p0) {r:(List (List Int))} (hm:wAj p0=some r):Gv Tryz.prog 57 [.slice a0 p0.length bb] w (wCE w [] U (fun U_ L_ v=>∃ (A0:Option Addr) (c0:Nat) (bw:List Hd),v=.slice A0 r.length c0/\L_=[.row A0 c0 23 1 (hH wAO bw),inn 3 1 KL.encI bw r])):=by
 unfold wAj at hm
 refine Gv.of Tryz.func57 Z Tryz.ntmps57 Tryz.results57 Z (sR fL1 Z (oA Z Z (eN (sR fL1 Z (oA Z Z (eN (zP (sR fL3 Z (oM Z Z (oR Z (zw Z Z zL) (oM Z Z (eN (zt (bnK hm fun cL cp cu=>?_))))))))))))))
 have q:=wCm cp
 obtain ⟨aZ,cq⟩:=q
 replace aZ:=zO aZ
 refine CK.forN' (fun am aj σ_ w_=>∃ (U_:PHeap) (ap:Option Addr) (az:Nat) (ab:List Hd),σ_ 8=jV (↑am:Int)/\σ_ 3=.slice ap aj.length az/\σ_ 6=.slice a0 p0.length bb/\σ_ 7=jV (↑p0.length:Int)/\PHeap.Le U U_/\sW w U U_ [.row ap az 23 1 (hH wAO ab),inn 3 1 KL.encI ab aj] w_) cq ?_ ?_ ?_
 have bY:=hS.nilrow 23 1
 have bZ:=bY.innNil 3 1 KL.encI
 have b5:sW w U U [inn 3 1 KL.encI ([]:List Hd) ([]:List (List Int)),.row none 0 23 1 []] w:=bZ
 exact ⟨U,none,0,[],rfl,rfl,rfl,rfl,(zX _),(b5.pick [1,0] _ (by decide) rfl)⟩
 rintro am aj cK cN bD aY ⟨bj,ap,az,ab,aU,bK,bp,bq,bA,bv⟩ cA
 have bn:Hid ((↑am:Int) < (↑p0.length:Int)):=zO (wCt aY)
 replace aY:=zO aY
 have cr:Hid (w64 ((↑am:Int) + 1)=(↑(am + 1):Int)):=zO (by have h1:=aZ.out;have h2:=bn.out;rw [wBR] <;> omega)
 refine sR fL1 Z (oR Z (zx Z aU bq) (eN (zP (cT Z bn (kN (zP (zt (sR fL3 Z (bnK cA fun x50 br cw=>?_)))))))))
 have bN:=cm.le bA
 have q:=bN.el (wBs br)
 obtain ⟨bF,cC,cJ,bR,aV,cz⟩:=q
 obtain ⟨ba,be,rfl,bO⟩:=cz
 replace aV:Cl bj bF (cC + am * 1) [.slice ba x50.length be]:=aV
 refine oR Z (Runs.iaN Z bp bR aU zL zD (wDy br)) (oL Z (bv.ldC (f:=0) aV (v:=.slice ba x50.length be) Z Z zd Z) (oA Z Z (eN (rR (.fl 0 (.fl 1 (.fx 2 (.fx 3 gBh .stop) .stop))) Z (oM Z bK (oM Z Z (bnK cw fun aa bP cx=>zF 0 Z Z Z Z (zC Z Z Tryz.call56 (zA Z zH) Z) bv (fun hs=>wBe x50 ba be bD bj hs bO bP) (.inr Z) ?_)))))))
 rintro ai cD cI bE cB b8 ⟨ae,ah,rfl,rfl⟩
 let B0:Res:=.row ap az 23 1 (hH wAO ab)
 let B1:Res:=.row ae ah 3 1 (hH KL.encI aa)
 have b9:sW w U ai [B1,B0,inn 3 1 KL.encI ab aj] bE:=b8
 let B2:List Value:=[.slice ae aa.length ah]
 refine zM (pv:=[(0,.slice ae aa.length ah)]) (zs:=[.slice none 0 0]) (cs:=B2) Z Z Z Z Z (wAH Z wAR) zL zD zg Z Z Z Z Z b9 ?_
 intro aT bk cd
 let B3:Res:=.row (some ⟨bk,0,none⟩) 1 23 1 B2
 have cf:sW w U ai [B3,B1,B0,inn 3 1 KL.encI ab aj] aT:=cd
 have cg:sW w U ai [B1,B3,B0,inn 3 1 KL.encI ab aj] aT:=cf.pick [1,0,2,3] _ (by decide) rfl
 have ci:=cg.innOne
 let B4:Res:=.row (some ⟨bk,0,none⟩) 1 23 1 (hH wAO [(⟨ae,aa.length,ah⟩:Hd)])
 have aR:sW w U ai [inn 3 1 KL.encI [(⟨ae,aa.length,ah⟩:Hd)] [aa],B4,B0,inn 3 1 KL.encI ab aj] aT:=ci
 refine bnK cx fun x88 bQ cy=>?_
 have aW:=aR.innFit (j:=3) rfl
 have aX:=aR.innFit (j:=0) rfl
 have q:=wHF bQ aW aX
 obtain ⟨cn,bz⟩:=q
 refine zu (j:=2) (enc:=wAO) (xs:=ab) (ys:=[(⟨ae,aa.length,ah⟩:Hd)]) rfl rfl rfl rfl rfl Tryz.underlying29 wHX rfl rfl rfl rfl rfl rfl aR rfl (wLm rfl aW) (wLm rfl aX) (aR.srcR (j:=1) rfl (by decide) (wAJ (f:=wAO) (sz:=1) (fun _=>rfl) [(⟨ae,aa.length,ah⟩:Hd)])) (fun _=>rfl) (fun _=>rfl) cn rfl ?_
 intro bg bo av cj
 have ct:(ab ++ [(⟨ae,aa.length,ah⟩:Hd)]:List Hd).length=x88.length:=by rw [bz,nE,nE,aW.len,aX.len]
 rw [ct]
 let B5:Res:=.row bg bo 23 1 (hH wAO (ab ++ [(⟨ae,aa.length,ah⟩:Hd)]:List Hd))
 have bS:sW w U ai [inn 3 1 KL.encI [(⟨ae,aa.length,ah⟩:Hd)] [aa],B4,B5,inn 3 1 KL.encI ab aj] av:=cj
 have bT:sW w U ai [inn 3 1 KL.encI ab aj,inn 3 1 KL.encI [(⟨ae,aa.length,ah⟩:Hd)] [aa],B4,B5] av:=bS.pick [3,0,1,2] _ (by decide) rfl
 have bu:=bT.innApp
 rw [<- bz] at bu
 have bU:sW w U ai [inn 3 1 KL.encI (ab ++ [(⟨ae,aa.length,ah⟩:Hd)]:List Hd) x88,B4,B5] av:=bu
 have bV:=bU.drop 1
 have bW:sW w U ai [inn 3 1 KL.encI (ab ++ [(⟨ae,aa.length,ah⟩:Hd)]:List Hd) x88,B5] av:=bV
 refine oA Z Z (ZF (ZP (zU (rR fL2 Z (oR Z (Za (zq Z aU Z) (congrArg (jV) cr.out)) (oM Z Z (ZF ?_)))))))
 cases cy
 exact zU ⟨rfl,⟨ai,bg,bo,(ab ++ [(⟨ae,aa.length,ah⟩:Hd)]:List Hd),rfl,rfl,bp,bq,(bA.trans cB),(bW.pick [1,0] _ (by decide) rfl)⟩⟩
 rintro cM cE ⟨bC,bB,bG,bM,bL,bI,cG,bJ,cH,bX⟩
 have bH:Hid (¬ ((↑(((↑p0.length:Int):Int) - 0).toNat:Int) < (↑p0.length:Int))):=zO (wCG)
 refine sR fL1 Z (oR Z (zx Z bL bJ) (eN (zP (cF Z bH (CK.exit (ZH (ZH (Zb (zU (sR fL2 Z (oM Z bI (oA Z Z (eN (zJ ?_))))))))))))))
 have hE:=nA cu;first | subst r | cases hE
 exact ⟨Z,_,(zh Z),bC,_,bX,bB,bG,bM,Z,Z⟩
theorem wBh (p0:wAC) (ae:Option Addr) (ai:Nat) (ah:Option Addr) (aj:Nat) (w:World) (U:PHeap) (hS:St0 w U []) (bA:Sl U 1 ae ai p0.Classes.length (hH KL.encI p0.Classes)) (bB:SlR U wIT ah aj p0.Times) {r:wAC} (hm:wAX p0=some r):Gv Tryz.prog 21 [.agg #[.slice ae p0.Classes.length ai,.slice ah p0.Times.length aj]] w (wCE w [] U (fun U_ L_ v=>∃ (aX:Option Addr) (be:Nat) (aY:Option Addr) (bf:Nat) (bh:List Hd),v=.agg #[.slice aX r.Classes.length be,.slice aY r.Times.length bf]/\L_=[.row aX be 3 1 (hH KL.encI r.Classes),.row aY bf 23 1 (hH wAO bh),inn 3 1 KL.encI bh r.Times])):=by
 unfold wAX at hm
 refine Gv.of Tryz.func21 Z Tryz.ntmps21 Tryz.results21 Z (sR gBf Z ?_)
 let B0:List Value:=[.slice ae p0.Classes.length ai,.slice ah p0.Times.length aj]
 refine ZG (cs:=B0) rfl rfl rfl rfl rfl rfl (by rfl) hS ?_
 intro W1 b2 br
 let B1:List Value:=[.slice none 0 0,.slice none 0 0]
 refine ZI (cs:=B1) Z Z Z Z Z ZU Z br ?_
 intro W5 b6 bz
 refine eN (zP (ZT ZQ [3,1,2,3,1,2,3,0] (.fl 0 (.fl 1 (.fl 3 (.fl 4 (.fx 2 (.fx 5 (.fl 6 (.fx 7 .nil .stop)) .stop) .stop))))) (by kernel_rfl) ?_))
 have az:=bz.drew
 generalize hw_W10:({ W5 with drawn:=W5.drawn + 1 }:World)=bi at az ⊢
 refine oR Z (zN Z Z zK Z zD) (oL Z (az.ldB (j:=1) Z Z Z zd (v:=.slice ae p0.Classes.length ai) Z) (oR Z (zN Z Z zK Z ZK) (oL Z (az.ldB (j:=1) Z Z Z zl (v:=.slice ah p0.Times.length aj) Z) (bnK hm fun aW bm bC=>zF 0 Z Z Z Z (zC Z Z Tryz.call56 (zA Z zH) Z) az (fun hs=>wBe p0.Classes ae ai bi U hs bA bm) (.inr Z) ?_))))
 rintro a0 bF bJ ba bE bp ⟨ak,ar,rfl,rfl⟩
 let B2:Res:=.row ak ar 3 1 (hH KL.encI aW)
 have bq:sW w U a0 [B2,.blk b6 63 B1,.blk b2 63 B0] ba:=bp
 have bn:=bB.le bE
 refine bnK bC fun aR bo bD=>zF 0 Z Z Z Z (zC Z Z Tryz.call57 (zA Z zH) Z) bq (fun hs=>wCe p0.Times ah aj ba a0 hs bn bo) (.inr Z) ?_
 rintro aT bG bK bj bI bu ⟨am,au,av,rfl,rfl⟩
 let B3:Res:=.row am au 23 1 (hH wAO av)
 have bv:sW w U aT [B3,inn 3 1 KL.encI av aR,B2,.blk b6 63 B1,.blk b2 63 B0] bj:=bu
 let B4:List Value:=[.slice ak aW.length ar,.slice am aR.length au]
 refine oR Z (ZY (pv:=[(0,.slice ak aW.length ar),(1,.slice am aR.length au)]) (z:=B1) (cs:=B4) Z (wAH Z (wAH Z wAR)) ZU wMO Z Z) (ZC (j:=3) (vs:=B4) Z Z Z Z bv Z Z Z Z zZ (zE Z) Z Z Z ?_)
 intro bk bw
 have bg:sW w U aT [B3,inn 3 1 KL.encI av aR,B2,.blk b6 63 B4,.blk b2 63 B0] bk:=bw
 refine eN (zJ ?_)
 cases bD
 exact ⟨rfl,_,(wLw (v:=.agg B4.toArray) ⟨⟨_,rfl,(wHD ZA zZ (bg.blkAt (k:=3) rfl) (vs:=B4) rfl rfl)⟩,trivial⟩),aT,_,(bg.pick [2,0,1] _ (by decide) rfl),ak,ar,am,au,av,rfl,rfl⟩
theorem wCf (p0:wAB) (ae:Option Addr) (ah:Nat) (w:World) (U:PHeap) (hS:St0 w U []) (bg:Sl U 1 ae ah p0.Classes.length (hH KL.encI p0.Classes)) {r:wAB} (hm:wAk p0=some r):Gv Tryz.prog 22 [.agg #[.slice ae p0.Classes.length ah,jV p0.Each,jV p0.Laps,jV p0.Spare,jV p0.Loop,jV p0.Unused]] w (wCE w [] U (fun U_ L_ v=>∃ (av:Option Addr) (aR:Nat),v=.agg #[.slice av r.Classes.length aR,jV r.Each,jV r.Laps,jV r.Spare,jV r.Loop,jV r.Unused]/\L_=[.row av aR 3 1 (hH KL.encI r.Classes)])):=by
 unfold wAk at hm
 refine Gv.of Tryz.func22 Z Tryz.ntmps22 Tryz.results22 Z (sR gBf Z ?_)
 let B0:List Value:=[.slice ae p0.Classes.length ah,jV p0.Each,jV p0.Laps,jV p0.Spare,jV p0.Loop,jV p0.Unused]
 refine ZG (cs:=B0) rfl rfl rfl rfl rfl rfl (by rfl) hS ?_
 intro W1 b2 bf
 let B1:List Value:=[.slice none 0 0,jV 0,jV 0,jV 0,jV 0,jV 0]
 refine ZI (cs:=B1) Z Z Z Z Z ZR Z bf ?_
 intro W5 b6 aU
 refine eN (sR (.fl 0 (.fl 1 (.fx 2 (.fl 3 (.fx 4 .nil .stop)) .stop))) Z (oR Z (zN Z Z zQ Z zD) (oL Z (aU.ldB (j:=1) Z Z Z zd (v:=.slice ae p0.Classes.length ah) Z) (bnK hm fun x9 aZ bh=>zF 0 Z Z Z Z (zC Z Z Tryz.call56 (zA Z zH) Z) aU (fun hs=>wBe p0.Classes ae ah W5 U hs bg aZ) (.inr Z) ?_))))
 rintro aj bi bm aV bk a0 ⟨ai,ak,rfl,rfl⟩
 let B2:Res:=.row ai ak 3 1 (hH KL.encI x9)
 have ba:sW w U aj [B2,.blk b6 61 B1,.blk b2 61 B0] aV:=a0
 refine oR Z (zN Z Z zQ Z zD) (ZC (j:=2) (vs:=[.slice ai x9.length ak]) Z Z Z Z ba Z Z Z Z zD (zE Z) Z Z Z ?_)
 intro aW bb
 let B3:List Value:=[.slice ai x9.length ak,jV p0.Each,jV p0.Laps,jV p0.Spare,jV p0.Loop,jV p0.Unused]
 have aS:sW w U aj [B2,.blk b6 61 B1,.blk b2 61 B3] aW:=bb
 refine eN (sR gBg Z (oL Z (aS.ldBA (j:=2) Z Z Z zp zS (vs:=B3) Z Z) (ZC (j:=1) (vs:=B3) Z Z Z Z aS Z Z Z Z zS (zE Z) Z Z Z ?_)))
 intro aX be
 have aT:sW w U aj [B2,.blk b6 61 B3,.blk b2 61 B3] aX:=be
 refine eN (zJ ?_)
 cases bh
 exact ⟨rfl,_,(wLw (v:=.agg B3.toArray) ⟨⟨_,rfl,(wHD zp zS (aT.blkAt (k:=1) rfl) (vs:=B3) rfl rfl)⟩,trivial⟩),aj,_,(aT.pick [0] _ (by decide) rfl),ai,ak,rfl,rfl⟩
theorem wCj (p0:List Int) (lG:Option Addr) (lI:Nat) (p1:List Int) (lH:Option Addr) (lJ:Nat) (p2:Int) (w:World) (U:PHeap) (hS:St0 w U []) (EP:Sl U 1 lG lI p0.length (hH KL.encB8 p0)) (EQ:Sl U 1 lH lJ p1.length (hH KL.encB8 p1)) {r:Bool} (hm:wBG p0 p1 p2=some r):Gv Tryz.prog 4 [.slice lG p0.length lI,.slice lH p1.length lJ,jV p2] w (wCE w [] U (fun U_ L_ v=>v=.bool r/\L_=[])):=by
 unfold wBG at hm
 refine Gv.of Tryz.func4 Z Tryz.ntmps4 Tryz.results4 Z (sR fL1 Z (oA Z Z (eN (sR (.fl 0 (.fx 1 (.fx 2 (fC3_5 (.fx 6 (.fx 7 (.fx 8 (.fx 9 .nil .stop) .stop) .stop) .stop)) .stop) .stop)) Z (oM Z Z (bnK hm fun x1 h2 FV=>zF 0 Z Z Z Z (zC Z Z Tryz.call6 (zA Z zH) Z) hS (fun hs=>wDN p0 lG lI w U hs EP h2) (.inr Z) ?_))))))
 rintro U4 L5 v6 W7 GR EK ⟨jt,lU,oO,rfl,rfl,yj⟩
 have BG:sW w U U4 [.blk jt 81 [.slice lU x1.bytes.length oO,jV x1.next,.int .u32 x1.state]] W7:=EK
 have q:=bnd FV
 obtain ⟨⟨x16,x17,lK⟩,yy,rI⟩:=q
 try dsimp only at rI
 refine zF 1 Z Z Z Z (zC Z Z Tryz.call15 (zA Z (zA Z zH)) Z) BG (fun hs=>wDO x1 jt lU oO 7 W7 U4 hs yj yy) (.inl Z) ?_
 rintro gU Ho JD tL GI DT ⟨bN,bR,bT,bW,cB,cK,cS,sP,uh,rfl,rfl,Jj⟩
 let B0:Res:=.blk jt 81 [.slice sP lK.bytes.length uh,jV lK.next,.int .u32 lK.state]
 let B1:Res:=.row cB cK 23 1 (hH wAO cS)
 let B2:Res:=.row bT bW 3 1 (hH KL.encI x17.Classes)
 let B3:Res:=.row bN bR 3 1 (hH KL.encI x16.Classes)
 have DU:sW w U gU [B3,B2,B1,inn 3 1 KL.encI cS x17.Times,B0] tL:=DT
 refine oM Z Z (oR Z (zy Z Z (v:=.agg #[.slice bN x16.Classes.length bR,jV x16.Each,jV x16.Laps,jV x16.Spare,jV x16.Loop,jV x16.Unused]) Z) (oR Z (zy Z Z (v:=.agg #[.slice bT x17.Classes.length bW,.slice cB x17.Times.length cK]) Z) ?_))
 let B4:List Value:=[.slice none 0 0,jV 0,jV 0,jV 0,jV 0,jV 0]
 refine ZI (cs:=B4) Z Z Z Z Z ZR Z DU ?_
 intro Ia ab DW
 let B5:List Value:=[.slice none 0 0,.slice none 0 0]
 refine ZI (cs:=B5) Z Z Z Z Z ZU Z DW ?_
 intro Ib ae D0
 let B6:List Value:=[.slice bN x16.Classes.length bR,jV x16.Each,jV x16.Laps,jV x16.Spare,jV x16.Loop,jV x16.Unused]
 refine ZC (j:=1) (vs:=B6) Z Z Z Z D0 Z Z Z Z zS (zE Z) Z Z Z ?_
 intro tR D7
 have D9:sW w U gU [.blk ae 63 B5,.blk ab 61 B6,B3,B2,B1,inn 3 1 KL.encI cS x17.Times,B0] tR:=D7
 let B7:List Value:=[.slice bT x17.Classes.length bW,.slice cB x17.Times.length cK]
 refine ZC (j:=0) (vs:=B7) Z Z Z Z D9 Z Z Z Z zZ (zE Z) Z Z Z ?_
 intro ou Ec
 have Ee:sW w U gU [.blk ae 63 B7,.blk ab 61 B6,B3,B2,B1,inn 3 1 KL.encI cS x17.Times,B0] ou:=Ec
 refine eN (sR gBj Z (oM Z Z ?_))
 have A5:=EQ.le GR
 have A6:=A5.le GI
 refine bnK rI fun lQ A8 F0=>zF 0 Z Z Z Z (zC Z Z Tryz.call6 (zA Z zH) Z) Ee (fun hs=>wDN p1 lH lJ ou gU hs A6 A8) (.inr Z) ?_
 rintro tg HH JV dM Jq Eo ⟨az,ml,pk,rfl,rfl,Bf⟩
 let B8:Res:=.blk az 81 [.slice ml lQ.bytes.length pk,jV lQ.next,.int .u32 lQ.state]
 have lg:sW w U tg [B8,.blk ae 63 B7,.blk ab 61 B6,B3,B2,B1,inn 3 1 KL.encI cS x17.Times,B0] dM:=Eo
 refine oA Z Z (eN (sR (.fl 0 (.fl 1 (.fx 2 (wMk (.nil)) .stop))) Z (oL Z (lg.ldBA (j:=2) Z Z Z zp zS (vs:=B6) Z Z) (oL Z (lg.ldBA (j:=1) Z Z Z ZA zZ (vs:=B7) Z Z) ?_))))
 have q:=lg.freezeR (k:=3) (n:=x16.Classes.length) rfl (wAJ (f:=KL.encI) (sz:=1) (fun _=>rfl) x16.Classes) (by decide)
 obtain ⟨th,GO,Ga,Ev⟩:=q
 have Ew:sW w U th [B8,.blk ae 63 B7,.blk ab 61 B6,B2,B1,inn 3 1 KL.encI cS x17.Times,B0] dM:=Ev
 have q:=Ew.freezeR (k:=3) (n:=x17.Classes.length) rfl (wAJ (f:=KL.encI) (sz:=1) (fun _=>rfl) x17.Classes) (by decide)
 obtain ⟨oa,sD,Gb,EC⟩:=q
 have EF:sW w U oa [B8,.blk ae 63 B7,.blk ab 61 B6,B1,inn 3 1 KL.encI cS x17.Times,B0] dM:=EC
 have EG:sW w U oa [B1,inn 3 1 KL.encI cS x17.Times,B8,.blk ae 63 B7,.blk ab 61 B6,B0] dM:=EF.pick [3,4,0,1,2,5] _ (by decide) rfl
 have q:=St.freezeN (R:=wIT) EG (fun _ _ _ _ h=>⟨_,_,rfl,h⟩) (fun _=>rfl) (by decide) rfl
 obtain ⟨od,lE,r6,EI⟩:=q
 have EJ:sW w U od [B8,.blk ae 63 B7,.blk ab 61 B6,B0] dM:=EI
 have Bs:=Ga.le sD
 have rk:=Bs.le lE
 have rn:=Gb.le lE
 have q:=bnd F0
 obtain ⟨⟨x92,x93,x94⟩,Bt,rW⟩:=q
 try dsimp only at rW
 refine zF 0 Z Z Z Z (zC Z Z Tryz.call16 (zA Z (zA Z zH)) Z) EJ (fun hs=>wCa x16 bN bR x17 bT bW cB cK dM od hs rk rn r6 Bt) (.inr Z) ?_
 rintro gX HJ JX ji iI Bu ⟨cX,dm,rfl,rfl⟩
 let B9:Res:=.row cX dm 3 1 (hH KL.encI x92)
 have iB:sW w U gX [B9,B8,.blk ae 63 B7,.blk ab 61 B6,B0] ji:=Bu
 refine oM Z Z (oR Z (zy Z Z (v:=.slice cX x92.length dm) Z) (oR Z (zy Z Z (v:=jV x93) Z) (oR Z (zy Z Z (v:=jV x94) Z) (oA Z Z (oA Z Z (oA Z Z (eN (zP (sR fL2 Z (oM Z Z (oR Z (Runs.neq Z Z Z) (eN (ifc rW ?_ ?_)))))))))))))
 intro jB E9
 refine ZM (zz (fun h=>h jB.out)) (kN (sR (wPj gBh) Z (oM Z Z (oR Z (zN Z Z zK Z zD) (oL Z (iB.ldB (j:=2) Z Z Z zd (v:=.slice bT x17.Classes.length bW) Z) (oR Z (zw Z Z zB) (bnK E9 fun av yd Fa=>zF 0 Z Z Z Z (zC Z Z Tryz.call18 (zA Z (zA Z zH)) Z) iB (fun hs=>wEY p2 (↑x17.Classes.length:Int) ji gX hs yd) (.inr Z) ?_)))))))
 rintro mM He Jr oe iJ Bv ⟨rfl,rfl⟩
 have jZ:sW w U mM [B9,B8,.blk ae 63 B7,.blk ab 61 B6,B0] oe:=Bv
 refine oA Z Z (eN (sR (wFx (.fx 3 (wPo (.nil)) .stop)) Z (oL Z (jZ.ldBA (j:=3) Z Z Z zp zS (vs:=B6) Z Z) (oL Z (jZ.ldBA (j:=2) Z Z Z ZA zZ (vs:=B7) Z Z) (oM Z Z ?_)))))
 have ye:=rk.le iI
 have jW:=ye.le iJ
 have yf:=rn.le iI
 have iu:=yf.le iJ
 have yg:=r6.le iI
 have iv:=yg.le iJ
 have q:=bnd Fa
 obtain ⟨⟨x125,x126⟩,yh,rG⟩:=q
 try dsimp only at rG
 refine zF 0 Z Z Z Z (zC Z Z Tryz.call19 (zA Z (zA Z (zA Z zH))) Z) jZ (fun hs=>wEi x16 bN bR x17 bT bW cB cK av oe mM hs jW iu iv yh) (.inr Z) ?_
 rintro eK Hf Js dl cu Bw ⟨rfl,rfl⟩
 have dV:sW w U eK [B9,B8,.blk ae 63 B7,.blk ab 61 B6,B0] dl:=Bw
 refine oM Z Z (oR Z (zy Z Z (v:=jV x125) Z) (oR Z (zy Z Z (v:=jV x126) Z) (oA Z Z (oA Z Z (eN (zP (bnK rG fun ub r7 Fb=>CK.cut (fun σ_ w_=>∃ (U_:PHeap),σ_ 7=.pointer (some ⟨ab,0,none⟩)/\σ_ 8=.pointer (some ⟨ae,0,none⟩)/\σ_ 9=.pointer (some ⟨az,0,none⟩)/\σ_ 11=jV x93/\σ_ 13=jV av/\σ_ 96=.bool ub/\PHeap.Le eK U_/\sW w U U_ [B8,.blk ae 63 B7,.blk ab 61 B6,B0] w_) ?_ ?_)))))))
 refine CK.fresh fun cW cq=>?_
 have cN:cW 7=.pointer (some ⟨ab,0,none⟩):=(cq 7).trans rfl
 have cO:cW 8=.pointer (some ⟨ae,0,none⟩):=(cq 8).trans rfl
 have cP:cW 9=.pointer (some ⟨az,0,none⟩):=(cq 9).trans rfl
 have iq:cW 10=.slice cX x92.length dm:=(cq 10).trans rfl
 have cQ:cW 11=jV x93:=(cq 11).trans rfl
 have dB:cW 12=jV x126:=(cq 12).trans rfl
 have bK:cW 13=jV av:=(cq 13).trans rfl
 have py:cW 14=jV x125:=(cq 14).trans rfl
 clear cq
 refine rR (wPl (.fx 18 (wOZ (.fx 30 (wOa (.nil)) .stop)) .stop)) Z (oM Z dB (oR Z (Runs.neq Z Z Z) (oM Z Z ?_)))
 by_cases bj:x126=0
 have rH:=r7;rw [if_pos bj] at rH;replace bj:=zO bj
 refine zY Z Z Z (zV Z Z (zz (fun h=>h bj.out)) Z) (zY Z Z Z (zV Z Z (zz (fun h=>h bj.out)) Z) (oR Z (zG Z (zz (fun h=>h bj.out)) Z) (oM Z Z (zf Z Z Z (zR Z Z Z) Z dB (zr Z Z Z (zR Z Z Z) (fun _=>ZO Z Z Z) (zf Z Z Z (zR Z Z Z) Z Z (zf Z Z Z (wT Z bj) Z py (rU Z (wT Z bj) (zx Z Z Z) (zf Z Z Z (wT Z bj) Z Z (ifc rH ?_ ?_))))))))))
 intro bF Fc
 refine oT Z bF (oT Z bF (oT Z bF (zY Z Z Z (wAU Z Z Z) (zY Z Z Z (wAU Z Z Z) (ZN Z Z Z (wAU Z Z Z) (zY Z Z Z (wAU Z Z Z) (oT Z bF (rU Z (wT Z bj) (zW Z (wDu bF.out) Z) (zr Z Z Z (zR Z Z Z) (fun _=>zW Z (wDu bj.out) Z) (oR Z (zG Z Z Z) (oM Z Z (oN Z (oN Z (oN Z (zY Z Z Z (wAU Z Z Z) (zY Z Z Z (wAU Z Z Z) (ZN Z Z Z (wAU Z Z Z) (zY Z Z Z (wAU Z Z Z) (oN Z (oR Z (zW Z Z Z) (ZF ?_)))))))))))))))))))))
 cases Fc
 exact zU ⟨rfl,⟨eK,cN,cO,cP,cQ,bK,rfl,(zX _),(dV.pick [1,2,3,4] _ (by decide) rfl)⟩⟩
 intro bF Fd
 refine zf Z Z Z (wF Z bF) Z py (rU Z (wF Z bF) (Runs.gtr Z Z Z) (zf Z Z Z (wF Z bF) Z Z (ifc Fd ?_ ?_)))
 intro bO Fe
 refine zf Z Z Z (wT Z bO) Z iq (zf Z Z Z (wT Z bO) Z bK ?_)
 have q:=dV.freezeR (k:=0) (n:=x92.length) rfl (wAJ (f:=KL.encI) (sz:=1) (fun _=>rfl) x92) (by decide)
 obtain ⟨mP,lw,rY,BT⟩:=q
 have BW:sW w U mP [B8,.blk ae 63 B7,.blk ab 61 B6,B0] dl:=BT
 refine bnK Fe fun x163 yp Ff=>zF 0 Z Z Z (wT Z bO) (zC Z Z Tryz.call20 (zA Z (zA Z zH)) Z) BW (fun hs=>wBB x92 cX dm av dl mP hs rY yp) (.inr Z) ?_
 rintro gS Hh Jt og iK Cd ⟨rfl,rfl⟩
 have j0:sW w U gS [B8,.blk ae 63 B7,.blk ab 61 B6,B0] og:=Cd
 refine rU Z (wT Z bO) (ZE Z Z) (rU Z (wF Z bF) (zW Z (wDu bO.out) Z) (rU Z (wT Z bj) (zG Z (zz bF.out) Z) (zr Z Z Z (zR Z Z Z) (fun _=>zW Z (wDu bj.out) Z) (oR Z (zG Z Z Z) (oM Z Z (ifc Ff ?_ ?_))))))
 intro bG Fg
 refine zf Z Z Z (zR Z Z (nC bG.out)) Z dB (zr Z Z Z (zR Z Z (nC bG.out)) (fun _=>ZO Z Z Z) (zf Z Z Z (zR Z Z (nC bG.out)) Z Z (ifc Fg ?_ ?_)))
 intro bP Fh
 refine zf Z Z Z (wT Z bP) Z iq (zf Z Z Z (wT Z bP) Z bK ?_)
 have yu:=rY.le iK
 refine bnK Fh fun x178 yv Fi=>zF 0 Z Z Z (wT Z bP) (zC Z Z Tryz.call20 (zA Z (zA Z zH)) Z) j0 (fun hs=>wBB x92 cX dm av og gS hs yu yv) (.inr Z) ?_
 rintro mS Hi Ju tu GA Cr ⟨rfl,rfl⟩
 have Cs:sW w U mS [B8,.blk ae 63 B7,.blk ab 61 B6,B0] tu:=Cr
 refine rU Z (wT Z bP) (ZE Z Z) (zr Z Z Z (zR Z Z (nC bG.out)) (fun _=>zW Z (wDu bP.out) Z) (oR Z (zG Z (nC bG.out) Z) (ZF ?_)))
 cases Fi
 exact zU ⟨Z,⟨mS,cN,cO,cP,cQ,bK,Z,((lw.trans iK).trans GA),Cs⟩⟩
 intro bP Fj
 refine oF Z bP (oF Z bP (ZN Z Z Z (zV Z Z (zz bP.out) Z) (oF Z bP (zr Z Z Z (zR Z Z (nC bG.out)) (fun _=>zG Z (zz bP.out) Z) (oR Z (zG Z (nC bG.out) Z) (ZF ?_))))))
 cases Fj
 exact zU ⟨Z,⟨gS,cN,cO,cP,cQ,bK,Z,(lw.trans iK),j0⟩⟩
 intro bG Fk
 refine zY Z Z Z (zV Z Z (nF (bG.out)) Z) (zY Z Z Z (zV Z Z (nF (bG.out)) Z) (zY Z Z Z (zV Z Z (nF (bG.out)) Z) (zY Z Z Z (wAU Z Z Z) (zY Z Z Z (wAU Z Z Z) (ZN Z Z Z (wAU Z Z Z) (zY Z Z Z (wAU Z Z Z) (zY Z Z Z (zV Z Z (nF (bG.out)) Z) (oR Z (zW Z (nF (bG.out)) Z) (ZF ?_)))))))))
 cases Fk
 exact zU ⟨Z,⟨gS,cN,cO,cP,cQ,bK,Z,(lw.trans iK),j0⟩⟩
 intro bO Fm
 refine oF Z bO (oF Z bO (ZN Z Z Z (zV Z Z (zz bO.out) Z) (oF Z bO (rU Z (wF Z bF) (zG Z (zz bO.out) Z) (rU Z (wT Z bj) (zG Z (zz bF.out) Z) (zr Z Z Z (zR Z Z Z) (fun _=>zW Z (wDu bj.out) Z) (oR Z (zG Z Z Z) (oM Z Z (zf Z Z Z (zR Z Z Z) Z dB (zr Z Z Z (zR Z Z Z) (fun _=>ZO Z Z Z) (zf Z Z Z (zR Z Z Z) Z Z (ifc Fm ?_ ?_))))))))))))
 intro bQ Fo
 refine zf Z Z Z (wT Z bQ) Z iq (zf Z Z Z (wT Z bQ) Z bK ?_)
 have q:=dV.freezeR (k:=0) (n:=x92.length) rfl (wAJ (f:=KL.encI) (sz:=1) (fun _=>rfl) x92) (by decide)
 obtain ⟨mU,GC,F4,CA⟩:=q
 have CH:sW w U mU [B8,.blk ae 63 B7,.blk ab 61 B6,B0] dl:=CA
 refine bnK Fo fun JY yA Fp=>zF 0 Z Z Z (wT Z bQ) (zC Z Z Tryz.call20 (zA Z (zA Z zH)) Z) CH (fun hs=>wBB x92 cX dm av dl mU hs F4 yA) (.inr Z) ?_
 rintro mV Hl Jx tE GD C0 ⟨rfl,rfl⟩
 have C3:sW w U mV [B8,.blk ae 63 B7,.blk ab 61 B6,B0] tE:=C0
 refine rU Z (wT Z bQ) (ZE Z Z) (zr Z Z Z (zR Z Z Z) (fun _=>zW Z (wDu bQ.out) Z) (oR Z (zG Z Z Z) (ZF ?_)))
 cases Fp
 exact zU ⟨Z,⟨mV,cN,cO,cP,cQ,bK,Z,(GC.trans GD),C3⟩⟩
 intro bQ Fq
 refine oF Z bQ (oF Z bQ (ZN Z Z Z (zV Z Z (zz bQ.out) Z) (oF Z bQ (zr Z Z Z (zR Z Z Z) (fun _=>zG Z (zz bQ.out) Z) (oR Z (zG Z Z Z) (ZF ?_))))))
 cases Fq
 exact zU ⟨rfl,⟨eK,cN,cO,cP,cQ,bK,rfl,(zX _),(dV.pick [1,2,3,4] _ (by decide) rfl)⟩⟩
 have rJ:=r7;rw [if_neg bj] at rJ;replace bj:=zO bj
 refine zf Z Z Z (wT Z bj) Z dB (rU Z (wT Z bj) (Runs.neq Z Z Z) (oR Z (zW Z (wDu bj.out) Z) (oM Z Z (ifc rJ ?_ ?_))))
 intro bA Fs
 refine zf Z Z Z (zR Z Z (zz (fun h=>h bA.out))) Z dB (zr Z Z Z (zR Z Z (zz (fun h=>h bA.out))) (fun _=>ZO Z Z Z) (zf Z Z Z (zR Z Z (zz (fun h=>h bA.out))) Z Z (oF Z bj (oF Z bj (oF Z bj (zY Z Z Z (wAU Z Z Z) (zY Z Z Z (wAU Z Z Z) (zY Z Z Z (wAU Z Z Z) (zY Z Z Z (wAU Z Z Z) (zY Z Z Z (wAU Z Z Z) (ZN Z Z Z (wAU Z Z Z) (zY Z Z Z (wAU Z Z Z) (zY Z Z Z (wAU Z Z Z) (oF Z bj (zr Z Z Z (zR Z Z (zz (fun h=>h bA.out))) (fun _=>zG Z (zz bj.out) Z) (oR Z (zG Z (zz (fun h=>h bA.out)) Z) (oM Z Z (zf Z Z Z (zR Z Z Z) Z dB (zr Z Z Z (zR Z Z Z) (fun _=>ZO Z Z Z) (zf Z Z Z (zR Z Z Z) Z Z (zf Z Z Z (wT Z bA) Z iq (zf Z Z Z (wT Z bA) Z bK ?_))))))))))))))))))))))
 have q:=dV.freezeR (k:=0) (n:=x92.length) rfl (wAJ (f:=KL.encI) (sz:=1) (fun _=>rfl) x92) (by decide)
 obtain ⟨mY,GG,F5,Dj⟩:=q
 have Dk:sW w U mY [B8,.blk ae 63 B7,.blk ab 61 B6,B0] dl:=Dj
 refine bnK Fs fun JZ yE Fu=>zF 0 Z Z Z (wT Z bA) (zC Z Z Tryz.call20 (zA Z (zA Z zH)) Z) Dk (fun hs=>wBB x92 cX dm av dl mY hs F5 yE) (.inr Z) ?_
 rintro mZ Hq JB tJ GH DA ⟨rfl,rfl⟩
 have DD:sW w U mZ [B8,.blk ae 63 B7,.blk ab 61 B6,B0] tJ:=DA
 refine rU Z (wT Z bA) (ZE Z Z) (zr Z Z Z (zR Z Z Z) (fun _=>zW Z (wDu bA.out) Z) (oR Z (zG Z Z Z) (ZF ?_)))
 cases Fu
 exact zU ⟨Z,⟨mZ,cN,cO,cP,cQ,bK,Z,(GG.trans GH),DD⟩⟩
 intro bA Fw
 refine oT Z bA (oT Z bA (oT Z bA (zY Z Z Z (wAU Z Z Z) (zY Z Z Z (wAU Z Z Z) (zY Z Z Z (wAU Z Z Z) (zY Z Z Z (wAU Z Z Z) (zY Z Z Z (wAU Z Z Z) (zY Z Z Z (wAU Z Z Z) (zY Z Z Z (wAU Z Z Z) (zY Z Z Z (wAU Z Z Z) (ZN Z Z Z (wAU Z Z Z) (zY Z Z Z (wAU Z Z Z) (zY Z Z Z (wAU Z Z Z) (zY Z Z Z (wAU Z Z Z) (oT Z bA (oR Z (zW Z (wDu bA.out) Z) (oM Z Z (oN Z (oN Z (oN Z (zY Z Z Z (wAU Z Z Z) (zY Z Z Z (wAU Z Z Z) (ZN Z Z Z (wAU Z Z Z) (zY Z Z Z (wAU Z Z Z) (oN Z (oR Z (zW Z Z Z) (ZF ?_)))))))))))))))))))))))))))
 cases Fw
 exact zU ⟨rfl,⟨eK,cN,cO,cP,cQ,bK,rfl,(zX _),(dV.pick [1,2,3,4] _ (by decide) rfl)⟩⟩
 rintro Km oi ⟨jh,qJ,jU,xn,xo,xp,qL,cw,rC⟩
 refine ifc Fb ?_ ?_
 intro jE FG
 refine ZL (qL.trans (congrArg Value.bool jE.out)) (sR fL1 Z (oA Z Z (eN (zJ (ze ?_)))))
 have hE:=nA FG;first | subst r | cases hE
 exact ⟨rfl,_,(zh rfl),jh,_,(rC.pick [] _ (by decide) rfl),rfl,rfl⟩
 intro jE FJ
 refine ZM (qL.trans (congrArg Value.bool (Bool.eq_false_iff.2 jE.out))) (kN ?_)
 have q:=bnd FJ
 obtain ⟨⟨bB,aV,cV,ak,cr,dD,fW,fY,fZ,gb⟩,Gd,rQ⟩:=q
 try dsimp only at rQ
 refine CK.cut (fun σ_ w_=>∃ (U_:PHeap) (aZ:Nat) (bE:Option Addr) (bI:Nat) (bm:Option Addr) (bn:Nat) (au:List Hd) (bb:Nat) (dh:Option Addr) (dA:Nat) (cz:Option Addr) (cI:Nat) (ar:List Hd) (bp:Nat) (cA:Option Addr) (cJ:Nat),σ_ 7=.pointer (some ⟨ab,0,none⟩)/\σ_ 8=.pointer (some ⟨ae,0,none⟩)/\σ_ 9=.pointer (some ⟨az,0,none⟩)/\σ_ 11=jV x93/\σ_ 13=jV av/\σ_ 15=.pointer (some ⟨aZ,0,none⟩)/\σ_ 16=.pointer (some ⟨bb,0,none⟩)/\σ_ 17=.pointer (some ⟨bp,0,none⟩)/\PHeap.Le jh U_/\sW w U U_ [B8,.blk ae 63 B7,.blk ab 61 B6,B0,.blk aZ 63 [.slice bE bB.length bI,.slice bm aV.length bn],.row bE bI 3 1 (hH KL.encI bB),.row bm bn 23 1 (hH wAO au),inn 3 1 KL.encI au aV,.blk bb 63 [.slice dh cV.length dA,.slice cz ak.length cI],.row dh dA 3 1 (hH KL.encI cV),.row cz cI 23 1 (hH wAO ar),inn 3 1 KL.encI ar ak,.blk bp 61 [.slice cA cr.length cJ,jV dD,jV fW,jV fY,jV fZ,jV gb],.row cA cJ 3 1 (hH KL.encI cr)] w_) ?_ ?_
 refine bnK Gd fun J5 Ji FW=>bnK FW fun bk re FX=>bnK FX fun bC AI FZ=>ZT ZQ [1,2,1,2,1,2,2,2,2,0,0,0] (.fl 0 (.fl 2 (.fl 4 (adT [(1,[0]),(3,[1,2]),(5,[3,4]),(6,[]),(7,[]),(8,[])] (.fx 9 (.fx 10 (.fx 11 .nil .stop) .stop) .stop) 7 [1,3,5,6,7,8] [0,2,4])))) (by kernel_rfl) ?_
 have fM:=rC.drew
 generalize hw_W364:({ oi with drawn:=oi.drawn + 1 }:World)=H9 at fM ⊢
 refine OKS.m rfl rfl rfl rfl (fM.ldBA (j:=1) rfl rfl jU ZA zZ (vs:=B7) rfl rfl) rfl (OKS.m rfl rfl rfl rfl (fM.ldBA (j:=1) rfl rfl jU ZA zZ (vs:=B7) rfl rfl) rfl (OKS.m rfl rfl rfl rfl (fM.ldBA (j:=2) rfl rfl qJ zp zS (vs:=B6) rfl rfl) rfl (OKS.adders (U0:=jh) (L0:=[B8,.blk ae 63 B7,.blk ab 61 B6,B0]) [(1,[0]),(3,[1,2]),(5,[3,4]),(6,[]),(7,[]),(8,[])] [⟨1,98,fun v R=>∃ (ma:Option Addr) (o8:Nat) (mb:Option Addr) (o9:Nat) (ri:List Hd),v=.agg #[.slice ma bk.Classes.length o8,.slice mb bk.Times.length o9]/\R=[.row ma o8 3 1 (hH KL.encI bk.Classes),.row mb o9 23 1 (hH wAO ri),inn 3 1 KL.encI ri bk.Times]⟩,⟨3,100,fun v R=>∃ (mc:Option Addr) (pa:Nat) (md:Option Addr) (pb:Nat) (rj:List Hd),v=.agg #[.slice mc bk.Classes.length pa,.slice md bk.Times.length pb]/\R=[.row mc pa 3 1 (hH KL.encI bk.Classes),.row md pb 23 1 (hH wAO rj),inn 3 1 KL.encI rj bk.Times]⟩,⟨5,102,fun v R=>∃ (me:Option Addr) (pe:Nat),v=.agg #[.slice me bC.Classes.length pe,jV bC.Each,jV bC.Laps,jV bC.Spare,jV bC.Loop,jV bC.Unused]/\R=[.row me pe 3 1 (hH KL.encI bC.Classes)]⟩,⟨6,15,fun v R=>∃ (oH:Nat),v=.pointer (some ⟨oH,0,none⟩)/\R=[.blk oH 63 B5]⟩,⟨7,16,fun v R=>∃ (oI:Nat),v=.pointer (some ⟨oI,0,none⟩)/\R=[.blk oI 63 B5]⟩,⟨8,17,fun v R=>∃ (oK:Nat),v=.pointer (some ⟨oK,0,none⟩)/\R=[.blk oK 61 B4]⟩] [(7,.pointer (some ⟨ab,0,none⟩)),(8,.pointer (some ⟨ae,0,none⟩)),(9,.pointer (some ⟨az,0,none⟩)),(11,jV x93),(13,jV av),(97,.agg B7.toArray),(99,.agg B7.toArray),(101,.agg B6.toArray)] [0,2,4] (by rfl) (nD.2 ⟨?_,nD.2 ⟨?_,nD.2 ⟨?_,nD.2 ⟨?_,nD.2 ⟨?_,nD.2 ⟨?_,fun _ h=>nomatch h⟩⟩⟩⟩⟩⟩) ?_ ⟨qJ,jU,xn,xo,xp,rfl,rfl,rfl,trivial⟩ fM)))
 intro GS GY om s6 sQ EZ sA DV Gf
 obtain ⟨It,Iu,Iv,Iw,Ix,xB,Iy,Iz,_⟩:=EZ
 show OKS _ _ _ _ _ _ (.fx 1 GS .stop) GY om
 have AJ:=iu.le cu
 have AL:=AJ.le cw
 have AM:=AL.le sA
 have AN:=iv.le cu
 have AP:=AN.le cw
 have AQ:=AP.le sA
 refine zF 0 Z Z Z Z (zC Z Z Tryz.call21 (zA xB zH) Z) DV (fun hs=>wBh x17 bT bW cB cK om s6 hs AM AQ re) (.inr Z) ?_
 rintro s7 Hy JK tP GJ DX ⟨mf,pf,mg,pg,jX,rfl,rfl⟩
 have DY:sW w U s7 (.row mf pf 3 1 (hH KL.encI bk.Classes) :: .row mg pg 23 1 (hH wAO jX) :: inn 3 1 KL.encI jX bk.Times :: (sQ ++ [B8,.blk ae 63 B7,.blk ab 61 B6,B0])) tP:=DX
 exact Gf _ _ _ _ GJ DY ⟨mf,pf,mg,pg,jX,Z,Z⟩
 intro GT GZ oq s8 sS E1 sC DZ Gg
 obtain ⟨IA,IB,IC,ID,IE,IF,xC,IG,_⟩:=E1
 show OKS _ _ _ _ _ _ (.fx 3 GT .stop) GZ oq
 have AS:=iu.le cu
 have AT:=AS.le cw
 have AU:=AT.le sC
 have AW:=iv.le cu
 have AX:=AW.le cw
 have AY:=AX.le sC
 refine zF 0 Z Z Z Z (zC Z Z Tryz.call21 (zA xC zH) Z) DZ (fun hs=>wBh x17 bT bW cB cK oq s8 hs AU AY re) (.inr Z) ?_
 rintro s9 Hz JL tQ GK D5 ⟨mh,ph,mi,pi,jY,rfl,rfl⟩
 have D6:sW w U s9 (.row mh ph 3 1 (hH KL.encI bk.Classes) :: .row mi pi 23 1 (hH wAO jY) :: inn 3 1 KL.encI jY bk.Times :: (sS ++ [B8,.blk ae 63 B7,.blk ab 61 B6,B0])) tQ:=D5
 exact Gg _ _ _ _ GK D6 ⟨mh,ph,mi,pi,jY,Z,Z⟩
 intro GU G0 ot te sT E2 GL D8 Gi
 obtain ⟨II,IJ,IK,IL,IM,IN,IP,xD,_⟩:=E2
 show OKS _ _ _ _ _ _ (.fx 5 GU .stop) G0 ot
 have AZ:=jW.le cu
 have A3:=AZ.le cw
 have A4:=A3.le GL
 refine zF 0 Z Z Z Z (zC Z Z Tryz.call22 (zA xD zH) Z) D8 (fun hs=>wCf x16 bN bR ot te hs A4 AI) (.inr Z) ?_
 rintro tf HB JM tS GM Ea ⟨mj,pj,rfl,rfl⟩
 have Eb:sW w U tf (.row mj pj 3 1 (hH KL.encI bC.Classes) :: (sT ++ [B8,.blk ae 63 B7,.blk ab 61 B6,B0])) tS:=Ea
 exact Gi _ _ _ _ GM Eb ⟨mj,pj,Z,Z⟩
 intro GV Ha tT HS HD E3 Jn Ed Gj
 obtain ⟨IQ,IR,IS,IT,IU,IV,IW,IX,_⟩:=E3
 show OKS _ _ _ _ _ _ (.fx 6 GV .stop) Ha tT
 refine ZI (cs:=B5) Z Z Z Z Z ZU Z Ed ?_
 intro Ic uc Ef
 exact Gj _ _ _ _ (zX _) Ef ⟨uc,Z,Z⟩
 intro GW Hb tU HT HF E4 Jo Eg Gk
 obtain ⟨IY,IZ,I0,I1,I2,I3,I4,I5,_⟩:=E4
 show OKS _ _ _ _ _ _ (.fx 7 GW .stop) Hb tU
 refine ZI (cs:=B5) Z Z Z Z Z ZU Z Eg ?_
 intro Ie ud Eh
 exact Gk _ _ _ _ (zX _) Eh ⟨ud,Z,Z⟩
 intro GX Hc tV HU HG E5 Jp Ei Gl
 obtain ⟨I6,I7,I8,I9,Ja,Jb,Jc,Jd,_⟩:=E5
 show OKS _ _ _ _ _ _ (.fx 8 GX .stop) Hc tV
 refine ZI (cs:=B4) Z Z Z Z Z ZR Z Ei ?_
 intro If ue Ej
 exact Gl _ _ _ _ (zX _) Ej ⟨ue,Z,Z⟩
 refine fun JO HK A9 JP HM Ba JQ HN Bb JR HO Bc JT HP Bd JU HQ Be=>?_
 obtain ⟨iR,jG,iT,jH,dT,rfl,rfl⟩:=A9
 obtain ⟨iU,jJ,iV,jK,dU,rfl,rfl⟩:=Ba
 obtain ⟨iW,jL,rfl,rfl⟩:=Bb
 obtain ⟨eV,rfl,rfl⟩:=Bc
 obtain ⟨eW,rfl,rfl⟩:=Bd
 obtain ⟨eX,rfl,rfl⟩:=Be
 intro Ko tW eQ E6 Gc GN Ek
 obtain ⟨xE,xF,xG,xH,xI,Je,Jf,Jg,_⟩:=E6
 obtain ⟨xJ,xK,xL,qM,qN,qO,_⟩:=Gc
 let gy:Res:=.row iR jG 3 1 (hH KL.encI bk.Classes)
 let gz:Res:=.row iU jJ 3 1 (hH KL.encI bk.Classes)
 let gA:Res:=.row iW jL 3 1 (hH KL.encI bC.Classes)
 let gB:Res:=.row iT jH 23 1 (hH wAO dT)
 let gC:Res:=.row iV jK 23 1 (hH wAO dU)
 have El:sW w U eQ [gy,gB,inn 3 1 KL.encI dT bk.Times,gz,gC,inn 3 1 KL.encI dU bk.Times,gA,.blk eV 63 B5,.blk eW 63 B5,.blk eX 61 B4,B8,.blk ae 63 B7,.blk ab 61 B6,B0] tW:=Ek
 let gD:List Value:=[.slice iR bk.Classes.length jG,.slice iT bk.Times.length jH]
 refine ZC (j:=7) (vs:=gD) Z Z Z Z El Z qM xJ Z zZ (zE Z) Z Z Z ?_
 intro tX Em
 have En:sW w U eQ [gy,gB,inn 3 1 KL.encI dT bk.Times,gz,gC,inn 3 1 KL.encI dU bk.Times,gA,.blk eV 63 gD,.blk eW 63 B5,.blk eX 61 B4,B8,.blk ae 63 B7,.blk ab 61 B6,B0] tX:=Em
 let iX:List Value:=[.slice iU bk.Classes.length jJ,.slice iV bk.Times.length jK]
 refine ZC (j:=8) (vs:=iX) Z Z Z Z En Z qN xK Z zZ (zE Z) Z Z Z ?_
 intro tY Ep
 have Er:sW w U eQ [gy,gB,inn 3 1 KL.encI dT bk.Times,gz,gC,inn 3 1 KL.encI dU bk.Times,gA,.blk eV 63 gD,.blk eW 63 iX,.blk eX 61 B4,B8,.blk ae 63 B7,.blk ab 61 B6,B0] tY:=Ep
 let mp:List Value:=[.slice iW bC.Classes.length jL,jV bC.Each,jV bC.Laps,jV bC.Spare,jV bC.Loop,jV bC.Unused]
 refine ZC (j:=9) (vs:=mp) Z Z Z Z Er Z qO xL Z zS (zE Z) Z Z Z ?_
 intro tZ Es
 have Et:sW w U eQ [gy,gB,inn 3 1 KL.encI dT bk.Times,gz,gC,inn 3 1 KL.encI dU bk.Times,gA,.blk eV 63 gD,.blk eW 63 iX,.blk eX 61 mp,B8,.blk ae 63 B7,.blk ab 61 B6,B0] tZ:=Es
 refine ZF ?_
 cases FZ
 exact zU ⟨rfl,⟨eQ,eV,iR,jG,iT,jH,dT,eW,iU,jJ,iV,jK,dU,eX,iW,jL,xE,xF,xG,xH,xI,qM,qN,qO,GN,(Et.pick [10,11,12,13,7,0,1,2,8,3,4,5,9,6] _ (by decide) rfl)⟩⟩
 rintro Kp Ig ⟨n9,aZ,bE,bI,bm,bn,au,bb,dh,dA,cz,cI,ar,bp,cA,cJ,qP,xM,xN,xO,xP,xR,xS,xT,iM,rD⟩
 refine sR fL1 Z (oA Z Z (eN (zP (sR fL4 Z (oR Z (zN Z qP zQ Z zD) (oL Z (rD.ldB (j:=2) Z Z Z zd (v:=.slice bN x16.Classes.length bR) Z) (oR Z (zw Z Z zB) (oM Z Z (eN (zt ?_))))))))))
 have q:=bnd rQ
 obtain ⟨⟨ge,gf,gg,aa⟩,ET,rS⟩:=q
 try dsimp only at rS
 have q:=wCm ET
 obtain ⟨ls,EU⟩:=q
 replace ls:=zO ls
 let aW:Res:=.blk bp 61 [.slice cA cr.length cJ,jV dD,jV fW,jV fY,jV fZ,jV gb]
 let aU:Res:=.blk bb 63 [.slice dh cV.length dA,.slice cz ak.length cI]
 let aX:Res:=.blk aZ 63 [.slice bE bB.length bI,.slice bm aV.length bn]
 let aR:Res:=.row cA cJ 3 1 (hH KL.encI cr)
 let aS:Res:=.row cz cI 23 1 (hH wAO ar)
 let aT:Res:=.row dh dA 3 1 (hH KL.encI cV)
 let a0:Res:=.row bm bn 23 1 (hH wAO au)
 let ba:Res:=.row bE bI 3 1 (hH KL.encI bB)
 refine CK.forN' (fun fN (fO,lR,lS,fP) σ_ w_=>∃ (U_:PHeap) (gv:Option Addr) (im:Nat) (gw:Option Addr) (io:Nat),σ_ 106=jV (↑fN:Int)/\σ_ 7=.pointer (some ⟨ab,0,none⟩)/\σ_ 8=.pointer (some ⟨ae,0,none⟩)/\σ_ 9=.pointer (some ⟨az,0,none⟩)/\σ_ 11=jV x93/\σ_ 13=jV av/\σ_ 15=.pointer (some ⟨aZ,0,none⟩)/\σ_ 16=.pointer (some ⟨bb,0,none⟩)/\σ_ 17=.pointer (some ⟨bp,0,none⟩)/\σ_ 18=.slice gw fP.length io/\σ_ 105=jV (↑x16.Classes.length:Int)/\PHeap.Le n9 U_/\sW w U U_ [.blk az 81 [.slice gv fO.length im,jV lR,.int .u32 lS],.blk ae 63 B7,.blk ab 61 B6,B0,ba,a0,inn 3 1 KL.encI au aV,aX,aT,aS,inn 3 1 KL.encI ar ak,aU,aR,aW,.row gw io 3 1 (hH KL.encI fP)] w_/\Sl U_ 1 gv im fO.length (hH KL.encB8 fO)) EU ?_ ?_ ?_
 have Eu:=rD.nilrow 3 1
 have Bg:=Bf.le GO
 have Bh:=Bg.le sD
 have Bi:=Bh.le lE
 have Bj:=Bi.le iI
 have Bk:=Bj.le iJ
 have Bl:=Bk.le cu
 have Bm:=Bl.le cw
 have Bn:=Bm.le iM
 exact ⟨n9,ml,pk,none,0,rfl,qP,xM,xN,xO,xP,xR,xS,xT,rfl,rfl,(zX _),(Eu.pick [1,2,3,4,6,7,8,5,10,11,12,9,14,13,0] _ (by decide) rfl),Bn⟩
 rintro fN ⟨fO,lR,lS,fP⟩ J6 Kq t7 lq ⟨tj,gv,im,gw,io,qS,xU,xV,qQ,xW,xX,xY,xZ,x8,ya,qR,GP,Ey,Bo⟩ r8
 try dsimp only at r8
 have pm:Hid ((↑fN:Int) < (↑x16.Classes.length:Int)):=zO (wCt lq)
 replace lq:=zO lq
 have EY:Hid (w64 ((↑fN:Int) + 1)=(↑(fN + 1):Int)):=zO (by have h1:=ls.out;have h2:=pm.out;rw [wBR] <;> omega)
 refine sR fL1 Z (oR Z (zx Z qS qR) (eN (zP (cT Z pm (kN (zP (zt (rR (.fl 0 (.fl 1 (.fx 2 (.fl 3 (.fx 4 (.fx 5 (.fl 6 .nil) .stop) .stop)) .stop))) Z (oM Z ya (oM Z qQ ?_))))))))))
 have q:=bnd r8
 obtain ⟨⟨gc,lT⟩,Bp,rT⟩:=q
 try dsimp only at rT
 refine zF 1 Z Z Z Z (zC Z Z ZB (zA Z (zA Z zH)) Z) Ey (fun hs=>wAG (⟨fO,lR,lS⟩:wAA) az gv im 80 t7 tj hs Bo Bp) (.inl Z) ?_
 rintro gW HI JW t8 GQ Ez ⟨mn,pn,rfl,rfl,Bq⟩
 let iY:Res:=.blk az 81 [.slice mn lT.bytes.length pn,jV lT.next,.int .u32 lT.state]
 let mq:Res:=.row gw io 3 1 (hH KL.encI fP)
 have EA:sW w U gW [iY,.blk ae 63 B7,.blk ab 61 B6,B0,ba,a0,inn 3 1 KL.encI au aV,aX,aT,aS,inn 3 1 KL.encI ar ak,aU,aR,aW,mq] t8:=Ez
 refine oR Z (zq Z Z Z) (zM (pv:=[(0,jV (w64 (1980 + gc)))]) (zs:=[jV 0]) (cs:=[jV (w64 (1980 + gc))]) Z Z Z Z Z (wAH Z wAR) zB zI zn Z Z Z Z Z EA ?_)
 intro t9 uf EB
 let mr:Res:=.row (some ⟨uf,0,none⟩) 1 3 1 (hH KL.encI [w64 (1980 + gc)])
 have rE:sW w U gW [mr,iY,.blk ae 63 B7,.blk ab 61 B6,B0,ba,a0,inn 3 1 KL.encI au aV,aX,aT,aS,inn 3 1 KL.encI ar ak,aU,aR,aW,mq] t9:=EB
 refine bnK rT fun sL Br F1=>zu (j:=15) (enc:=KL.encI) (xs:=fP) (ys:=[w64 (1980 + gc)]) (zs:=sL) rfl rfl rfl rfl rfl zk wDX rfl rfl rfl rfl rfl rfl rE rfl rfl rfl (rE.srcR (j:=0) rfl (by decide) (wAJ (f:=KL.encI) (sz:=1) (fun _=>rfl) [w64 (1980 + gc)])) (fun _=>rfl) (fun _=>rfl) Br rfl ?_
 intro mo po ua ED
 have EE:sW w U gW [mr,iY,.blk ae 63 B7,.blk ab 61 B6,B0,ba,a0,inn 3 1 KL.encI au aV,aX,aT,aS,inn 3 1 KL.encI ar ak,aU,aR,aW,.row mo po 3 1 (hH KL.encI sL)] ua:=ED
 refine oA Z Z (ZF (ZP (zU (rR fL2 Z (oR Z (Za (zq Z qS Z) (congrArg (jV) EY.out)) (oM Z Z (ZF ?_)))))))
 cases F1
 exact zU ⟨rfl,⟨gW,mn,pn,mo,po,rfl,xU,xV,qQ,xW,xX,xY,xZ,x8,rfl,qR,(GP.trans GQ),(EE.pick [1,2,3,4,5,6,7,8,9,10,11,12,13,14,15] _ (by decide) rfl),Bq⟩⟩
 rintro Kr ox ⟨bf,eH,fH,ap,aq,yc,bX,bY,bS,bZ,b5,bL,b8,b9,fJ,yb,lD,EH,iw⟩
 have ui:Hid (¬ ((↑(((↑x16.Classes.length:Int):Int) - 0).toNat:Int) < (↑x16.Classes.length:Int))):=zO (wCG)
 refine sR fL1 Z (oR Z (zx Z yc yb) (eN (zP (cF Z ui (CK.exit (ZH (ZH (Zb (zU ?_)))))))))
 have q:=bnd rS
 obtain ⟨⟨iH,sM,sN,ct,bq⟩,Ge,rV⟩:=q
 try dsimp only at rV
 refine CK.cut (fun σ_ w_=>∃ (U_:PHeap) (gx:Option Addr) (ip:Nat) (cC:Option Addr) (cL:Nat) (cD:Option Addr) (cM:Nat),σ_ 7=.pointer (some ⟨ab,0,none⟩)/\σ_ 8=.pointer (some ⟨ae,0,none⟩)/\σ_ 9=.pointer (some ⟨az,0,none⟩)/\σ_ 11=jV x93/\σ_ 13=jV av/\σ_ 15=.pointer (some ⟨aZ,0,none⟩)/\σ_ 16=.pointer (some ⟨bb,0,none⟩)/\σ_ 17=.pointer (some ⟨bp,0,none⟩)/\PHeap.Le bf U_/\sW w U U_ [.blk az 81 [.slice gx iH.length ip,jV sM,.int .u32 sN],.blk ae 63 B7,.blk ab 61 B6,B0,.row cC cL 3 1 (hH KL.encI ct),.row cD cM 23 1 (hH wAO (au ++ [(⟨ap,aa.length,aq⟩:Hd)]:List Hd)),inn 3 1 KL.encI (au ++ [(⟨ap,aa.length,aq⟩:Hd)]:List Hd) bq,.blk aZ 63 [.slice cC ct.length cL,.slice cD bq.length cM],aT,aS,inn 3 1 KL.encI ar ak,aU,aR,aW] w_/\Sl U_ 1 gx ip iH.length (hH KL.encB8 iH)) ?_ ?_
 have q:=bnd Ge
 obtain ⟨⟨aY,am⟩,iy,rX⟩:=q
 try dsimp only at rX
 refine bnK rX fun be iz F2=>bnK F2 fun bw ro F3=>ZT ZQ [3,1004,3,1005,2,0,3,2,3,2,0,3,0,3,0,az] (wFx (.fl 6 (.fl 8 (.fx 3 (.fx 4 (.fx 5 (.fx 7 gBo (.fx 9 gBp .stop)) (.fx 7 gBs (.fx 9 gBt .stop))) (.fx 7 gBv (.fx 9 gBw .stop))) (.fx 7 (.fx 3 gBv (.fx 9 gBu .stop)) (.fx 9 (.fx 3 gBw (.fx 7 gBu .stop)) .stop)))))) (by kernel_rfl) ?_
 have dC:=EH.drew
 generalize hw_W998:({ ox with drawn:=ox.drawn + 1 }:World)=oy at dC ⊢
 refine zi (s:=.nil) (M:=fun σ_ w_=>∃ (U_:PHeap) (gh:Option Addr) (ic:Nat) (dY:Option Addr) (eY:Nat) (dZ:Option Addr) (eZ:Nat) (iP:Option Addr) (jC:Nat),σ_ 7=.pointer (some ⟨ab,0,none⟩)/\σ_ 8=.pointer (some ⟨ae,0,none⟩)/\σ_ 9=.pointer (some ⟨az,0,none⟩)/\σ_ 11=jV x93/\σ_ 13=jV av/\σ_ 15=.pointer (some ⟨aZ,0,none⟩)/\σ_ 16=.pointer (some ⟨bb,0,none⟩)/\σ_ 17=.pointer (some ⟨bp,0,none⟩)/\σ_ 115=.pointer (some ⟨aZ,0,none⟩)/\σ_ 117=.pointer (some ⟨az,0,none⟩)/\σ_ 118=jV aY/\σ_ 119=.slice iP ([aY].length) jC/\σ_ 120=.slice dY be.length eY/\σ_ 121=.pointer (some ⟨aZ,1,none⟩)/\σ_ 125=.slice dZ bw.length eZ/\σ_ 126=.pointer (some ⟨aZ,0,none⟩)/\σ_ 127=.pointer (some ⟨aZ,1,none⟩)/\PHeap.Le bf U_/\sW w U U_ [.blk az 81 [.slice gh am.bytes.length ic,jV am.next,.int .u32 am.state],.blk ae 63 B7,.blk ab 61 B6,B0,.row dY eY 3 1 (hH KL.encI be),.row dZ eZ 23 1 (hH wAO (au ++ [(⟨ap,aa.length,aq⟩:Hd)]:List Hd)),inn 3 1 KL.encI (au ++ [(⟨ap,aa.length,aq⟩:Hd)]:List Hd) bw,.blk aZ 63 [.slice dY be.length eY,.slice dZ bw.length eZ],aT,aS,inn 3 1 KL.encI ar ak,aU,aR,aW,.row iP jC 3 1 (hH KL.encI [aY])] w_/\Sl U_ 1 gh ic am.bytes.length (hH KL.encB8 am.bytes)) ?_ fun Gm=>?_
 rintro J7 HV ⟨sU,gh,ic,dY,eY,dZ,eZ,iP,jC,uj,uk,ul,um,uo,uq,ur,ut,Ij,Ik,Il,Im,In,Io,Ip,Iq,Ir,Gq,Bx,yi⟩
 refine ZF ?_
 cases F3
 exact zU ⟨rfl,⟨sU,gh,ic,dY,eY,dZ,eZ,uj,uk,ul,um,uo,uq,ur,ut,Gq,(Bx.pick [0,1,2,3,4,5,6,7,8,9,10,11,12,13] _ (by decide) rfl),yi⟩⟩
 refine zi (s:=gBi) (M:=fun σ_ w_=>∃ (U_:PHeap) (d7:Option Addr) (e9:Nat) (cY:Option Addr) (dp:Nat) (d8:Option Addr) (fb:Nat) (cZ:Option Addr) (dq:Nat),σ_ 7=.pointer (some ⟨ab,0,none⟩)/\σ_ 8=.pointer (some ⟨ae,0,none⟩)/\σ_ 9=.pointer (some ⟨az,0,none⟩)/\σ_ 11=jV x93/\σ_ 13=jV av/\σ_ 15=.pointer (some ⟨aZ,0,none⟩)/\σ_ 16=.pointer (some ⟨bb,0,none⟩)/\σ_ 17=.pointer (some ⟨bp,0,none⟩)/\σ_ 115=.pointer (some ⟨aZ,0,none⟩)/\σ_ 117=.pointer (some ⟨az,0,none⟩)/\σ_ 118=jV aY/\σ_ 119=.slice d8 ([aY].length) fb/\σ_ 120=.slice cY be.length dp/\σ_ 121=.pointer (some ⟨aZ,1,none⟩)/\σ_ 125=.slice cZ bw.length dq/\σ_ 126=.pointer (some ⟨aZ,0,none⟩)/\PHeap.Le bf U_/\sW w U U_ [.blk az 81 [.slice d7 am.bytes.length e9,jV am.next,.int .u32 am.state],.blk ae 63 B7,.blk ab 61 B6,B0,.row cY dp 3 1 (hH KL.encI be),.blk aZ 63 [.slice cY be.length dp,.slice bm aV.length bn],aT,aS,inn 3 1 KL.encI ar ak,aU,aR,aW,.row d8 fb 3 1 (hH KL.encI [aY]),.row cZ dq 23 1 (hH wAO (au ++ [(⟨ap,aa.length,aq⟩:Hd)]:List Hd)),inn 3 1 KL.encI (au ++ [(⟨ap,aa.length,aq⟩:Hd)]:List Hd) bw] w_/\Sl U_ 1 d7 e9 am.bytes.length (hH KL.encB8 am.bytes)) ?_ fun Gn=>?_
 rintro J8 HW ⟨mN,d7,e9,cY,dp,d8,fb,cZ,dq,uu,uv,uw,ux,uy,pp,uz,uA,uB,uC,uD,uE,uF,uG,pq,uH,Gr,By,yk⟩
 refine oR Z (zN Z pp zK Z ZK) (ZC (j:=5) (vs:=[.slice cZ bw.length dq]) Z Z Z Z By Z Z pq Z ZK (zE Z) Z Z Z ?_)
 intro tl Bz
 have BC:sW w U mN [.blk az 81 [.slice d7 am.bytes.length e9,jV am.next,.int .u32 am.state],.blk ae 63 B7,.blk ab 61 B6,B0,.row cY dp 3 1 (hH KL.encI be),.blk aZ 63 [.slice cY be.length dp,.slice cZ bw.length dq],aT,aS,inn 3 1 KL.encI ar ak,aU,aR,aW,.row d8 fb 3 1 (hH KL.encI [aY]),.row cZ dq 23 1 (hH wAO (au ++ [(⟨ap,aa.length,aq⟩:Hd)]:List Hd)),inn 3 1 KL.encI (au ++ [(⟨ap,aa.length,aq⟩:Hd)]:List Hd) bw] tl:=Bz
 exact Gm _ _ ⟨mN,d7,e9,cY,dp,cZ,dq,d8,fb,uu,uv,uw,ux,uy,pp,uz,uA,uB,uC,uD,uE,uF,uG,pq,uH,rfl,Gr,(BC.pick [0,1,2,3,4,13,14,5,6,7,8,9,10,11,12] _ (by decide) rfl),yk⟩
 refine zi (s:=gBk) (M:=fun σ_ w_=>∃ (U_:PHeap) (d9:Option Addr) (fc:Nat) (eb:Option Addr) (fd:Nat) (da:Option Addr) (dr:Nat) (ec:Option Addr) (fe:Nat),σ_ 7=.pointer (some ⟨ab,0,none⟩)/\σ_ 8=.pointer (some ⟨ae,0,none⟩)/\σ_ 9=.pointer (some ⟨az,0,none⟩)/\σ_ 11=jV x93/\σ_ 13=jV av/\σ_ 15=.pointer (some ⟨aZ,0,none⟩)/\σ_ 16=.pointer (some ⟨bb,0,none⟩)/\σ_ 17=.pointer (some ⟨bp,0,none⟩)/\σ_ 115=.pointer (some ⟨aZ,0,none⟩)/\σ_ 117=.pointer (some ⟨az,0,none⟩)/\σ_ 118=jV aY/\σ_ 119=.slice eb ([aY].length) fd/\σ_ 120=.slice da be.length dr/\σ_ 121=.pointer (some ⟨aZ,1,none⟩)/\σ_ 125=.slice ec bw.length fe/\σ_ 126=.pointer (some ⟨aZ,0,none⟩)/\PHeap.Le bf U_/\sW w U U_ [.blk az 81 [.slice d9 am.bytes.length fc,jV am.next,.int .u32 am.state],.blk ae 63 B7,.blk ab 61 B6,B0,aX,aT,aS,inn 3 1 KL.encI ar ak,aU,aR,aW,.row eb fd 3 1 (hH KL.encI [aY]),.row da dr 3 1 (hH KL.encI be),.row ec fe 23 1 (hH wAO (au ++ [(⟨ap,aa.length,aq⟩:Hd)]:List Hd)),inn 3 1 KL.encI (au ++ [(⟨ap,aa.length,aq⟩:Hd)]:List Hd) bw] w_/\Sl U_ 1 d9 fc am.bytes.length (hH KL.encB8 am.bytes)) ?_ fun sd=>?_
 rintro J9 HX ⟨mO,d9,fc,eb,fd,da,dr,ec,fe,uI,uJ,uK,uL,uM,uN,uO,uP,uQ,uR,uS,uT,pt,uU,uV,pu,Gs,BD,yl⟩
 refine ZC (j:=4) (vs:=[.slice da be.length dr]) Z Z Z Z BD Z pu pt Z zD (zE Z) Z Z Z ?_
 intro tm BE
 have BF:sW w U mO [.blk az 81 [.slice d9 am.bytes.length fc,jV am.next,.int .u32 am.state],.blk ae 63 B7,.blk ab 61 B6,B0,.blk aZ 63 [.slice da be.length dr,.slice bm aV.length bn],aT,aS,inn 3 1 KL.encI ar ak,aU,aR,aW,.row eb fd 3 1 (hH KL.encI [aY]),.row da dr 3 1 (hH KL.encI be),.row ec fe 23 1 (hH wAO (au ++ [(⟨ap,aa.length,aq⟩:Hd)]:List Hd)),inn 3 1 KL.encI (au ++ [(⟨ap,aa.length,aq⟩:Hd)]:List Hd) bw] tm:=BE
 exact Gn _ _ ⟨mO,d9,fc,da,dr,eb,fd,ec,fe,uI,uJ,uK,uL,uM,uN,uO,uP,uQ,uR,uS,uT,pt,uU,uV,pu,Gs,(BF.pick [0,1,2,3,12,4,5,6,7,8,9,10,11,13,14] _ (by decide) rfl),yl⟩
 refine zi (s:=gBn) (M:=fun σ_ w_=>∃ (U_:PHeap) (ed:Option Addr) (ff:Nat) (ef:Option Addr) (fg:Nat) (eh:Option Addr) (fh:Nat) (gk:Option Addr) (ie:Nat),σ_ 7=.pointer (some ⟨ab,0,none⟩)/\σ_ 8=.pointer (some ⟨ae,0,none⟩)/\σ_ 9=.pointer (some ⟨az,0,none⟩)/\σ_ 11=jV x93/\σ_ 13=jV av/\σ_ 15=.pointer (some ⟨aZ,0,none⟩)/\σ_ 16=.pointer (some ⟨bb,0,none⟩)/\σ_ 17=.pointer (some ⟨bp,0,none⟩)/\σ_ 115=.pointer (some ⟨aZ,0,none⟩)/\σ_ 117=.pointer (some ⟨az,0,none⟩)/\σ_ 118=jV aY/\σ_ 119=.slice ef ([aY].length) fg/\σ_ 120=.slice eh be.length fh/\σ_ 121=.pointer (some ⟨aZ,1,none⟩)/\σ_ 122=.slice bm aV.length bn/\σ_ 124=.slice gk ([aa].length) ie/\σ_ 126=.pointer (some ⟨aZ,0,none⟩)/\PHeap.Le bf U_/\sW w U U_ [.blk az 81 [.slice ed am.bytes.length ff,jV am.next,.int .u32 am.state],.blk ae 63 B7,.blk ab 61 B6,B0,a0,inn 3 1 KL.encI au aV,aX,aT,aS,inn 3 1 KL.encI ar ak,aU,aR,aW,.row ef fg 3 1 (hH KL.encI [aY]),.row eh fh 3 1 (hH KL.encI be),.row gk ie 23 1 (hH wAO [(⟨ap,aa.length,aq⟩:Hd)]),inn 3 1 KL.encI [(⟨ap,aa.length,aq⟩:Hd)] [aa]] w_/\Sl U_ 1 ed ff am.bytes.length (hH KL.encB8 am.bytes)) ?_ fun Gp=>?_
 rintro Ka HZ ⟨eL,ed,ff,ef,fg,eh,fh,gk,ie,uW,uX,uY,uZ,u0,u7,u9,va,vc,vd,ve,vg,vh,vi,vj,vk,vm,Gt,iC,ym⟩
 have lh:=iC.innFit (j:=5) rfl
 have li:=iC.innFit (j:=16) rfl
 have q:=wHF ro lh li
 obtain ⟨ER,r9⟩:=q
 refine zu (j:=4) (enc:=wAO) (xs:=au) (ys:=[(⟨ap,aa.length,aq⟩:Hd)]) rfl rfl rfl rfl rfl Tryz.underlying29 wHX rfl rfl rfl rfl rfl rfl iC rfl (wLm vj lh) (wLm vk li) (iC.srcR (j:=15) rfl (by decide) (wAJ (f:=wAO) (sz:=1) (fun _=>rfl) [(⟨ap,aa.length,aq⟩:Hd)])) (fun _=>rfl) (fun _=>rfl) ER rfl ?_
 intro lV oP gZ BH
 have E7:(au ++ [(⟨ap,aa.length,aq⟩:Hd)]:List Hd).length=bw.length:=by rw [r9,nE,nE,lh.len,li.len]
 rw [E7]
 let gE:Res:=.row lV oP 23 1 (hH wAO (au ++ [(⟨ap,aa.length,aq⟩:Hd)]:List Hd))
 let gG:Res:=.blk az 81 [.slice ed am.bytes.length ff,jV am.next,.int .u32 am.state]
 let iZ:Res:=.row gk ie 23 1 (hH wAO [(⟨ap,aa.length,aq⟩:Hd)])
 let gH:Res:=.row ef fg 3 1 (hH KL.encI [aY])
 let gI:Res:=.row eh fh 3 1 (hH KL.encI be)
 have BI:sW w U eL [gG,.blk ae 63 B7,.blk ab 61 B6,B0,gE,inn 3 1 KL.encI au aV,aX,aT,aS,inn 3 1 KL.encI ar ak,aU,aR,aW,gH,gI,iZ,inn 3 1 KL.encI [(⟨ap,aa.length,aq⟩:Hd)] [aa]] gZ:=BH
 have BJ:sW w U eL [inn 3 1 KL.encI au aV,inn 3 1 KL.encI [(⟨ap,aa.length,aq⟩:Hd)] [aa],gG,.blk ae 63 B7,.blk ab 61 B6,B0,gE,aX,aT,aS,inn 3 1 KL.encI ar ak,aU,aR,aW,gH,gI,iZ] gZ:=BI.pick [5,16,0,1,2,3,4,6,7,8,9,10,11,12,13,14,15] _ (by decide) rfl
 have rq:=BJ.innApp
 rw [<- r9] at rq
 have BK:sW w U eL [inn 3 1 KL.encI (au ++ [(⟨ap,aa.length,aq⟩:Hd)]:List Hd) bw,gG,.blk ae 63 B7,.blk ab 61 B6,B0,gE,aX,aT,aS,inn 3 1 KL.encI ar ak,aU,aR,aW,gH,gI,iZ] gZ:=rq
 have BL:=BK.drop 15
 have BM:sW w U eL [inn 3 1 KL.encI (au ++ [(⟨ap,aa.length,aq⟩:Hd)]:List Hd) bw,gG,.blk ae 63 B7,.blk ab 61 B6,B0,gE,aX,aT,aS,inn 3 1 KL.encI ar ak,aU,aR,aW,gH,gI] gZ:=BL
 exact sd _ _ ⟨eL,ed,ff,ef,fg,eh,fh,lV,oP,uW,uX,uY,uZ,u0,u7,u9,va,vc,vd,ve,vg,vh,vi,rfl,vm,Gt,(BM.pick [1,2,3,4,6,7,8,9,10,11,12,13,14,5,0] _ (by decide) rfl),ym⟩
 refine zi (s:=.fl 11 gBn) (M:=fun σ_ w_=>∃ (U_:PHeap) (ei:Option Addr) (fj:Nat) (ej:Option Addr) (fm:Nat) (en:Option Addr) (fq:Nat) (gm:Option Addr) (ig:Nat),σ_ 7=.pointer (some ⟨ab,0,none⟩)/\σ_ 8=.pointer (some ⟨ae,0,none⟩)/\σ_ 9=.pointer (some ⟨az,0,none⟩)/\σ_ 11=jV x93/\σ_ 13=jV av/\σ_ 15=.pointer (some ⟨aZ,0,none⟩)/\σ_ 16=.pointer (some ⟨bb,0,none⟩)/\σ_ 17=.pointer (some ⟨bp,0,none⟩)/\σ_ 115=.pointer (some ⟨aZ,0,none⟩)/\σ_ 117=.pointer (some ⟨az,0,none⟩)/\σ_ 118=jV aY/\σ_ 119=.slice ej ([aY].length) fm/\σ_ 120=.slice en be.length fq/\σ_ 121=.pointer (some ⟨aZ,1,none⟩)/\σ_ 122=.slice bm aV.length bn/\σ_ 124=.slice gm ([aa].length) ig/\PHeap.Le bf U_/\sW w U U_ [.blk az 81 [.slice ei am.bytes.length fj,jV am.next,.int .u32 am.state],.blk ae 63 B7,.blk ab 61 B6,B0,a0,inn 3 1 KL.encI au aV,aX,aT,aS,inn 3 1 KL.encI ar ak,aU,aR,aW,.row ej fm 3 1 (hH KL.encI [aY]),.row en fq 3 1 (hH KL.encI be),.row gm ig 23 1 (hH wAO [(⟨ap,aa.length,aq⟩:Hd)]),inn 3 1 KL.encI [(⟨ap,aa.length,aq⟩:Hd)] [aa]] w_/\Sl U_ 1 ei fj am.bytes.length (hH KL.encB8 am.bytes)) ?_ fun se=>?_
 rintro Kb H0 ⟨eM,ei,fj,ej,fm,en,fq,gm,ig,vn,vo,vp,vq,vr,pz,vt,vu,vv,vw,vx,vy,vz,vA,vB,vC,Gu,iD,yn⟩
 refine oR Z (zN Z pz zK Z zD) ?_
 have lj:=iD.innFit (j:=5) rfl
 have lm:=iD.innFit (j:=16) rfl
 have q:=wHF ro lj lm
 obtain ⟨ES,sc⟩:=q
 refine zu (j:=4) (enc:=wAO) (xs:=au) (ys:=[(⟨ap,aa.length,aq⟩:Hd)]) rfl rfl rfl rfl rfl Tryz.underlying29 wHX rfl rfl rfl rfl rfl rfl iD rfl (wLm vB lj) (wLm vC lm) (iD.srcR (j:=15) rfl (by decide) (wAJ (f:=wAO) (sz:=1) (fun _=>rfl) [(⟨ap,aa.length,aq⟩:Hd)])) (fun _=>rfl) (fun _=>rfl) ES rfl ?_
 intro lW oU g9 BN
 have E8:(au ++ [(⟨ap,aa.length,aq⟩:Hd)]:List Hd).length=bw.length:=by rw [sc,nE,nE,lj.len,lm.len]
 rw [E8]
 let gJ:Res:=.row lW oU 23 1 (hH wAO (au ++ [(⟨ap,aa.length,aq⟩:Hd)]:List Hd))
 let gK:Res:=.blk az 81 [.slice ei am.bytes.length fj,jV am.next,.int .u32 am.state]
 let i0:Res:=.row gm ig 23 1 (hH wAO [(⟨ap,aa.length,aq⟩:Hd)])
 let gL:Res:=.row ej fm 3 1 (hH KL.encI [aY])
 let gM:Res:=.row en fq 3 1 (hH KL.encI be)
 have BO:sW w U eM [gK,.blk ae 63 B7,.blk ab 61 B6,B0,gJ,inn 3 1 KL.encI au aV,aX,aT,aS,inn 3 1 KL.encI ar ak,aU,aR,aW,gL,gM,i0,inn 3 1 KL.encI [(⟨ap,aa.length,aq⟩:Hd)] [aa]] g9:=BN
 have BP:sW w U eM [inn 3 1 KL.encI au aV,inn 3 1 KL.encI [(⟨ap,aa.length,aq⟩:Hd)] [aa],gK,.blk ae 63 B7,.blk ab 61 B6,B0,gJ,aX,aT,aS,inn 3 1 KL.encI ar ak,aU,aR,aW,gL,gM,i0] g9:=BO.pick [5,16,0,1,2,3,4,6,7,8,9,10,11,12,13,14,15] _ (by decide) rfl
 have rt:=BP.innApp
 rw [<- sc] at rt
 have BQ:sW w U eM [inn 3 1 KL.encI (au ++ [(⟨ap,aa.length,aq⟩:Hd)]:List Hd) bw,gK,.blk ae 63 B7,.blk ab 61 B6,B0,gJ,aX,aT,aS,inn 3 1 KL.encI ar ak,aU,aR,aW,gL,gM,i0] g9:=rt
 have BR:=BQ.drop 15
 have BS:sW w U eM [inn 3 1 KL.encI (au ++ [(⟨ap,aa.length,aq⟩:Hd)]:List Hd) bw,gK,.blk ae 63 B7,.blk ab 61 B6,B0,gJ,aX,aT,aS,inn 3 1 KL.encI ar ak,aU,aR,aW,gL,gM] g9:=BR
 exact sd _ _ ⟨eM,ei,fj,ej,fm,en,fq,lW,oU,vn,vo,vp,vq,vr,pz,vt,vu,vv,vw,vx,vy,vz,vA,rfl,rfl,Gu,(BS.pick [1,2,3,4,6,7,8,9,10,11,12,13,14,5,0] _ (by decide) rfl),yn⟩
 refine zi (s:=gBq) (M:=fun σ_ w_=>∃ (U_:PHeap) (eu:Option Addr) (ft:Nat) (ey:Option Addr) (fu:Nat) (ez:Option Addr) (fw:Nat),σ_ 7=.pointer (some ⟨ab,0,none⟩)/\σ_ 8=.pointer (some ⟨ae,0,none⟩)/\σ_ 9=.pointer (some ⟨az,0,none⟩)/\σ_ 11=jV x93/\σ_ 13=jV av/\σ_ 15=.pointer (some ⟨aZ,0,none⟩)/\σ_ 16=.pointer (some ⟨bb,0,none⟩)/\σ_ 17=.pointer (some ⟨bp,0,none⟩)/\σ_ 115=.pointer (some ⟨aZ,0,none⟩)/\σ_ 116=.slice bE bB.length bI/\σ_ 117=.pointer (some ⟨az,0,none⟩)/\σ_ 118=jV aY/\σ_ 119=.slice ey ([aY].length) fu/\σ_ 121=.pointer (some ⟨aZ,1,none⟩)/\σ_ 122=.slice bm aV.length bn/\σ_ 124=.slice ez ([aa].length) fw/\PHeap.Le bf U_/\sW w U U_ [.blk az 81 [.slice eu am.bytes.length ft,jV am.next,.int .u32 am.state],.blk ae 63 B7,.blk ab 61 B6,B0,ba,a0,inn 3 1 KL.encI au aV,aX,aT,aS,inn 3 1 KL.encI ar ak,aU,aR,aW,.row ey fu 3 1 (hH KL.encI [aY]),.row ez fw 23 1 (hH wAO [(⟨ap,aa.length,aq⟩:Hd)]),inn 3 1 KL.encI [(⟨ap,aa.length,aq⟩:Hd)] [aa]] w_/\Sl U_ 1 eu ft am.bytes.length (hH KL.encB8 am.bytes)) ?_ fun lu=>?_
 rintro Kc H1 ⟨mQ,eu,ft,ey,fu,ez,fw,vD,vE,vG,vH,vJ,vK,vL,vM,vN,vO,vP,vQ,pB,vR,vS,vU,Gw,ru,yo⟩
 refine zu (j:=4) (enc:=KL.encI) (xs:=bB) (ys:=[aY]) (zs:=be) rfl rfl rfl rfl rfl zk wDX rfl rfl rfl rfl rfl rfl ru rfl vO pB (ru.srcR (j:=14) rfl (by decide) (wAJ (f:=KL.encI) (sz:=1) (fun _=>rfl) [aY])) (fun _=>rfl) (fun _=>rfl) iz rfl ?_
 intro lX oW tn BU
 have BV:sW w U mQ [.blk az 81 [.slice eu am.bytes.length ft,jV am.next,.int .u32 am.state],.blk ae 63 B7,.blk ab 61 B6,B0,.row lX oW 3 1 (hH KL.encI be),a0,inn 3 1 KL.encI au aV,aX,aT,aS,inn 3 1 KL.encI ar ak,aU,aR,aW,.row ey fu 3 1 (hH KL.encI [aY]),.row ez fw 23 1 (hH wAO [(⟨ap,aa.length,aq⟩:Hd)]),inn 3 1 KL.encI [(⟨ap,aa.length,aq⟩:Hd)] [aa]] tn:=BU
 exact se _ _ ⟨mQ,eu,ft,ey,fu,lX,oW,ez,fw,vD,vE,vG,vH,vJ,vK,vL,vM,vN,vP,vQ,pB,rfl,vR,vS,vU,Gw,(BV.pick [0,1,2,3,5,6,7,8,9,10,11,12,13,14,4,15,16] _ (by decide) rfl),yo⟩
 refine zi (s:=gBp) (M:=fun σ_ w_=>∃ (U_:PHeap) (gp:Option Addr) (ii:Nat) (gq:Option Addr) (ij:Nat) (gt:Option Addr) (ik:Nat) (gu:Option Addr) (il:Nat),σ_ 7=.pointer (some ⟨ab,0,none⟩)/\σ_ 8=.pointer (some ⟨ae,0,none⟩)/\σ_ 9=.pointer (some ⟨az,0,none⟩)/\σ_ 11=jV x93/\σ_ 13=jV av/\σ_ 15=.pointer (some ⟨aZ,0,none⟩)/\σ_ 16=.pointer (some ⟨bb,0,none⟩)/\σ_ 17=.pointer (some ⟨bp,0,none⟩)/\σ_ 115=.pointer (some ⟨aZ,0,none⟩)/\σ_ 117=.pointer (some ⟨az,0,none⟩)/\σ_ 118=jV aY/\σ_ 119=.slice gq ([aY].length) ij/\σ_ 120=.slice gt be.length ik/\σ_ 121=.pointer (some ⟨aZ,1,none⟩)/\σ_ 124=.slice gu ([aa].length) il/\PHeap.Le bf U_/\sW w U U_ [.blk az 81 [.slice gp am.bytes.length ii,jV am.next,.int .u32 am.state],.blk ae 63 B7,.blk ab 61 B6,B0,a0,inn 3 1 KL.encI au aV,aX,aT,aS,inn 3 1 KL.encI ar ak,aU,aR,aW,.row gq ij 3 1 (hH KL.encI [aY]),.row gt ik 3 1 (hH KL.encI be),.row gu il 23 1 (hH wAO [(⟨ap,aa.length,aq⟩:Hd)]),inn 3 1 KL.encI [(⟨ap,aa.length,aq⟩:Hd)] [aa]] w_/\Sl U_ 1 gp ii am.bytes.length (hH KL.encB8 am.bytes)) ?_ fun sf=>?_
 rintro Kd H2 ⟨sV,gp,ii,gq,ij,gt,ik,gu,il,vV,vW,vX,vY,vZ,v9,wa,wb,wc,wd,wg,wh,wi,pC,wj,Gx,rx,yq⟩
 exact ZJ Z Z Z Z (rx.ldB (j:=6) Z Z pC zl (v:=.slice bm aV.length bn) Z) (se _ _ ⟨sV,gp,ii,gq,ij,gt,ik,gu,il,vV,vW,vX,vY,vZ,v9,wa,wb,wc,wd,wg,wh,wi,pC,Z,wj,Gx,rx,yq⟩)
 let bg:Res:=.row ap aq 3 1 (hH KL.encI aa)
 refine zi (s:=gBo) (M:=fun σ_ w_=>∃ (U_:PHeap) (eA:Option Addr) (fy:Nat) (eC:Option Addr) (fz:Nat) (eD:Option Addr) (fA:Nat),σ_ 7=.pointer (some ⟨ab,0,none⟩)/\σ_ 8=.pointer (some ⟨ae,0,none⟩)/\σ_ 9=.pointer (some ⟨az,0,none⟩)/\σ_ 11=jV x93/\σ_ 13=jV av/\σ_ 15=.pointer (some ⟨aZ,0,none⟩)/\σ_ 16=.pointer (some ⟨bb,0,none⟩)/\σ_ 17=.pointer (some ⟨bp,0,none⟩)/\σ_ 18=.slice ap aa.length aq/\σ_ 115=.pointer (some ⟨aZ,0,none⟩)/\σ_ 117=.pointer (some ⟨az,0,none⟩)/\σ_ 118=jV aY/\σ_ 119=.slice eC ([aY].length) fz/\σ_ 120=.slice eD be.length fA/\σ_ 121=.pointer (some ⟨aZ,1,none⟩)/\σ_ 122=.slice bm aV.length bn/\σ_ 123=.slice ap aa.length aq/\PHeap.Le bf U_/\sW w U U_ [.blk az 81 [.slice eA am.bytes.length fy,jV am.next,.int .u32 am.state],.blk ae 63 B7,.blk ab 61 B6,B0,a0,inn 3 1 KL.encI au aV,aX,aT,aS,inn 3 1 KL.encI ar ak,aU,aR,aW,bg,.row eC fz 3 1 (hH KL.encI [aY]),.row eD fA 3 1 (hH KL.encI be)] w_/\Sl U_ 1 eA fy am.bytes.length (hH KL.encB8 am.bytes)) ?_ fun sg=>?_
 rintro Ke H3 ⟨gT,eA,fy,eC,fz,eD,fA,wk,wl,wn,wo,wp,pD,wq,wt,Is,wu,wv,ww,wx,wy,wz,wA,wB,Gy,BX,yr⟩
 refine oR Z (zN Z pD zK Z zD) ?_
 let ms:List Value:=[.slice ap aa.length aq]
 refine zM (pv:=[(0,.slice ap aa.length aq)]) (zs:=[.slice none 0 0]) (cs:=ms) Z Z Z Z Z (wAH wB wAR) zL zD zg Z Z Z Z Z BX ?_
 intro jj ju BY
 let i6:Res:=.blk az 81 [.slice eA am.bytes.length fy,jV am.next,.int .u32 am.state]
 let i7:Res:=.row eC fz 3 1 (hH KL.encI [aY])
 let i8:Res:=.row eD fA 3 1 (hH KL.encI be)
 let mu:Res:=.row (some ⟨ju,0,none⟩) 1 23 1 ms
 have BZ:sW w U gT [mu,i6,.blk ae 63 B7,.blk ab 61 B6,B0,a0,inn 3 1 KL.encI au aV,aX,aT,aS,inn 3 1 KL.encI ar ak,aU,aR,aW,bg,i7,i8] jj:=BY
 have Ca:sW w U gT [bg,mu,i6,.blk ae 63 B7,.blk ab 61 B6,B0,a0,inn 3 1 KL.encI au aV,aX,aT,aS,inn 3 1 KL.encI ar ak,aU,aR,aW,i7,i8] jj:=BZ.pick [14,0,1,2,3,4,5,6,7,8,9,10,11,12,13,15,16] _ (by decide) rfl
 have Cb:=Ca.innOne
 have Cc:sW w U gT [inn 3 1 KL.encI [(⟨ap,aa.length,aq⟩:Hd)] [aa],.row (some ⟨ju,0,none⟩) 1 23 1 (hH wAO [(⟨ap,aa.length,aq⟩:Hd)]),i6,.blk ae 63 B7,.blk ab 61 B6,B0,a0,inn 3 1 KL.encI au aV,aX,aT,aS,inn 3 1 KL.encI ar ak,aU,aR,aW,i7,i8] jj:=Cb
 exact Gp _ _ ⟨gT,eA,fy,eC,fz,eD,fA,(some ⟨ju,0,none⟩),1,wk,wl,wn,wo,wp,pD,wq,wt,wu,wv,ww,wx,wy,wz,wA,rfl,rfl,Gy,(Cc.pick [2,3,4,5,6,7,8,9,10,11,12,13,14,15,16,1,0] _ (by decide) rfl),yr⟩
 refine zi (s:=gBr) (M:=fun σ_ w_=>∃ (U_:PHeap) (eE:Option Addr) (fB:Nat) (eF:Option Addr) (fC:Nat),σ_ 7=.pointer (some ⟨ab,0,none⟩)/\σ_ 8=.pointer (some ⟨ae,0,none⟩)/\σ_ 9=.pointer (some ⟨az,0,none⟩)/\σ_ 11=jV x93/\σ_ 13=jV av/\σ_ 15=.pointer (some ⟨aZ,0,none⟩)/\σ_ 16=.pointer (some ⟨bb,0,none⟩)/\σ_ 17=.pointer (some ⟨bp,0,none⟩)/\σ_ 115=.pointer (some ⟨aZ,0,none⟩)/\σ_ 116=.slice bE bB.length bI/\σ_ 117=.pointer (some ⟨az,0,none⟩)/\σ_ 118=jV aY/\σ_ 121=.pointer (some ⟨aZ,1,none⟩)/\σ_ 122=.slice bm aV.length bn/\σ_ 124=.slice eF ([aa].length) fC/\PHeap.Le bf U_/\sW w U U_ [.blk az 81 [.slice eE am.bytes.length fB,jV am.next,.int .u32 am.state],.blk ae 63 B7,.blk ab 61 B6,B0,ba,a0,inn 3 1 KL.encI au aV,aX,aT,aS,inn 3 1 KL.encI ar ak,aU,aR,aW,.row eF fC 23 1 (hH wAO [(⟨ap,aa.length,aq⟩:Hd)]),inn 3 1 KL.encI [(⟨ap,aa.length,aq⟩:Hd)] [aa]] w_/\Sl U_ 1 eE fB am.bytes.length (hH KL.encB8 am.bytes)) ?_ fun lv=>?_
 rintro Kf H4 ⟨mR,eE,fB,eF,fC,wC,wD,wE,wG,wH,wI,wJ,wK,wL,wM,wN,pE,wO,wP,wQ,Gz,Ce,yt⟩
 refine zM (pv:=[(0,jV aY)]) (zs:=[jV 0]) (cs:=[jV aY]) Z Z Z Z Z (wAH pE wAR) zB zI zn Z Z Z Z Z Ce ?_
 intro tp oz Cf
 have Cg:sW w U mR [.row (some ⟨oz,0,none⟩) 1 3 1 (hH KL.encI [aY]),.blk az 81 [.slice eE am.bytes.length fB,jV am.next,.int .u32 am.state],.blk ae 63 B7,.blk ab 61 B6,B0,ba,a0,inn 3 1 KL.encI au aV,aX,aT,aS,inn 3 1 KL.encI ar ak,aU,aR,aW,.row eF fC 23 1 (hH wAO [(⟨ap,aa.length,aq⟩:Hd)]),inn 3 1 KL.encI [(⟨ap,aa.length,aq⟩:Hd)] [aa]] tp:=Cf
 exact lu _ _ ⟨mR,eE,fB,(some ⟨oz,0,none⟩),1,eF,fC,wC,wD,wE,wG,wH,wI,wJ,wK,wL,wM,wN,pE,rfl,wO,wP,wQ,Gz,(Cg.pick [1,2,3,4,5,6,7,8,9,10,11,12,13,14,0,15,16] _ (by decide) rfl),yt⟩
 refine zi (s:=gBt) (M:=fun σ_ w_=>∃ (U_:PHeap) (dE:Option Addr) (dN:Nat) (dF:Option Addr) (dO:Nat) (dG:Option Addr) (dP:Nat),σ_ 7=.pointer (some ⟨ab,0,none⟩)/\σ_ 8=.pointer (some ⟨ae,0,none⟩)/\σ_ 9=.pointer (some ⟨az,0,none⟩)/\σ_ 11=jV x93/\σ_ 13=jV av/\σ_ 15=.pointer (some ⟨aZ,0,none⟩)/\σ_ 16=.pointer (some ⟨bb,0,none⟩)/\σ_ 17=.pointer (some ⟨bp,0,none⟩)/\σ_ 115=.pointer (some ⟨aZ,0,none⟩)/\σ_ 116=.slice bE bB.length bI/\σ_ 117=.pointer (some ⟨az,0,none⟩)/\σ_ 118=jV aY/\σ_ 119=.slice dF ([aY].length) dO/\σ_ 121=.pointer (some ⟨aZ,1,none⟩)/\σ_ 124=.slice dG ([aa].length) dP/\PHeap.Le bf U_/\sW w U U_ [.blk az 81 [.slice dE am.bytes.length dN,jV am.next,.int .u32 am.state],.blk ae 63 B7,.blk ab 61 B6,B0,ba,a0,inn 3 1 KL.encI au aV,aX,aT,aS,inn 3 1 KL.encI ar ak,aU,aR,aW,.row dF dO 3 1 (hH KL.encI [aY]),.row dG dP 23 1 (hH wAO [(⟨ap,aa.length,aq⟩:Hd)]),inn 3 1 KL.encI [(⟨ap,aa.length,aq⟩:Hd)] [aa]] w_/\Sl U_ 1 dE dN am.bytes.length (hH KL.encB8 am.bytes)) ?_ fun sh=>?_
 rintro Kg H5 ⟨je,dE,dN,dF,dO,dG,dP,pF,pG,pH,pI,pJ,pK,pL,pM,pN,pO,pP,pQ,jM,jN,pR,so,iE,qT⟩
 refine zm ?_ ?_
 refine zu (j:=4) (enc:=KL.encI) (xs:=bB) (ys:=[aY]) (zs:=be) rfl rfl rfl rfl rfl zk wDX rfl rfl rfl rfl rfl rfl iE rfl pO jM (iE.srcR (j:=14) rfl (by decide) (wAJ (f:=KL.encI) (sz:=1) (fun _=>rfl) [aY])) (fun _=>rfl) (fun _=>rfl) iz rfl ?_
 intro lY oX tq Ch
 have Ci:sW w U je [.blk az 81 [.slice dE am.bytes.length dN,jV am.next,.int .u32 am.state],.blk ae 63 B7,.blk ab 61 B6,B0,.row lY oX 3 1 (hH KL.encI be),a0,inn 3 1 KL.encI au aV,aX,aT,aS,inn 3 1 KL.encI ar ak,aU,aR,aW,.row dF dO 3 1 (hH KL.encI [aY]),.row dG dP 23 1 (hH wAO [(⟨ap,aa.length,aq⟩:Hd)]),inn 3 1 KL.encI [(⟨ap,aa.length,aq⟩:Hd)] [aa]] tq:=Ch
 exact sf _ _ ⟨je,dE,dN,dF,dO,lY,oX,dG,dP,pF,pG,pH,pI,pJ,pK,pL,pM,pN,pP,pQ,jM,rfl,jN,pR,so,(Ci.pick [0,1,2,3,5,6,7,8,9,10,11,12,13,14,4,15,16] _ (by decide) rfl),qT⟩
 exact ZJ Z Z Z Z (iE.ldB (j:=7) Z Z jN zl (v:=.slice bm aV.length bn) Z) (lu _ _ ⟨je,dE,dN,dF,dO,dG,dP,pF,pG,pH,pI,pJ,pK,pL,pM,pN,pO,pP,pQ,jM,jN,Z,pR,so,iE,qT⟩)
 refine zi (s:=gBs) (M:=fun σ_ w_=>∃ (U_:PHeap) (db:Option Addr) (dt:Nat) (de:Option Addr) (du:Nat),σ_ 7=.pointer (some ⟨ab,0,none⟩)/\σ_ 8=.pointer (some ⟨ae,0,none⟩)/\σ_ 9=.pointer (some ⟨az,0,none⟩)/\σ_ 11=jV x93/\σ_ 13=jV av/\σ_ 15=.pointer (some ⟨aZ,0,none⟩)/\σ_ 16=.pointer (some ⟨bb,0,none⟩)/\σ_ 17=.pointer (some ⟨bp,0,none⟩)/\σ_ 18=.slice ap aa.length aq/\σ_ 115=.pointer (some ⟨aZ,0,none⟩)/\σ_ 116=.slice bE bB.length bI/\σ_ 117=.pointer (some ⟨az,0,none⟩)/\σ_ 118=jV aY/\σ_ 119=.slice de ([aY].length) du/\σ_ 121=.pointer (some ⟨aZ,1,none⟩)/\σ_ 122=.slice bm aV.length bn/\σ_ 123=.slice ap aa.length aq/\PHeap.Le bf U_/\sW w U U_ [.blk az 81 [.slice db am.bytes.length dt,jV am.next,.int .u32 am.state],.blk ae 63 B7,.blk ab 61 B6,B0,ba,a0,inn 3 1 KL.encI au aV,aX,aT,aS,inn 3 1 KL.encI ar ak,aU,aR,aW,bg,.row de du 3 1 (hH KL.encI [aY])] w_/\Sl U_ 1 db dt am.bytes.length (hH KL.encB8 am.bytes)) ?_ fun sj=>?_
 rintro Kh H6 ⟨dK,db,dt,de,du,pS,pT,pU,pV,pW,pX,pY,pZ,wR,p6,p7,p8,p9,jO,qa,qb,qc,sq,j4,qU⟩
 refine zm ?_ ?_
 refine zu (j:=4) (enc:=KL.encI) (xs:=bB) (ys:=[aY]) (zs:=be) rfl rfl rfl rfl rfl zk wDX rfl rfl rfl rfl rfl rfl j4 rfl p7 jO (j4.srcR (j:=15) rfl (by decide) (wAJ (f:=KL.encI) (sz:=1) (fun _=>rfl) [aY])) (fun _=>rfl) (fun _=>rfl) iz rfl ?_
 intro lZ oY tr Cj
 have Ck:sW w U dK [.blk az 81 [.slice db am.bytes.length dt,jV am.next,.int .u32 am.state],.blk ae 63 B7,.blk ab 61 B6,B0,.row lZ oY 3 1 (hH KL.encI be),a0,inn 3 1 KL.encI au aV,aX,aT,aS,inn 3 1 KL.encI ar ak,aU,aR,aW,bg,.row de du 3 1 (hH KL.encI [aY])] tr:=Cj
 exact sg _ _ ⟨dK,db,dt,de,du,lZ,oY,pS,pT,pU,pV,pW,pX,pY,pZ,wR,p6,p8,p9,jO,rfl,qa,qb,qc,sq,(Ck.pick [0,1,2,3,5,6,7,8,9,10,11,12,13,14,15,4] _ (by decide) rfl),qU⟩
 let mw:List Value:=[.slice ap aa.length aq]
 refine zM (pv:=[(0,.slice ap aa.length aq)]) (zs:=[.slice none 0 0]) (cs:=mw) Z Z Z Z Z (wAH qc wAR) zL zD zg Z Z Z Z Z j4 ?_
 intro jk jv Cm
 let i9:Res:=.blk az 81 [.slice db am.bytes.length dt,jV am.next,.int .u32 am.state]
 let ja:Res:=.row de du 3 1 (hH KL.encI [aY])
 let my:Res:=.row (some ⟨jv,0,none⟩) 1 23 1 mw
 have Cn:sW w U dK [my,i9,.blk ae 63 B7,.blk ab 61 B6,B0,ba,a0,inn 3 1 KL.encI au aV,aX,aT,aS,inn 3 1 KL.encI ar ak,aU,aR,aW,bg,ja] jk:=Cm
 have Co:sW w U dK [bg,my,i9,.blk ae 63 B7,.blk ab 61 B6,B0,ba,a0,inn 3 1 KL.encI au aV,aX,aT,aS,inn 3 1 KL.encI ar ak,aU,aR,aW,ja] jk:=Cn.pick [15,0,1,2,3,4,5,6,7,8,9,10,11,12,13,14,16] _ (by decide) rfl
 have Cp:=Co.innOne
 have Cq:sW w U dK [inn 3 1 KL.encI [(⟨ap,aa.length,aq⟩:Hd)] [aa],.row (some ⟨jv,0,none⟩) 1 23 1 (hH wAO [(⟨ap,aa.length,aq⟩:Hd)]),i9,.blk ae 63 B7,.blk ab 61 B6,B0,ba,a0,inn 3 1 KL.encI au aV,aX,aT,aS,inn 3 1 KL.encI ar ak,aU,aR,aW,ja] jk:=Cp
 exact lu _ _ ⟨dK,db,dt,de,du,(some ⟨jv,0,none⟩),1,pS,pT,pU,pV,pW,pX,pY,pZ,p6,p7,p8,p9,jO,qa,qb,rfl,sq,(Cq.pick [2,3,4,5,6,7,8,9,10,11,12,13,14,15,16,1,0] _ (by decide) rfl),qU⟩
 let cE:Res:=.blk az 81 [.slice eH ge.length fH,jV gf,.int .u32 gg]
 refine zi (s:=gBu) (M:=fun σ_ w_=>∃ (U_:PHeap) (eG:Option Addr) (fD:Nat),σ_ 7=.pointer (some ⟨ab,0,none⟩)/\σ_ 8=.pointer (some ⟨ae,0,none⟩)/\σ_ 9=.pointer (some ⟨az,0,none⟩)/\σ_ 11=jV x93/\σ_ 13=jV av/\σ_ 15=.pointer (some ⟨aZ,0,none⟩)/\σ_ 16=.pointer (some ⟨bb,0,none⟩)/\σ_ 17=.pointer (some ⟨bp,0,none⟩)/\σ_ 115=.pointer (some ⟨aZ,0,none⟩)/\σ_ 116=.slice bE bB.length bI/\σ_ 117=.pointer (some ⟨az,0,none⟩)/\σ_ 121=.pointer (some ⟨aZ,1,none⟩)/\σ_ 122=.slice bm aV.length bn/\σ_ 124=.slice eG ([aa].length) fD/\PHeap.Le bf U_/\sW w U U_ [cE,.blk ae 63 B7,.blk ab 61 B6,B0,ba,a0,inn 3 1 KL.encI au aV,aX,aT,aS,inn 3 1 KL.encI ar ak,aU,aR,aW,.row eG fD 23 1 (hH wAO [(⟨ap,aa.length,aq⟩:Hd)]),inn 3 1 KL.encI [(⟨ap,aa.length,aq⟩:Hd)] [aa]] w_) ?_ fun sk=>?_
 rintro Ki tv ⟨sX,eG,fD,wS,wU,wV,wW,wX,wY,wZ,w5,w6,w7,qd,w8,w9,xa,su,Ct⟩
 have yw:=iw.le su
 refine ZV 1 rfl rfl rfl rfl (zC rfl rfl ZB (zA qd (zA rfl zH)) rfl) Ct (fun hs=>wAG (⟨ge,gf,gg⟩:wAA) az eH fH 2 tv sX hs yw iy) rfl (T:=[az]) rfl ⟨fun b h=>(by cases h;exact .head _),trivial⟩ ?_
 rintro mT Hj Jv tw GB Cu ⟨l3,o0,rfl,rfl,yz⟩
 have Cv:sW w U mT [.blk az 81 [.slice l3 am.bytes.length o0,jV am.next,.int .u32 am.state],.blk ae 63 B7,.blk ab 61 B6,B0,ba,a0,inn 3 1 KL.encI au aV,aX,aT,aS,inn 3 1 KL.encI ar ak,aU,aR,aW,.row eG fD 23 1 (hH wAO [(⟨ap,aa.length,aq⟩:Hd)]),inn 3 1 KL.encI [(⟨ap,aa.length,aq⟩:Hd)] [aa]] tw:=Cu
 exact lv _ _ ⟨mT,l3,o0,eG,fD,wS,wU,wV,wW,wX,wY,wZ,w5,w6,w7,qd,Z,w8,w9,xa,(su.trans GB),Cv,yz⟩
 refine zi (s:=gBw) (M:=fun σ_ w_=>∃ (U_:PHeap) (dH:Option Addr) (dQ:Nat) (dI:Option Addr) (dR:Nat),σ_ 7=.pointer (some ⟨ab,0,none⟩)/\σ_ 8=.pointer (some ⟨ae,0,none⟩)/\σ_ 9=.pointer (some ⟨az,0,none⟩)/\σ_ 11=jV x93/\σ_ 13=jV av/\σ_ 15=.pointer (some ⟨aZ,0,none⟩)/\σ_ 16=.pointer (some ⟨bb,0,none⟩)/\σ_ 17=.pointer (some ⟨bp,0,none⟩)/\σ_ 115=.pointer (some ⟨aZ,0,none⟩)/\σ_ 116=.slice bE bB.length bI/\σ_ 117=.pointer (some ⟨az,0,none⟩)/\σ_ 118=jV aY/\σ_ 121=.pointer (some ⟨aZ,1,none⟩)/\σ_ 124=.slice dI ([aa].length) dR/\PHeap.Le bf U_/\sW w U U_ [.blk az 81 [.slice dH am.bytes.length dQ,jV am.next,.int .u32 am.state],.blk ae 63 B7,.blk ab 61 B6,B0,ba,a0,inn 3 1 KL.encI au aV,aX,aT,aS,inn 3 1 KL.encI ar ak,aU,aR,aW,.row dI dR 23 1 (hH wAO [(⟨ap,aa.length,aq⟩:Hd)]),inn 3 1 KL.encI [(⟨ap,aa.length,aq⟩:Hd)] [aa]] w_/\Sl U_ 1 dH dQ am.bytes.length (hH KL.encB8 am.bytes)) ?_ fun sm=>?_
 rintro Kj H7 ⟨jf,dH,dQ,dI,dR,qe,qf,qg,qh,qi,qj,qk,ql,qm,qn,qo,jP,jQ,qp,sv,j5,qV⟩
 refine zm ?_ ?_
 refine zM (pv:=[(0,jV aY)]) (zs:=[jV 0]) (cs:=[jV aY]) Z Z Z Z Z (wAH jP wAR) zB zI zn Z Z Z Z Z j5 ?_
 intro tz oB Cw
 have Cx:sW w U jf [.row (some ⟨oB,0,none⟩) 1 3 1 (hH KL.encI [aY]),.blk az 81 [.slice dH am.bytes.length dQ,jV am.next,.int .u32 am.state],.blk ae 63 B7,.blk ab 61 B6,B0,ba,a0,inn 3 1 KL.encI au aV,aX,aT,aS,inn 3 1 KL.encI ar ak,aU,aR,aW,.row dI dR 23 1 (hH wAO [(⟨ap,aa.length,aq⟩:Hd)]),inn 3 1 KL.encI [(⟨ap,aa.length,aq⟩:Hd)] [aa]] tz:=Cw
 exact sh _ _ ⟨jf,dH,dQ,(some ⟨oB,0,none⟩),1,dI,dR,qe,qf,qg,qh,qi,qj,qk,ql,qm,qn,qo,jP,rfl,jQ,qp,sv,(Cx.pick [1,2,3,4,5,6,7,8,9,10,11,12,13,14,0,15,16] _ (by decide) rfl),qV⟩
 exact ZJ Z Z Z Z (j5.ldB (j:=7) Z Z jQ zl (v:=.slice bm aV.length bn) Z) (lv _ _ ⟨jf,dH,dQ,dI,dR,qe,qf,qg,qh,qi,qj,qk,ql,qm,qn,qo,jP,jQ,Z,qp,sv,j5,qV⟩)
 refine zi (s:=gBv) (M:=fun σ_ w_=>∃ (U_:PHeap) (df:Option Addr) (dv:Nat),σ_ 7=.pointer (some ⟨ab,0,none⟩)/\σ_ 8=.pointer (some ⟨ae,0,none⟩)/\σ_ 9=.pointer (some ⟨az,0,none⟩)/\σ_ 11=jV x93/\σ_ 13=jV av/\σ_ 15=.pointer (some ⟨aZ,0,none⟩)/\σ_ 16=.pointer (some ⟨bb,0,none⟩)/\σ_ 17=.pointer (some ⟨bp,0,none⟩)/\σ_ 18=.slice ap aa.length aq/\σ_ 115=.pointer (some ⟨aZ,0,none⟩)/\σ_ 116=.slice bE bB.length bI/\σ_ 117=.pointer (some ⟨az,0,none⟩)/\σ_ 118=jV aY/\σ_ 121=.pointer (some ⟨aZ,1,none⟩)/\σ_ 122=.slice bm aV.length bn/\σ_ 123=.slice ap aa.length aq/\PHeap.Le bf U_/\sW w U U_ [.blk az 81 [.slice df am.bytes.length dv,jV am.next,.int .u32 am.state],.blk ae 63 B7,.blk ab 61 B6,B0,ba,a0,inn 3 1 KL.encI au aV,aX,aT,aS,inn 3 1 KL.encI ar ak,aU,aR,aW,bg] w_/\Sl U_ 1 df dv am.bytes.length (hH KL.encB8 am.bytes)) ?_ fun sn=>?_
 rintro Kk H8 ⟨dL,df,dv,qq,qr,qt,qu,qv,qw,qx,qy,xb,qz,qA,qB,jR,qC,qD,qE,sw,ry,qW⟩
 refine zm ?_ ?_
 refine zM (pv:=[(0,jV aY)]) (zs:=[jV 0]) (cs:=[jV aY]) Z Z Z Z Z (wAH jR wAR) zB zI zn Z Z Z Z Z ry ?_
 intro tA oG Cy
 have Cz:sW w U dL [.row (some ⟨oG,0,none⟩) 1 3 1 (hH KL.encI [aY]),.blk az 81 [.slice df am.bytes.length dv,jV am.next,.int .u32 am.state],.blk ae 63 B7,.blk ab 61 B6,B0,ba,a0,inn 3 1 KL.encI au aV,aX,aT,aS,inn 3 1 KL.encI ar ak,aU,aR,aW,bg] tA:=Cy
 exact sj _ _ ⟨dL,df,dv,(some ⟨oG,0,none⟩),1,qq,qr,qt,qu,qv,qw,qx,qy,xb,qz,qA,qB,jR,rfl,qC,qD,qE,sw,(Cz.pick [1,2,3,4,5,6,7,8,9,10,11,12,13,14,15,0] _ (by decide) rfl),qW⟩
 let mz:List Value:=[.slice ap aa.length aq]
 refine zM (pv:=[(0,.slice ap aa.length aq)]) (zs:=[.slice none 0 0]) (cs:=mz) Z Z Z Z Z (wAH qE wAR) zL zD zg Z Z Z Z Z ry ?_
 intro jl jw CB
 let jb:Res:=.blk az 81 [.slice df am.bytes.length dv,jV am.next,.int .u32 am.state]
 let mA:Res:=.row (some ⟨jw,0,none⟩) 1 23 1 mz
 have CD:sW w U dL [mA,jb,.blk ae 63 B7,.blk ab 61 B6,B0,ba,a0,inn 3 1 KL.encI au aV,aX,aT,aS,inn 3 1 KL.encI ar ak,aU,aR,aW,bg] jl:=CB
 have CE:sW w U dL [bg,mA,jb,.blk ae 63 B7,.blk ab 61 B6,B0,ba,a0,inn 3 1 KL.encI au aV,aX,aT,aS,inn 3 1 KL.encI ar ak,aU,aR,aW] jl:=CD.pick [15,0,1,2,3,4,5,6,7,8,9,10,11,12,13,14] _ (by decide) rfl
 have CF:=CE.innOne
 have CG:sW w U dL [inn 3 1 KL.encI [(⟨ap,aa.length,aq⟩:Hd)] [aa],.row (some ⟨jw,0,none⟩) 1 23 1 (hH wAO [(⟨ap,aa.length,aq⟩:Hd)]),jb,.blk ae 63 B7,.blk ab 61 B6,B0,ba,a0,inn 3 1 KL.encI au aV,aX,aT,aS,inn 3 1 KL.encI ar ak,aU,aR,aW] jl:=CF
 exact lv _ _ ⟨dL,df,dv,(some ⟨jw,0,none⟩),1,qq,qr,qt,qu,qv,qw,qx,qy,qz,qA,qB,jR,qC,qD,rfl,sw,(CG.pick [2,3,4,5,6,7,8,9,10,11,12,13,14,15,1,0] _ (by decide) rfl),qW⟩
 refine zr rfl rfl rfl rfl (fun _=>zN rfl bL zK rfl zD) (OKS.mt (T:=[az]) [0] [1,2,3,4,5,6,7,8,9,10,11,12,13,14] [.blk ae 63 B7,.blk ab 61 B6,B0,ba,a0,inn 3 1 KL.encI au aV,aX,aT,aS,inn 3 1 KL.encI ar ak,aU,aR,aW,bg] rfl rfl rfl rfl dC rfl ⟨⟨0,by decide,_,rfl,rfl⟩,trivial⟩ (by decide) rfl (by decide) (fun _ EL=>(EL.ldB (j:=6) rfl rfl rfl zd (v:=.slice bE bB.length bI) rfl)) rfl (zf rfl rfl rfl rfl rfl bS (zr rfl rfl rfl rfl (fun _=>zN rfl bL zK rfl ZK) (zf rfl rfl rfl rfl rfl fJ (zm ?_ ?_)))))
 refine ZV 1 rfl rfl rfl rfl (zC rfl rfl ZB (zA rfl (zA rfl zH)) rfl) dC (fun hs=>wAG (⟨ge,gf,gg⟩:wAA) az eH fH 2 oy bf hs iw iy) rfl (T:=[az]) rfl ⟨fun b h=>(by cases h;exact .head _),trivial⟩ ?_
 rintro bu Hk Jw tB dW CI ⟨dg,dw,rfl,rfl,dS⟩
 let bJ:Res:=.blk az 81 [.slice dg am.bytes.length dw,jV am.next,.int .u32 am.state]
 have iF:sW w U bu [bJ,.blk ae 63 B7,.blk ab 61 B6,B0,ba,a0,inn 3 1 KL.encI au aV,aX,aT,aS,inn 3 1 KL.encI ar ak,aU,aR,aW,bg] tB:=CI
 refine zm ?_ ?_
 refine zM (pv:=[(0,jV aY)]) (zs:=[jV 0]) (cs:=[jV aY]) Z Z Z Z Z (wAH Z wAR) zB zI zn Z Z Z Z Z iF ?_
 intro tC eU CJ
 let cG:Res:=.row (some ⟨eU,0,none⟩) 1 3 1 (hH KL.encI [aY])
 have fL:sW w U bu [cG,bJ,.blk ae 63 B7,.blk ab 61 B6,B0,ba,a0,inn 3 1 KL.encI au aV,aX,aT,aS,inn 3 1 KL.encI ar ak,aU,aR,aW,bg] tC:=CJ
 refine zm ?_ ?_
 refine zu (j:=5) (enc:=KL.encI) (xs:=bB) (ys:=[aY]) (zs:=be) rfl rfl rfl rfl rfl zk wDX rfl rfl rfl rfl rfl rfl fL rfl rfl rfl (fL.srcR (j:=0) rfl (by decide) (wAJ (f:=KL.encI) (sz:=1) (fun _=>rfl) [aY])) (fun _=>rfl) (fun _=>rfl) iz rfl ?_
 intro iQ jD tD CL
 let gN:Res:=.row iQ jD 3 1 (hH KL.encI be)
 have j6:sW w U bu [cG,bJ,.blk ae 63 B7,.blk ab 61 B6,B0,gN,a0,inn 3 1 KL.encI au aV,aX,aT,aS,inn 3 1 KL.encI ar ak,aU,aR,aW,bg] tD:=CL
 refine zm ?_ ?_
 exact ZJ rfl rfl rfl rfl (j6.ldB (j:=8) rfl rfl rfl zl (v:=.slice bm aV.length bn) rfl) (sg _ _ ⟨bu,dg,dw,(some ⟨eU,0,none⟩),1,iQ,jD,bX,bY,bS,bZ,b5,bL,b8,b9,fJ,rfl,rfl,rfl,rfl,rfl,rfl,rfl,rfl,dW,(j6.pick [1,2,3,4,6,7,8,9,10,11,12,13,14,15,0,5] _ (by decide) rfl),dS⟩)
 let mB:List Value:=[.slice ap aa.length aq]
 refine zM (pv:=[(0,.slice ap aa.length aq)]) (zs:=[.slice none 0 0]) (cs:=mB) Z Z Z Z Z (wAH Z wAR) zL zD zg Z Z Z Z Z j6 ?_
 intro jm jx CM
 let mC:Res:=.row (some ⟨jx,0,none⟩) 1 23 1 mB
 have CN:sW w U bu [mC,cG,bJ,.blk ae 63 B7,.blk ab 61 B6,B0,gN,a0,inn 3 1 KL.encI au aV,aX,aT,aS,inn 3 1 KL.encI ar ak,aU,aR,aW,bg] jm:=CM
 have CO:sW w U bu [bg,mC,cG,bJ,.blk ae 63 B7,.blk ab 61 B6,B0,gN,a0,inn 3 1 KL.encI au aV,aX,aT,aS,inn 3 1 KL.encI ar ak,aU,aR,aW] jm:=CN.pick [16,0,1,2,3,4,5,6,7,8,9,10,11,12,13,14,15] _ (by decide) rfl
 have CP:=CO.innOne
 have CQ:sW w U bu [inn 3 1 KL.encI [(⟨ap,aa.length,aq⟩:Hd)] [aa],.row (some ⟨jx,0,none⟩) 1 23 1 (hH wAO [(⟨ap,aa.length,aq⟩:Hd)]),cG,bJ,.blk ae 63 B7,.blk ab 61 B6,B0,gN,a0,inn 3 1 KL.encI au aV,aX,aT,aS,inn 3 1 KL.encI ar ak,aU,aR,aW] jm:=CP
 exact sf _ _ ⟨bu,dg,dw,(some ⟨eU,0,none⟩),1,iQ,jD,(some ⟨jx,0,none⟩),1,bX,bY,bS,bZ,b5,bL,b8,b9,rfl,rfl,rfl,rfl,rfl,rfl,rfl,dW,(CQ.pick [3,4,5,6,8,9,10,11,12,13,14,15,16,2,7,1,0] _ (by decide) rfl),dS⟩
 refine zm ?_ ?_
 exact ZJ rfl rfl rfl rfl (fL.ldB (j:=8) rfl rfl rfl zl (v:=.slice bm aV.length bn) rfl) (sj _ _ ⟨bu,dg,dw,(some ⟨eU,0,none⟩),1,bX,bY,bS,bZ,b5,bL,b8,b9,fJ,rfl,rfl,rfl,rfl,rfl,rfl,rfl,rfl,dW,(fL.pick [1,2,3,4,5,6,7,8,9,10,11,12,13,14,15,0] _ (by decide) rfl),dS⟩)
 let mD:List Value:=[.slice ap aa.length aq]
 refine zM (pv:=[(0,.slice ap aa.length aq)]) (zs:=[.slice none 0 0]) (cs:=mD) Z Z Z Z Z (wAH Z wAR) zL zD zg Z Z Z Z Z fL ?_
 intro jo jy CR
 let mE:Res:=.row (some ⟨jy,0,none⟩) 1 23 1 mD
 have CT:sW w U bu [mE,cG,bJ,.blk ae 63 B7,.blk ab 61 B6,B0,ba,a0,inn 3 1 KL.encI au aV,aX,aT,aS,inn 3 1 KL.encI ar ak,aU,aR,aW,bg] jo:=CR
 have CU:sW w U bu [bg,mE,cG,bJ,.blk ae 63 B7,.blk ab 61 B6,B0,ba,a0,inn 3 1 KL.encI au aV,aX,aT,aS,inn 3 1 KL.encI ar ak,aU,aR,aW] jo:=CT.pick [16,0,1,2,3,4,5,6,7,8,9,10,11,12,13,14,15] _ (by decide) rfl
 have CV:=CU.innOne
 have CW:sW w U bu [inn 3 1 KL.encI [(⟨ap,aa.length,aq⟩:Hd)] [aa],.row (some ⟨jy,0,none⟩) 1 23 1 (hH wAO [(⟨ap,aa.length,aq⟩:Hd)]),cG,bJ,.blk ae 63 B7,.blk ab 61 B6,B0,ba,a0,inn 3 1 KL.encI au aV,aX,aT,aS,inn 3 1 KL.encI ar ak,aU,aR,aW] jo:=CV
 exact sh _ _ ⟨bu,dg,dw,(some ⟨eU,0,none⟩),1,(some ⟨jy,0,none⟩),1,bX,bY,bS,bZ,b5,bL,b8,b9,rfl,rfl,rfl,rfl,rfl,rfl,rfl,dW,(CW.pick [3,4,5,6,7,8,9,10,11,12,13,14,15,16,2,1,0] _ (by decide) rfl),dS⟩
 refine zm ?_ ?_
 exact ZJ Z Z Z Z (iF.ldB (j:=7) Z Z Z zl (v:=.slice bm aV.length bn) Z) (sn _ _ ⟨bu,dg,dw,bX,bY,bS,bZ,b5,bL,b8,b9,fJ,Z,Z,Z,Z,Z,Z,Z,dW,iF,dS⟩)
 let mF:List Value:=[.slice ap aa.length aq]
 refine zM (pv:=[(0,.slice ap aa.length aq)]) (zs:=[.slice none 0 0]) (cs:=mF) Z Z Z Z Z (wAH Z wAR) zL zD zg Z Z Z Z Z iF ?_
 intro jp jz CX
 let mG:Res:=.row (some ⟨jz,0,none⟩) 1 23 1 mF
 have CY:sW w U bu [mG,bJ,.blk ae 63 B7,.blk ab 61 B6,B0,ba,a0,inn 3 1 KL.encI au aV,aX,aT,aS,inn 3 1 KL.encI ar ak,aU,aR,aW,bg] jp:=CX
 have CZ:sW w U bu [bg,mG,bJ,.blk ae 63 B7,.blk ab 61 B6,B0,ba,a0,inn 3 1 KL.encI au aV,aX,aT,aS,inn 3 1 KL.encI ar ak,aU,aR,aW] jp:=CY.pick [15,0,1,2,3,4,5,6,7,8,9,10,11,12,13,14] _ (by decide) rfl
 have C1:=CZ.innOne
 have C2:sW w U bu [inn 3 1 KL.encI [(⟨ap,aa.length,aq⟩:Hd)] [aa],.row (some ⟨jz,0,none⟩) 1 23 1 (hH wAO [(⟨ap,aa.length,aq⟩:Hd)]),bJ,.blk ae 63 B7,.blk ab 61 B6,B0,ba,a0,inn 3 1 KL.encI au aV,aX,aT,aS,inn 3 1 KL.encI ar ak,aU,aR,aW] jp:=C1
 exact sm _ _ ⟨bu,dg,dw,(some ⟨jz,0,none⟩),1,bX,bY,bS,bZ,b5,bL,b8,b9,rfl,rfl,rfl,rfl,rfl,rfl,dW,(C2.pick [2,3,4,5,6,7,8,9,10,11,12,13,14,15,1,0] _ (by decide) rfl),dS⟩
 refine zm ?_ ?_
 refine ZJ Z Z Z Z (dC.ldB (j:=7) Z Z Z zl (v:=.slice bm aV.length bn) Z) (zm ?_ ?_)
 refine ZV 1 rfl rfl rfl rfl (zC rfl rfl ZB (zA rfl (zA rfl zH)) rfl) dC (fun hs=>wAG (⟨ge,gf,gg⟩:wAA) az eH fH 2 oy bf hs iw iy) rfl (T:=[az]) rfl ⟨fun b h=>(by cases h;exact .head _),trivial⟩ ?_
 rintro mW Hm Jy tF GE C4 ⟨l4,o2,rfl,rfl,yB⟩
 have C5:sW w U mW [.blk az 81 [.slice l4 am.bytes.length o2,jV am.next,.int .u32 am.state],.blk ae 63 B7,.blk ab 61 B6,B0,ba,a0,inn 3 1 KL.encI au aV,aX,aT,aS,inn 3 1 KL.encI ar ak,aU,aR,aW,bg] tF:=C4
 exact sn _ _ ⟨mW,l4,o2,bX,bY,bS,bZ,b5,bL,b8,b9,fJ,Z,Z,Z,Z,Z,Z,Z,GE,C5,yB⟩
 let mH:List Value:=[.slice ap aa.length aq]
 refine zM (pv:=[(0,.slice ap aa.length aq)]) (zs:=[.slice none 0 0]) (cs:=mH) Z Z Z Z Z (wAH Z wAR) zL zD zg Z Z Z Z Z dC ?_
 intro jq jA C6
 let mI:Res:=.row (some ⟨jA,0,none⟩) 1 23 1 mH
 have C7:sW w U bf [mI,cE,.blk ae 63 B7,.blk ab 61 B6,B0,ba,a0,inn 3 1 KL.encI au aV,aX,aT,aS,inn 3 1 KL.encI ar ak,aU,aR,aW,bg] jq:=C6
 have C8:sW w U bf [bg,mI,cE,.blk ae 63 B7,.blk ab 61 B6,B0,ba,a0,inn 3 1 KL.encI au aV,aX,aT,aS,inn 3 1 KL.encI ar ak,aU,aR,aW] jq:=C7.pick [15,0,1,2,3,4,5,6,7,8,9,10,11,12,13,14] _ (by decide) rfl
 have C9:=C8.innOne
 have Da:sW w U bf [inn 3 1 KL.encI [(⟨ap,aa.length,aq⟩:Hd)] [aa],.row (some ⟨jA,0,none⟩) 1 23 1 (hH wAO [(⟨ap,aa.length,aq⟩:Hd)]),cE,.blk ae 63 B7,.blk ab 61 B6,B0,ba,a0,inn 3 1 KL.encI au aV,aX,aT,aS,inn 3 1 KL.encI ar ak,aU,aR,aW] jq:=C9
 exact sk _ _ ⟨bf,(some ⟨jA,0,none⟩),1,bX,bY,bS,bZ,b5,bL,b8,b9,rfl,rfl,rfl,rfl,rfl,rfl,(zX _),(Da.pick [2,3,4,5,6,7,8,9,10,11,12,13,14,15,1,0] _ (by decide) rfl)⟩
 let mJ:List Value:=[.slice ap aa.length aq]
 refine zM (pv:=[(0,.slice ap aa.length aq)]) (zs:=[.slice none 0 0]) (cs:=mJ) Z Z Z Z Z (wAH Z wAR) zL zD zg Z Z Z Z Z dC ?_
 intro eR ib Db
 let mK:Res:=.row (some ⟨ib,0,none⟩) 1 23 1 mJ
 have Dc:sW w U bf [mK,cE,.blk ae 63 B7,.blk ab 61 B6,B0,ba,a0,inn 3 1 KL.encI au aV,aX,aT,aS,inn 3 1 KL.encI ar ak,aU,aR,aW,bg] eR:=Db
 have Dd:sW w U bf [bg,mK,cE,.blk ae 63 B7,.blk ab 61 B6,B0,ba,a0,inn 3 1 KL.encI au aV,aX,aT,aS,inn 3 1 KL.encI ar ak,aU,aR,aW] eR:=Dc.pick [15,0,1,2,3,4,5,6,7,8,9,10,11,12,13,14] _ (by decide) rfl
 have De:=Dd.innOne
 let jc:Res:=.row (some ⟨ib,0,none⟩) 1 23 1 (hH wAO [(⟨ap,aa.length,aq⟩:Hd)])
 have j7:sW w U bf [inn 3 1 KL.encI [(⟨ap,aa.length,aq⟩:Hd)] [aa],jc,cE,.blk ae 63 B7,.blk ab 61 B6,B0,ba,a0,inn 3 1 KL.encI au aV,aX,aT,aS,inn 3 1 KL.encI ar ak,aU,aR,aW] eR:=De
 refine zm ?_ ?_
 have Df:sW w U bf [cE,inn 3 1 KL.encI [(⟨ap,aa.length,aq⟩:Hd)] [aa],jc,.blk ae 63 B7,.blk ab 61 B6,B0,ba,a0,inn 3 1 KL.encI au aV,aX,aT,aS,inn 3 1 KL.encI ar ak,aU,aR,aW] eR:=j7.pick [2,0,1,3,4,5,6,7,8,9,10,11,12,13,14,15] _ (by decide) rfl
 refine ZV 1 rfl rfl rfl rfl (zC rfl rfl ZB (zA rfl (zA rfl zH)) rfl) Df (fun hs=>wAG (⟨ge,gf,gg⟩:wAA) az eH fH 2 eR bf hs iw iy) rfl (T:=[az]) rfl ⟨fun b h=>(by cases h;exact .head _),trivial⟩ ?_
 rintro mX Hn Jz tG GF Dg ⟨l5,o3,rfl,rfl,yC⟩
 have Dh:sW w U mX [.blk az 81 [.slice l5 am.bytes.length o3,jV am.next,.int .u32 am.state],inn 3 1 KL.encI [(⟨ap,aa.length,aq⟩:Hd)] [aa],jc,.blk ae 63 B7,.blk ab 61 B6,B0,ba,a0,inn 3 1 KL.encI au aV,aX,aT,aS,inn 3 1 KL.encI ar ak,aU,aR,aW] tG:=Dg
 exact sm _ _ ⟨mX,l5,o3,(some ⟨ib,0,none⟩),1,bX,bY,bS,bZ,b5,bL,b8,b9,rfl,rfl,rfl,rfl,rfl,rfl,GF,(Dh.pick [0,3,4,5,6,7,8,9,10,11,12,13,14,15,2,1] _ (by decide) rfl),yC⟩
 exact ZJ rfl rfl rfl rfl (j7.ldB (j:=9) rfl rfl rfl zl (v:=.slice bm aV.length bn) rfl) (sk _ _ ⟨bf,(some ⟨ib,0,none⟩),1,bX,bY,bS,bZ,b5,bL,b8,b9,rfl,rfl,rfl,rfl,rfl,rfl,(zX _),(j7.pick [2,3,4,5,6,7,8,9,10,11,12,13,14,15,1,0] _ (by decide) rfl)⟩)
 rintro Kl oh ⟨sY,gx,ip,cC,cL,cD,cM,ir,xc,qF,xd,xe,qG,qH,jS,lx,Di,yD⟩
 refine zP (ZT ZQ [3,1004,3,3,1004,3,3,1,3,1005,3,1004,3,1005,3,3,0,az] (fC0_8 (.fl 12 (.fx 9 (.fl 10 (.fl 11 (.fx 13 (.fl 14 (.fl 15 (.fx 16 .nil .stop))) .stop))) .stop))) (by kernel_rfl) ?_)
 have cU:=Di.drew
 generalize hw_W2230:({ oh with drawn:=oh.drawn + 1 }:World)=tH at cU ⊢
 refine oR Z (zN Z qH zK Z ZK) ?_
 let bh:Res:=.blk aZ 63 [.slice cC ct.length cL,.slice cD bq.length cM]
 let bz:Res:=.row cD cM 23 1 (hH wAO (au ++ [(⟨ap,aa.length,aq⟩:Hd)]:List Hd))
 let bU:Res:=.row cC cL 3 1 (hH KL.encI ct)
 refine OKS.mt (T:=[az]) [0] [1,2,3,4,5,6,7,8,9,10,11,12,13] [.blk ae 63 B7,.blk ab 61 B6,B0,bU,bz,inn 3 1 KL.encI (au ++ [(⟨ap,aa.length,aq⟩:Hd)]:List Hd) bq,bh,aT,aS,inn 3 1 KL.encI ar ak,aU,aR,aW] rfl rfl rfl rfl cU rfl ⟨⟨0,by decide,_,rfl,rfl⟩,trivial⟩ (by decide) rfl (by decide) (fun _ EM=>(EM.ldB (j:=10) rfl rfl rfl zl (v:=.slice cz ak.length cI) rfl)) rfl (zf rfl rfl rfl rfl rfl xe (bnK rV fun _ fK Ft=>?_))
 obtain ⟨Ih,rp⟩:=cU.rowSome (j:=9) rfl (by rw [wAJ (f:=wAO) (sz:=1) (fun _=>rfl),(cU.innFit (j:=10) rfl).len];have hz:=wDF fK;omega)
 refine oR Z (Runs.iaI Z Z rp Z zL zD (wFD fK) (wFE fK)) ?_
 have rF:=cU.innFit (j:=10) rfl
 have EV:=wCR (xs:=ar) (k:=av.toNat) (by rw [rF.len];exact (wDF fK))
 refine OKS.mt (T:=[az]) [0] [1,2,3,4,5,6,7,8,9,10,11,12,13] [.blk ae 63 B7,.blk ab 61 B6,B0,bU,bz,inn 3 1 KL.encI (au ++ [(⟨ap,aa.length,aq⟩:Hd)]:List Hd) bq,bh,aT,aS,inn 3 1 KL.encI ar ak,aU,aR,aW] rfl rfl rfl rfl cU rfl ⟨⟨0,by decide,_,rfl,rfl⟩,trivial⟩ (by decide) rfl (by decide) (fun _ EN=>(EN.ldR (j:=8) rfl rp rfl rfl zd (wCU (sz:=1) (fun _=>rfl) _ _ 0 _ EV (by first | omega | rfl | simp) rfl))) rfl (zf rfl rfl rfl rfl rfl qF (zr rfl rfl rfl rfl (fun _=>zN rfl ir zQ rfl zD) (OKS.m rfl rfl rfl rfl (cU.ldB (j:=2) rfl rfl rfl zd (v:=.slice bN x16.Classes.length bR) rfl) rfl (zr rfl rfl rfl rfl (fun _=>zw rfl rfl zB) (zf rfl rfl rfl rfl rfl qF ?_)))))
 have q:=bnd Ft
 obtain ⟨⟨bo,iO⟩,yF,rK⟩:=q
 try dsimp only at rK
 refine ZV 1 rfl rfl rfl rfl (zC rfl rfl ZB (zA rfl (zA rfl zH)) rfl) cU (fun hs=>wAG (⟨iH,sM,sN⟩:wAA) az gx ip (↑x16.Classes.length:Int) tH sY hs yD yF) rfl (T:=[az]) rfl ⟨fun b h=>(by cases h;exact .head _),trivial⟩ ?_
 rintro eO Hp JA eS ly Dl ⟨l6,o4,rfl,rfl,yG⟩
 let gO:Res:=.blk az 81 [.slice l6 iO.bytes.length o4,jV iO.next,.int .u32 iO.state]
 have rA:sW w U eO [gO,.blk ae 63 B7,.blk ab 61 B6,B0,bU,bz,inn 3 1 KL.encI (au ++ [(⟨ap,aa.length,aq⟩:Hd)]:List Hd) bq,bh,aT,aS,inn 3 1 KL.encI ar ak,aU,aR,aW] eS:=Dl
 have ln:=rA.innFit (j:=10) rfl
 have lp:av.toNat < ak.length:=Nat.lt_of_lt_of_eq (wDF fK) (rF.len.symm.trans ln.len)
 have Dm:sW w U eO [inn 3 1 KL.encI ar ak,gO,.blk ae 63 B7,.blk ab 61 B6,B0,bU,bz,inn 3 1 KL.encI (au ++ [(⟨ap,aa.length,aq⟩:Hd)]:List Hd) bq,bh,aT,aS,aU,aR,aW] eS:=rA.pick [10,0,1,2,3,4,5,6,7,8,9,11,12,13] _ (by decide) rfl
 have Dn:=Dm.innTake (k:=av.toNat) lp
 let gP:Res:=.row ((gd ar av.toNat).A) ((gd ar av.toNat).c) 3 1 (hH KL.encI (gd ak av.toNat))
 have j8:sW w U eO [gP,wJo 3 1 KL.encI ar ak av.toNat,gO,.blk ae 63 B7,.blk ab 61 B6,B0,bU,bz,inn 3 1 KL.encI (au ++ [(⟨ap,aa.length,aq⟩:Hd)]:List Hd) bq,bh,aT,aS,aU,aR,aW] eS:=Dn
 refine bnK rK fun _ cR Fv=>?_
 obtain ⟨Ii,iA⟩:=j8.rowSome (j:=0) rfl (by rw [wAJ (f:=KL.encI) (sz:=1) (fun _=>rfl) (gd ak av.toNat)];have hz:=wDF cR;omega)
 refine oR Z (Runs.iaI Z (Eq.trans (b:=(.slice ((gd ar av.toNat).A) ((gd ar av.toNat).n) ((gd ar av.toNat).c):Value)) (c:=(.slice ((gd ar av.toNat).A) ((gd ak av.toNat).length) ((gd ar av.toNat).c):Value)) Z (congrArg (fun n_=>Value.slice ((gd ar av.toNat).A) n_ ((gd ar av.toNat).c)) (ln.at_ (k:=av.toNat) lp))) iA Z zB zI (wFD cR) (wFE cR)) ?_
 have EW:=wCR (xs:=(gd ak av.toNat)) (wDF cR)
 refine OKS.mt (T:=[az]) [2] [0,1,3,4,5,6,7,8,9,10,11,12,13,14] [gP,wJo 3 1 KL.encI ar ak av.toNat,.blk ae 63 B7,.blk ab 61 B6,B0,bU,bz,inn 3 1 KL.encI (au ++ [(⟨ap,aa.length,aq⟩:Hd)]:List Hd) bq,bh,aT,aS,aU,aR,aW] rfl rfl rfl rfl j8 rfl ⟨⟨2,by decide,_,rfl,rfl⟩,trivial⟩ (by decide) rfl (by decide) (fun _ EO=>(EO.ldR (j:=0) rfl iA rfl rfl zj (wCU (sz:=1) (fun _=>rfl) _ _ 0 _ EW (by first | omega | rfl | simp) rfl))) rfl ?_
 have q:=bnd Fv
 obtain ⟨⟨bM,lL⟩,yH,rL⟩:=q
 try dsimp only at rL
 have Do:sW w U eO [gO,gP,wJo 3 1 KL.encI ar ak av.toNat,.blk ae 63 B7,.blk ab 61 B6,B0,bU,bz,inn 3 1 KL.encI (au ++ [(⟨ap,aa.length,aq⟩:Hd)]:List Hd) bq,bh,aT,aS,aU,aR,aW] eS:=j8.pick [2,0,1,3,4,5,6,7,8,9,10,11,12,13,14] _ (by decide) rfl
 refine ZV 1 rfl rfl rfl rfl (zC rfl rfl ZB (zA rfl (zA rfl zH)) rfl) Do (fun hs=>wAG iO az l6 o4 100 eS eO hs yG yH) rfl (T:=[az]) rfl ⟨fun b h=>(by cases h;exact .head _),trivial⟩ ?_
 rintro jg Hr JC tI lz Dp ⟨sO,ug,rfl,rfl,Jh⟩
 let br:Res:=.blk az 81 [.slice sO lL.bytes.length ug,jV lL.next,.int .u32 lL.state]
 have Dq:sW w U jg [br,gP,wJo 3 1 KL.encI ar ak av.toNat,.blk ae 63 B7,.blk ab 61 B6,B0,bU,bz,inn 3 1 KL.encI (au ++ [(⟨ap,aa.length,aq⟩:Hd)]:List Hd) bq,bh,aT,aS,aU,aR,aW] tI:=Dp
 refine oR Z (Runs.subw Z Z Z) (oR Z (Runs.iaI Z (Eq.trans (b:=(.slice ((gd ar av.toNat).A) ((gd ar av.toNat).n) ((gd ar av.toNat).c):Value)) (c:=(.slice ((gd ar av.toNat).A) ((gd ak av.toNat).length) ((gd ar av.toNat).c):Value)) Z (congrArg (fun n_=>Value.slice ((gd ar av.toNat).A) n_ ((gd ar av.toNat).c)) (ln.at_ (k:=av.toNat) lp))) iA Z zB zI (wFD cR) (wFE cR)) ?_)
 have EX:=wCR (xs:=(gd ak av.toNat)) (wDF cR)
 refine OKS.stR (j:=1) (vs:=[jV (w64 ((gd (gd ak av.toNat) bo.toNat) - bM))]) (cs':=hH KL.encI (nB (gd ak av.toNat) bo.toNat (w64 ((gd (gd ak av.toNat) bo.toNat) - bM)))) rfl rfl rfl rfl Dq rfl iA rfl rfl rfl zI (by rw [wAJ (f:=KL.encI) (sz:=1) (fun _=>rfl)];have hz:=wDF cR;show _ + 1 <= _;first | omega | (simp only [Int.toNat_natCast];omega) | (simp only [nI,nG,nH];omega)) rfl (wKA (sz:=1) (fo:=0) (fun _=>rfl) _ _ _ _ EX (by first | omega | (simp only [Int.toNat_natCast];omega) | (simp only [nI,nG,nH];omega)) (zE rfl) rfl) rfl ?_
 intro tK Dr
 let gQ:Res:=.row ((gd ar av.toNat).A) ((gd ar av.toNat).c) 3 1 (hH KL.encI (nB (gd ak av.toNat) bo.toNat (w64 ((gd (gd ak av.toNat) bo.toNat) - bM))))
 have rB:sW w U jg [br,gQ,wJo 3 1 KL.encI ar ak av.toNat,.blk ae 63 B7,.blk ab 61 B6,B0,bU,bz,inn 3 1 KL.encI (au ++ [(⟨ap,aa.length,aq⟩:Hd)]:List Hd) bq,bh,aT,aS,aU,aR,aW] tK:=Dr
 refine eN (sR (wPj (.fx 4 .nil .stop)) Z (oR Z (zN Z jS zQ Z zI) (oL Z (rB.ldB (j:=14) Z Z Z zj (v:=jV dD) Z) (oR Z (zq Z Z Z) (oR Z (zN Z jS zQ Z zI) (ZC (j:=14) (vs:=[jV (w64 (dD + 1))]) Z Z Z Z rB Z Z Z Z zI (zE Z) Z Z Z ?_))))))
 intro cH Ds
 let bv:Res:=.blk bp 61 [.slice cA cr.length cJ,jV (w64 (dD + 1)),jV fW,jV fY,jV fZ,jV gb]
 have j9:sW w U jg [br,gQ,wJo 3 1 KL.encI ar ak av.toNat,.blk ae 63 B7,.blk ab 61 B6,B0,bU,bz,inn 3 1 KL.encI (au ++ [(⟨ap,aa.length,aq⟩:Hd)]:List Hd) bq,bh,aT,aS,aU,aR,bv] cH:=Ds
 refine eN (sR (.fl 0 (.fl 1 (.fx 2 (wMk (.nil)) .stop))) Z (oL Z (j9.ldBA (j:=4) Z Z ir zp zS (vs:=B6) Z Z) ?_))
 let mL:List Value:=[.slice cC ct.length cL,.slice cD bq.length cM]
 refine oL Z (j9.ldBA (j:=9) Z Z qG ZA zZ (vs:=mL) Z Z) ?_
 have q:=j9.freezeR (k:=6) (n:=ct.length) rfl (wAJ (f:=KL.encI) (sz:=1) (fun _=>rfl) ct) (by decide)
 obtain ⟨eP,lA,F6,Dt⟩:=q
 have Du:sW w U eP [br,gQ,wJo 3 1 KL.encI ar ak av.toNat,.blk ae 63 B7,.blk ab 61 B6,B0,bz,inn 3 1 KL.encI (au ++ [(⟨ap,aa.length,aq⟩:Hd)]:List Hd) bq,bh,aT,aS,aU,aR,bv] cH:=Dt
 have Dv:sW w U eP [gQ,wJo 3 1 KL.encI ar ak av.toNat,br,.blk ae 63 B7,.blk ab 61 B6,B0,bz,inn 3 1 KL.encI (au ++ [(⟨ap,aa.length,aq⟩:Hd)]:List Hd) bq,bh,aT,aS,aU,aR,bv] cH:=Du.pick [1,2,0,3,4,5,6,7,8,9,10,11,12,13] _ (by decide) rfl
 have Dw:=Dv.innBack List.length_set
 have Dx:sW w U eP [inn 3 1 KL.encI ar (nB ak av.toNat (nB (gd ak av.toNat) bo.toNat (w64 ((gd (gd ak av.toNat) bo.toNat) - bM)))),br,.blk ae 63 B7,.blk ab 61 B6,B0,bz,inn 3 1 KL.encI (au ++ [(⟨ap,aa.length,aq⟩:Hd)]:List Hd) bq,bh,aT,aS,aU,aR,bv] cH:=Dw
 let bD:List Value:=[.slice dh cV.length dA,.slice cz ((nB ak av.toNat (nB (gd ak av.toNat) bo.toNat (w64 ((gd (gd ak av.toNat) bo.toNat) - bM)))).length) cI]
 have Dy:sW w U eP [inn 3 1 KL.encI ar (nB ak av.toNat (nB (gd ak av.toNat) bo.toNat (w64 ((gd (gd ak av.toNat) bo.toNat) - bM)))),br,.blk ae 63 B7,.blk ab 61 B6,B0,bz,inn 3 1 KL.encI (au ++ [(⟨ap,aa.length,aq⟩:Hd)]:List Hd) bq,bh,aT,aS,.blk bb 63 bD,aR,bv] cH:=by simpa only [B0,aU,aR,aS,aT,B6,bh,bz,B7,br,bv,bD,List.length_set] using Dx
 have Dz:sW w U eP [bz,inn 3 1 KL.encI (au ++ [(⟨ap,aa.length,aq⟩:Hd)]:List Hd) bq,inn 3 1 KL.encI ar (nB ak av.toNat (nB (gd ak av.toNat) bo.toNat (w64 ((gd (gd ak av.toNat) bo.toNat) - bM)))),br,.blk ae 63 B7,.blk ab 61 B6,B0,bh,aT,aS,.blk bb 63 bD,aR,bv] cH:=Dy.pick [5,6,0,1,2,3,4,7,8,9,10,11,12] _ (by decide) rfl
 have q:=St.freezeN (R:=wIT) Dz (fun _ _ _ _ h=>⟨_,_,rfl,h⟩) (fun _=>rfl) (by decide) rfl
 obtain ⟨m0,iL,rZ,DB⟩:=q
 have DC:sW w U m0 [inn 3 1 KL.encI ar (nB ak av.toNat (nB (gd ak av.toNat) bo.toNat (w64 ((gd (gd ak av.toNat) bo.toNat) - bM)))),br,.blk ae 63 B7,.blk ab 61 B6,B0,bh,aT,aS,.blk bb 63 bD,aR,bv] cH:=DB
 have yI:=jW.le cu
 have yJ:=yI.le cw
 have yK:=yJ.le iM
 have yL:=yK.le lD
 have yM:=yL.le lx
 have yN:=yM.le ly
 have yO:=yN.le lz
 have yP:=yO.le lA
 have qY:=yP.le iL
 have qZ:=F6.le iL
 have q:=bnd rL
 obtain ⟨⟨sE,lM,lN⟩,yQ,rM⟩:=q
 try dsimp only at rM
 refine zF 0 Z Z Z Z (zC Z Z Tryz.call16 (zA Z (zA Z zH)) Z) DC (fun hs=>wCa x16 bN bR (⟨ct,bq⟩:wAC) cC cL cD cM cH m0 hs qY qZ rZ yQ) (.inr Z) ?_
 rintro sZ Hs JE eT fQ DE ⟨l7,o5,rfl,rfl⟩
 let ci:Res:=.row l7 o5 3 1 (hH KL.encI sE)
 have k9:sW w U sZ [ci,inn 3 1 KL.encI ar (nB ak av.toNat (nB (gd ak av.toNat) bo.toNat (w64 ((gd (gd ak av.toNat) bo.toNat) - bM)))),br,.blk ae 63 B7,.blk ab 61 B6,B0,bh,aT,aS,.blk bb 63 bD,aR,bv] eT:=DE
 refine oM Z Z (oR Z (zy Z Z (v:=.slice l7 sE.length o5) Z) (oR Z (zy Z Z (v:=jV lM) Z) (oR Z (zy Z Z (v:=jV lN) Z) (oA Z Z (oA Z Z (oA Z Z (eN (sR (.fl 0 (.fl 1 (.fx 2 (wMk (.nil)) .stop))) Z (oL Z (k9.ldBA (j:=4) Z Z ir zp zS (vs:=B6) Z Z) (oL Z (k9.ldBA (j:=9) Z Z qH ZA zZ (vs:=bD) Z Z) ?_))))))))))
 have q:=k9.freezeR (k:=7) (n:=cV.length) rfl (wAJ (f:=KL.encI) (sz:=1) (fun _=>rfl) cV) (by decide)
 obtain ⟨m4,fR,F7,DF⟩:=q
 have DG:sW w U m4 [ci,inn 3 1 KL.encI ar (nB ak av.toNat (nB (gd ak av.toNat) bo.toNat (w64 ((gd (gd ak av.toNat) bo.toNat) - bM)))),br,.blk ae 63 B7,.blk ab 61 B6,B0,bh,aS,.blk bb 63 bD,aR,bv] eT:=DF
 have DH:sW w U m4 [aS,inn 3 1 KL.encI ar (nB ak av.toNat (nB (gd ak av.toNat) bo.toNat (w64 ((gd (gd ak av.toNat) bo.toNat) - bM)))),ci,br,.blk ae 63 B7,.blk ab 61 B6,B0,bh,.blk bb 63 bD,aR,bv] eT:=DG.pick [7,1,0,2,3,4,5,6,8,9,10] _ (by decide) rfl
 have q:=St.freezeN (R:=wIT) DH (fun _ _ _ _ h=>⟨_,_,rfl,h⟩) (fun _=>rfl) (by decide) rfl
 obtain ⟨m5,dX,F8,DI⟩:=q
 have DJ:sW w U m5 [ci,br,.blk ae 63 B7,.blk ab 61 B6,B0,bh,.blk bb 63 bD,aR,bv] eT:=DI
 have yR:=qY.le fQ
 have yS:=yR.le fR
 have rc:=yS.le dX
 have yT:=F7.le dX
 have q:=bnd rM
 obtain ⟨⟨sF,lO,lP⟩,yU,rN⟩:=q
 try dsimp only at rN
 refine zF 0 Z Z Z Z (zC Z Z Tryz.call16 (zA Z (zA Z zH)) Z) DJ (fun hs=>wCa x16 bN bR (⟨cV,(nB ak av.toNat (nB (gd ak av.toNat) bo.toNat (w64 ((gd (gd ak av.toNat) bo.toNat) - bM))))⟩:wAC) dh dA cz cI eT m5 hs rc yT F8 yU) (.inr Z) ?_
 rintro s5 Ht JF jr fS DK ⟨l8,o6,rfl,rfl⟩
 let eJ:Res:=.row l8 o6 3 1 (hH KL.encI sF)
 have lc:sW w U s5 [eJ,ci,br,.blk ae 63 B7,.blk ab 61 B6,B0,bh,.blk bb 63 bD,aR,bv] jr:=DK
 refine oM Z Z (oR Z (zy Z Z (v:=.slice l8 sF.length o6) Z) (oR Z (zy Z Z (v:=jV lO) Z) (oR Z (zy Z Z (v:=jV lP) Z) (oA Z Z (oA Z Z (oA Z Z (eN (zP (CK.fresh fun cx cd=>?_)))))))))
 have xf:cx 7=.pointer (some ⟨ab,0,none⟩):=(cd 7).trans ir
 have qI:cx 8=.pointer (some ⟨ae,0,none⟩):=(cd 8).trans xc
 have xg:cx 11=jV x93:=(cd 11).trans xd
 have xh:cx 12=jV lN:=(cd 12).trans rfl
 have xi:cx 15=.pointer (some ⟨aZ,0,none⟩):=(cd 15).trans qG
 have xj:cx 17=.pointer (some ⟨bp,0,none⟩):=(cd 17).trans jS
 have xk:cx 20=jV lM:=(cd 20).trans rfl
 have xl:cx 22=jV lO:=(cd 22).trans rfl
 have xm:cx 23=jV lP:=(cd 23).trans rfl
 clear cd
 refine rR (.fl 0 (.fl 1 (.fx 2 (wMk (.nil)) .stop))) Z (oL Z (lc.ldBA (j:=9) Z Z xj zp zS (vs:=[.slice cA cr.length cJ,jV (w64 (dD + 1)),jV fW,jV fY,jV fZ,jV gb]) Z Z) (oL Z (lc.ldBA (j:=3) Z Z qI ZA zZ (vs:=B7) Z Z) ?_))
 have q:=lc.freezeR (k:=8) (n:=cr.length) rfl (wAJ (f:=KL.encI) (sz:=1) (fun _=>rfl) cr) (by decide)
 obtain ⟨m6,fT,F9,DL⟩:=q
 have DM:sW w U m6 [eJ,ci,br,.blk ae 63 B7,.blk ab 61 B6,B0,bh,.blk bb 63 bD,bv] jr:=DL
 have yV:=iu.le cu
 have yW:=yV.le cw
 have yX:=yW.le iM
 have yY:=yX.le lD
 have yZ:=yY.le lx
 have y0:=yZ.le ly
 have y4:=y0.le lz
 have y5:=y4.le lA
 have y6:=y5.le iL
 have y7:=y6.le fQ
 have y8:=y7.le fR
 have y9:=y8.le dX
 have z0:=y9.le fS
 have z4:=z0.le fT
 have z5:=iv.le cu
 have z6:=z5.le cw
 have z7:=z6.le iM
 have z8:=z7.le lD
 have z9:=z8.le lx
 have Aa:=z9.le ly
 have Ab:=Aa.le lz
 have Ac:=Ab.le lA
 have Ae:=Ac.le iL
 have Af:=Ae.le fQ
 have Ag:=Af.le fR
 have Ah:=Ag.le dX
 have Ai:=Ah.le fS
 have Aj:=Ai.le fT
 have q:=bnd rN
 obtain ⟨⟨sG,sH,sI⟩,Ak,rO⟩:=q
 try dsimp only at rO
 refine zF 0 Z Z Z Z (zC Z Z Tryz.call16 (zA Z (zA Z zH)) Z) DM (fun hs=>wCa (⟨cr,w64 (dD + 1),fW,fY,fZ,gb⟩:wAB) cA cJ x17 bT bW cB cK jr m6 hs F9 z4 Aj Ak) (.inr Z) ?_
 rintro m7 Hu JG oj lB DN ⟨l9,o7,rfl,rfl⟩
 let jd:Res:=.row l9 o7 3 1 (hH KL.encI sG)
 have iG:sW w U m7 [jd,eJ,ci,br,.blk ae 63 B7,.blk ab 61 B6,B0,bh,.blk bb 63 bD,bv] oj:=DN
 refine oM Z Z (oR Z (zy Z Z (v:=.slice l9 sG.length o7) Z) (oR Z (zy Z Z (v:=jV sH) Z) (oR Z (zy Z Z (v:=jV sI) Z) (oA Z Z (oA Z Z (oA Z Z (eN (sR (wIb (.fx 5 (wPr (.nil)) .stop)) Z (oL Z (iG.ldBA (j:=5) Z Z xf zp zS (vs:=B6) Z Z) (oL Z (iG.ldBA (j:=7) Z Z xi ZA zZ (vs:=mL) Z Z) (oR Z (zN Z qI zK Z zD) (oL Z (iG.ldB (j:=4) Z Z Z zd (v:=.slice bT x17.Classes.length bW) Z) (oR Z (zw Z Z zB) ?_)))))))))))))
 have Al:=rc.le fS
 have Am:=Al.le fT
 have An:=Am.le lB
 have Ao:=qZ.le fQ
 have Ap:=Ao.le fR
 have Aq:=Ap.le dX
 have Ar:=Aq.le fS
 have As:=Ar.le fT
 have Au:=As.le lB
 have Av:=rZ.le fQ
 have Aw:=Av.le fR
 have Ax:=Aw.le dX
 have Ay:=Ax.le fS
 have Az:=Ay.le fT
 have AA:=Az.le lB
 have q:=bnd rO
 obtain ⟨⟨sJ,sK⟩,AD,rP⟩:=q
 try dsimp only at rP
 refine zF 0 Z Z Z Z (zC Z Z Tryz.call19 (zA Z (zA Z (zA Z zH))) Z) iG (fun hs=>wEi x16 bN bR (⟨ct,bq⟩:wAC) cC cL cD cM (↑x17.Classes.length:Int) oj m7 hs An Au AA AD) (.inr Z) ?_
 rintro bV Hv JH ol Jk DO ⟨rfl,rfl⟩
 have cp:sW w U bV [jd,eJ,ci,br,.blk ae 63 B7,.blk ab 61 B6,B0,bh,.blk bb 63 bD,bv] ol:=DO
 refine oM Z Z (oR Z (zy Z Z (v:=jV sJ) Z) (oR Z (zy Z Z (v:=jV sK) Z) (oA Z Z (oA Z Z (eN (zP (CK.fresh fun cy cf=>?_)))))))
 have it:cy 11=jV x93:=(cf 11).trans xg
 have xq:cy 12=jV lN:=(cf 12).trans xh
 have qK:cy 20=jV lM:=(cf 20).trans xk
 have xr:cy 22=jV lO:=(cf 22).trans xl
 have xt:cy 23=jV lP:=(cf 23).trans xm
 have xu:cy 25=jV sH:=(cf 25).trans rfl
 have xw:cy 26=jV sI:=(cf 26).trans rfl
 have xz:cy 27=jV sJ:=(cf 27).trans rfl
 have xA:cy 28=jV sK:=(cf 28).trans rfl
 clear cf
 refine rR (wPm (.fx 37 (.fl 38 (.fl 39 .nil)) .stop)) Z (oM Z xq (oR Z (ZO Z Z Z) (oM Z Z (ifc rP ?_ ?_))))
 intro dx Fx
 refine zf Z Z Z (wT Z dx) Z xt (rU Z (wT Z dx) (ZO Z Z Z) (oR Z (zW Z (wDu dx.out) Z) (oM Z Z (ifc Fx ?_ ?_))))
 intro dy Fy
 refine zf Z Z Z (wT Z dy) Z xw (rU Z (wT Z dy) (ZO Z Z Z) (oR Z (zW Z (wDu dy.out) Z) (oM Z Z (ifc Fy ?_ ?_))))
 intro dz Fz
 refine zf Z Z Z (wT Z dz) Z xA (rU Z (wT Z dz) (ZO Z Z Z) (oR Z (zW Z (wDu dz.out) Z) (oM Z Z (ifc Fz ?_ ?_))))
 intro cj FA
 refine zf Z Z Z (wT Z cj) Z qK (zf Z Z Z (wT Z cj) Z it (rU Z (wT Z cj) (Runs.leq Z Z Z) (oR Z (zW Z (wDu cj.out) Z) (oM Z Z (ifc FA ?_ ?_)))))
 intro cm FB
 refine zf Z Z Z (wT Z cm) Z xr (zf Z Z Z (wT Z cm) Z it (rU Z (wT Z cm) (Runs.leq Z Z Z) (oR Z (zW Z (wDu cm.out) Z) (oM Z Z (ifc FB ?_ ?_)))))
 intro cn FC
 refine zf Z Z Z (wT Z cn) Z xu (zf Z Z Z (wT Z cn) Z it (rU Z (wT Z cn) (Runs.leq Z Z Z) (oR Z (zW Z (wDu cn.out) Z) (oM Z Z (ifc FC ?_ ?_)))))
 intro bH FD
 refine zf Z Z Z (wT Z bH) Z qK (zf Z Z Z (wT Z bH) Z xz (rU Z (wT Z bH) (zq Z Z Z) (zf Z Z Z (wT Z bH) Z it (rU Z (wT Z bH) (ZO Z Z Z) (oR Z (zW Z (wDu bH.out) Z) (oM Z Z (ifc FD ?_ ?_)))))))
 intro fE FF
 refine bnK FF fun J3 AE FH=>zF 0 Z Z Z (wT Z fE) (zC Z Z Tryz.call17 zH Z) cp (fun hs=>wCJ ol bV hs AE) (.inr Z) ?_
 rintro m8 Hw JI tM Jl DP ⟨rfl,rfl⟩
 have DQ:sW w U m8 [jd,eJ,ci,br,.blk ae 63 B7,.blk ab 61 B6,B0,bh,.blk bb 63 bD,bv] tM:=DP
 refine oR Z (zW Z (wDu fE.out) Z) (oA Z Z (eN (zJ ?_)))
 have hE:=nA FH;first | subst r | cases hE
 exact ⟨rfl,_,(zh rfl),m8,_,(DQ.pick [] _ (by decide) rfl),rfl,rfl⟩
 intro fE FI
 refine ZN Z Z Z (zV Z Z (zz fE.out) Z) (oR Z (zG Z (zz fE.out) Z) (oA Z Z (eN (zJ ?_))))
 have hE:=nA FI;first | subst r | cases hE
 exact ⟨rfl,_,(zh rfl),bV,_,(cp.pick [] _ (by decide) rfl),rfl,rfl⟩
 intro bH FK
 refine oF Z bH (oF Z bH (oF Z bH (oF Z bH (oF Z bH (oR Z (zG Z (zz bH.out) Z) (oM Z Z (ZN Z Z Z (zV Z Z Z Z) (oR Z (zG Z Z Z) (oA Z Z (eN (zJ ?_)))))))))))
 have hE:=nA FK;first | subst r | cases hE
 exact ⟨rfl,_,(zh rfl),bV,_,(cp.pick [] _ (by decide) rfl),rfl,rfl⟩
 intro cn FL
 refine oF Z cn (oF Z cn (oF Z cn (oR Z (zG Z (zz cn.out) Z) (oM Z Z (oN Z (oN Z (oN Z (oN Z (oN Z (oR Z (zG Z Z Z) (oM Z Z (ZN Z Z Z (zV Z Z Z Z) (oR Z (zG Z Z Z) (oA Z Z (eN (zJ ?_))))))))))))))))
 have hE:=nA FL;first | subst r | cases hE
 exact ⟨rfl,_,(zh rfl),bV,_,(cp.pick [] _ (by decide) rfl),rfl,rfl⟩
 intro cm FM
 refine oF Z cm (oF Z cm (oF Z cm (oR Z (zG Z (zz cm.out) Z) (oM Z Z (oN Z (oN Z (oN Z (oR Z (zG Z Z Z) (oM Z Z (oN Z (oN Z (oN Z (oN Z (oN Z (oR Z (zG Z Z Z) (oM Z Z (ZN Z Z Z (zV Z Z Z Z) (oR Z (zG Z Z Z) (oA Z Z (eN (zJ ?_)))))))))))))))))))))
 have hE:=nA FM;first | subst r | cases hE
 exact ⟨rfl,_,(zh rfl),bV,_,(cp.pick [] _ (by decide) rfl),rfl,rfl⟩
 intro cj FN
 refine oF Z cj (oF Z cj (oF Z cj (oR Z (zG Z (zz cj.out) Z) (oM Z Z (oN Z (oN Z (oN Z (oR Z (zG Z Z Z) (oM Z Z (oN Z (oN Z (oN Z (oR Z (zG Z Z Z) (oM Z Z (oN Z (oN Z (oN Z (oN Z (oN Z (oR Z (zG Z Z Z) (oM Z Z (ZN Z Z Z (zV Z Z Z Z) (oR Z (zG Z Z Z) (oA Z Z (eN (zJ ?_))))))))))))))))))))))))))
 have hE:=nA FN;first | subst r | cases hE
 exact ⟨rfl,_,(zh rfl),bV,_,(cp.pick [] _ (by decide) rfl),rfl,rfl⟩
 intro dz FO
 refine oF Z dz (oF Z dz (oR Z (zG Z (zz dz.out) Z) (oM Z Z (oN Z (oN Z (oN Z (oR Z (zG Z Z Z) (oM Z Z (oN Z (oN Z (oN Z (oR Z (zG Z Z Z) (oM Z Z (oN Z (oN Z (oN Z (oR Z (zG Z Z Z) (oM Z Z (oN Z (oN Z (oN Z (oN Z (oN Z (oR Z (zG Z Z Z) (oM Z Z (ZN Z Z Z (zV Z Z Z Z) (oR Z (zG Z Z Z) (oA Z Z (eN (zJ ?_))))))))))))))))))))))))))))))
 have hE:=nA FO;first | subst r | cases hE
 exact ⟨rfl,_,(zh rfl),bV,_,(cp.pick [] _ (by decide) rfl),rfl,rfl⟩
 intro dy FP
 refine oF Z dy (oF Z dy (oR Z (zG Z (zz dy.out) Z) (oM Z Z (oN Z (oN Z (oR Z (zG Z Z Z) (oM Z Z (oN Z (oN Z (oN Z (oR Z (zG Z Z Z) (oM Z Z (oN Z (oN Z (oN Z (oR Z (zG Z Z Z) (oM Z Z (oN Z (oN Z (oN Z (oR Z (zG Z Z Z) (oM Z Z (oN Z (oN Z (oN Z (oN Z (oN Z (oR Z (zG Z Z Z) (oM Z Z (ZN Z Z Z (zV Z Z Z Z) (oR Z (zG Z Z Z) (oA Z Z (eN (zJ ?_))))))))))))))))))))))))))))))))))
 have hE:=nA FP;first | subst r | cases hE
 exact ⟨rfl,_,(zh rfl),bV,_,(cp.pick [] _ (by decide) rfl),rfl,rfl⟩
 intro dx FQ
 refine oF Z dx (oF Z dx (oR Z (zG Z (zz dx.out) Z) (oM Z Z (oN Z (oN Z (oR Z (zG Z Z Z) (oM Z Z (oN Z (oN Z (oR Z (zG Z Z Z) (oM Z Z (oN Z (oN Z (oN Z (oR Z (zG Z Z Z) (oM Z Z (oN Z (oN Z (oN Z (oR Z (zG Z Z Z) (oM Z Z (oN Z (oN Z (oN Z (oR Z (zG Z Z Z) (oM Z Z (oN Z (oN Z (oN Z (oN Z (oN Z (oR Z (zG Z Z Z) (oM Z Z (ZN Z Z Z (zV Z Z Z Z) (oR Z (zG Z Z Z) (oA Z Z (eN (zJ ?_))))))))))))))))))))))))))))))))))))))
 have hE:=nA FQ;first | subst r | cases hE
 exact ⟨rfl,_,(zh rfl),bV,_,(cp.pick [] _ (by decide) rfl),rfl,rfl⟩
 intro jB FR
 refine cT Z jB (sR (wFx (.fx 3 (.fl 4 (.fl 5 .nil)) .stop)) Z (oM Z Z (oR Z (ZO Z Z Z) (oM Z Z (ifc FR ?_ ?_)))))
 intro fG FS
 refine bnK FS fun J4 AG FT=>zF 0 Z Z Z (wT Z fG) (zC Z Z Tryz.call17 zH Z) iB (fun hs=>wCJ ji gX hs AG) (.inr Z) ?_
 rintro m9 Hx JJ tO Jm DR ⟨rfl,rfl⟩
 have DS:sW w U m9 [B9,B8,.blk ae 63 B7,.blk ab 61 B6,B0] tO:=DR
 refine oR Z (zW Z (wDu fG.out) Z) (oA Z Z (eN (zJ (ze ?_))))
 have hE:=nA FT;first | subst r | cases hE
 exact ⟨rfl,_,(zh rfl),m9,_,(DS.pick [] _ (by decide) rfl),rfl,rfl⟩
 intro fG FU
 refine ZN Z Z Z (zV Z Z (zz fG.out) Z) (oR Z (zG Z (zz fG.out) Z) (oA Z Z (eN (zJ (ze ?_)))))
 have hE:=nA FU;first | subst r | cases hE
 exact ⟨rfl,_,(zh rfl),gX,_,(iB.pick [] _ (by decide) rfl),rfl,rfl⟩
end Go.Proofs.YtkedcbligiebkaaGreat
