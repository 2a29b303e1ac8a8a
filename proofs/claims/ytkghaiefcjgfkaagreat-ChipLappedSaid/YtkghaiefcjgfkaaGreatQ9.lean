import Derived.Test.YtkghaiefcjgfkaaGreatQ6
import Derived.Test.YtkghaiefcjgfkaaGreatQ5
import Derived.Test.YtkghaiefcjgfkaaGreatQ7
import Derived.Test.YtkghaiefcjgfkaaGreatQ8
set_option linter.all false
open List renaming flatMap->hD,getElem_cons_succ->nD,getElem_cons_zero->nE,getElem_toArray->nG,length_set->nI,set->nJ
open Option.some renaming inj->hJ
open Go.Value renaming bool->nA
open Bool renaming eq_false_iff->nB
open Int renaming toNat_natCast->nH
open Option renaming map->nK
namespace Go.Proofs.YtkghaiefcjgfkaaGreat
open Go.KL
def gEx:Sch:=.fl 0 (.fx 1 .nil .stop)
def gEy:Sch:=.fx 0 (.fl 1 .nil) .stop
def gEz:Sch:=.fx 2 (.fl 3 .nil) .stop
def gFa:Sch:=.fx 1 (.fl 2 .nil) .stop
def gFb:Sch:=.fx 0 (.fx 1 .nil .stop) .stop
def gFc:Sch:=.fx 11 (.fx 12 .nil .stop) .stop
def gFd:Sch:=.fx 10 (.fx 12 .nil .stop) .stop
def gFe:Sch:=.fx 12 (.fl 13 .nil) .stop
def gFf:Sch:=.fl 13 (.fx 15 .nil .stop)
def gFg:Sch:=.fx 14 (.fl 15 (.fl 16 .nil)) .stop
def gFh:Sch:=.fx 3 (.fl 4 (.fx 5 .nil .stop)) .stop
def gFi:Sch:=.fl 0 gFa
def gFj:Sch:=.fx 0 (.fl 1 (.fl 2 .nil)) .stop
def gFk:Sch:=.fl 13 (.fx 14 (.fx 15 .nil .stop) .stop)
def gFl:Sch:=.fx 12 gFf .stop
def gFm:Sch:=.fx 3 gFf .stop
def gFn:Sch:=.fx 13 gFg .stop
def gFo:Sch:=.fl 0 (.fl 1 gEz)
def gFp:Sch:=.fx 8 (.fl 9 gFd) .stop
def gFq:Sch:=.fx 4 (.fl 9 gFd) .stop
def gFr:Sch:=.fl 9 (.fx 10 gFc (.fx 11 gFd .stop))
set_option maxHeartbeats 4000000
theorem wGY (p0:Int) (p1:Int) (w:World) (U:PHeap) (hS:St0 w U [])  {r:Int} (hm:wCX p0 p1=some r):Gv Tryz.prog 9 [jV p0,jV p1] w (wBa w [] U (fun U_ L_ v=>v=jV r/\L_=[])):=by
 unfold wCX at hm
 refine Gv.of Tryz.func9 Z Tryz.ntmps9 Tryz.results9 Z (sR fL1 Z (oA Z Z (eN (zL (sR fL2 Z (oM Z Z (oR Z (YH Z Z Z) (eN ?_))))))))
 by_cases c1:p1 <= 0
 have ac:=hm;rw [if_pos c1] at ac;replace c1:=zM c1
 refine cT Z c1 (sR fL1 Z (oA Z Z (eN (zR (zS ?_)))))
 cases ac
 exact ⟨Z,_,(ZH Z),U,_,hS,Z,Z⟩
 have ae:=hm;rw [if_neg c1] at ae;replace c1:=zM c1
 refine cF Z c1 (kN (sR fL8 Z (oM Z Z (oM Z Z (bnK ae fun x4 h5 ai=>oR Z (Runs.rem Z Z Z h5) (oM Z Z (oR Z (za Z Z Z) (oM Z Z (bnK ai fun x7 h8 aj=>oR Z (Runs.rem Z Z Z h8) (oA Z Z (eN (zR ?_))))))))))))
 have hE:=hJ aj;first | subst r | cases hE
 exact ⟨Z,_,(ZH Z),U,_,hS,Z,Z⟩
theorem wIe (p0:wAE) (cI:Option Addr) (cM:Nat) (cJ:Option Addr) (cN:Nat) (cK:Option Addr) (cO:Nat) (cL:Option Addr) (cP:Nat) (p1:wAP) (p2:wAP) (p3:Bool) (w:World) (U:PHeap) (hS:St0 w U []) (jo:Sl U 1 cI cM p0.Starts.length (hD KL.encI p0.Starts)) (jp:Sl U 2 cJ cN p0.Splits.length (hD wAF p0.Splits)) (jq:Sl U 3 cK cO p0.Clocks.length (hD wAA p0.Clocks)) (jr:Sl U 4 cL cP p0.Readings.length (hD wAB p0.Readings)) {r:(List (List Int)) × (List Int) × Int} (hm:wDS p0 p1 p2 p3=some r):Gv Tryz.prog 17 [.agg #[.slice cI p0.Starts.length cM,.slice cJ p0.Splits.length cN,.slice cK p0.Clocks.length cO,.slice cL p0.Readings.length cP],.agg #[jV p1.Skier,jV p1.Mat],.agg #[jV p2.Skier,jV p2.Mat],.bool p3] w (wBa w [] U (fun U_ L_ v=>∃ (A0:Option Addr) (c0:Nat) (eU:List Value) (A1:Option Addr) (c1:Nat),v=.tuple #[.slice A0 r.1.length c0,.slice A1 r.2.1.length c1,jV r.2.2]/\L_=[.row A0 c0 41 1 eU,.row A1 c1 3 1 (hD KL.encI r.2.1)]/\RlL U_ wEX r.1 eU)):=by
 unfold wDS at hm
 refine Gv.of Tryz.func17 Z Tryz.ntmps17 Tryz.results17 Z (sR (.fx 0 (.fx 1 (.fx 2 (wML (.nil)) .stop) .stop) .stop) Z ?_)
 let B0:List Value:=[.slice cI p0.Starts.length cM,.slice cJ p0.Splits.length cN,.slice cK p0.Clocks.length cO,.slice cL p0.Readings.length cP]
 refine ZC (cs:=B0) rfl rfl rfl rfl rfl rfl (by rfl) hS ?_
 intro W1 b2 iK
 let B1:List Value:=[jV p1.Skier,jV p1.Mat]
 refine ZC (cs:=B1) rfl rfl rfl rfl rfl rfl (by rfl) iK ?_
 intro W5 b6 jm
 let B2:List Value:=[jV p2.Skier,jV p2.Mat]
 refine ZC (cs:=B2) rfl rfl rfl rfl rfl rfl (by rfl) jm ?_
 intro W9 ag cz
 refine oA Z Z (oA Z Z (oA Z Z (eN (sR (wCv (.fx 3 (.fx 4 (wJX (.nil)) .stop) .stop)) Z (oL Z (cz.ldBA (j:=2) Z Z Z zz zh (vs:=B0) Z Z) (oL Z (cz.ldBA (j:=1) Z Z Z Zq ZX (vs:=B1) Z Z) (oL Z (cz.ldBA (j:=0) Z Z Z Zq ZX (vs:=B2) Z Z) (zo (pv:=[(0,.agg B1.toArray),(1,.agg B2.toArray)]) (zs:=[jV 0,jV 0,jV 0,jV 0]) (cs:=[jV p1.Skier,jV p1.Mat,jV p2.Skier,jV p2.Mat]) Z Z Z Z Z (wAD Z (wAD Z wAM)) Zu ZX yF Z Z Z Z Z cz ?_))))))))
 intro de eH ii
 have il:sW w U U [.row (some ⟨eH,0,none⟩) 2 62 2 (hD wAU [p1,p2]),.blk ag 62 B2,.blk b6 62 B1,.blk b2 45 B0] de:=ii
 have q:=il.freezeR (k:=0) (n:=[p1,p2].length) rfl (wAC (f:=wAU) (sz:=2) (fun _=>rfl) [p1,p2]) (by decide)
 obtain ⟨d9,cH,jD,iv⟩:=q
 have iz:sW w U d9 [.blk ag 62 B2,.blk b6 62 B1,.blk b2 45 B0] de:=iv
 have ga:=jo.le cH
 have gi:=jp.le cH
 have gj:=jq.le cH
 have gm:=jr.le cH
 have q:=bnd hm
 obtain ⟨⟨jO,fm⟩,gD,bA⟩:=q
 try dsimp only at bA
 refine zH 0 Z Z Z Z (zG Z Z Tryz.call46 (zB Z (zB Z zO)) Z) iz (fun hs=>wEa p0 cI cM cJ cN cK cO cL cP [p1,p2] (some ⟨eH,0,none⟩) 2 de d9 hs ga gi gj gm jD gD) (.inr Z) ?_
 rintro av jY lu bm li fb eX
 rcases jO with _ | am
 try dsimp only at bA
 obtain ⟨rfl,rfl⟩:=eX
 have cA:sW w U av [.blk ag 62 B2,.blk b6 62 B1,.blk b2 45 B0] bm:=fb
 refine oM Z Z (oR Z (zV Z Z (v:=.pointer none) Z) (oR Z (zV Z Z (v:=jV fm) Z) (oA Z Z (oA Z Z (eN (zL (sR fL2 Z (oM Z Z (oR Z (Zk Z Z Z) (eN (ifc bA ?_ ?_)))))))))))
 intro dr jx
 refine zy (ZM (fun h=>h dr.out)) (kN (zL (sR fL2 Z (oM Z Z (oR Z (ZW Z Z) (eN (ifc jx ?_ ?_)))))))
 intro dt jy
 refine zy (nC dt.out) (kN (zL (ZF ZB [3,3,3,3,1,1,2,1,0,3,3,3,3,2,0,3,3] (wFd (.fx 6 (.fl 7 (.fx 8 (wEs gFn) (.fx 13 (.fx 8 (wEs gFg) (.stop)) (.stop)))) (.fx 13 (.fx 6 (.fl 7 (.fx 8 (wEs gFg) (.stop))) (.stop)) (.stop)))) (by kernel_rfl) ?_)))
 have jg:=cA.drew
 generalize hw_W59:({ bm with drawn:=bm.drawn + 1 }:World)=lc at jg ⊢
 refine oM Z Z (oM Z Z ?_)
 cases jy
 intro dt jz
 refine ZJ (nF (dt.out)) (rR gEx Z (oL Z (cA.ldBA (j:=0) Z Z Z Zq ZX (vs:=B2) Z Z) (zX (j:=1) (vs:=B2) Z Z Z Z cA Z Z Z Z ZX (zA Z) Z Z Z ?_)))
 intro di jh
 have ji:sW w U av [.blk ag 62 B2,.blk b6 62 B2,.blk b2 45 B0] di:=jh
 refine eN (zL (ZF ZB [3,3,3,3,1,1,2,1,0,3,3,3,3,2,0,3,3] (wFd (.fx 6 (.fl 7 (.fx 8 (wEs gFn) (.fx 13 (.fx 8 (wEs gFg) (.stop)) (.stop)))) (.fx 13 (.fx 6 (.fl 7 (.fx 8 (wEs gFg) (.stop))) (.stop)) (.stop)))) (by kernel_rfl) ?_))
 have jj:=ji.drew
 generalize hw_W65:({ di with drawn:=di.drawn + 1 }:World)=lf at jj ⊢
 refine oM Z Z (oM Z Z ?_)
 cases jz
 intro dr jA
 refine cT Z dr (sR fL4 Z (oM Z Z (oA Z Z (oA Z Z (oA Z Z (eN (zR (zS ?_))))))))
 have jk:=cA.nilrow 41 1
 have jl:=jk.nilrow 3 1
 cases jA
 exact ⟨rfl,_,(wMO rfl rfl rfl),av,_,(jl.pick [1,0] _ (by decide) rfl),none,0,[],none,0,rfl,rfl,RlL.nil⟩
 try dsimp only at bA
 obtain ⟨ax,aV,a6,aW,a7,aX,a8,aY,ba,ab,ae,ac,aZ,bb,rfl,rfl,bc,bd,be,bf,ay,bg⟩:=eX
 let B3:Res:=.blk ax 124 [.slice aV am.Race.Starts.length a6,.slice aW am.Race.Splits.length a7,.slice aX am.Race.Clocks.length a8,.slice aY am.Race.Readings.length ba,.map (some ab),.slice aZ am.edges.length bb]
 have cB:sW w U av [B3,.obj ab (.map ae ac),.blk ag 62 B2,.blk b6 62 B1,.blk b2 45 B0] bm:=fb
 refine oM Z Z (oR Z (zV Z Z (v:=.pointer (some ⟨ax,0,none⟩)) Z) (oR Z (zV Z Z (v:=jV fm) Z) (oA Z Z (oA Z Z (eN (zL (sR fL2 Z (oM Z Z (oR Z (Zk Z Z Z) (eN (ifc bA ?_ ?_)))))))))))
 intro du jB
 refine zy (ZM (fun h=>h du.out)) (kN (zL (sR fL2 Z (oM Z Z (oR Z (ZW Z Z) (eN (ifc jB ?_ ?_)))))))
 intro dv jC
 refine zy (nC dv.out) (kN ?_)
 have q:=bnd jC
 obtain ⟨⟨bi,cG⟩,jH,fj⟩:=q
 try dsimp only at fj
 refine yW (fun σ_ w_=>∃ (U_:PHeap) (cd:Nat) (bk:Option Addr) (bo:Nat) (bs:Option Addr) (bw:Nat),σ_ 11=.pointer (some ⟨ax,0,none⟩)/\σ_ 13=.pointer (some ⟨cd,0,none⟩)/\PHeap.Le av U_/\sW w U U_ [B3,.obj ab (.map ae ac),.blk ag 62 B2,.blk b6 62 B1,.blk b2 45 B0,.blk cd 118 [.slice bk bi.length bo,.slice bs cG.length bw],.row bk bo 3 1 (hD KL.encI bi),.row bs bw 3 1 (hD KL.encI cG)] w_) ?_ ?_
 refine bnK jH fun bG eW jt=>?_
 have q:=bnd jt
 obtain ⟨⟨ao,dA,dB⟩,dw,cC⟩:=q
 try dsimp only at cC
 refine ZF ZB [3,3,3,3,1,1,2,1,0,3,3,3,3,2,0,3,3] (wFd (.fx 6 (.fl 7 (.fx 8 (wEs gFn) (.fx 13 (.fx 8 (wEs gFg) (.stop)) (.stop)))) (.fx 13 (.fx 6 (.fl 7 (.fx 8 (wEs gFg) (.stop))) (.stop)) (.stop)))) (by kernel_rfl) ?_
 have bx:=cB.drew
 generalize hw_W138:({ bm with drawn:=bm.drawn + 1 }:World)=fu at bx ⊢
 refine oM Z Z (oM Z Z (oR Z (ZT Z Z) (oR Z (zJ Z Z ZN Z Zz) (oL Z (bx.ldB (j:=0) Z Z Z yD (v:=.map (some ab)) Z) (oL Z (bx.ldBA (j:=3) Z Z Z Zq ZX (vs:=B1) Z Z) (zw ?_ ?_))))))
 refine zH 0 Z Z Z Z (zG Z Z yk (zB Z zO) Z) bx (fun hs=>wCb p1 fu av hs eW) (.inr Z) ?_
 rintro bX jR lk ew az ig ⟨rfl,rfl⟩
 have dy:sW w U bX [B3,.obj ab (.map ae ac),.blk ag 62 B2,.blk b6 62 B1,.blk b2 45 B0] ew:=ig
 refine oL Z (dy.lookup1 (j:=1) (mk:=wBL) (mv:=wBO) (a:=bG) (z:=0) Z Z Z Z (wBE ZO) wCa zt ay) (zw ?_ ?_)
 have fT:=bc.le az
 have fU:=bd.le az
 have fV:=be.le az
 have fW:=bf.le az
 have fY:=bg.le az
 refine zH 2 Z Z Z Z (zG Z Z yh (zB Z (zB Z (zB Z zO))) Z) dy (fun hs=>wAk am ax aV a6 aW a7 aX a8 aY ba ab ae ac aZ bb (wAv am.number bG 0) false ew bX hs fT fU fV fW ay fY dw) (.inl Z) ?_
 rintro cX jS lm fw jI ij ⟨bH,cg,bI,ci,rfl,rfl⟩
 let B4:Res:=.row bH cg 3 1 (hD KL.encI ao.far)
 let B5:Res:=.row bI ci 3 1 (hD KL.encI ao.by_)
 have ik:sW w U cX [B4,B5,B3,.obj ab (.map ae ac),.blk ag 62 B2,.blk b6 62 B1,.blk b2 45 B0] fw:=ij
 refine oM Z Z (oR Z (zV Z Z (v:=.agg #[.slice bH ao.far.length cg,.slice bI ao.by_.length ci]) Z) (oR Z (zV Z Z (v:=jV dA) Z) (oR Z (zV Z Z (v:=.bool dB) Z) (zW (cs:=[.slice none 0 0,.slice none 0 0]) Z Z Z Z Z Zf Z ik ?_))))
 intro k8 eI im
 let B6:List Value:=[.slice bH ao.far.length cg,.slice bI ao.by_.length ci]
 refine zX (j:=0) (vs:=B6) Z Z Z Z im Z Z Z Z Zp (zA Z) Z Z Z ?_
 intro fy io
 have ip:sW w U cX [.blk eI 118 B6,B4,B5,B3,.obj ab (.map ae ac),.blk ag 62 B2,.blk b6 62 B1,.blk b2 45 B0] fy:=io
 refine oA Z Z (oA Z Z (zg ?_))
 cases cC
 exact zI ⟨rfl,⟨cX,eI,bH,cg,bI,ci,rfl,rfl,(az.trans jI),(ip.pick [3,4,5,6,7,0,1,2] _ (by decide) rfl)⟩⟩
 let B7:List Value:=[.slice none 0 0,.slice none 0 0]
 refine zW (cs:=B7) Z Z Z Z Z Zf Z dy ?_
 intro eA bZ iq
 have fZ:=bc.le az
 have f5:=bd.le az
 have f7:=be.le az
 have f8:=bf.le az
 have f9:=bg.le az
 have ir:sW w U bX [B3,.obj ab (.map ae ac),.blk bZ 118 B7,.blk ag 62 B2,.blk b6 62 B1,.blk b2 45 B0] eA:=iq.pick [1,2,0,3,4,5] _ (by decide) rfl
 refine zH 2 Z Z Z Z (zG Z Z yh (zB Z (zB Z (zB Z zO))) Z) ir (fun hs=>wAk am ax aV a6 aW a7 aX a8 aY ba ab ae ac aZ bb (wAv am.number bG 0) false eA bX hs fZ f5 f7 f8 ay f9 dw) (.inl Z) ?_
 rintro cY jT ln fz jJ it ⟨bJ,cj,bK,cm,rfl,rfl⟩
 let B8:Res:=.row bJ cj 3 1 (hD KL.encI ao.far)
 let B9:Res:=.row bK cm 3 1 (hD KL.encI ao.by_)
 have iu:sW w U cY [B8,B9,B3,.obj ab (.map ae ac),.blk bZ 118 B7,.blk ag 62 B2,.blk b6 62 B1,.blk b2 45 B0] fz:=it
 refine oM Z Z (oR Z (zV Z Z (v:=.agg #[.slice bJ ao.far.length cj,.slice bK ao.by_.length cm]) Z) (oR Z (zV Z Z (v:=jV dA) Z) (oR Z (zV Z Z (v:=.bool dB) Z) ?_)))
 let dG:List Value:=[.slice bJ ao.far.length cj,.slice bK ao.by_.length cm]
 refine zX (j:=4) (vs:=dG) Z Z Z Z iu Z Z Z Z Zp (zA Z) Z Z Z ?_
 intro fA iw
 have iy:sW w U cY [B8,B9,B3,.obj ab (.map ae ac),.blk bZ 118 dG,.blk ag 62 B2,.blk b6 62 B1,.blk b2 45 B0] fA:=iw
 refine oA Z Z (oA Z Z (zg ?_))
 cases cC
 exact zI ⟨rfl,⟨cY,bZ,bJ,cj,bK,cm,rfl,rfl,(az.trans jJ),(iy.pick [2,3,5,6,7,4,0,1] _ (by decide) rfl)⟩⟩
 let bV:List Value:=[.slice none 0 0,.slice none 0 0]
 refine zW (cs:=bV) Z Z Z Z Z Zf Z bx ?_
 intro fB bt iA
 refine zH 0 Z Z Z Z (zG Z Z yk (zB Z zO) Z) iA (fun hs=>wCb p1 fB av hs eW) (.inr Z) ?_
 rintro cZ jU lp df bp iB ⟨rfl,rfl⟩
 have eY:sW w U cZ [.blk bt 118 bV,B3,.obj ab (.map ae ac),.blk ag 62 B2,.blk b6 62 B1,.blk b2 45 B0] df:=iB
 refine oL Z (eY.lookup1 (j:=2) (mk:=wBL) (mv:=wBO) (a:=bG) (z:=0) Z Z Z Z (wBE ZO) wCa zt ay) ?_
 have gb:=bc.le bp
 have ge:=bd.le bp
 have gf:=be.le bp
 have gg:=bf.le bp
 have gh:=bg.le bp
 have iC:sW w U cZ [B3,.obj ab (.map ae ac),.blk bt 118 bV,.blk ag 62 B2,.blk b6 62 B1,.blk b2 45 B0] df:=eY.pick [1,2,0,3,4,5] _ (by decide) rfl
 refine zH 2 Z Z Z Z (zG Z Z yh (zB Z (zB Z (zB Z zO))) Z) iC (fun hs=>wAk am ax aV a6 aW a7 aX a8 aY ba ab ae ac aZ bb (wAv am.number bG 0) false df cZ hs gb ge gf gg ay gh dw) (.inl Z) ?_
 rintro c6 jW lq fC jK iD ⟨bL,co,bM,cp,rfl,rfl⟩
 let dH:Res:=.row bL co 3 1 (hD KL.encI ao.far)
 let dI:Res:=.row bM cp 3 1 (hD KL.encI ao.by_)
 have iE:sW w U c6 [dH,dI,B3,.obj ab (.map ae ac),.blk bt 118 bV,.blk ag 62 B2,.blk b6 62 B1,.blk b2 45 B0] fC:=iD
 refine oM Z Z (oR Z (zV Z Z (v:=.agg #[.slice bL ao.far.length co,.slice bM ao.by_.length cp]) Z) (oR Z (zV Z Z (v:=jV dA) Z) (oR Z (zV Z Z (v:=.bool dB) Z) ?_)))
 let dJ:List Value:=[.slice bL ao.far.length co,.slice bM ao.by_.length cp]
 refine zX (j:=4) (vs:=dJ) Z Z Z Z iE Z Z Z Z Zp (zA Z) Z Z Z ?_
 intro fD iF
 have iG:sW w U c6 [dH,dI,B3,.obj ab (.map ae ac),.blk bt 118 dJ,.blk ag 62 B2,.blk b6 62 B1,.blk b2 45 B0] fD:=iF
 refine oA Z Z (oA Z Z (zg ?_))
 cases cC
 exact zI ⟨rfl,⟨c6,bt,bL,co,bM,cp,rfl,rfl,(bp.trans jK),(iG.pick [2,3,5,6,7,4,0,1] _ (by decide) rfl)⟩⟩
 rintro lB eB ⟨j9,cd,bk,bo,bs,bw,fP,fQ,bB,eZ⟩
 refine sR (wCv (.fx 3 (wMM (.nil)) .stop)) Z (oM Z fP (oR Z (zJ Z fQ Zc Z zZ) (oL Z (eZ.ldB (j:=5) Z Z Z zj (v:=.slice bk bi.length bo) Z) ?_)))
 have q:=eZ.freezeR (k:=6) (n:=bi.length) rfl (wAC (f:=KL.encI) (sz:=1) (fun _=>rfl) bi) (by decide)
 obtain ⟨ef,bC,jE,iH⟩:=q
 let dK:Res:=.blk cd 118 [.slice bk bi.length bo,.slice bs cG.length bw]
 let dL:Res:=.row bs bw 3 1 (hD KL.encI cG)
 have iI:sW w U ef [B3,.obj ab (.map ae ac),.blk ag 62 B2,.blk b6 62 B1,.blk b2 45 B0,dK,dL] eB:=iH
 have gq:=bc.le bB
 have gt:=gq.le bC
 have gu:=bd.le bB
 have gv:=gu.le bC
 have gw:=be.le bB
 have gx:=gw.le bC
 have gy:=bf.le bB
 have gz:=gy.le bC
 have gA:=bg.le bB
 have gB:=gA.le bC
 have q:=bnd fj
 obtain ⟨⟨jP,fq⟩,gC,ff⟩:=q
 try dsimp only at ff
 refine zH 2 Z Z Z Z (zG Z Z Tryz.call50 (zB Z (zB Z zO)) Z) iI (fun hs=>wDw am ax aV a6 aW a7 aX a8 aY ba ab ae ac aZ bb bi bk bo eB ef hs gt gv gx gz ay gB jE gC) (.inl Z) ?_
 rintro eh jX ls fE lh iJ ⟨cQ,dm,eO,cR,dn,rfl,rfl,gE⟩
 have iL:sW w U eh [.row cQ dm 41 1 eO,.row cR dn 3 1 (hD KL.encI fq),B3,.obj ab (.map ae ac),.blk ag 62 B2,.blk b6 62 B1,.blk b2 45 B0,dK,dL] fE:=iJ
 refine oM Z Z (oR Z (zV Z Z (v:=.slice cQ jP.length dm) Z) (oR Z (zV Z Z (v:=.slice cR fq.length dn) Z) (oA Z Z (oA Z Z (eN (sR fL5 Z (oM Z Z (oM Z Z (oA Z Z (oA Z Z (oA Z Z (eN (zR ?_)))))))))))))
 cases ff
 exact ⟨rfl,_,(wMO rfl rfl rfl),eh,_,(iL.pick [0,1] _ (by decide) rfl),cQ,dm,eO,cR,dn,rfl,rfl,gE⟩
 intro dv ju
 refine ZJ (nF (dv.out)) (rR gEx Z (oL Z (cB.ldBA (j:=2) Z Z Z Zq ZX (vs:=B2) Z Z) (zX (j:=3) (vs:=B2) Z Z Z Z cB Z Z Z Z ZX (zA Z) Z Z Z ?_)))
 intro dg iM
 have iN:sW w U av [B3,.obj ab (.map ae ac),.blk ag 62 B2,.blk b6 62 B2,.blk b2 45 B0] dg:=iM
 refine eN ?_
 have q:=bnd ju
 obtain ⟨⟨bh,cE⟩,jG,fg⟩:=q
 try dsimp only at fg
 refine yW (fun σ_ w_=>∃ (U_:PHeap) (ca:Nat) (bj:Option Addr) (bn:Nat) (br:Option Addr) (bv:Nat),σ_ 11=.pointer (some ⟨ax,0,none⟩)/\σ_ 13=.pointer (some ⟨ca,0,none⟩)/\PHeap.Le av U_/\sW w U U_ [B3,.obj ab (.map ae ac),.blk ag 62 B2,.blk b6 62 B2,.blk b2 45 B0,.blk ca 118 [.slice bj bh.length bn,.slice br cE.length bv],.row bj bn 3 1 (hD KL.encI bh),.row br bv 3 1 (hD KL.encI cE)] w_) ?_ ?_
 refine bnK jG fun bF eV jv=>?_
 have q:=bnd jv
 obtain ⟨⟨ap,dC,dD⟩,dx,cD⟩:=q
 try dsimp only at cD
 refine ZF ZB [3,3,3,3,1,1,2,1,0,3,3,3,3,2,0,3,3] (wFd (.fx 6 (.fl 7 (.fx 8 (wEs gFn) (.fx 13 (.fx 8 (wEs gFg) (.stop)) (.stop)))) (.fx 13 (.fx 6 (.fl 7 (.fx 8 (wEs gFg) (.stop))) (.stop)) (.stop)))) (by kernel_rfl) ?_
 have bz:=iN.drew
 generalize hw_W364:({ dg with drawn:=dg.drawn + 1 }:World)=fG at bz ⊢
 refine oM Z Z (oM Z Z (oR Z (ZT Z Z) (oR Z (zJ Z Z ZN Z Zz) (oL Z (bz.ldB (j:=0) Z Z Z yD (v:=.map (some ab)) Z) (oL Z (bz.ldBA (j:=3) Z Z Z Zq ZX (vs:=B2) Z Z) (zw ?_ ?_))))))
 refine zH 0 Z Z Z Z (zG Z Z yk (zB Z zO) Z) bz (fun hs=>wCb p2 fG av hs eV) (.inr Z) ?_
 rintro bY jZ lv eD aU iO ⟨rfl,rfl⟩
 have dz:sW w U bY [B3,.obj ab (.map ae ac),.blk ag 62 B2,.blk b6 62 B2,.blk b2 45 B0] eD:=iO
 refine oL Z (dz.lookup1 (j:=1) (mk:=wBL) (mv:=wBO) (a:=bF) (z:=0) Z Z Z Z (wBE ZO) wCa zt ay) (zw ?_ ?_)
 have gF:=bc.le aU
 have gG:=bd.le aU
 have gH:=be.le aU
 have gI:=bf.le aU
 have gJ:=bg.le aU
 refine zH 2 Z Z Z Z (zG Z Z yh (zB Z (zB Z (zB Z zO))) Z) dz (fun hs=>wAk am ax aV a6 aW a7 aX a8 aY ba ab ae ac aZ bb (wAv am.number bF 0) false eD bY hs gF gG gH gI ay gJ dx) (.inl Z) ?_
 rintro c8 j4 lw fH jL iP ⟨bN,cq,bP,cr,rfl,rfl⟩
 let dM:Res:=.row bN cq 3 1 (hD KL.encI ap.far)
 let dN:Res:=.row bP cr 3 1 (hD KL.encI ap.by_)
 have iQ:sW w U c8 [dM,dN,B3,.obj ab (.map ae ac),.blk ag 62 B2,.blk b6 62 B2,.blk b2 45 B0] fH:=iP
 refine oM Z Z (oR Z (zV Z Z (v:=.agg #[.slice bN ap.far.length cq,.slice bP ap.by_.length cr]) Z) (oR Z (zV Z Z (v:=jV dC) Z) (oR Z (zV Z Z (v:=.bool dD) Z) (zW (cs:=[.slice none 0 0,.slice none 0 0]) Z Z Z Z Z Zf Z iQ ?_))))
 intro k9 eJ iR
 let dO:List Value:=[.slice bN ap.far.length cq,.slice bP ap.by_.length cr]
 refine zX (j:=0) (vs:=dO) Z Z Z Z iR Z Z Z Z Zp (zA Z) Z Z Z ?_
 intro fI iS
 have iT:sW w U c8 [.blk eJ 118 dO,dM,dN,B3,.obj ab (.map ae ac),.blk ag 62 B2,.blk b6 62 B2,.blk b2 45 B0] fI:=iS
 refine oA Z Z (oA Z Z (zg ?_))
 cases cD
 exact zI ⟨rfl,⟨c8,eJ,bN,cq,bP,cr,rfl,rfl,(aU.trans jL),(iT.pick [3,4,5,6,7,0,1,2] _ (by decide) rfl)⟩⟩
 let cV:List Value:=[.slice none 0 0,.slice none 0 0]
 refine zW (cs:=cV) Z Z Z Z Z Zf Z dz ?_
 intro eF cc iU
 have gK:=bc.le aU
 have gL:=bd.le aU
 have gM:=be.le aU
 have gN:=bf.le aU
 have gO:=bg.le aU
 have iV:sW w U bY [B3,.obj ab (.map ae ac),.blk cc 118 cV,.blk ag 62 B2,.blk b6 62 B2,.blk b2 45 B0] eF:=iU.pick [1,2,0,3,4,5] _ (by decide) rfl
 refine zH 2 Z Z Z Z (zG Z Z yh (zB Z (zB Z (zB Z zO))) Z) iV (fun hs=>wAk am ax aV a6 aW a7 aX a8 aY ba ab ae ac aZ bb (wAv am.number bF 0) false eF bY hs gK gL gM gN ay gO dx) (.inl Z) ?_
 rintro da j5 lx fJ jM iW ⟨bQ,cu,bR,cw,rfl,rfl⟩
 let dP:Res:=.row bQ cu 3 1 (hD KL.encI ap.far)
 let dQ:Res:=.row bR cw 3 1 (hD KL.encI ap.by_)
 have iX:sW w U da [dP,dQ,B3,.obj ab (.map ae ac),.blk cc 118 cV,.blk ag 62 B2,.blk b6 62 B2,.blk b2 45 B0] fJ:=iW
 refine oM Z Z (oR Z (zV Z Z (v:=.agg #[.slice bQ ap.far.length cu,.slice bR ap.by_.length cw]) Z) (oR Z (zV Z Z (v:=jV dC) Z) (oR Z (zV Z Z (v:=.bool dD) Z) ?_)))
 let dR:List Value:=[.slice bQ ap.far.length cu,.slice bR ap.by_.length cw]
 refine zX (j:=4) (vs:=dR) Z Z Z Z iX Z Z Z Z Zp (zA Z) Z Z Z ?_
 intro fK iY
 have iZ:sW w U da [dP,dQ,B3,.obj ab (.map ae ac),.blk cc 118 dR,.blk ag 62 B2,.blk b6 62 B2,.blk b2 45 B0] fK:=iY
 refine oA Z Z (oA Z Z (zg ?_))
 cases cD
 exact zI ⟨rfl,⟨da,cc,bQ,cu,bR,cw,rfl,rfl,(aU.trans jM),(iZ.pick [2,3,5,6,7,4,0,1] _ (by decide) rfl)⟩⟩
 let bW:List Value:=[.slice none 0 0,.slice none 0 0]
 refine zW (cs:=bW) Z Z Z Z Z Zf Z bz ?_
 intro fL bu i2
 refine zH 0 Z Z Z Z (zG Z Z yk (zB Z zO) Z) i2 (fun hs=>wCb p2 fL av hs eV) (.inr Z) ?_
 rintro db j6 ly dh bq i4 ⟨rfl,rfl⟩
 have fc:sW w U db [.blk bu 118 bW,B3,.obj ab (.map ae ac),.blk ag 62 B2,.blk b6 62 B2,.blk b2 45 B0] dh:=i4
 refine oL Z (fc.lookup1 (j:=2) (mk:=wBL) (mv:=wBO) (a:=bF) (z:=0) Z Z Z Z (wBE ZO) wCa zt ay) ?_
 have gP:=bc.le bq
 have gQ:=bd.le bq
 have gR:=be.le bq
 have gS:=bf.le bq
 have gT:=bg.le bq
 have i5:sW w U db [B3,.obj ab (.map ae ac),.blk bu 118 bW,.blk ag 62 B2,.blk b6 62 B2,.blk b2 45 B0] dh:=fc.pick [1,2,0,3,4,5] _ (by decide) rfl
 refine zH 2 Z Z Z Z (zG Z Z yh (zB Z (zB Z (zB Z zO))) Z) i5 (fun hs=>wAk am ax aV a6 aW a7 aX a8 aY ba ab ae ac aZ bb (wAv am.number bF 0) false dh db hs gP gQ gR gS ay gT dx) (.inl Z) ?_
 rintro dd j7 lz fM jN i6 ⟨bS,cx,bU,cy,rfl,rfl⟩
 let dS:Res:=.row bS cx 3 1 (hD KL.encI ap.far)
 let dT:Res:=.row bU cy 3 1 (hD KL.encI ap.by_)
 have i7:sW w U dd [dS,dT,B3,.obj ab (.map ae ac),.blk bu 118 bW,.blk ag 62 B2,.blk b6 62 B2,.blk b2 45 B0] fM:=i6
 refine oM Z Z (oR Z (zV Z Z (v:=.agg #[.slice bS ap.far.length cx,.slice bU ap.by_.length cy]) Z) (oR Z (zV Z Z (v:=jV dC) Z) (oR Z (zV Z Z (v:=.bool dD) Z) ?_)))
 let dU:List Value:=[.slice bS ap.far.length cx,.slice bU ap.by_.length cy]
 refine zX (j:=4) (vs:=dU) Z Z Z Z i7 Z Z Z Z Zp (zA Z) Z Z Z ?_
 intro fN i8
 have i9:sW w U dd [dS,dT,B3,.obj ab (.map ae ac),.blk bu 118 dU,.blk ag 62 B2,.blk b6 62 B2,.blk b2 45 B0] fN:=i8
 refine oA Z Z (oA Z Z (zg ?_))
 cases cD
 exact zI ⟨rfl,⟨dd,bu,bS,cx,bU,cy,rfl,rfl,(bq.trans jN),(i9.pick [2,3,5,6,7,4,0,1] _ (by decide) rfl)⟩⟩
 rintro lC eG ⟨k5,ca,bj,bn,br,bv,fR,fS,bD,fd⟩
 refine sR (wCv (.fx 3 (wMM (.nil)) .stop)) Z (oM Z fR (oR Z (zJ Z fS Zc Z zZ) (oL Z (fd.ldB (j:=5) Z Z Z zj (v:=.slice bj bh.length bn) Z) ?_)))
 have q:=fd.freezeR (k:=6) (n:=bh.length) rfl (wAC (f:=KL.encI) (sz:=1) (fun _=>rfl) bh) (by decide)
 obtain ⟨ep,bE,jF,ja⟩:=q
 let dV:Res:=.blk ca 118 [.slice bj bh.length bn,.slice br cE.length bv]
 let dW:Res:=.row br bv 3 1 (hD KL.encI cE)
 have jb:sW w U ep [B3,.obj ab (.map ae ac),.blk ag 62 B2,.blk b6 62 B2,.blk b2 45 B0,dV,dW] eG:=ja
 have gU:=bc.le bD
 have gV:=gU.le bE
 have gW:=bd.le bD
 have gX:=gW.le bE
 have gY:=be.le bD
 have gZ:=gY.le bE
 have g6:=bf.le bD
 have g7:=g6.le bE
 have g8:=bg.le bD
 have g9:=g8.le bE
 have q:=bnd fg
 obtain ⟨⟨jQ,ft⟩,ic,fh⟩:=q
 try dsimp only at fh
 refine zH 2 Z Z Z Z (zG Z Z Tryz.call50 (zB Z (zB Z zO)) Z) jb (fun hs=>wDw am ax aV a6 aW a7 aX a8 aY ba ab ae ac aZ bb bh bj bn eG ep hs gV gX gZ g7 ay g9 jF ic) (.inl Z) ?_
 rintro eu j8 lA fO lj jc ⟨cS,dp,eQ,cU,dq,rfl,rfl,ie⟩
 have jd:sW w U eu [.row cS dp 41 1 eQ,.row cU dq 3 1 (hD KL.encI ft),B3,.obj ab (.map ae ac),.blk ag 62 B2,.blk b6 62 B2,.blk b2 45 B0,dV,dW] fO:=jc
 refine oM Z Z (oR Z (zV Z Z (v:=.slice cS jQ.length dp) Z) (oR Z (zV Z Z (v:=.slice cU ft.length dq) Z) (oA Z Z (oA Z Z (eN (sR fL5 Z (oM Z Z (oM Z Z (oA Z Z (oA Z Z (oA Z Z (eN (zR ?_)))))))))))))
 cases fh
 exact ⟨rfl,_,(wMO rfl rfl rfl),eu,_,(jd.pick [0,1] _ (by decide) rfl),cS,dp,eQ,cU,dq,rfl,rfl,ie⟩
 intro du jw
 refine cT Z du (sR fL4 Z (oM Z Z (oA Z Z (oA Z Z (oA Z Z (eN (zR (zS ?_))))))))
 have je:=cB.nilrow 41 1
 have jf:=je.nilrow 3 1
 cases jw
 exact ⟨rfl,_,(wMO rfl rfl rfl),av,_,(jf.pick [1,0] _ (by decide) rfl),none,0,[],none,0,rfl,rfl,RlL.nil⟩
theorem wFp (p0:wAE) (bC:Option Addr) (bD:Nat) (bc:Option Addr) (bd:Nat) (aV:Option Addr) (aX:Nat) (bm:Option Addr) (bn:Nat) (p1:List (List Int)) (aq:Option Addr) (au:Nat) (p2:List Int) (aW:Option Addr) (aY:Nat) (w:World) (U:PHeap) (hS:St0 w U []) (io:Sl U 1 bC bD p0.Starts.length (hD KL.encI p0.Starts)) (ip:Sl U 2 bc bd p0.Splits.length (hD wAF p0.Splits)) (dA:Sl U 3 aV aX p0.Clocks.length (hD wAA p0.Clocks)) (iq:Sl U 4 bm bn p0.Readings.length (hD wAB p0.Readings)) (dB:SlR U wEX aq au p1) (dC:Sl U 1 aW aY p2.length (hD KL.encI p2)) {r:Bool} (hm:wBi p0 p1 p2=some r):Gv Tryz.prog 18 [.agg #[.slice bC p0.Starts.length bD,.slice bc p0.Splits.length bd,.slice aV p0.Clocks.length aX,.slice bm p0.Readings.length bn],.slice aq p1.length au,.slice aW p2.length aY] w (wBa w [] U (fun U_ L_ v=>v=.bool r/\L_=[])):=by
 unfold wBi at hm
 refine Gv.of Tryz.func18 Z Tryz.ntmps18 Tryz.results18 Z (sR gEy Z ?_)
 let B0:List Value:=[.slice bC p0.Starts.length bD,.slice bc p0.Splits.length bd,.slice aV p0.Clocks.length aX,.slice bm p0.Readings.length bn]
 refine ZC (cs:=B0) rfl rfl rfl rfl rfl rfl (by rfl) hS ?_
 intro W1 b2 bt
 refine oA Z Z (eN (zL (sR fL14 Z (oM Z Z (oR Z (zr Z Z ZK) (oR Z (zJ Z Z zP Z zZ) (oL Z (bt.ldB (j:=0) Z Z Z zj (v:=.slice bC p0.Starts.length bD) Z) (oR Z (zr Z Z zC) (oR Z (Zk Z Z Z) (oM Z Z ?_))))))))))
 by_cases c5:(↑p1.length:Int)=(↑p0.Starts.length:Int)
 have dI:=hm;rw [if_pos c5] at dI;replace c5:=zM c5
 refine zm Z Z Z (zQ Z Z (ZM (fun h=>h c5.out))) Z Z (ze Z Z Z (zQ Z Z (ZM (fun h=>h c5.out))) (fun _=>zr Z Z zC) (ze Z Z Z (zQ Z Z (ZM (fun h=>h c5.out))) (fun _=>zJ Z Z zP Z Zr) (ZE Z Z Z (zQ Z Z (ZM (fun h=>h c5.out))) (bt.ldB (j:=0) Z Z Z yM (v:=.slice aV p0.Clocks.length aX) Z) Z (ze Z Z Z (zQ Z Z (ZM (fun h=>h c5.out))) (fun _=>zr Z Z Za) (ze Z Z Z (zQ Z Z (ZM (fun h=>h c5.out))) (fun _=>Zk Z Z Z) (oR Z (zc Z (ZM (fun h=>h c5.out)) Z) (eN (ifc dI ?_ ?_))))))))
 intro c7 a8
 refine zy (ZM (fun h=>h c7.out)) (kN (zL (sR fL3 Z (oM Z Z (oR Z (zr Z Z ZK) (oM Z Z (eN (zb ?_))))))))
 have q:=wBQ a8
 obtain ⟨lR,a7⟩:=q
 have q:=wBP a7
 obtain ⟨cz,iw⟩:=q
 replace cz:=zM cz
 refine yG (fun aU _ σ_ w_=>∃ (U_:PHeap),σ_ 32=jV (↑aU:Int)/\σ_ 1=.slice aq p1.length au/\σ_ 2=.slice aW p2.length aY/\σ_ 3=.pointer (some ⟨b2,0,none⟩)/\σ_ 30=.slice aq p1.length au/\σ_ 31=jV (↑p1.length:Int)/\PHeap.Le U U_/\sW w U U_ [.blk b2 45 B0] w_) iw ?_ ?_ ?_
 exact ⟨U,Z,Z,Z,Z,Z,Z,(zN _),bt⟩
 rintro aU ⟨⟩ lX l4 cN cu ⟨bq,bG,fq,ft,bF,cY,cZ,bN,dw⟩ dJ bv
 try dsimp only at dJ
 have cQ:Hid ((↑aU:Int) < (↑p1.length:Int)):=zM (wAr cu)
 replace cu:=zM cu
 have iC:Hid (w64 ((↑aU:Int) + 1)=(↑(aU + 1):Int)):=zM (by have h1:=cz.out;have h2:=cQ.out;rw [wAW] <;> omega)
 refine sR fL1 Z (oR Z (zY Z bG cZ) (eN (zL (cT Z cQ (kN (zL (zb (sR fL5 Z (oM Z bG (bnK dJ fun bS dm i8=>?_))))))))))
 have f7:=dB.le bN
 have q:=f7.el (wAX dm)
 obtain ⟨dX,jw,lW,gF,cq,jq⟩:=q
 obtain ⟨bQ,bR,rfl,dp⟩:=jq
 replace cq:Cl bq dX (jw + aU * 1) [.slice bQ bS.length bR]:=cq
 refine ze rfl rfl rfl rfl (fun _=>ZR rfl cY gF bG ZK zZ (wBA dm)) (ZE rfl rfl rfl rfl (dw.ldC (f:=0) cq (v:=.slice bQ bS.length bR) rfl rfl zj rfl) rfl (yB rfl rfl rfl rfl rfl rfl (yB rfl rfl rfl rfl rfl rfl (eN (zL (zL (ZF ZB [3,3,3,1,3,3,3,3,3,3,1,3,1,3,3,1,3,3] fL18 (by kernel_rfl) ?_)))))))
 have ax:=dw.drew
 generalize hw_W46:({ cN with drawn:=cN.drawn + 1 }:World)=j5 at ax ⊢
 refine oM Z Z (oR Z (zr Z Z zC) (oR Z (zJ Z bF zP Z yA) (oL Z (ax.ldB (j:=0) Z Z Z yL (v:=.slice bc p0.Splits.length bd) Z) (oR Z (zr Z Z ZP) (oR Z (za Z Z Z) (oR Z (Zk Z Z Z) (oM Z Z (ifc i8 ?_ ?_))))))))
 intro af jk
 refine zm Z Z Z (zQ Z Z (ZM (fun h=>h af.out))) Z Z (bnK jk fun jL dq jl=>?_)
 have q:=dp.el (fun _=>rfl) (wAX dq)
 obtain ⟨lk,lO,gI,gZ⟩:=q
 refine ze Z Z Z (zQ Z Z (ZM (fun h=>h af.out))) (fun _=>ZR Z Z gI Z zC zD (wBA dq)) (ZE Z Z Z (zQ Z Z (ZM (fun h=>h af.out))) (ax.ldC (f:=0) gZ (v:=jV jL) Z Z zF Z) Z (ze Z Z Z (zQ Z Z (ZM (fun h=>h af.out))) (fun _=>zJ Z bF zP Z zZ) (ZE Z Z Z (zQ Z Z (ZM (fun h=>h af.out))) (ax.ldB (j:=0) Z Z Z zj (v:=.slice bC p0.Starts.length bD) Z) Z (zm Z Z Z (zQ Z Z (ZM (fun h=>h af.out))) Z Z (bnK jl fun jM dr jm=>?_)))))
 have gh:=io.le bN
 have q:=gh.el (fun _=>rfl) (wAX dr)
 obtain ⟨lm,lP,gJ,g6⟩:=q
 refine ze Z Z Z (zQ Z Z (ZM (fun h=>h af.out))) (fun _=>ZR Z Z gJ Z zC zD (wBA dr)) (ZE Z Z Z (zQ Z Z (ZM (fun h=>h af.out))) (ax.ldC (f:=0) g6 (v:=jV jM) Z Z zF Z) Z (ze Z Z Z (zQ Z Z (ZM (fun h=>h af.out))) (fun _=>Zk Z Z Z) (oR Z (zc Z (ZM (fun h=>h af.out)) Z) (eN (ifc jm ?_ ?_)))))
 intro ca bz
 refine zy (ZM (fun h=>h ca.out)) (kN (sR fL4 Z (oR Z (zJ Z bF zP Z yA) (oL Z (ax.ldB (j:=0) Z Z Z yL (v:=.slice bc p0.Splits.length bd) Z) (oR Z (zr Z Z ZP) (oM Z Z (eN (zb ?_))))))))
 have q:=wBQ bz
 obtain ⟨lU,bu⟩:=q
 have q:=wBP bu
 obtain ⟨cC,iA⟩:=q
 replace cC:=zM cC
 refine yG (fun bb _ σ_ w_=>∃ (U_:PHeap),σ_ 58=jV (↑bb:Int)/\σ_ 1=.slice aq p1.length au/\σ_ 2=.slice aW p2.length aY/\σ_ 3=.pointer (some ⟨b2,0,none⟩)/\σ_ 8=.slice bQ bS.length bR/\σ_ 30=.slice aq p1.length au/\σ_ 31=jV (↑p1.length:Int)/\σ_ 32=jV (↑aU:Int)/\σ_ 56=.slice bc p0.Splits.length bd/\σ_ 57=jV (↑p0.Splits.length:Int)/\PHeap.Le bq U_/\sW w U U_ [.blk b2 45 B0] w_) iA ?_ ?_ ?_
 exact ⟨bq,Z,fq,ft,bF,Z,cY,cZ,bG,Z,Z,(zN _),ax⟩
 rintro bb ⟨⟩ l3 me j6 cy ⟨bs,bI,fH,fI,fJ,fK,fL,fM,fN,de,df,cE,dz⟩ dM cr
 try dsimp only at dM
 have cS:Hid ((↑bb:Int) < (↑p0.Splits.length:Int)):=zM (wAr cy)
 replace cy:=zM cy
 have bM:Hid (w64 ((↑bb:Int) + 1)=(↑(bb + 1):Int)):=zM (by have h1:=cC.out;have h2:=cS.out;rw [wAW] <;> omega)
 refine sR fL1 Z (oR Z (zY Z bI df) (eN (zL (cT Z cS (kN (zL (zb (sR (wCv gFh) Z (oM Z bI (bnK dM fun bo dt jo=>?_))))))))))
 have gi:=ip.le bN
 have gj:=gi.le cE
 have q:=gj.el (fun _=>rfl) (wAX dt)
 obtain ⟨ln,lQ,gm,gK⟩:=q
 refine oR Z (ZR Z de gm bI ZP ZD (wBA dt)) (oL Z (dz.ldCA (f:=0) gK Z Z yE ZD (us:=[jV bo.Lo,jV bo.Hi]) Z Z) (zW (cs:=[jV 0,jV 0]) Z Z Z Z Z ZQ Z dz ?_))
 intro jO cO g7
 refine oA Z Z ?_
 let B1:List Value:=[jV bo.Lo,jV bo.Hi]
 refine zX (j:=0) (vs:=B1) Z Z Z Z g7 Z Z Z Z ZD (zA Z) Z Z Z ?_
 intro bU g8
 have g9:sW w U bs [.blk cO 37 B1,.blk b2 45 B0] bU:=g8
 refine eN (zL (yf fun ap ao=>?_))
 have eI:ap 1=.slice aq p1.length au:=(ao 1).trans fH
 have eJ:ap 2=.slice aW p2.length aY:=(ao 2).trans fI
 have eK:ap 3=.pointer (some ⟨b2,0,none⟩):=(ao 3).trans fJ
 have a6:ap 8=.slice bQ bS.length bR:=(ao 8).trans fK
 have be:ap 9=jV (↑bb:Int):=(ao 9).trans rfl
 have cU:ap 10=.pointer (some ⟨cO,0,none⟩):=(ao 10).trans rfl
 have eM:ap 30=.slice aq p1.length au:=(ao 30).trans fL
 have eO:ap 31=jV (↑p1.length:Int):=(ao 31).trans fM
 have eQ:ap 32=jV (↑aU:Int):=(ao 32).trans fN
 have eU:ap 56=.slice bc p0.Splits.length bd:=(ao 56).trans de
 have eV:ap 57=jV (↑p0.Splits.length:Int):=(ao 57).trans df
 have eW:ap 58=jV (↑bb:Int):=(ao 58).trans bI
 clear ao
 refine ZF ZB [3,3,3,3,1,3,3,3,1,3,3,3,3,3,3,1,3,3,3,1,3,3,1,3,3,3,3,3,3,3,1,3,3,3,1,3,3,1,3,3] fL40 (by kernel_rfl) ?_
 have an:=g9.drew
 generalize hw_W124:({ bU with drawn:=bU.drawn + 1 }:World)=jP at an ⊢
 refine oM Z a6 (oM Z be (oR Z (ZG (za Z Z Z) (congrArg (jV) bM.out)) (bnK jo fun cG bf iE=>?_)))
 have bg:=dp.le cE
 have q:=bg.el (fun _=>rfl) (wAX bf)
 obtain ⟨j7,lA,gq,gL⟩:=q
 refine oR Z (ZR Z Z gq Z zC zD (wBA bf)) (oL Z (an.ldC (f:=0) gL (v:=jV cG) Z Z zF Z) (oM Z a6 (oM Z be (bnK iE fun cH bh iF=>?_))))
 have q:=bg.el (fun _=>rfl) (wAX bh)
 obtain ⟨j8,lB,gt,gM⟩:=q
 refine oR Z (ZR Z Z gt Z zC zD (wBA bh)) (oL Z (an.ldC (f:=0) gM (v:=jV cH) Z Z zF Z) (oR Z (zY Z Z Z) (oM Z Z (ifc iF ?_ ?_))))
 intro ab iG
 refine oT Z ab (oT Z ab (oT Z ab (oT Z ab (oT Z ab (oT Z ab (oT Z ab (oT Z ab (oT Z ab (oT Z ab (oT Z ab (oT Z ab (oT Z ab (oR Z (zT Z (Zm ab.out) Z) (oM Z Z (oN Z (oN Z (oN Z (oN Z (oN Z (oN Z (oN Z (oN Z (oN Z (oN Z (oN Z (oN Z (oN Z (oR Z (zT Z Z Z) (eN (ZJ Z (sR fL1 Z (oA Z Z (eN (zR (zd (zS ?_))))))))))))))))))))))))))))))))))))
 have q:=wAZ iG
 obtain ⟨jx,iH,d9⟩:=q
 have q:=wBB bz bu (cr jx d9)
 obtain rfl:=q
 refine zS (zd (zd (zS ?_)))
 have q:=wAZ iH
 obtain ⟨jy,iI,ef⟩:=q
 have q:=wBB a8 a7 (bv jy ef)
 obtain rfl:=q
 refine zS (zd (zS ?_))
 have hE:=hJ iI;first | subst r | cases hE
 exact ⟨rfl,_,(ZH rfl),bs,_,(an.pick [] _ (by decide) rfl),rfl,rfl⟩
 intro ab iJ
 refine zm Z Z Z (wF Z ab) Z a6 (zm Z Z Z (wF Z ab) Z be (rU Z (wF Z ab) (ZG (za Z Z Z) (congrArg (jV) bM.out)) ?_))
 have q:=bg.el (fun _=>rfl) (wAX bf)
 obtain ⟨j9,lC,gu,gN⟩:=q
 refine rU Z (wF Z ab) (ZR Z Z gu Z zC zD (wBA bf)) (ZE Z Z Z (wF Z ab) (an.ldC (f:=0) gN (v:=jV cG) Z Z zF Z) Z (zm Z Z Z (wF Z ab) Z a6 (zm Z Z Z (wF Z ab) Z be ?_)))
 have q:=bg.el (fun _=>rfl) (wAX bh)
 obtain ⟨k5,lD,gv,gO⟩:=q
 refine rU Z (wF Z ab) (ZR Z Z gv Z zC zD (wBA bh)) (ZE Z Z Z (wF Z ab) (an.ldC (f:=0) gO (v:=jV cH) Z Z zF Z) Z (rU Z (wF Z ab) (yP Z Z Z) (rU Z (wF Z ab) (zJ Z cU ZU Z zD) (ZE Z Z Z (wF Z ab) (an.ldB (j:=0) Z Z Z zF (v:=jV bo.Lo) Z) Z (rU Z (wF Z ab) (zY Z Z Z) (oR Z (zc Z (ZM ab.out) Z) (oM Z Z (ifc iJ ?_ ?_))))))))
 intro ac iK
 refine oT Z ac (oT Z ac (oT Z ac (oT Z ac (oT Z ac (oT Z ac (oT Z ac (oT Z ac (oT Z ac (oT Z ac (oT Z ac (oT Z ac (oT Z ac (oR Z (zT Z (Zm ac.out) Z) (eN (ZJ Z (sR fL1 Z (oA Z Z (eN (zR (zd (zS ?_)))))))))))))))))))))
 have q:=wAZ iK
 obtain ⟨jz,iL,eh⟩:=q
 have q:=wBB bz bu (cr jz eh)
 obtain rfl:=q
 refine zS (zd (zd (zS ?_)))
 have q:=wAZ iL
 obtain ⟨jA,iM,ep⟩:=q
 have q:=wBB a8 a7 (bv jA ep)
 obtain rfl:=q
 refine zS (zd (zS ?_))
 have hE:=hJ iM;first | subst r | cases hE
 exact ⟨rfl,_,(ZH rfl),bs,_,(an.pick [] _ (by decide) rfl),rfl,rfl⟩
 intro ac iN
 refine zm Z Z Z (wF Z ac) Z a6 (zm Z Z Z (wF Z ac) Z be (rU Z (wF Z ac) (ZG (za Z Z Z) (congrArg (jV) bM.out)) ?_))
 have q:=bg.el (fun _=>rfl) (wAX bf)
 obtain ⟨k6,lE,gw,gP⟩:=q
 refine rU Z (wF Z ac) (ZR Z Z gw Z zC zD (wBA bf)) (ZE Z Z Z (wF Z ac) (an.ldC (f:=0) gP (v:=jV cG) Z Z zF Z) Z (zm Z Z Z (wF Z ac) Z a6 (zm Z Z Z (wF Z ac) Z be ?_)))
 have q:=bg.el (fun _=>rfl) (wAX bh)
 obtain ⟨k8,lF,gx,gQ⟩:=q
 refine rU Z (wF Z ac) (ZR Z Z gx Z zC zD (wBA bh)) (ZE Z Z Z (wF Z ac) (an.ldC (f:=0) gQ (v:=jV cH) Z Z zF Z) Z (rU Z (wF Z ac) (yP Z Z Z) (rU Z (wF Z ac) (zJ Z cU ZU Z zD) (ZE Z Z Z (wF Z ac) (an.ldB (j:=0) Z Z Z zF (v:=jV bo.Hi) Z) Z (rU Z (wF Z ac) (yt Z Z Z) (oR Z (zc Z (ZM ac.out) Z) (eN (ifc iN ?_ ?_))))))))
 intro bX iO
 refine cT Z bX (sR fL1 Z (oA Z Z (eN (zR (zd (zS ?_))))))
 have q:=wAZ iO
 obtain ⟨jB,iP,eu⟩:=q
 have q:=wBB bz bu (cr jB eu)
 obtain rfl:=q
 refine zS (zd (zd (zS ?_)))
 have q:=wAZ iP
 obtain ⟨jC,iQ,ew⟩:=q
 have q:=wBB a8 a7 (bv jC ew)
 obtain rfl:=q
 refine zS (zd (zS ?_))
 have hE:=hJ iQ;first | subst r | cases hE
 exact ⟨rfl,_,(ZH rfl),bs,_,(an.pick [] _ (by decide) rfl),rfl,rfl⟩
 intro bX iR
 refine cF Z bX (Zi (zx (zI (rR fL2 Z (oR Z (ZG (za Z eW Z) (congrArg (jV) bM.out)) (oM Z Z (zg ?_)))))))
 have q:=hJ iR
 obtain rfl:=q
 exact zI ⟨rfl,_,rfl,⟨bs,rfl,eI,eJ,eK,a6,eM,eO,eQ,eU,eV,cE,(an.pick [1] _ (by decide) rfl)⟩⟩
 rintro ⟨⟩ l5 jQ ⟨dS,fO,eX,eY,eZ,lp,fb,fc,fd,lq,ff,ju,ic⟩ ir
 have dF:=wCE bz bu ir
 try dsimp only at dF
 have dY:Hid (¬ ((↑(((↑p0.Splits.length:Int):Int) - 0).toNat:Int) < (↑p0.Splits.length:Int))):=zM (wAf)
 refine sR fL1 Z (oR Z (zY Z fO ff) (eN (zL (cF Z dY (Zd (zn (zn (ZV (zx (zI (rR fL2 Z (oR Z (ZG (za Z fd Z) (congrArg (jV) iC.out)) (oM Z Z (zg ?_))))))))))))))
 have q:=hJ dF
 obtain rfl:=q
 exact zI ⟨Z,_,Z,⟨dS,Z,eX,eY,eZ,fb,fc,(bN.trans ju),ic⟩⟩
 intro ca iS
 refine cT Z ca (sR fL1 Z (oA Z Z (eN (zR (zS (zd (zS ?_)))))))
 have q:=wAZ iS
 obtain ⟨jD,iT,eA⟩:=q
 have q:=wBB a8 a7 (bv jD eA)
 obtain rfl:=q
 refine zS (zd (zS ?_))
 have hE:=hJ iT;first | subst r | cases hE
 exact ⟨rfl,_,(ZH rfl),bq,_,(ax.pick [] _ (by decide) rfl),rfl,rfl⟩
 intro af iU
 refine oT Z af (oT Z af (oT Z af (oT Z af (oT Z af (oT Z af (oT Z af (oT Z af (oT Z af (oR Z (zT Z (Zm af.out) Z) (eN (ZJ Z (sR fL1 Z (oA Z Z (eN (zR (zS (zd (zS ?_))))))))))))))))))
 have q:=wAZ iU
 obtain ⟨jE,iV,eB⟩:=q
 have q:=wBB a8 a7 (bv jE eB)
 obtain rfl:=q
 refine zS (zd (zS ?_))
 have hE:=hJ iV;first | subst r | cases hE
 exact ⟨rfl,_,(ZH rfl),bq,_,(ax.pick [] _ (by decide) rfl),rfl,rfl⟩
 rintro ⟨⟩ l6 jR ⟨cL,fP,fg,fh,cV,ls,fj,bk,du⟩ it
 have bw:=wCE a8 a7 it
 try dsimp only at bw
 have dZ:Hid (¬ ((↑(((↑p1.length:Int):Int) - 0).toNat:Int) < (↑p1.length:Int))):=zM (wAf)
 refine sR fL1 Z (oR Z (zY Z fP fj) (eN (zL (cF Z dZ (Zd (zn (zn (ZV (zI (zL (sR fL4 Z (oR Z (zJ Z cV zP Z Zr) (oL Z (du.ldB (j:=0) Z Z Z yM (v:=.slice aV p0.Clocks.length aX) Z) (oR Z (zr Z Z Za) (oM Z Z (eN (zb ?_)))))))))))))))))
 have q:=wBQ bw
 obtain ⟨lS,bK⟩:=q
 have q:=wBP bK
 obtain ⟨cA,iy⟩:=q
 replace cA:=zM cA
 refine yG (fun bA _ σ_ w_=>∃ (U_:PHeap),σ_ 108=jV (↑bA:Int)/\σ_ 1=.slice aq p1.length au/\σ_ 2=.slice aW p2.length aY/\σ_ 3=.pointer (some ⟨b2,0,none⟩)/\σ_ 106=.slice aV p0.Clocks.length aX/\σ_ 107=jV (↑p0.Clocks.length:Int)/\PHeap.Le cL U_/\sW w U U_ [.blk b2 45 B0] w_) iy ?_ ?_ ?_
 exact ⟨cL,Z,fg,fh,cV,Z,Z,(zN _),du⟩
 rintro bA ⟨⟩ lY l7 jS cw ⟨bE,bH,fk,cd,fm,cW,cX,cD,dv⟩ dK dD
 try dsimp only at dK
 have cP:Hid ((↑bA:Int) < (↑p0.Clocks.length:Int)):=zM (wAr cw)
 replace cw:=zM cw
 have iB:Hid (w64 ((↑bA:Int) + 1)=(↑(bA + 1):Int)):=zM (by have h1:=cA.out;have h2:=cP.out;rw [wAW] <;> omega)
 refine sR fL1 Z (oR Z (zY Z bH cX) (eN (zL (cT Z cP (kN (zL (zb (sR (wCv gFh) Z (oM Z bH (bnK dK fun aZ dg iW=>?_))))))))))
 have fS:=dA.le bk
 have fT:=fS.le cD
 have q:=fT.el (fun _=>rfl) (wAX dg)
 obtain ⟨k9,lG,gy,gR⟩:=q
 refine oR Z (ZR Z cW gy bH Za Zs (wBA dg)) (oL Z (dv.ldCA (f:=0) gR Z Z Tryz.isAgg39 Zs (us:=[jV aZ.Offset.Lo,jV aZ.Offset.Hi,jV aZ.Error]) Z Z) (zW (cs:=[jV 0,jV 0,jV 0]) Z Z Z Z Z yc Z dv ?_))
 intro jT dU ie
 refine oA Z Z ?_
 let B2:List Value:=[jV aZ.Offset.Lo,jV aZ.Offset.Hi,jV aZ.Error]
 refine zX (j:=0) (vs:=B2) Z Z Z Z ie Z Z Z Z Zs (zA Z) Z Z Z ?_
 intro bV ig
 have ii:sW w U bE [.blk dU 39 B2,.blk b2 45 B0] bV:=ig
 refine eN (zL (ZF ZB [3,3,3,1,3,3,1,3,3,3,3,3,1,3,3,1,3,3] fL18 (by kernel_rfl) ?_))
 have az:=ii.drew
 generalize hw_W263:({ bV with drawn:=bV.drawn + 1 }:World)=jU at az ⊢
 refine oM Z cd (oM Z Z (bnK iW fun dP bJ iX=>?_))
 have fU:=dC.le bk
 have dh:=fU.le cD
 have q:=dh.el (fun _=>rfl) (wAX bJ)
 obtain ⟨lb,lH,gz,gS⟩:=q
 refine oR Z (ZR Z Z gz Z zC zD (wBA bJ)) (oL Z (az.ldC (f:=0) gS (v:=jV dP) Z Z zF Z) (oR Z (zJ Z Z Zv Z ZD) (oR Z (zJ Z Z ZU Z zD) (oL Z (az.ldB (j:=0) Z Z Z zF (v:=jV aZ.Offset.Lo) Z) (oR Z (zY Z Z Z) (oM Z Z (ifc iX ?_ ?_)))))))
 intro ah iY
 refine oT Z ah (oT Z ah (oT Z ah (oT Z ah (oT Z ah (oT Z ah (oT Z ah (oT Z ah (oR Z (zT Z (Zm ah.out) Z) (eN (ZJ Z (sR fL1 Z (oA Z Z (eN (zR (zd (zS ?_))))))))))))))))
 have q:=wAZ iY
 obtain ⟨jF,iZ,eD⟩:=q
 have q:=wBB bw bK (dD jF eD)
 obtain rfl:=q
 refine zS (zd (zS ?_))
 have hE:=hJ iZ;first | subst r | cases hE
 exact ⟨rfl,_,(ZH rfl),bE,_,(az.pick [] _ (by decide) rfl),rfl,rfl⟩
 intro ah i2
 refine zm Z Z Z (wF Z ah) Z cd (zm Z Z Z (wF Z ah) Z Z ?_)
 have q:=dh.el (fun _=>rfl) (wAX bJ)
 obtain ⟨lc,lI,gA,gT⟩:=q
 refine rU Z (wF Z ah) (ZR Z Z gA Z zC zD (wBA bJ)) (ZE Z Z Z (wF Z ah) (az.ldC (f:=0) gT (v:=jV dP) Z Z zF Z) Z (rU Z (wF Z ah) (zJ Z Z Zv Z ZD) (rU Z (wF Z ah) (zJ Z Z ZU Z zD) (ZE Z Z Z (wF Z ah) (az.ldB (j:=0) Z Z Z zF (v:=jV aZ.Offset.Hi) Z) Z (rU Z (wF Z ah) (yt Z Z Z) (oR Z (zc Z (ZM ah.out) Z) (eN (ifc i2 ?_ ?_))))))))
 intro bY i4
 refine cT Z bY (sR fL1 Z (oA Z Z (eN (zR (zd (zS ?_))))))
 have q:=wAZ i4
 obtain ⟨jG,i5,eF⟩:=q
 have q:=wBB bw bK (dD jG eF)
 obtain rfl:=q
 refine zS (zd (zS ?_))
 have hE:=hJ i5;first | subst r | cases hE
 exact ⟨rfl,_,(ZH rfl),bE,_,(az.pick [] _ (by decide) rfl),rfl,rfl⟩
 intro bY i6
 refine cF Z bY (Zi (zx (zI (rR fL2 Z (oR Z (ZG (za Z bH Z) (congrArg (jV) iB.out)) (oM Z Z (zg ?_)))))))
 have q:=hJ i6
 obtain rfl:=q
 exact zI ⟨rfl,_,rfl,⟨bE,rfl,fk,cd,fm,cW,cX,cD,(az.pick [1] _ (by decide) rfl)⟩⟩
 rintro ⟨⟩ l8 jW ⟨cM,fQ,fu,fw,c6,lu,fy,bP,dx⟩ iu
 have bx:=wCE bw bK iu
 try dsimp only at bx
 have d5:Hid (¬ ((↑(((↑p0.Clocks.length:Int):Int) - 0).toNat:Int) < (↑p0.Clocks.length:Int))):=zM (wAf)
 refine sR fL1 Z (oR Z (zY Z fQ fy) (eN (zL (cF Z d5 (Zd (zn (zn (ZV (zI (zL (sR fL4 Z (oR Z (zJ Z c6 zP Z Zo) (oL Z (dx.ldB (j:=0) Z Z Z yN (v:=.slice bm p0.Readings.length bn) Z) (oR Z (zr Z Z ZY) (oM Z Z (eN (zb ?_)))))))))))))))))
 have q:=wBQ bx
 obtain ⟨lT,bL⟩:=q
 have q:=wBP bL
 obtain ⟨cB,iz⟩:=q
 replace cB:=zM cB
 refine yG (fun bj _ σ_ w_=>∃ (U_:PHeap),σ_ 135=jV (↑bj:Int)/\σ_ 1=.slice aq p1.length au/\σ_ 2=.slice aW p2.length aY/\σ_ 3=.pointer (some ⟨b2,0,none⟩)/\σ_ 133=.slice bm p0.Readings.length bn/\σ_ 134=jV (↑p0.Readings.length:Int)/\PHeap.Le cM U_/\sW w U U_ [.blk b2 45 B0] w_) iz ?_ ?_ ?_
 exact ⟨cM,Z,fu,fw,c6,Z,Z,(zN _),dx⟩
 rintro bj ⟨⟩ lZ ma jX cx ⟨br,ci,c8,da,cg,db,dd,bB,dy⟩ dL dE
 try dsimp only at dL
 have cR:Hid ((↑bj:Int) < (↑p0.Readings.length:Int)):=zM (wAr cx)
 replace cx:=zM cx
 have iD:Hid (w64 ((↑bj:Int) + 1)=(↑(bj + 1):Int)):=zM (by have h1:=cB.out;have h2:=cR.out;rw [wAW] <;> omega)
 refine sR fL1 Z (oR Z (zY Z ci dd) (eN (zL (cT Z cR (kN (zL (zb (sR (.fl 0 (.fl 1 (.fx 2 (.fx 3 .nil .stop) .stop))) Z (bnK dL fun ak di i7=>?_)))))))))
 have fV:=iq.le bk
 have fW:=fV.le bP
 have fY:=fW.le bB
 have q:=fY.el (fun _=>rfl) (wAX di)
 obtain ⟨lf,lJ,gB,gU⟩:=q
 refine oR Z (ZR Z db gB ci ZY Zg (wBA di)) (oL Z (dy.ldCA (f:=0) gU Z Z yr Zg (us:=[jV ak.Skier,jV ak.Mat,jV ak.Clock,jV ak.Time]) Z Z) (zW (cs:=[jV 0,jV 0,jV 0,jV 0]) Z Z Z Z Z Zn Z dy ?_))
 intro jY dV ij
 let B3:List Value:=[jV ak.Skier,jV ak.Mat,jV ak.Clock,jV ak.Time]
 refine zX (j:=0) (vs:=B3) Z Z Z Z ij Z Z Z Z Zg (zA Z) Z Z Z ?_
 intro bW ik
 have il:sW w U br [.blk dV 52 B3,.blk b2 45 B0] bW:=ik
 refine eN (zL (ZF ZB [3,1,3,3,1,3,1,3,1,3,1,3,3,3,1,3,1,3,3] fL19 (by kernel_rfl) ?_))
 have aj:=il.drew
 generalize hw_W344:({ bW with drawn:=bW.drawn + 1 }:World)=jZ at aj ⊢
 refine oR Z (zJ Z Z ZL Z zD) (oL Z (aj.ldB (j:=0) Z Z Z zF (v:=jV ak.Time) Z) (oM Z c8 (oR Z (zJ Z Z ZL Z zD) (oL Z (aj.ldB (j:=0) Z Z Z zF (v:=jV ak.Skier) Z) (bnK i7 fun dQ cj i9=>?_)))))
 have fZ:=dB.le bk
 have f5:=fZ.le bP
 have f8:=f5.le bB
 have q:=f8.el (wAX cj)
 obtain ⟨dW,jv,lV,gC,cp,jp⟩:=q
 obtain ⟨dN,dO,rfl,f9⟩:=jp
 replace cp:Cl br dW (jv + ak.Skier.toNat * 1) [.slice dN dQ.length dO]:=cp
 refine oR Z (Ze Z Z gC Z ZK zZ (wBt cj) (wBy cj)) (oL Z (aj.ldC (f:=0) cp (v:=.slice dN dQ.length dO) Z Z zj Z) (oR Z (zJ Z Z ZL Z zD) (oL Z (aj.ldB (j:=0) Z Z Z zF (v:=jV ak.Mat) Z) (bnK i9 fun jJ cm ja=>?_))))
 have q:=f9.el (fun _=>rfl) (wAX cm)
 obtain ⟨lg,lK,gD,gV⟩:=q
 refine oR Z (Ze Z Z gD Z zC zD (wBt cm) (wBy cm)) (oL Z (aj.ldC (f:=0) gV (v:=jV jJ) Z Z zF Z) (oR Z (yP Z Z Z) (oM Z da (oR Z (zJ Z Z ZL Z zD) (oL Z (aj.ldB (j:=0) Z Z Z zF (v:=jV ak.Clock) Z) (bnK ja fun jK co jb=>?_))))))
 have ga:=dC.le bk
 have gb:=ga.le bP
 have ge:=gb.le bB
 have q:=ge.el (fun _=>rfl) (wAX co)
 obtain ⟨lh,lL,gE,gW⟩:=q
 refine oR Z (Ze Z Z gE Z zC zD (wBt co) (wBy co)) (oL Z (aj.ldC (f:=0) gW (v:=jV jK) Z Z zF Z) (oR Z (yP Z Z Z) (oA Z Z (eN (sR fL21 Z (oM Z Z (oR Z (zJ Z cg zP Z Zr) (oL Z (aj.ldB (j:=1) Z Z Z yM (v:=.slice aV p0.Clocks.length aX) Z) (oR Z (zJ Z Z ZL Z zD) (oL Z (aj.ldB (j:=0) Z Z Z zF (v:=jV ak.Clock) Z) (bnK jb fun dR bi jc=>?_)))))))))))
 have gf:=dA.le bk
 have gg:=gf.le bP
 have dn:=gg.le bB
 have q:=dn.el (fun _=>rfl) (wAX bi)
 obtain ⟨li,lM,gG,gX⟩:=q
 refine oR Z (Ze Z Z gG Z Za Zs (wBt bi) (wBy bi)) (oR Z (zJ Z Z Zv Z zD) (oL Z (aj.ldC (f:=2) gX (v:=jV dR.Error) Z Z zF Z) (oR Z (yt Z Z Z) (oM Z Z (ifc jc ?_ ?_)))))
 intro ae jd
 refine oT Z ae (oT Z ae (oT Z ae (oT Z ae (oT Z ae (oT Z ae (oT Z ae (oT Z ae (oT Z ae (oT Z ae (oR Z (zT Z (Zm ae.out) Z) (eN (ZJ Z (zL (yf fun mb jr=>?_))))))))))))))
 clear jr
 refine rR fL1 Z (oA Z Z (eN (zR (zd (zS ?_)))))
 have q:=wAZ jd
 obtain ⟨jH,je,eG⟩:=q
 have q:=wBB bx bL (dE jH eG)
 obtain rfl:=q
 refine zS (zd (zS ?_))
 have hE:=hJ je;first | subst r | cases hE
 exact ⟨rfl,_,(ZH rfl),br,_,(aj.pick [] _ (by decide) rfl),rfl,rfl⟩
 intro ae jf
 refine zm Z Z Z (wF Z ae) Z Z (rU Z (wF Z ae) (Runs.negw Z Z) (rU Z (wF Z ae) (zJ Z cg zP Z Zr) (ZE Z Z Z (wF Z ae) (aj.ldB (j:=1) Z Z Z yM (v:=.slice aV p0.Clocks.length aX) Z) Z (rU Z (wF Z ae) (zJ Z Z ZL Z zD) (ZE Z Z Z (wF Z ae) (aj.ldB (j:=0) Z Z Z zF (v:=jV ak.Clock) Z) Z ?_)))))
 have q:=dn.el (fun _=>rfl) (wAX bi)
 obtain ⟨lj,lN,gH,gY⟩:=q
 refine rU Z (wF Z ae) (Ze Z Z gH Z Za Zs (wBt bi) (wBy bi)) (rU Z (wF Z ae) (zJ Z Z Zv Z zD) (ZE Z Z Z (wF Z ae) (aj.ldC (f:=2) gY (v:=jV dR.Error) Z Z zF Z) Z (rU Z (wF Z ae) (yt Z Z Z) (oR Z (zc Z (ZM ae.out) Z) (eN (ifc jf ?_ ?_))))))
 intro bZ jg
 refine cT Z bZ (zL (yf fun mc jt=>?_))
 clear jt
 refine rR fL1 Z (oA Z Z (eN (zR (zd (zS ?_)))))
 have q:=wAZ jg
 obtain ⟨jI,jh,eH⟩:=q
 have q:=wBB bx bL (dE jI eH)
 obtain rfl:=q
 refine zS (zd (zS ?_))
 have hE:=hJ jh;first | subst r | cases hE
 exact ⟨rfl,_,(ZH rfl),br,_,(aj.pick [] _ (by decide) rfl),rfl,rfl⟩
 intro bZ ji
 refine cF Z bZ (Zi (zx (zI (yf fun bp ba=>?_))))
 have fz:bp 1=.slice aq p1.length au:=(ba 1).trans c8
 have fA:bp 2=.slice aW p2.length aY:=(ba 2).trans da
 have fB:bp 3=.pointer (some ⟨b2,0,none⟩):=(ba 3).trans cg
 have fC:bp 133=.slice bm p0.Readings.length bn:=(ba 133).trans db
 have fD:bp 134=jV (↑p0.Readings.length:Int):=(ba 134).trans dd
 have fE:bp 135=jV (↑bj:Int):=(ba 135).trans ci
 clear ba
 refine rR fL2 Z (oR Z (ZG (za Z fE Z) (congrArg (jV) iD.out)) (oM Z Z (zg ?_)))
 have q:=hJ ji
 obtain rfl:=q
 exact zI ⟨rfl,_,rfl,⟨br,rfl,fz,fA,fB,fC,fD,bB,(aj.pick [1] _ (by decide) rfl)⟩⟩
 rintro ⟨⟩ md j4 ⟨dT,fR,lv,lw,lx,ly,fG,lz,im⟩ iv
 have dG:=wCE bx bL iv
 try dsimp only at dG
 have d7:Hid (¬ ((↑(((↑p0.Readings.length:Int):Int) - 0).toNat:Int) < (↑p0.Readings.length:Int))):=zM (wAf)
 refine sR fL1 Z (oR Z (zY Z fR fG) (eN (zL (cF Z d7 (Zd (zn (zn (ZV (zI (sR fL1 Z (oA Z Z (eN (zR ?_)))))))))))))
 have hE:=hJ dG;first | subst r | cases hE
 exact ⟨rfl,_,(ZH rfl),dT,_,(im.pick [] _ (by decide) rfl),rfl,rfl⟩
 intro c7 jj
 refine cT Z c7 (sR fL1 Z (oA Z Z (eN (zR (zS ?_)))))
 have hE:=hJ jj;first | subst r | cases hE
 exact ⟨rfl,_,(ZH rfl),U,_,(bt.pick [] _ (by decide) rfl),rfl,rfl⟩
 have dH:=hm;rw [if_neg c5] at dH;replace c5:=zM c5
 refine oT Z c5 (oT Z c5 (oT Z c5 (oT Z c5 (oT Z c5 (oT Z c5 (oR Z (zT Z (Zm c5.out) Z) (eN (ZJ Z (sR fL1 Z (oA Z Z (eN (zR (zS ?_)))))))))))))
 have hE:=hJ dH;first | subst r | cases hE
 exact ⟨rfl,_,(ZH rfl),U,_,(bt.pick [] _ (by decide) rfl),rfl,rfl⟩
end Go.Proofs.YtkghaiefcjgfkaaGreat
namespace Go.Proofs.YtkghaiefcjgfkaaGreat
open Go.KL
set_option maxHeartbeats 4000000
theorem wGZ (p0:Int) (p1:Int) (p2:Int) (w:World) (U:PHeap) (hS:St0 w U [])  {r:Bool} (hm:wDh p0 p1 p2=some r):Gv Tryz.prog 74 [jV p0,jV p1,jV p2] w (wBa w [] U (fun U_ L_ v=>v=.bool r/\L_=[])):=by
 unfold wDh at hm
 refine Gv.of Tryz.func74 Z Tryz.ntmps74 Tryz.results74 Z (sR fL1 Z (oA Z Z (eN (sR fL9 Z (oM Z Z (oM Z Z (oR Z (Runs.geq Z Z Z) (oM Z Z ?_))))))))
 by_cases c1:p1 <= p0
 have ab:=hm;rw [if_pos c1] at ab;replace c1:=zM c1
 refine zm Z Z Z (wT Z c1) Z Z (zm Z Z Z (wT Z c1) Z Z (rU Z (wT Z c1) (YH Z Z Z) (oR Z (zT Z (Zm c1.out) Z) (oA Z Z (eN (zR ?_))))))
 first | (obtain rfl:=hJ ab) | cases ab
 exact ⟨Z,_,(ZH Z),U,_,hS,Z,Z⟩
 have af:=hm;rw [if_neg c1] at af;replace c1:=zM c1
 refine oF Z c1 (oF Z c1 (oF Z c1 (oR Z (zc Z (ZM c1.out) Z) (oA Z Z (eN (zR ?_))))))
 have hE:=hJ af;first | subst r | cases hE
 exact ⟨Z,_,(ZH Z),U,_,hS,Z,Z⟩
theorem wFq (p0:List Int) (ac:Option Addr) (ah:Nat) (p1:wAT) (ag:Nat) (ae:Option Addr) (ai:Nat) (af:Option Addr) (aj:Nat) (w:World) (U:PHeap) (hS:St0 w U []) (am:Sl U 1 ac ah p0.length (hD KL.encI p0)) (ak:Cl U ag 0 [jV p1.Laps,.slice ae p1.Bibs.length ai,.slice af p1.Times.length aj]) (an:Sl U 1 ae ai p1.Bibs.length (hD KL.encI p1.Bibs)) (ao:SlR U wEX af aj p1.Times) {r:Bool} (hm:wBj p0 p1=some r):Gv Tryz.prog 76 [.slice ac p0.length ah,.pointer (some ⟨ag,0,none⟩)] w (wBa w [] U (fun U_ L_ v=>v=.bool r/\L_=[])):=by
 unfold wBj at hm
 refine Gv.of Tryz.func76 Z Tryz.ntmps76 Tryz.results76 Z (sR fL1 Z (oA Z Z (eN (sR fL6 Z (oM Z Z (oR Z (zr Z Z zC) (oR Z (zJ Z Z Zj Z zD) (oL Z (hS.ldC (f:=0) ak (v:=jV p1.Laps) Z Z zF Z) (oR Z (YH Z Z Z) (oA Z Z (eN (zR ?_))))))))))))
 first | (obtain rfl:=hJ hm) | cases hm
 exact ⟨Z,_,(ZH Z),U,_,hS,Z,Z⟩
theorem wFQ (p0:List (List Int)) (am:Option Addr) (ao:Nat) (p1:((List Int)->Option Bool)) (aq:Value) (w:World) (U:PHeap) (hS:St0 w U []) (bn:SlR U wEX am ao p0) (bo:FnOK Tryz.prog U aq wMm wMn p1) {r:Bool} (hm:wCY p0 p1=some r):Gv Tryz.prog 75 [.slice am p0.length ao,aq] w (wBa w [] U (fun U_ L_ v=>v=.bool r/\L_=[])):=by
 unfold wCY at hm
 refine Gv.of Tryz.func75 Z Tryz.ntmps75 Tryz.results75 Z (sR fL1 Z (oA Z Z (eN (zL (sR fL3 Z (oM Z Z (oR Z (zr Z Z ZK) (oM Z Z (eN (zb ?_))))))))))
 have q:=wBQ hm
 obtain ⟨r3,ah⟩:=q
 have q:=wBP ah
 obtain ⟨aj,br⟩:=q
 replace aj:=zM aj
 refine yG (fun k2 _ σ_ w_=>∃ (U_:PHeap),σ_ 9=jV (↑k2:Int)/\σ_ 1=aq/\σ_ 7=.slice am p0.length ao/\σ_ 8=jV (↑p0.length:Int)/\PHeap.Le U U_/\sW w U U_ [] w_) br ?_ ?_ ?_
 exact ⟨U,Z,Z,Z,Z,(zN _),hS⟩
 rintro k2 ⟨⟩ bN bQ W8 ai ⟨a6,af,ax,ay,az,ak,aV⟩ aY bp
 try dsimp only at aY
 have av:Hid ((↑k2:Int) < (↑p0.length:Int)):=zM (wAr ai)
 replace ai:=zM ai
 have bs:Hid (w64 ((↑k2:Int) + 1)=(↑(k2 + 1):Int)):=zM (by have h1:=aj.out;have h2:=av.out;rw [wAW] <;> omega)
 refine sR fL1 Z (oR Z (zY Z af az) (eN (zL (cT Z av (kN (zL (zb (sR fL3 Z (bnK aY fun au aU bt=>?_)))))))))
 have bf:=bn.le ak
 have q:=bf.el (wAX aU)
 obtain ⟨ba,bB,bL,bj,ag,bz⟩:=q
 obtain ⟨an,ap,rfl,bg⟩:=bz
 replace ag:Cl a6 ba (bB + k2 * 1) [.slice an au.length ap]:=ag
 refine oR Z (ZR Z ay bj af ZK zZ (wBA aU)) (oL Z (aV.ldC (f:=0) ag (v:=.slice an au.length ap) Z Z zj Z) (oA Z Z (eN (sR gFo Z (oM Z ax (oM Z Z (bnK bt fun bM bh bu=>?_)))))))
 have bi:=bo.le ak
 refine YF (a:=au) Z Z Z Z Z Z (zB Z zO) aV bi ⟨an,ap,Z,bg⟩ bh ?_
 rintro ac bD bK a8 bA bk ⟨rfl,rfl⟩
 have aW:sW w U ac [] a8:=bk
 refine oR Z (ZW Z Z) (eN (ifc bu ?_ ?_))
 intro ae bv
 refine zy (nC ae.out) (Zi (zx (zI (rR fL2 Z (oR Z (ZG (za Z af Z) (congrArg (jV) bs.out)) (oM Z Z (zg ?_)))))))
 have q:=hJ bv
 obtain rfl:=q
 exact zI ⟨Z,_,Z,⟨ac,Z,ax,ay,az,(ak.trans bA),aW⟩⟩
 intro ae bw
 refine ZJ (nF (ae.out)) (sR fL1 Z (oA Z Z (eN (zR (zd (zS ?_))))))
 have q:=wAZ bw
 obtain ⟨bC,bx,bc⟩:=q
 have q:=wBB hm ah (bp bC bc)
 obtain rfl:=q
 refine zS (zd (zS ?_))
 have hE:=hJ bx;first | subst r | cases hE
 exact ⟨Z,_,(ZH Z),ac,_,aW,Z,Z⟩
 rintro ⟨⟩ bP bE ⟨a7,be,bG,bH,bd,bI,bm⟩ bq
 have aX:=wCE hm ah bq
 try dsimp only at aX
 have bb:Hid (¬ ((↑(((↑p0.length:Int):Int) - 0).toNat:Int) < (↑p0.length:Int))):=zM (wAf)
 refine sR fL1 Z (oR Z (zY Z be bd) (eN (zL (cF Z bb (Zd (zn (zn (ZV (zI (sR fL1 Z (oA Z Z (eN (zR ?_)))))))))))))
 have hE:=hJ aX;first | subst r | cases hE
 exact ⟨Z,_,(ZH Z),a7,_,bm,Z,Z⟩
theorem wEb (p0:List Int) (ak:Option Addr) (am:Nat) (p1:(Int->Option Bool)) (an:Value) (w:World) (U:PHeap) (hS:St0 w U []) (bh:Sl U 1 ak am p0.length (hD KL.encI p0)) (bi:FnOK Tryz.prog U an wJG wKx p1) {r:Bool} (hm:wBu p0 p1=some r):Gv Tryz.prog 77 [.slice ak p0.length am,an] w (wBa w [] U (fun U_ L_ v=>v=.bool r/\L_=[])):=by
 unfold wBu at hm
 refine Gv.of Tryz.func77 Z Tryz.ntmps77 Tryz.results77 Z (sR fL1 Z (oA Z Z (eN (zL (sR fL3 Z (oM Z Z (oR Z (zr Z Z zC) (oM Z Z (eN (zb ?_))))))))))
 have q:=wBQ hm
 obtain ⟨r3,ag⟩:=q
 have q:=wBP ag
 obtain ⟨ai,bm⟩:=q
 replace ai:=zM ai
 refine yG (fun k2 _ σ_ w_=>∃ (U_:PHeap),σ_ 9=jV (↑k2:Int)/\σ_ 1=an/\σ_ 7=.slice ak p0.length am/\σ_ 8=jV (↑p0.length:Int)/\PHeap.Le U U_/\sW w U U_ [] w_) bm ?_ ?_ ?_
 exact ⟨U,Z,Z,Z,Z,(zN _),hS⟩
 rintro k2 ⟨⟩ bI bK W8 ah ⟨bw,af,ap,aq,au,aj,ax⟩ aU bj
 try dsimp only at aU
 have ao:Hid ((↑k2:Int) < (↑p0.length:Int)):=zM (wAr ah)
 replace ah:=zM ah
 have bn:Hid (w64 ((↑k2:Int) + 1)=(↑(k2 + 1):Int)):=zM (by have h1:=ai.out;have h2:=ao.out;rw [wAW] <;> omega)
 refine sR fL1 Z (oR Z (zY Z af au) (eN (zL (cT Z ao (kN (zL (zb (sR fL3 Z (bnK aU fun aW av bo=>?_)))))))))
 have ba:=bh.le aj
 have q:=ba.el (fun _=>rfl) (wAX av)
 obtain ⟨bA,bE,bd,be⟩:=q
 refine oR Z (ZR Z aq bd af zC zD (wBA av)) (oL Z (ax.ldC (f:=0) be (v:=jV aW) Z Z zF Z) (oA Z Z (eN (sR gFo Z (oM Z ap (oM Z Z (bnK bo fun bH bb bp=>?_)))))))
 have bc:=bi.le aj
 refine YF (a:=aW) Z Z Z Z Z Z (zB Z zO) ax bc Z bb ?_
 rintro ac bv bG aY bt bf ⟨rfl,rfl⟩
 have ay:sW w U ac [] aY:=bf
 refine oR Z (ZW Z Z) (eN (ifc bp ?_ ?_))
 intro ae bq
 refine zy (nC ae.out) (Zi (zx (zI (rR fL2 Z (oR Z (ZG (za Z af Z) (congrArg (jV) bn.out)) (oM Z Z (zg ?_)))))))
 have q:=hJ bq
 obtain rfl:=q
 exact zI ⟨Z,_,Z,⟨ac,Z,ap,aq,au,(aj.trans bt),ay⟩⟩
 intro ae br
 refine ZJ (nF (ae.out)) (sR fL1 Z (oA Z Z (eN (zR (zd (zS ?_))))))
 have q:=wAZ br
 obtain ⟨bu,bs,a6⟩:=q
 have q:=wBB hm ag (bj bu a6)
 obtain rfl:=q
 refine zS (zd (zS ?_))
 have hE:=hJ bs;first | subst r | cases hE
 exact ⟨Z,_,(ZH Z),ac,_,ay,Z,Z⟩
 rintro ⟨⟩ bJ bx ⟨aX,a8,bB,bC,a7,bD,bg⟩ bk
 have az:=wCE hm ag bk
 try dsimp only at az
 have aZ:Hid (¬ ((↑(((↑p0.length:Int):Int) - 0).toNat:Int) < (↑p0.length:Int))):=zM (wAf)
 refine sR fL1 Z (oR Z (zY Z a8 a7) (eN (zL (cF Z aZ (Zd (zn (zn (ZV (zI (sR fL1 Z (oA Z Z (eN (zR ?_)))))))))))))
 have hE:=hJ az;first | subst r | cases hE
 exact ⟨Z,_,(ZH Z),aX,_,bg,Z,Z⟩
theorem wFr (p0:Int) (w:World) (U:PHeap) (hS:St0 w U [])  {r:Bool} (hm:wBk p0=some r):Gv Tryz.prog 78 [jV p0] w (wBa w [] U (fun U_ L_ v=>v=.bool r/\L_=[])):=by
 unfold wBk at hm
 refine Gv.of Tryz.func78 Z Tryz.ntmps78 Tryz.results78 Z (sR fL1 Z (oA Z Z (eN (sR gFi Z (oM Z Z (bnK hm fun x1 h2 ah=>zH 0 Z Z Z Z (zG Z Z Tryz.call74 (zB Z (zB Z (zB Z zO))) Z) hS (fun hs=>wGZ p0 1 999 w U hs h2) (.inr Z) ?_))))))
 rintro U4 L5 v6 W7 aj ag ⟨rfl,rfl⟩
 have af:sW w U U4 [] W7:=ag
 refine oA Z Z (eN (zR ?_))
 have hE:=hJ ah;first | subst r | cases hE
 exact ⟨Z,_,(ZH Z),U4,_,af,Z,Z⟩
theorem wFR (p0:Int) (w:World) (U:PHeap) (hS:St0 w U [])  {r:Bool} (hm:wBW p0=some r):Gv Tryz.prog 80 [jV p0] w (wBa w [] U (fun U_ L_ v=>v=.bool r/\L_=[])):=by
 unfold wBW at hm
 refine Gv.of Tryz.func80 Z Tryz.ntmps80 Tryz.results80 Z (sR fL1 Z (oA Z Z (eN (sR gFi Z (oM Z Z (bnK hm fun x1 h2 ah=>zH 0 Z Z Z Z (zG Z Z Tryz.call74 (zB Z (zB Z (zB Z zO))) Z) hS (fun hs=>wGZ p0 0 360000 w U hs h2) (.inr Z) ?_))))))
 rintro U4 L5 v6 W7 aj ag ⟨rfl,rfl⟩
 have af:sW w U U4 [] W7:=ag
 refine oA Z Z (eN (zR ?_))
 have hE:=hJ ah;first | subst r | cases hE
 exact ⟨Z,_,(ZH Z),U4,_,af,Z,Z⟩
theorem wFs (p0:List Int) (ab:Option Addr) (ac:Nat) (w:World) (U:PHeap) (hS:St0 w U []) (am:Sl U 1 ab ac p0.length (hD KL.encI p0)) {r:Bool} (hm:wBl p0=some r):Gv Tryz.prog 79 [.slice ab p0.length ac] w (wBa w [] U (fun U_ L_ v=>v=.bool r/\L_=[])):=by
 unfold wBl at hm
 refine Gv.of Tryz.func79 Z Tryz.ntmps79 Tryz.results79 Z (sR fL1 Z (oA Z Z (eN (sR gFi Z (oM Z Z ?_)))))
 have ai:FnOK Tryz.prog U (.func (.func 80) #[] #[]) wJG wKx wBW:=⟨80,[],[],rfl,Tryz.call80,fun U1 w1 x y vs le hs ha hm=>by obtain rfl:=ha;exact wFR x w1 U1 hs  hm⟩
 refine bnK hm fun x2 h3 an=>zH 0 Z Z Z Z (zG Z Z Tryz.call77 (zB Z (zB Z zO)) Z) hS (fun hs=>wEb p0 ab ac wBW (.func (.func 80) #[] #[]) w U hs am ai h3) (.inr Z) ?_
 rintro U5 L6 v7 W8 aq aj ⟨rfl,rfl⟩
 have ak:sW w U U5 [] W8:=aj
 refine oA Z Z (eN (zR ?_))
 have hE:=hJ an;first | subst r | cases hE
 exact ⟨Z,_,(ZH Z),U5,_,ak,Z,Z⟩
theorem wID (p0:List Int) (ao:Option Addr) (ap:Nat) (w:World) (U:PHeap) (hS:St0 w U []) (bj:Sl U 1 ao ap p0.length (hD KL.encI p0)) {r:Bool} (hm:wDZ p0=some r):Gv Tryz.prog 81 [.slice ao p0.length ap] w (wBa w [] U (fun U_ L_ v=>v=.bool r/\L_=[])):=by
 unfold wDZ at hm
 refine Gv.of Tryz.func81 Z Tryz.ntmps81 Tryz.results81 Z (sR fL1 Z (oA Z Z (eN (sR gEy Z (YG Z Z Z Z Z hS ?_)))))
 intro W1 b2 bf
 have bu:=MpR.nil wKy wLo
 refine oA Z Z (eN (zL (sR fL3 Z (oM Z Z (oR Z (zr Z Z zC) (oM Z Z (eN (zb ?_))))))))
 have q:=wBQ hm
 obtain ⟨bK,ak⟩:=q
 have q:=wBP ak
 obtain ⟨an,bn⟩:=q
 replace an:=zM an
 refine yG (fun ab aX σ_ w_=>∃ (U_:PHeap) (ah:Array MapEntry) (av:Nat),σ_ 9=jV (↑ab:Int)/\σ_ 3=.map (some b2)/\σ_ 7=.slice ao p0.length ap/\σ_ 8=jV (↑p0.length:Int)/\PHeap.Le U U_/\sW w U U_ [.obj b2 (.map ah av)] w_/\MpR ah wKy wLo aX) bn ?_ ?_ ?_
 exact ⟨U,#[],0,Z,Z,Z,Z,(zN _),bf,bu⟩
 rintro ab aX bL bN bA am ⟨ae,ah,av,aj,ai,az,aU,aY,ac,aV⟩ bw bk
 have au:Hid ((↑ab:Int) < (↑p0.length:Int)):=zM (wAr am)
 replace am:=zM am
 have bo:Hid (w64 ((↑ab:Int) + 1)=(↑(ab + 1):Int)):=zM (by have h1:=an.out;have h2:=au.out;rw [wAW] <;> omega)
 refine sR fL1 Z (oR Z (zY Z aj aU) (eN (zL (cT Z au (kN (zL (zb (sR fL3 Z (bnK bw fun aq aW bp=>?_)))))))))
 have bc:=bj.le aY
 have q:=bc.el (fun _=>rfl) (wAX aW)
 obtain ⟨bC,bJ,bd,be⟩:=q
 refine oR Z (ZR Z az bd aj zC zD (wBA aW)) (oL Z (ac.ldC (f:=0) be (v:=jV aq) Z Z zF Z) (oA Z Z (eN (zL (sR fL3 Z (oM Z ai (oM Z Z (oL Z (ac.lookup1 (j:=0) (mk:=wKy) (mv:=wLo) (a:=aq) (z:=false) Z Z Z Z (wBE Tryz.runUnderlying191) wLD Tryz.zeroValue4 aV) (eN (ifc bp ?_ ?_))))))))))
 intro ag bq
 refine ZJ (congrArg nA ag.out) (sR fL1 Z (oA Z Z (eN (zR (zS (zd (zS ?_)))))))
 have q:=wAZ bq
 obtain ⟨bx,br,a8⟩:=q
 have q:=wBB hm ak (bk bx a8)
 obtain rfl:=q
 refine zS (zd (zS ?_))
 have hE:=hJ br;first | subst r | cases hE
 exact ⟨rfl,_,(ZH rfl),ae,_,(ac.pick [] _ (by decide) rfl),rfl,rfl⟩
 intro ag bs
 refine zy (congrArg nA (nB.2 ag.out)) (kN (rR (.fl 0 (.fl 1 (.fx 2 .nil .stop))) rfl (zm rfl rfl rfl rfl rfl ai (zm rfl rfl rfl rfl rfl rfl (OKS.mapPut (x:=.tmp 16) (y:=.tmp 17) (j:=0) (mk:=wKy) (mv:=wLo) (a:=aq) (v:=true) rfl rfl rfl (by first | exact .inl rfl | exact .inr rfl) ac rfl rfl rfl rfl (wBE Tryz.runUnderlying191) wLD aV rfl ?_)))))
 intro ay ax a6 bv bg
 have bh:sW w U ae [.obj b2 (.map ay ax)] a6:=bg
 refine zg (zx (zI (rR fL2 Z (oR Z (ZG (za Z aj Z) (congrArg (jV) bo.out)) (oM Z Z (zg ?_))))))
 have q:=hJ bs
 obtain rfl:=q
 exact zI ⟨Z,_,Z,⟨ae,ay,ax,Z,ai,az,aU,aY,bh,bv⟩⟩
 rintro bM bP bB ⟨aZ,bE,bD,bb,bF,bG,ba,bI,bi,bH⟩ bm
 have bt:=wCE hm ak bm
 have a7:Hid (¬ ((↑(((↑p0.length:Int):Int) - 0).toNat:Int) < (↑p0.length:Int))):=zM (wAf)
 refine sR fL1 Z (oR Z (zY Z bb ba) (eN (zL (cF Z a7 (Zd (zn (zn (ZV (zI (sR fL1 Z (oA Z Z (eN (zR ?_)))))))))))))
 have hE:=hJ bt;first | subst r | cases hE
 exact ⟨rfl,_,(ZH rfl),aZ,_,(bi.pick [] _ (by decide) rfl),rfl,rfl⟩
theorem wGa (p0:wAT) (ai:Option Addr) (aj:Nat) (ae:Option Addr) (af:Nat) (w:World) (U:PHeap) (hS:St0 w U []) (dz:Sl U 1 ai aj p0.Bibs.length (hD KL.encI p0.Bibs)) (dA:SlR U wEX ae af p0.Times) {r:Int} (hm:wCZ p0=some r):Gv Tryz.prog 51 [.agg #[jV p0.Laps,.slice ai p0.Bibs.length aj,.slice ae p0.Times.length af]] w (wBa w [] U (fun U_ L_ v=>v=jV r/\L_=[])):=by
 unfold wCZ at hm
 refine Gv.of Tryz.func51 Z Tryz.ntmps51 Tryz.results51 Z (sR gEy Z ?_)
 let B0:List Value:=[jV p0.Laps,.slice ai p0.Bibs.length aj,.slice ae p0.Times.length af]
 refine ZC (cs:=B0) rfl rfl rfl rfl rfl rfl (by rfl) hS ?_
 intro W1 b2 dt
 have q:=dt.freeze (k:=0) rfl
 obtain ⟨U5,co,aq,dx⟩:=q
 replace aq:=Cl.of aq
 have bZ:sW w U U5 [] W1:=dx
 replace aq:Cl U5 b2 0 B0:=aq
 refine oA Z Z (eN (zL (zb (sR (.fl 0 (.fl 1 (.fx 2 (wOZ (.fx 23 (wNR (.nil)) .stop)) .stop))) Z (oR Z (zJ Z Z Zj Z zD) (oL Z (bZ.ldC (f:=0) aq (v:=jV p0.Laps) Z Z zF Z) (bnK hm fun fw cN dJ=>zH 0 Z Z Z Z (zG Z Z Tryz.call74 (zB Z (zB Z (zB Z zO))) Z) bZ (fun hs=>wGZ p0.Laps 1 20 W1 U5 hs cN) (.inr Z) ?_)))))))
 rintro an eJ fj bG bv dp ⟨rfl,rfl⟩
 have ak:sW w U an [] bG:=dp
 refine oR Z (ZW Z Z) (oM Z Z (ifc dJ ?_ ?_))
 intro ag dV
 refine ze Z Z Z (zQ Z Z (nC ag.out)) (fun _=>zJ Z Z Zj Z zZ) ?_
 have ap:=aq.le bv
 refine ZE Z Z Z (zQ Z Z (nC ag.out)) (ak.ldC (f:=1) ap (v:=.slice ai p0.Bibs.length aj) Z Z zj Z) Z (ze Z Z Z (zQ Z Z (nC ag.out)) (fun _=>zr Z Z zC) (ze Z Z Z (zQ Z Z (nC ag.out)) (fun _=>yt Z Z Z) (oR Z (zc Z (nC ag.out) Z) (oM Z Z (ifc dV ?_ ?_)))))
 intro ab dW
 refine oT Z ab (oT Z ab (oT Z ab (oT Z ab (oT Z ab (oT Z ab (oT Z ab (oR Z (zT Z (Zm ab.out) Z) (oM Z Z (oN Z (oN Z (oN Z (ZI Z Z Z (zU Z Z Z Z) (oN Z (oR Z (zT Z Z Z) (oA Z Z (eN (ZJ Z (sR fL1 Z (oA Z Z (eN (zR (zd (zS ?_)))))))))))))))))))))))
 cases dW
 exact ⟨Z,_,(ZH Z),an,_,ak,Z,Z⟩
 intro ab dX
 refine rU Z (wF Z ab) (zJ Z Z Zj Z YJ) (ZE Z Z Z (wF Z ab) (ak.ldC (f:=2) ap (v:=.slice ae p0.Times.length af) Z Z Tryz.isAgg56 Z) Z (rU Z (wF Z ab) (zr Z Z ZK) (rU Z (wF Z ab) (zJ Z Z Zj Z zZ) (ZE Z Z Z (wF Z ab) (ak.ldC (f:=1) ap (v:=.slice ai p0.Bibs.length aj) Z Z zj Z) Z (rU Z (wF Z ab) (zr Z Z zC) (rU Z (wF Z ab) (Zk Z Z Z) (oR Z (zc Z (ZM ab.out) Z) (oM Z Z (ifc dX ?_ ?_)))))))))
 intro ac dY
 refine ze Z Z Z (zQ Z Z (ZM (fun h=>h ac.out))) (fun _=>zJ Z Z Zj Z YJ) (ZE Z Z Z (zQ Z Z (ZM (fun h=>h ac.out))) (ak.ldC (f:=2) ap (v:=.slice ae p0.Times.length af) Z Z Tryz.isAgg56 Z) Z (ze Z Z Z (zQ Z Z (ZM (fun h=>h ac.out))) (fun _=>YD Z zO (zB Z zO)) ?_))
 have cS:=dA.le co
 have bg:=cS.le bv
 have cU:=dz.le co
 have bR:=cU.le bv
 have dh:FnOK Tryz.prog an (.func (.func 76) #[] #[.pointer (some ⟨b2,0,none⟩)]) wMm wMn (fun x=>wBj x p0):=⟨76,[],[.pointer (some ⟨b2,0,none⟩)],rfl,Tryz.call76,fun U1 w1 x y vs le hs ha hm=>by obtain ⟨pA_0,pc_0,rfl,hq0_0⟩:=ha;exact wFq x pA_0 pc_0 p0 b2 ai aj ae af w1 U1 hs hq0_0 (ap.le le) (bR.le le) (bg.le le) hm⟩
 refine bnK dY fun fy cV dZ=>zH 0 Z Z Z (zQ Z Z (ZM (fun h=>h ac.out))) (zG Z Z Tryz.call75 (zB Z (zB Z zO)) Z) ak (fun hs=>wFQ p0.Times ae af (fun x=>wBj x p0) (.func (.func 76) #[] #[.pointer (some ⟨b2,0,none⟩)]) bG an hs bg dh cV) (.inr Z) ?_
 rintro aU eK fk bH bw du ⟨rfl,rfl⟩
 have bi:sW w U aU [] bH:=du
 refine ze Z Z Z (zQ Z Z (ZM (fun h=>h ac.out))) (fun _=>ZW Z Z) (oR Z (zc Z (ZM (fun h=>h ac.out)) Z) (oA Z Z (eN (ifc dZ ?_ ?_))))
 intro ba d5
 refine zy (nC ba.out) (sR (.fl 0 (.fl 1 (.fx 2 (wKZ (.fx 7 (wHF (.nil)) .stop)) .stop))) Z (oR Z (zJ Z Z Zj Z zZ) ?_))
 have bS:=ap.le bw
 refine oL Z (bi.ldC (f:=1) bS (v:=.slice ai p0.Bibs.length aj) Z Z zj Z) ?_
 have bU:=bR.le bw
 have di:FnOK Tryz.prog aU (.func (.func 78) #[] #[]) wJG wKx wBk:=⟨78,[],[],rfl,Tryz.call78,fun U1 w1 x y vs le hs ha hm=>by obtain rfl:=ha;exact wFr x w1 U1 hs  hm⟩
 refine bnK d5 fun fz cW d7=>zH 0 Z Z Z Z (zG Z Z Tryz.call77 (zB Z (zB Z zO)) Z) bi (fun hs=>wEb p0.Bibs ai aj wBk (.func (.func 78) #[] #[]) bH aU hs bU di cW) (.inr Z) ?_
 rintro aV eM fm bI bx dv ⟨rfl,rfl⟩
 have bj:sW w U aV [] bI:=dv
 refine oR Z (ZW Z Z) (oM Z Z (ifc d7 ?_ ?_))
 intro ah d9
 refine ze Z Z Z (zQ Z Z (nC ah.out)) (fun _=>zJ Z Z Zj Z YJ) ?_
 have bV:=bS.le bx
 refine ZE Z Z Z (zQ Z Z (nC ah.out)) (bj.ldC (f:=2) bV (v:=.slice ae p0.Times.length af) Z Z Tryz.isAgg56 Z) Z ?_
 have cX:=bg.le bw
 have bW:=cX.le bx
 have dm:FnOK Tryz.prog aV (.func (.func 79) #[] #[]) wMm wMn wBl:=⟨79,[],[],rfl,Tryz.call79,fun U1 w1 x y vs le hs ha hm=>by obtain ⟨pA_0,pc_0,rfl,hq0_0⟩:=ha;exact wFs x pA_0 pc_0 w1 U1 hs hq0_0 hm⟩
 refine bnK d9 fun fA cY ef=>zH 0 Z Z Z (zQ Z Z (nC ah.out)) (zG Z Z Tryz.call75 (zB Z (zB Z zO)) Z) bj (fun hs=>wFQ p0.Times ae af wBl (.func (.func 79) #[] #[]) bI aV hs bW dm cY) (.inr Z) ?_
 rintro a7 eO fq bJ bz dw ⟨rfl,rfl⟩
 have bk:sW w U a7 [] bJ:=dw
 refine ze Z Z Z (zQ Z Z (nC ah.out)) (fun _=>ZW Z Z) (oR Z (zc Z (nC ah.out) Z) (oA Z Z (eN (ifc ef ?_ ?_))))
 intro bb eh
 refine zy (nC bb.out) (sR gFo Z (oR Z (zJ Z Z Zj Z zZ) ?_))
 have bX:=bV.le bz
 refine oL Z (bk.ldC (f:=1) bX (v:=.slice ai p0.Bibs.length aj) Z Z zj Z) ?_
 have cZ:=bU.le bx
 have c6:=cZ.le bz
 refine bnK eh fun fB c8 ep=>zH 0 Z Z Z Z (zG Z Z Tryz.call81 (zB Z zO) Z) bk (fun hs=>wID p0.Bibs ai aj bJ a7 hs c6 c8) (.inr Z) ?_
 rintro aW eQ ft cu cp dy ⟨rfl,rfl⟩
 have bm:sW w U aW [] cu:=dy
 refine oA Z Z (eN (ifc ep ?_ ?_))
 intro bc eu
 refine ZJ (congrArg nA bc.out) (sR fL1 Z (oA Z Z (eN (zR (zd (zS ?_))))))
 cases eu
 exact ⟨Z,_,(ZH Z),aW,_,bm,Z,Z⟩
 intro bc bu
 refine zy (congrArg nA (nB.2 bc.out)) (Zi (zx (zI (zL (zL (yf fun eI ci=>?_))))))
 have cK:eI 1=.pointer (some ⟨b2,0,none⟩):=(ci 1).trans rfl
 clear ci
 refine rR fL4 Z (oR Z (zJ Z cK Zj Z YJ) ?_)
 have da:=bX.le cp
 refine oL Z (bm.ldC (f:=2) da (v:=.slice ae p0.Times.length af) Z Z Tryz.isAgg56 Z) (oR Z (zr Z Z ZK) (oM Z Z (eN (zb ?_))))
 have q:=wBQ bu
 obtain ⟨fh,bo⟩:=q
 have q:=wBP bo
 obtain ⟨br,dF⟩:=q
 replace br:=zM br
 refine yG (fun am _ σ_ w_=>∃ (U_:PHeap),σ_ 51=jV (↑am:Int)/\σ_ 49=.slice ae p0.Times.length af/\σ_ 50=jV (↑p0.Times.length:Int)/\PHeap.Le aW U_/\sW w U U_ [] w_) dF ?_ ?_ ?_
 exact ⟨aW,Z,Z,Z,(zN _),bm⟩
 rintro am ⟨⟩ fC fE eU bp ⟨aZ,bd,bM,bN,cj,bY⟩ cd dB
 try dsimp only at cd
 have bK:Hid ((↑am:Int) < (↑p0.Times.length:Int)):=zM (wAr bp)
 replace bp:=zM bp
 have dH:Hid (w64 ((↑am:Int) + 1)=(↑(am + 1):Int)):=zM (by have h1:=br.out;have h2:=bK.out;rw [wAW] <;> omega)
 refine sR fL1 Z (oR Z (zY Z bd bN) (eN (zL (cT Z bK (kN (zL (zb (sR fL3 Z (bnK cd fun au bP bt=>?_)))))))))
 have cO:=bW.le bz
 have cP:=cO.le cp
 have cQ:=cP.le cj
 have q:=cQ.el (wAX bP)
 obtain ⟨cw,eB,fu,db,bh,ew⟩:=q
 obtain ⟨bA,bB,rfl,cR⟩:=ew
 replace bh:Cl aZ cw (eB + am * 1) [.slice bA au.length bB]:=bh
 refine oR Z (ZR Z bM db bd ZK zZ (wBA bP)) (oL Z (bY.ldC (f:=0) bh (v:=.slice bA au.length bB) Z Z zj Z) (oA Z Z (eN (sR fL1 Z (oA Z Z (eN (zb ?_)))))))
 have q:=wBQ bt
 obtain ⟨fg,bn⟩:=q
 have q:=wBP bn
 obtain ⟨bs,dG⟩:=q
 replace bs:=zM bs
 refine yG (fun ay _ σ_ w_=>∃ (U_:PHeap),σ_ 5=jV (1 + ↑ay:Int)/\σ_ 4=.slice bA au.length bB/\σ_ 49=.slice ae p0.Times.length af/\σ_ 50=jV (↑p0.Times.length:Int)/\σ_ 51=jV (↑am:Int)/\PHeap.Le aZ U_/\sW w U U_ [] w_) dG ?_ ?_ ?_
 exact ⟨aZ,Z,Z,bM,bN,bd,(zN _),bY⟩
 rintro ay ⟨⟩ fD fG bF bq ⟨bD,aY,aX,cB,cC,cD,cm,dn⟩ cg dC
 try dsimp only at cg
 have bL:Hid ((1 + ↑ay:Int) < (↑au.length:Int)):=zM (lp_lt bq)
 replace bq:=zM bq
 have dI:Hid (w64 ((1 + ↑ay:Int) + 1)=(1 + ↑(ay + 1):Int)):=zM (by have h1:=bs.out;have h2:=bL.out;rw [wAW] <;> omega)
 refine zL (sR fL4 rfl (zm rfl rfl rfl rfl rfl aY (zm rfl rfl rfl rfl rfl aX (ze rfl rfl rfl rfl (fun _=>zr rfl rfl zC) (ze rfl rfl rfl rfl (fun _=>zY rfl rfl rfl) (eN (cT Z bL (kN (zL (zb (zL (ZF ZB [3,3,3,1,3,3,3,3,1,3] fL10 (by kernel_rfl) ?_))))))))))))
 have ax:=dn.drew
 generalize hw_W154:({ bF with drawn:=bF.drawn + 1 }:World)=eV at ax ⊢
 refine oM Z aX (oM Z aY (bnK cg fun eG be dK=>?_))
 have bQ:=cR.le cm
 have q:=bQ.el (fun _=>rfl) (wAX be)
 obtain ⟨eY,fd,dd,df⟩:=q
 refine oR Z (Ze Z Z dd Z zC zD (wBt be) (wBy be)) (oL Z (ax.ldC (f:=0) df (v:=jV eG) Z Z zF Z) (oM Z aX (oM Z aY (oR Z (yP Z Z Z) (bnK dK fun eH bf dL=>?_)))))
 have q:=bQ.el (fun _=>rfl) (wAX bf)
 obtain ⟨eZ,ff,de,dg⟩:=q
 refine oR Z (Ze Z Z de Z zC zD (wBt bf) (wBy bf)) (oL Z (ax.ldC (f:=0) dg (v:=jV eH) Z Z zF Z) (oR Z (YH Z Z Z) (eN (ifc dL ?_ ?_))))
 intro a8 dM
 refine cT Z a8 (sR fL1 Z (oA Z Z (eN (zR (zd (zS ?_))))))
 have q:=wAZ dM
 obtain ⟨eD,dN,cz⟩:=q
 have q:=wBB bt bn (dC eD cz)
 obtain rfl:=q
 refine zS (zd (zd (zS ?_)))
 have q:=wAZ dN
 obtain ⟨eF,dO,cA⟩:=q
 have q:=wBB bu bo (dB eF cA)
 obtain rfl:=q
 refine zS (zd (zS ?_))
 cases dO
 exact ⟨Z,_,(ZH Z),bD,_,ax,Z,Z⟩
 intro a8 dP
 refine cF Z a8 (Zi (zx (zI (rR fL3 Z (oM Z aY (oR Z (ZG (za Z Z Z) (congrArg (jV) dI.out)) (oA Z Z (zg ?_))))))))
 have q:=hJ dP
 obtain rfl:=q
 exact zI ⟨Z,_,Z,⟨bD,Z,aX,cB,cC,cD,cm,ax⟩⟩
 rintro ⟨⟩ fH eW ⟨cq,cL,cE,cG,cH,cI,eA,dq⟩ dD
 have ca:=wCE bt bn dD
 try dsimp only at ca
 have cx:Hid (¬ ((1 + ↑(((↑au.length:Int):Int) - 1).toNat:Int) < (↑au.length:Int))):=zM (wNf)
 refine zL (sR fL4 Z (oM Z cL (oM Z cE (oR Z (zr Z Z zC) (oR Z (zY Z Z Z) (eN (cF Z cx (Zd (zn (zn (ZV (zx (zI (rR fL2 Z (oR Z (ZG (za Z cI Z) (congrArg (jV) dH.out)) (oM Z Z (zg ?_)))))))))))))))))
 have q:=hJ ca
 obtain rfl:=q
 exact zI ⟨Z,_,Z,⟨cq,Z,cG,cH,(cj.trans eA),dq⟩⟩
 rintro ⟨⟩ fI eX ⟨cr,cM,fb,cJ,fc,dr⟩ dE
 have cc:=wCE bu bo dE
 try dsimp only at cc
 have cy:Hid (¬ ((↑(((↑p0.Times.length:Int):Int) - 0).toNat:Int) < (↑p0.Times.length:Int))):=zM (wAf)
 refine sR fL1 Z (oR Z (zY Z cM cJ) (eN (zL (cF Z cy (Zd (zn (zn (ZV (zI (sR fL1 Z (oA Z Z (eN (zR ?_)))))))))))))
 cases cc
 exact ⟨Z,_,(ZH Z),cr,_,dr,Z,Z⟩
 intro bb dQ
 refine ZJ (nF (bb.out)) (sR fL1 Z (oA Z Z (eN (zR (zd (zS ?_))))))
 cases dQ
 exact ⟨Z,_,(ZH Z),a7,_,bk,Z,Z⟩
 intro ah dR
 refine ZA Z Z Z (zU Z Z (nF (ah.out)) Z) (ZA Z Z Z (zU Z Z (nF (ah.out)) Z) (ZI Z Z Z (zU Z Z (nF (ah.out)) Z) (ZA Z Z Z (zU Z Z (nF (ah.out)) Z) (oR Z (zT Z (nF (ah.out)) Z) (oA Z Z (eN (ZJ Z (sR fL1 Z (oA Z Z (eN (zR (zd (zS ?_)))))))))))))
 cases dR
 exact ⟨Z,_,(ZH Z),aV,_,bj,Z,Z⟩
 intro ba dS
 refine ZJ (nF (ba.out)) (sR fL1 Z (oA Z Z (eN (zR (zd (zS ?_))))))
 cases dS
 exact ⟨Z,_,(ZH Z),aU,_,bi,Z,Z⟩
 intro ac dT
 refine oT Z ac (oT Z ac (oT Z ac (ZI Z Z Z (zU Z Z (Zm ac.out) Z) (oT Z ac (oR Z (zT Z (Zm ac.out) Z) (oA Z Z (eN (ZJ Z (sR fL1 Z (oA Z Z (eN (zR (zd (zS ?_))))))))))))))
 cases dT
 exact ⟨Z,_,(ZH Z),an,_,ak,Z,Z⟩
 intro ag dU
 refine ZA Z Z Z (zU Z Z (nF (ag.out)) Z) (ZA Z Z Z (zU Z Z (nF (ag.out)) Z) (ZA Z Z Z (zU Z Z (nF (ag.out)) Z) (ZA Z Z Z (zU Z Z (nF (ag.out)) Z) (oR Z (zT Z (nF (ag.out)) Z) (oM Z Z (oN Z (oN Z (oN Z (oN Z (oN Z (oN Z (oN Z (oR Z (zT Z Z Z) (oM Z Z (oN Z (oN Z (oN Z (ZI Z Z Z (zU Z Z Z Z) (oN Z (oR Z (zT Z Z Z) (oA Z Z (eN (ZJ Z (sR fL1 Z (oA Z Z (eN (zR (zd (zS ?_)))))))))))))))))))))))))))))
 cases dU
 exact ⟨Z,_,(ZH Z),an,_,ak,Z,Z⟩
theorem wFS (p0:List Int) (p1:Int) (w:World) (U:PHeap) (hS:St0 w U [])  {r:(List Int)} (hm:wBq p0 p1=some r):Gv Tryz.prog 130 [.slice none 0 0,jV p1] w (wBa w [] U (fun U_ L_ v=>∃ (A0:Option Addr) (c0:Nat),v=.slice A0 r.length c0/\L_=[.row A0 c0 3 1 (hD KL.encI r)])):=by
 unfold wBq at hm
 refine Gv.of Tryz.func130 Z Tryz.ntmps130 Tryz.results130 Z (sR fL1 Z (oA Z Z (eN (zL (sR fL2 Z (oM Z Z (oR Z (zY Z Z Z) (eN ?_))))))))
 by_cases c1:p1 < 0
 have am:=hm;rw [if_pos c1] at am;replace c1:=zM c1
 refine cT Z c1 (rR gFb Z ?_)
 cases am
 have an:=hm;rw [if_neg c1] at an;replace c1:=zM c1
 refine cF Z c1 (kN (zL (sR fL8 rfl (zm rfl rfl rfl rfl rfl rfl (zm rfl rfl rfl rfl rfl rfl (ze rfl rfl rfl rfl (fun _=>Runs.capn rfl rfl zC) (zm rfl rfl rfl rfl rfl rfl (ze rfl rfl rfl rfl (fun _=>zr rfl rfl zC) (ze rfl rfl rfl rfl (fun _=>ZG (yP rfl rfl rfl) (congrArg (jV) (show w64 (0 - 0)=0 by decide))) (ze rfl rfl rfl rfl (fun _=>yP rfl rfl rfl) (yB rfl rfl rfl rfl rfl rfl (eN (sR fL2 rfl (zm rfl rfl rfl rfl rfl rfl (ze rfl rfl rfl rfl (fun _=>yt rfl rfl rfl) (eN (ifc an ?_ ?_)))))))))))))))))
 intro c4 ay
 refine cT Z c4 (rR (wHC (.fx 5 (fC6_9 (.nil)) .stop)) rfl (zm rfl rfl rfl rfl rfl rfl (zm rfl rfl rfl rfl rfl rfl (ze rfl rfl rfl rfl (fun _=>Runs.capn rfl rfl zC) (ze rfl rfl rfl rfl (fun _=>ZG (Runs.slc (sz:=1) (a:=0) (b:=0) rfl rfl (.inr ⟨rfl,rfl⟩) (.inl ⟨_,rfl,rfl⟩) zC zD (by decide) (by decide) (by decide) (Nat.le_refl _)) rfl) (zm rfl rfl rfl rfl rfl rfl (bnK ay fun x6 h7 az=>OKS.appendZ (enc:=KL.encI) (z:=(0:Int)) (xs:=x6) rfl rfl rfl rfl rfl yb Tryz.underlying3 wFm rfl rfl rfl rfl rfl hS rfl rfl h7 rfl ?_)))))))
 intro W9 ab ac ap
 have ak:sW w U U [.row ab ac 3 1 (hD KL.encI x6)] W9:=ap
 refine oM Z Z (oR Z (zr Z Z zC) ?_)
 have aU:=ak.rowCap (j:=0) rfl (by decide) (wAC (f:=KL.encI) (sz:=1) (fun _=>rfl) x6)
 refine ze (v:=.slice ab 0 ac) Z Z Z Z (fun _=>ZG (Runs.slc (sz:=1) (a:=0) (b:=0) Z Z (.inr ⟨Z,Z⟩) (.inl ⟨_,Z,Z⟩) zC zD (Int.le_refl _) (Int.le_refl _) (Int.natCast_nonneg _) aU) slc0) ?_
 have aq:=ak.cutRowM (enc:=KL.encI) (k:=0) (b:=0) rfl
 have au:sW w U U [.row ab ac 3 1 (hD KL.encI ([]:List Int))] W9:=aq
 refine oA Z Z (eN (sR fL2 Z (oM Z Z (oA Z Z (eN (zR ?_))))))
 cases az
 exact ⟨Z,_,(ZH Z),U,_,au,ab,ac,Z,Z⟩
 intro c4 ax
 refine cF Z c4 (kN (sR fL2 Z (oM Z Z (oA Z Z (eN (zR ?_))))))
 have av:=hS.nilrow 3 1
 cases ax
 exact ⟨Z,_,(ZH Z),U,_,av,none,0,Z,Z⟩
theorem wFC (p0:List (List Int)) (ae:Option Addr) (af:Nat) (w:World) (U:PHeap) (hS:St0 w U []) (bi:SlR U wEX ae af p0) {r:(List Int)} (hm:wBX p0=some r):Gv Tryz.prog 108 [.slice ae p0.length af] w (wBa w [] U (fun U_ L_ v=>∃ (A0:Option Addr) (c0:Nat),v=.slice A0 r.length c0/\L_=[.row A0 c0 3 1 (hD KL.encI r)])):=by
 unfold wBX at hm
 refine Gv.of Tryz.func108 Z Tryz.ntmps108 Tryz.results108 Z (sR fL1 Z (oA Z Z (eN (sR fL1 Z (oA Z Z (eN (zL (sR fL3 Z (oM Z Z (oR Z (zr Z Z ZK) (oM Z Z (eN (zb (bnK hm fun cO cp cC=>?_))))))))))))))
 have q:=wBM cp
 obtain ⟨ay,cm⟩:=q
 replace ay:=zM ay
 refine CK.forN' (fun k7 x6 σ_ w_=>∃ (U_:PHeap),σ_ 11=jV (↑k7:Int)/\σ_ 0=.slice ae p0.length af/\σ_ 3=jV x6/\σ_ 9=.slice ae p0.length af/\σ_ 10=jV (↑p0.length:Int)/\PHeap.Le U U_/\sW w U U_ [] w_) cm ?_ ?_ ?_
 exact ⟨U,Z,Z,Z,Z,Z,(zN _),hS⟩
 rintro k7 x6 c8 dd cR av ⟨aY,an,bI,bJ,bd,be,bk,bh⟩ cH
 have a8:Hid ((↑k7:Int) < (↑p0.length:Int)):=zM (wAr av)
 replace av:=zM av
 have cu:Hid (w64 ((↑k7:Int) + 1)=(↑(k7 + 1):Int)):=zM (by have h1:=ay.out;have h2:=a8.out;rw [wAW] <;> omega)
 refine sR fL1 Z (oR Z (zY Z an be) (eN (zL (cT Z a8 (kN (zL (zb (sR fL3 Z (bnK cH fun br bg cy=>?_)))))))))
 have bW:=bi.le bk
 have q:=bW.el (wAX bg)
 obtain ⟨bB,cM,c6,bZ,aq,cG⟩:=q
 obtain ⟨bn,bp,rfl,cW⟩:=cG
 replace aq:Cl aY bB (cM + k7 * 1) [.slice bn br.length bp]:=aq
 refine oR Z (ZR Z bd bZ an ZK zZ (wBA bg)) (oL Z (bh.ldC (f:=0) aq (v:=.slice bn br.length bp) Z Z zj Z) (oA Z Z (eN (sR fL5 Z (oM Z bJ (oM Z Z (oR Z (zr Z Z zC) (oR Z (za Z Z Z) (oA Z Z (eN (sR fL2 Z (oM Z Z (oR Z (zY Z Z Z) (eN (ifc cy ?_ ?_)))))))))))))))
 intro ak cz
 refine cT Z ak (rR gFb Z ?_)
 cases cz
 intro ak cA
 refine cF Z ak (Zi (zx (zI (rR fL2 Z (oR Z (ZG (za Z an Z) (congrArg (jV) cu.out)) (oM Z Z (zg ?_)))))))
 cases cA
 exact zI ⟨Z,⟨aY,Z,bI,Z,bd,be,bk,bh⟩⟩
 rintro df bx ⟨bv,bP,bK,bL,cV,bM,cJ,cg⟩
 have bE:Hid (¬ ((↑(((↑p0.length:Int):Int) - 0).toNat:Int) < (↑p0.length:Int))):=zM (wAf)
 refine sR fL1 Z (oR Z (zY Z bP bM) (eN (zL (cF Z bE (Zd (zn (zn (ZV (zI (sR gFi Z (oM Z bL (bnK cC fun cN bX cB=>zH 0 Z Z Z Z (zG Z Z Tryz.call130 (zB Z (zB Z zO)) Z) cg (fun hs=>wFS [] cO bx bv hs bX) (.inr Z) ?_))))))))))))
 rintro ai cP cY bz cK ci ⟨aX,ba,rfl,rfl⟩
 have cj:sW w U ai [.row aX ba 3 1 (hD KL.encI cN)] bz:=ci
 refine oA Z Z (eN (zL (sR fL3 Z (oM Z bK (oR Z (zr Z Z ZK) (oM Z Z (eN (zb (bnK cB fun db co cD=>?_)))))))))
 have q:=wBM co
 obtain ⟨az,cq⟩:=q
 replace az:=zM az
 refine CK.forN' (fun ac ag σ_ w_=>∃ (U_:PHeap) (ah:Option Addr) (am:Nat),σ_ 27=jV (↑ac:Int)/\σ_ 6=.slice ah ag.length am/\σ_ 25=.slice ae p0.length af/\σ_ 26=jV (↑p0.length:Int)/\PHeap.Le ai U_/\sW w U U_ [.row ah am 3 1 (hD KL.encI ag)] w_) cq ?_ ?_ ?_
 exact ⟨ai,aX,ba,Z,Z,Z,Z,(zN _),cj⟩
 rintro ac ag da dg cS ax ⟨aj,ah,am,ao,bF,bb,bc,bj,au⟩ cI
 have a6:Hid ((↑ac:Int) < (↑p0.length:Int)):=zM (wAr ax)
 replace ax:=zM ax
 have cr:Hid (w64 ((↑ac:Int) + 1)=(↑(ac + 1):Int)):=zM (by have h1:=az.out;have h2:=a6.out;rw [wAW] <;> omega)
 refine sR fL1 Z (oR Z (zY Z ao bc) (eN (zL (cT Z a6 (kN (zL (zb (sR fL3 Z (bnK cI fun aU bf cw=>?_)))))))))
 have bQ:=bi.le cJ
 have bR:=bQ.le cK
 have bS:=bR.le bj
 have q:=bS.el (wAX bf)
 obtain ⟨bA,cL,cZ,bY,ap,cE⟩:=q
 obtain ⟨bm,bo,rfl,bU⟩:=cE
 replace ap:Cl aj bA (cL + ac * 1) [.slice bm aU.length bo]:=ap
 refine oR Z (ZR Z bb bY ao ZK zZ (wBA bf)) (oL Z (au.ldC (f:=0) ap (v:=.slice bm aU.length bo) Z Z zj Z) (oA Z Z (eN (rR gFo Z (oM Z bF (oM Z Z (bnK cw fun bq bV cx=>yK (j:=0) (enc:=KL.encI) (xs:=ag) (ys:=aU) (zs:=bq) Z Z Z Z Z yb wFm Z Z Z Z Z Z au Z Z Z (au.srcS bU) (fun _=>Z) (fun _=>Z) bV Z ?_)))))))
 intro aW a7 bw ca
 have cc:sW w U aj [.row aW a7 3 1 (hD KL.encI bq)] bw:=ca
 refine oA Z Z (zg (zx (zI (rR fL2 Z (oR Z (ZG (za Z ao Z) (congrArg (jV) cr.out)) (oM Z Z (zg ?_)))))))
 cases cx
 exact zI ⟨Z,⟨aj,aW,a7,Z,Z,bb,bc,bj,cc⟩⟩
 rintro de cQ ⟨bu,bt,bC,bN,bG,cU,bH,cX,cd⟩
 have bD:Hid (¬ ((↑(((↑p0.length:Int):Int) - 0).toNat:Int) < (↑p0.length:Int))):=zM (wAf)
 refine sR fL1 Z (oR Z (zY Z bN bH) (eN (zL (cF Z bD (Zd (zn (zn (ZV (zI (sR fL2 Z (oM Z bG (oA Z Z (eN (zR ?_))))))))))))))
 have hE:=hJ cD;first | subst r | cases hE
 exact ⟨Z,_,(ZH Z),bu,_,cd,bt,bC,Z,Z⟩
end Go.Proofs.YtkghaiefcjgfkaaGreat
namespace Go.Proofs.YtkghaiefcjgfkaaGreat
open Go.KL
set_option maxHeartbeats 4000000
theorem wFT (p0:List Int) (ab:Option Addr) (ac:Nat) (w:World) (U:PHeap) (hS:St ⟨w,[.row ab ac 3 1 (hD KL.encI p0)],U⟩ U [.row ab ac 3 1 (hD KL.encI p0)] w) {r:List Int} (hm:wCR p0=some r):Gv Tryz.prog 109 [.slice ab p0.length ac] w (wBa w [.row ab ac 3 1 (hD KL.encI p0)] U (fun U_ L_ v=>v=.tuple #[]/\L_=[.row ab ac 3 1 (hD KL.encI r)]/\r.length=p0.length)) :=
 wLi (fun b o c zs w h1 h2 h3=>Go.Proofs.Tryz.slices_Sort_int b o c zs w h1 h2 h3) (fun p c w=>Go.Proofs.Tryz.slices_Sort_int_none p c w) hS hm
theorem wEp (p0:List Int) (ab:Option Addr) (ac:Nat) (w:World) (U:PHeap) (hS:St ⟨w,[.row ab ac 3 1 (hD KL.encI p0)],U⟩ U [.row ab ac 3 1 (hD KL.encI p0)] w) {r:List Int} (hm:wBv p0=some r):Gv Tryz.prog 111 [.slice ab p0.length ac] w (wBa w [.row ab ac 3 1 (hD KL.encI p0)] U (fun U_ L_ v=>∃ (A0:Option Addr) (c0:Nat),v=.slice A0 r.length c0/\L_=[.row A0 c0 3 1 (hD KL.encI r)])) :=
 wJF (fun b o c zs w h1 h2 h3=>Go.Proofs.Tryz.slices_Compact_int b o c zs w h1 h2 h3) (fun p c w=>Go.Proofs.Tryz.slices_Compact_int_empty p c w) hS hm
theorem wEi {S E:Type} (PY:S->PHeap->List Res->Prop) (PE:E->PHeap->List Res->Prop) (f:S->Int->Option (S ⊕ E)) (y:Nat) (s0:S) (p1:List Int) (aW:Nat) (ag:Option Addr) (ah:Nat) (w:World) (L:List Res) (U:PHeap) (hS:St ⟨w,L,U⟩ U L w) (hP:PY s0 U L) (hY:YOK Tryz.prog y wJG PY PE f U) (bm:Cl U aW 0 [.slice ag p1.length ah]) (bn:Sl U 1 ag ah p1.length (hD KL.encI p1)) {r:S ⊕ E} (hm:wAz f s0 p1=some r):Gv Tryz.prog 132 [.func (.yield y) #[] #[],.pointer (some ⟨aW,0,none⟩)] w (ItS w L U PY PE r):=by
 unfold wAz at hm
 refine Gv.of Tryz.func132 Z Tryz.ntmps132 Tryz.results132 Z (sR fL3 Z (oL Z (hS.ldC (f:=0) bm (v:=.slice ag p1.length ah) Z Z zj Z) (oR Z (zr Z Z zC) (oM Z Z (eN (zb ?_))))))
 have q:=wBQ hm
 obtain ⟨bN,am⟩:=q
 have q:=wBP am
 obtain ⟨ao,bq⟩:=q
 replace ao:=zM ao
 refine yG (fun ab aY σ_ w_=>∃ (U_:PHeap) (ai:List Res),σ_ 7=jV (↑ab:Int)/\σ_ 0=.func (.yield y) #[] #[]/\σ_ 5=.slice ag p1.length ah/\σ_ 6=jV (↑p1.length:Int)/\PHeap.Le U U_/\St ⟨w,L,U⟩ U_ ai w_/\PY aY U_ ai) bq ?_ ?_ ?_
 exact ⟨U,L,Z,Z,Z,Z,(zN _),hS,hP⟩
 rintro ab aY bP bR bF an ⟨bE,ai,ak,av,ax,ay,ap,aU,bc⟩ bx bo
 have au:Hid ((↑ab:Int) < (↑p1.length:Int)):=zM (wAr an)
 replace an:=zM an
 have br:Hid (w64 ((↑ab:Int) + 1)=(↑(ab + 1):Int)):=zM (by have h1:=ao.out;have h2:=au.out;rw [wAW] <;> omega)
 refine sR fL1 Z (oR Z (zY Z ak ay) (eN (zL (cT Z au (kN (zL (zb (sR fL3 Z (bnK bx fun aZ az bs=>?_)))))))))
 have bd:=bn.le ap
 have q:=bd.el (fun _=>rfl) (wAX az)
 obtain ⟨bH,bM,bg,bh⟩:=q
 refine oR Z (ZR Z ax bg ak zC zD (wBA az)) (oL Z (aU.ldC (f:=0) bh (v:=jV aZ) Z Z zF Z) (oA Z Z (eN (sR gFo Z (oM Z av (oM Z Z (bnK bs fun bC be af=>OKS.yieldT 0 (a:=aZ) Z Z Z Z Z Z (zB Z zO) aU hY ap bc Z be Z ?_)))))))
 rintro ac aj bI aq bz aV ae
 rcases bC with bA | bA
 try dsimp only at af ae
 obtain ⟨rfl,bv⟩:=ae
 have bi:St ⟨w,L,U⟩ ac aj aq:=aV
 refine oR Z (ZW Z Z) (eN (zy Z (Zi (zx (zI (rR fL2 Z (oR Z (ZG (za Z ak Z) (congrArg (jV) br.out)) (oM Z Z (zg ?_)))))))))
 have q:=hJ af
 obtain rfl:=q
 exact zI ⟨Z,_,Z,⟨ac,aj,Z,av,ax,ay,(ap.trans bz),bi,bv⟩⟩
 try dsimp only at af ae
 obtain ⟨rfl,bw⟩:=ae
 have bj:St ⟨w,L,U⟩ ac aj aq:=aV
 refine oR Z (ZW Z Z) (eN (ZJ Z (zR (zd (zS ?_)))))
 have q:=wAZ af
 obtain ⟨bB,bt,a8⟩:=q
 have q:=wBB hm am (bo bB a8)
 obtain rfl:=q
 refine zS (zd ?_)
 cases bt
 exact ⟨Z,_,(wMg),ac,_,bj,bw⟩
 rintro bQ bS bG ⟨a6,bD,bb,bJ,bK,ba,bL,bk,bf⟩ bp
 have bu:=wCE hm am bp
 have a7:Hid (¬ ((↑(((↑p1.length:Int):Int) - 0).toNat:Int) < (↑p1.length:Int))):=zM (wAf)
 refine sR fL1 Z (oR Z (zY Z bb ba) (eN (zL (cF Z a7 (Zd (zn (zn (ZV ?_))))))))
 cases bu
 exact ⟨Z,_,(wMg),a6,_,bk,bf⟩
theorem wFD (p0:List Int) (ac:Option Addr) (ae:Nat) (w:World) (U:PHeap) (hS:St0 w U []) (an:Sl U 1 ac ae p0.length (hD KL.encI p0)) {r:Unit} (hm:wCB p0=some r):Gv Tryz.prog 110 [.slice ac p0.length ae] w (wBa w [] U (fun U_ L_ v=>∃ (b0:Nat),v=.func (.func 132) #[] #[.pointer (some ⟨b0,0,none⟩)]/\L_=[]/\Cl U_ b0 0 [.slice ac p0.length ae])):=by
 unfold wCB at hm
 refine Gv.of Tryz.func110 rfl Tryz.ntmps110 Tryz.results110 rfl (sR gEy rfl (ZC (cs:=[.slice ac p0.length ae]) rfl rfl rfl rfl rfl rfl (by rfl) hS ?_))
 intro W1 b2 aj
 have q:=aj.freeze (k:=0) rfl
 obtain ⟨U5,ao,ab,ak⟩:=q
 replace ab:=Cl.of ab
 have am:sW w U U5 [] W1:=ak
 replace ab:Cl U5 b2 0 [.slice ac p0.length ae]:=ab
 refine oA Z Z (eN (sR fL2 Z (oR Z (YD Z zO (zB Z zO)) (oA Z Z (eN (zR ?_))))))
 cases hm
 exact ⟨Z,_,(ZH Z),U5,_,am,b2,Z,Z,ab⟩
theorem wGH (p0:wAT) (an:Option Addr) (ao:Nat) (ag:Option Addr) (ah:Nat) (w:World) (U:PHeap) (hS:St0 w U []) (bE:Sl U 1 an ao p0.Bibs.length (hD KL.encI p0.Bibs)) (bu:SlR U wEX ag ah p0.Times) {r:(List Int)} (hm:wBw p0=some r):Gv Tryz.prog 82 [.agg #[jV p0.Laps,.slice an p0.Bibs.length ao,.slice ag p0.Times.length ah]] w (wBa w [] U (fun U_ L_ v=>∃ (b0:Nat) (A0:Option Addr) (c0:Nat),v=.func (.func 132) #[] #[.pointer (some ⟨b0,0,none⟩)]/\L_=[]/\Cl U_ b0 0 [.slice A0 r.length c0]/\Sl U_ 1 A0 c0 r.length (hD KL.encI r))):=by
 unfold wBw at hm
 refine Gv.of Tryz.func82 Z Tryz.ntmps82 Tryz.results82 Z (sR gEy Z ?_)
 let B0:List Value:=[jV p0.Laps,.slice an p0.Bibs.length ao,.slice ag p0.Times.length ah]
 refine ZC (cs:=B0) rfl rfl rfl rfl rfl rfl (by rfl) hS ?_
 intro W1 b2 aY
 refine oA Z Z (eN (sR gFo Z (oR Z (zJ Z Z Zj Z YJ) (oL Z (aY.ldB (j:=0) Z Z Z Tryz.isAgg56 (v:=.slice ag p0.Times.length ah) Z) (bnK hm fun x5 h6 bx=>zH 0 Z Z Z Z (zG Z Z Tryz.call108 (zB Z zO) Z) aY (fun hs=>wFC p0.Times ag ah W1 U hs bu h6) (.inr Z) ?_)))))
 rintro U8 L9 bJ aU bF bj ⟨ab,ae,rfl,rfl⟩
 have bk:sW w U U8 [.row ab ae 3 1 (hD KL.encI x5),.blk b2 69 B0] aU:=bj
 refine oA Z Z (eN (sR gEx Z (oM Z Z (bnK bx fun ap bc bv=>zH 1 Z Z Z Z (zG Z Z Tryz.call109 (zB Z zO) Z) bk (fun hs=>wFT x5 ab ae aU U8 hs bc) (.inl Z) ?_))))
 rintro av bA bK aV bG bm ⟨rfl,rfl,bd⟩
 have bn:sW w U av [.row ab ae 3 1 (hD KL.encI ap),.blk b2 69 B0] aV:=bm
 refine eN (sR (.fl 0 (.fx 1 gEz .stop)) rfl (zm rfl rfl rfl rfl rfl (Eq.trans (b:=(.slice ab x5.length ae:Value)) (c:=(.slice ab ap.length ae:Value)) rfl (by rw [bd])) (bnK bv fun ai be bw=>zH 1 rfl rfl rfl rfl (zG rfl rfl Tryz.call111 (zB rfl zO) rfl) bn (fun hs=>wEp ap ab ae aV av hs be) (.inl rfl) ?_)))
 rintro a7 bB bL ak bH bo ⟨aj,am,rfl,rfl⟩
 have bp:sW w U a7 [.row aj am 3 1 (hD KL.encI ai),.blk b2 69 B0] ak:=bo
 have q:=bp.freezeR (k:=0) (n:=ai.length) rfl (wAC (f:=KL.encI) (sz:=1) (fun _=>rfl) ai) (by decide)
 obtain ⟨ax,bI,a6,bq⟩:=q
 have br:sW w U ax [.blk b2 69 B0] ak:=bq
 have q:=bnd bw
 obtain ⟨⟨⟩,bf,aZ⟩:=q
 try dsimp only at aZ
 refine zH 0 Z Z Z Z (zG Z Z Tryz.call110 (zB Z zO) Z) br (fun hs=>wFD ai aj am ak ax hs a6 bf) (.inr Z) ?_
 rintro ay bC bM ba bz bs ⟨bb,rfl,rfl,bg⟩
 have bt:sW w U ay [.blk b2 69 B0] ba:=bs
 refine oA Z Z (eN (zR ?_))
 have bh:=a6.le bz
 have hE:=hJ aZ;first | subst r | cases hE
 exact ⟨rfl,_,(ZH rfl),ay,_,(bt.pick [] _ (by decide) rfl),bb,aj,am,rfl,rfl,bg,bh⟩
theorem wEM (p0:wAN) (aY:Nat) (a6:Option Addr) (a7:Nat) (bg:Option Addr) (bi:Nat) (az:Option Addr) (aU:Nat) (bh:Option Addr) (bj:Nat) (p1:Int) (p2:Int) (p3:Int) (w:World) (U:PHeap) (hS:St0 w U []) (bt:Cl U aY 0 [jV p0.Race.Laps,.slice a6 p0.Race.Bibs.length a7,.slice bg p0.Race.Times.length bi,.slice az p0.done.length aU,.slice bh p0.out.length bj]) (cE:Sl U 1 a6 a7 p0.Race.Bibs.length (hD KL.encI p0.Race.Bibs)) (cG:SlR U wEX bg bi p0.Race.Times) (cH:Sl U 1 az aU p0.done.length (hD KL.encI p0.done)) (cI:Sl U 1 bh bj p0.out.length (hD KL.encT p0.out)) {r:Int} (hm:wBF p0 p1 p2 p3=some r):Gv Tryz.prog 84 [.pointer (some ⟨aY,0,none⟩),jV p1,jV p2,jV p3] w (wBa w [] U (fun U_ L_ v=>v=jV r/\L_=[])):=by
 unfold wBF at hm
 refine Gv.of Tryz.func84 Z Tryz.ntmps84 Tryz.results84 Z (sR fL1 Z (oA Z Z (eN (sR fL1 Z (oA Z Z (eN (zL (sR fL6 Z (oM Z Z (oR Z (ZT Z Z) (oR Z (zJ Z Z Zl Z zZ) (oL Z (hS.ldC (f:=3) bt (v:=.slice az p0.done.length aU) Z Z zj Z) (oR Z (zr Z Z zC) (oM Z Z (eN (zb (bnK hm fun dQ cK c6=>?_)))))))))))))))))
 have q:=wBM cK
 obtain ⟨bf,cJ⟩:=q
 replace bf:=zM bf
 refine CK.forN' (fun k7 x6 σ_ w_=>∃ (U_:PHeap),σ_ 17=jV (↑k7:Int)/\σ_ 0=.pointer (some ⟨aY,0,none⟩)/\σ_ 2=jV p2/\σ_ 3=jV p3/\σ_ 9=jV x6/\σ_ 15=.slice az p0.done.length aU/\σ_ 16=jV (↑p0.done.length:Int)/\PHeap.Le U U_/\sW w U U_ [] w_) cJ ?_ ?_ ?_
 exact ⟨U,Z,Z,Z,Z,Z,Z,Z,(zN _),hS⟩
 rintro k7 x6 dP dR bk be ⟨an,aj,ai,au,av,ao,ax,ay,aV,bs⟩ df
 have bm:Hid ((↑k7:Int) < (↑p0.done.length:Int)):=zM (wAr be)
 replace be:=zM be
 have cL:Hid (w64 ((↑k7:Int) + 1)=(↑(k7 + 1):Int)):=zM (by have h1:=bf.out;have h2:=bm.out;rw [wAW] <;> omega)
 refine sR fL1 Z (oR Z (zY Z aj ay) (eN (zL (cT Z bm (kN (bnK df fun dn dg cR=>yW (fun σ_ w_=>∃ (U_:PHeap),σ_ 0=.pointer (some ⟨aY,0,none⟩)/\σ_ 2=jV p2/\σ_ 3=jV p3/\σ_ 9=jV dn/\σ_ 15=.slice az p0.done.length aU/\σ_ 16=jV (↑p0.done.length:Int)/\σ_ 17=jV (↑k7:Int)/\PHeap.Le an U_/\sW w U U_ [] w_) ?_ ?_))))))
 refine zb (sR fL5 Z (oM Z aj (bnK dg fun dp bn cS=>?_)))
 have cg:=cH.le aV
 have q:=cg.el (fun _=>rfl) (wAX bn)
 obtain ⟨dz,dL,cq,cz⟩:=q
 refine ze rfl rfl rfl rfl (fun _=>ZR rfl ax cq aj zC zD (wBA bn)) (ZE rfl rfl rfl rfl (bs.ldC (f:=0) cz (v:=jV dp) rfl rfl zF rfl) rfl (yB rfl rfl rfl rfl rfl rfl (yB rfl rfl rfl rfl rfl rfl (eN (zL (ZF ZB [3,3,3,1,3,3,1,3,3,3,3,3,3,3,3,3,3,3,3,1,3,3,1,3,3,3,1,3,3,3,3,3,3,3,3,3,3,3,1,3,3,1,3,3,3,3,1,3,3,1,3,3,3] fL53 (by kernel_rfl) ?_))))))
 have ae:=bs.drew
 generalize hw_W44:({ bk with drawn:=bk.drawn + 1 }:World)=dw at ae ⊢
 refine oM Z ai (oR Z (ZT Z Z) (oR Z (zJ Z Z Zl Z Tryz.sizeOf64) ?_))
 have aZ:=bt.le aV
 refine oL Z (ae.ldC (f:=4) aZ (v:=.slice bh p0.out.length bj) Z Z Tryz.isAgg64 Z) (oM Z Z (bnK cS fun dq bo cU=>?_))
 have ci:=cI.le aV
 have q:=ci.el (fun _=>rfl) (wAX bo)
 obtain ⟨dA,dM,cr,cA⟩:=q
 refine oR Z (ZR Z Z cr Z yJ yp (wBA bo)) (oL Z (ae.ldC (f:=0) cA (v:=.bool dq) Z Z Tryz.isAgg4 Z) (oR Z (ZW Z Z) (oM Z Z (ifc cU ?_ ?_))))
 intro ag cV
 refine ZA Z Z Z (zU Z Z (nC ag.out) Z) (ZA Z Z Z (zU Z Z (nC ag.out) Z) (ZA Z Z Z (zU Z Z (nC ag.out) Z) (ZA Z Z Z (zU Z Z (nC ag.out) Z) (oR Z (zc Z (nC ag.out) Z) (oM Z Z (oN Z (oN Z (oN Z (oN Z (oN Z (oN Z (oN Z (oN Z (oN Z (oN Z (oN Z (oN Z (oN Z (oN Z (oR Z (zc Z Z Z) (oM Z Z (oN Z (oN Z (oN Z (ZA Z Z Z (wAi Z Z Z) (ZA Z Z Z (wAi Z Z Z) (ZA Z Z Z (wAi Z Z Z) (ZA Z Z Z (wAi Z Z Z) (ZA Z Z Z (wAi Z Z Z) (ZA Z Z Z (wAi Z Z Z) (ZA Z Z Z (wAi Z Z Z) (ZA Z Z Z (wAi Z Z Z) (ZA Z Z Z (wAi Z Z Z) (ZA Z Z Z (wAi Z Z Z) (ZA Z Z Z (wAi Z Z Z) (ZA Z Z Z (wAi Z Z Z) (ZA Z Z Z (wAi Z Z Z) (ZA Z Z Z (wAi Z Z Z) (ZA Z Z Z (wAi Z Z Z) (ZA Z Z Z (wAi Z Z Z) (ZA Z Z Z (wAi Z Z Z) (oN Z (oR Z (zc Z Z Z) (eN (zy Z (Zi (zx ?_)))))))))))))))))))))))))))))))))))))))))))))))
 cases cV
 exact zI ⟨Z,⟨an,ai,au,av,ao,ax,ay,aj,(zN _),ae⟩⟩
 intro ag cW
 refine zm Z Z Z (zQ Z Z (nF (ag.out))) Z Z (zm Z Z Z (zQ Z Z (nF (ag.out))) Z au (ze Z Z Z (zQ Z Z (nF (ag.out))) (fun _=>za Z Z Z) (ze Z Z Z (zQ Z Z (nF (ag.out))) (fun _=>Runs.geq Z Z Z) (oR Z (zT Z (nF (ag.out)) Z) (oM Z Z (ifc cW ?_ ?_))))))
 intro ab cX
 refine zm Z Z Z (wT Z ab) Z ai (rU Z (wT Z ab) (ZT Z Z) (rU Z (wT Z ab) (zJ Z Z Zl Z yI) (rU Z (wT Z ab) (zJ Z Z Zj Z YJ) (ZE Z Z Z (wT Z ab) (ae.ldC (f:=2) aZ (v:=.slice bg p0.Race.Times.length bi) Z Z Tryz.isAgg56 Z) Z (zm Z Z Z (wT Z ab) Z Z (bnK cX fun bx bp cY=>?_))))))
 have cj:=cG.le aV
 have q:=cj.el (wAX bp)
 obtain ⟨bB,di,dO,cu,bd,de⟩:=q
 obtain ⟨bv,bw,rfl,cm⟩:=de
 replace bd:Cl an bB (di + k7 * 1) [.slice bv bx.length bw]:=bd
 refine rU Z (wT Z ab) (ZR Z Z cu Z ZK zZ (wBA bp)) (ZE Z Z Z (wT Z ab) (ae.ldC (f:=0) bd (v:=.slice bv bx.length bw) Z Z zj Z) Z (zm Z Z Z (wT Z ab) Z Z (rU Z (wT Z ab) (yP Z Z Z) (bnK cY fun dr bc cZ=>?_))))
 have q:=cm.el (fun _=>rfl) (wAX bc)
 obtain ⟨dB,dN,cw,cB⟩:=q
 refine rU Z (wT Z ab) (Ze Z Z cw Z zC zD (wBt bc) (wBy bc)) (ZE Z Z Z (wT Z ab) (ae.ldC (f:=0) cB (v:=jV dr) Z Z zF Z) Z (zm Z Z Z (wT Z ab) Z av (rU Z (wT Z ab) (yO Z Z Z) (oR Z (zT Z (Zm ab.out) Z) (oM Z Z (ifc cZ ?_ ?_))))))
 intro af c8
 refine zm Z Z Z (wT Z af) Z ao (rU Z (wT Z af) (zY Z Z Z) (zm Z Z Z (wT Z af) Z Z (ifc c8 ?_ ?_)))
 intro aa da
 refine oT Z aa (oT Z aa (oT Z aa (oT Z aa (oT Z aa (oT Z aa (oT Z aa (oT Z aa (oT Z aa (oT Z aa (oT Z aa (oT Z aa (oT Z aa (oT Z aa (oT Z aa (oT Z aa (oT Z aa (rU Z (wT Z af) (zT Z (Zm aa.out) Z) (oR Z (zT Z (Zm af.out) Z) (eN (ZJ Z (yf fun aq am=>?_)))))))))))))))))))))
 have bV:aq 0=.pointer (some ⟨aY,0,none⟩):=(am 0).trans ai
 have bW:aq 2=jV p2:=(am 2).trans au
 have bX:aq 3=jV p3:=(am 3).trans av
 have dH:aq 9=jV x6:=(am 9).trans ao
 have bY:aq 10=jV (↑k7:Int):=(am 10).trans rfl
 have bZ:aq 15=.slice az p0.done.length aU:=(am 15).trans ax
 have ca:aq 16=jV (↑p0.done.length:Int):=(am 16).trans ay
 have cc:aq 17=jV (↑k7:Int):=(am 17).trans aj
 clear am
 refine rR fL2 Z (oM Z bY (oA Z Z (zg (zx ?_))))
 cases da
 exact zI ⟨Z,⟨an,bV,bW,bX,Z,bZ,ca,cc,(zN _),ae⟩⟩
 intro aa db
 refine zm Z Z Z (wF Z aa) Z ai (rU Z (wF Z aa) (ZT Z Z) (rU Z (wF Z aa) (zJ Z Z Zl Z yI) (rU Z (wF Z aa) (zJ Z Z Zj Z zZ) (ZE Z Z Z (wF Z aa) (ae.ldC (f:=1) aZ (v:=.slice a6 p0.Race.Bibs.length a7) Z Z zj Z) Z (zm Z Z Z (wF Z aa) Z Z (bnK db fun dt bq dd=>?_))))))
 have br:=cE.le aV
 have q:=br.el (fun _=>rfl) (wAX bq)
 obtain ⟨dx,dJ,co,cx⟩:=q
 refine rU Z (wF Z aa) (ZR Z Z co Z zC zD (wBA bq)) (ZE Z Z Z (wF Z aa) (ae.ldC (f:=0) cx (v:=jV dt) Z Z zF Z) Z (zm Z Z Z (wF Z aa) Z ai (rU Z (wF Z aa) (ZT Z Z) (rU Z (wF Z aa) (zJ Z Z Zl Z yI) (rU Z (wF Z aa) (zJ Z Z Zj Z zZ) (ZE Z Z Z (wF Z aa) (ae.ldC (f:=1) aZ (v:=.slice a6 p0.Race.Bibs.length a7) Z Z zj Z) Z (zm Z Z Z (wF Z aa) Z ao (bnK dd fun dm bb cM=>?_))))))))
 have q:=br.el (fun _=>rfl) (wAX bb)
 obtain ⟨dy,dK,cp,cy⟩:=q
 refine rU Z (wF Z aa) (Ze Z Z cp Z zC zD (wBt bb) (wBy bb)) (ZE Z Z Z (wF Z aa) (ae.ldC (f:=0) cy (v:=jV dm) Z Z zF Z) Z (rU Z (wF Z aa) (zY Z Z Z) (rU Z (wT Z af) (zc Z (ZM aa.out) Z) (oR Z (zT Z (Zm af.out) Z) (eN (ifc cM ?_ ?_))))))
 intro ba cN
 refine cT Z ba (yf fun ap ak=>?_)
 have bD:ap 0=.pointer (some ⟨aY,0,none⟩):=(ak 0).trans ai
 have bE:ap 2=jV p2:=(ak 2).trans au
 have bF:ap 3=jV p3:=(ak 3).trans av
 have dC:ap 9=jV x6:=(ak 9).trans ao
 have bG:ap 10=jV (↑k7:Int):=(ak 10).trans rfl
 have bH:ap 15=.slice az p0.done.length aU:=(ak 15).trans ax
 have bI:ap 16=jV (↑p0.done.length:Int):=(ak 16).trans ay
 have bJ:ap 17=jV (↑k7:Int):=(ak 17).trans aj
 clear ak
 refine rR fL2 Z (oM Z bG (oA Z Z (zg (zx ?_))))
 cases cN
 exact zI ⟨Z,⟨an,bD,bE,bF,Z,bH,bI,bJ,(zN _),ae⟩⟩
 intro ba cO
 refine cF Z ba (Zi (zx ?_))
 cases cO
 exact zI ⟨Z,⟨an,ai,au,av,ao,ax,ay,aj,(zN _),ae⟩⟩
 intro af cP
 refine oF Z af (oF Z af (oF Z af (ZA Z Z Z (wAi Z Z Z) (ZA Z Z Z (wAi Z Z Z) (ZA Z Z Z (wAi Z Z Z) (ZA Z Z Z (wAi Z Z Z) (ZA Z Z Z (wAi Z Z Z) (ZA Z Z Z (wAi Z Z Z) (ZA Z Z Z (wAi Z Z Z) (ZA Z Z Z (wAi Z Z Z) (ZA Z Z Z (wAi Z Z Z) (ZA Z Z Z (wAi Z Z Z) (ZA Z Z Z (wAi Z Z Z) (ZA Z Z Z (wAi Z Z Z) (ZA Z Z Z (wAi Z Z Z) (ZA Z Z Z (wAi Z Z Z) (ZA Z Z Z (wAi Z Z Z) (ZA Z Z Z (wAi Z Z Z) (ZA Z Z Z (wAi Z Z Z) (oF Z af (oR Z (zc Z (ZM af.out) Z) (eN (zy Z (Zi (zx ?_)))))))))))))))))))))))))
 cases cP
 exact zI ⟨Z,⟨an,ai,au,av,ao,ax,ay,aj,(zN _),ae⟩⟩
 intro ab cQ
 refine oF Z ab (oF Z ab (oF Z ab (oF Z ab (oF Z ab (oF Z ab (oF Z ab (oF Z ab (oF Z ab (oF Z ab (oF Z ab (oF Z ab (oF Z ab (oF Z ab (oR Z (zc Z (ZM ab.out) Z) (oM Z Z (oN Z (oN Z (oN Z (ZA Z Z Z (wAi Z Z Z) (ZA Z Z Z (wAi Z Z Z) (ZA Z Z Z (wAi Z Z Z) (ZA Z Z Z (wAi Z Z Z) (ZA Z Z Z (wAi Z Z Z) (ZA Z Z Z (wAi Z Z Z) (ZA Z Z Z (wAi Z Z Z) (ZA Z Z Z (wAi Z Z Z) (ZA Z Z Z (wAi Z Z Z) (ZA Z Z Z (wAi Z Z Z) (ZA Z Z Z (wAi Z Z Z) (ZA Z Z Z (wAi Z Z Z) (ZA Z Z Z (wAi Z Z Z) (ZA Z Z Z (wAi Z Z Z) (ZA Z Z Z (wAi Z Z Z) (ZA Z Z Z (wAi Z Z Z) (ZA Z Z Z (wAi Z Z Z) (oN Z (oR Z (zc Z Z Z) (eN (zy Z (Zi (zx ?_)))))))))))))))))))))))))))))))))))))))))
 cases cQ
 exact zI ⟨Z,⟨an,ai,au,av,ao,ax,ay,aj,(zN _),ae⟩⟩
 rintro dS du ⟨bz,bK,bL,bM,bN,bP,bQ,bR,dh,cC⟩
 refine rR fL2 Z (oR Z (ZG (za Z bR Z) (congrArg (jV) cL.out)) (oM Z Z (zg ?_)))
 cases cR
 exact zI ⟨Z,⟨bz,Z,bK,bL,bM,bN,bP,bQ,(aV.trans dh),cC⟩⟩
 rintro dT dv ⟨bA,cd,dD,dE,dF,bS,dG,bU,dI,cD⟩
 have bC:Hid (¬ ((↑(((↑p0.done.length:Int):Int) - 0).toNat:Int) < (↑p0.done.length:Int))):=zM (wAf)
 refine sR fL1 Z (oR Z (zY Z cd bU) (eN (zL (cF Z bC (Zd (zn (zn (ZV (zI (sR fL2 Z (oM Z bS (oA Z Z (eN (zR ?_))))))))))))))
 have hE:=hJ c6;first | subst r | cases hE
 exact ⟨Z,_,(ZH Z),bA,_,cD,Z,Z⟩
theorem wFU (p0:wAN) (ac:Nat) (az:Option Addr) (aU:Nat) (au:Option Addr) (av:Nat) (ae:Option Addr) (af:Nat) (ao:Option Addr) (ap:Nat) (p1:Int) (w:World) (U:PHeap) (hS:St0 w U [.blk ac 158 [jV p0.Race.Laps,.slice az p0.Race.Bibs.length aU,.slice au p0.Race.Times.length av,.slice ae p0.done.length af,.slice ao p0.out.length ap],.row ae af 3 1 (hD KL.encI p0.done),.row ao ap 4 1 (hD KL.encT p0.out)]) (cE:Sl U 1 az aU p0.Race.Bibs.length (hD KL.encI p0.Race.Bibs)) (bL:SlR U wEX au av p0.Race.Times) {r:(List Int) × wAN} (hm:wBG p0 p1=some r):Gv Tryz.prog 83 [.pointer (some ⟨ac,0,none⟩),jV p1] w (wBa w [.blk ac 158 [jV p0.Race.Laps,.slice az p0.Race.Bibs.length aU,.slice au p0.Race.Times.length av,.slice ae p0.done.length af,.slice ao p0.out.length ap],.row ae af 3 1 (hD KL.encI p0.done),.row ao ap 4 1 (hD KL.encT p0.out)] U (fun U_ L_ v=>∃ (A0:Option Addr) (c0:Nat) (bW:Option Addr) (co:Nat) (bX:Option Addr) (cp:Nat) (bY:Option Addr) (cq:Nat) (bZ:Option Addr) (cr:Nat),v=.slice A0 r.1.length c0/\L_=[.row A0 c0 3 1 (hD KL.encI r.1),.row bY cq 3 1 (hD KL.encI r.2.done),.row bZ cr 4 1 (hD KL.encT r.2.out),.blk ac 158 [jV r.2.Race.Laps,.slice bW r.2.Race.Bibs.length co,.slice bX r.2.Race.Times.length cp,.slice bY r.2.done.length cq,.slice bZ r.2.out.length cr]]/\Sl U_ 1 bW co r.2.Race.Bibs.length (hD KL.encI r.2.Race.Bibs)/\SlR U_ wEX bX cp r.2.Race.Times)):=by
 unfold wBG at hm
 refine Gv.of Tryz.func83 Z Tryz.ntmps83 Tryz.results83 Z (sR fL1 Z (oA Z Z (eN (zL (sR fL7 Z (oM Z Z (oR Z (ZT Z Z) (oR Z (zJ Z Z Zl Z yI) (oR Z (zJ Z Z Zj Z YJ) (oL Z (hS.ldB (j:=0) Z Z Z Tryz.isAgg56 (v:=.slice au p0.Race.Times.length av) Z) (oR Z (zr Z Z ZK) (oM Z Z (eN (zb (bnK hm fun aq eF eV=>?_)))))))))))))))
 have q:=wBM eF
 obtain ⟨bR,eI⟩:=q
 replace bR:=zM bR
 let B0:Res:=.blk ac 158 [jV p0.Race.Laps,.slice az p0.Race.Bibs.length aU,.slice au p0.Race.Times.length av,.slice ae p0.done.length af,.slice ao p0.out.length ap]
 let B1:Res:=.row ao ap 4 1 (hD KL.encT p0.out)
 let B2:Res:=.row ae af 3 1 (hD KL.encI p0.done)
 refine CK.forN' (fun aj l9 σ_ w_=>∃ (U_:PHeap),σ_ 17=jV (↑aj:Int)/\σ_ 0=.pointer (some ⟨ac,0,none⟩)/\σ_ 1=jV p1/\σ_ 15=.slice au p0.Race.Times.length av/\σ_ 16=jV (↑p0.Race.Times.length:Int)/\PHeap.Le U U_/\SW w [B0,B2,B1] U U_ [.row ae af 3 1 (hD KL.encI l9),B1,.blk ac 158 [jV p0.Race.Laps,.slice az p0.Race.Bibs.length aU,.slice au p0.Race.Times.length av,.slice ae l9.length af,.slice ao p0.out.length ap]] w_/\l9.length=p0.done.length) eI ?_ ?_ ?_
 exact ⟨U,rfl,rfl,rfl,rfl,rfl,(zN _),(hS.pick [1,2,0] _ (by decide) rfl),rfl⟩
 rintro aj l9 gg gj fP bP ⟨aY,aZ,bb,bi,bj,bk,bp,an,bw⟩ fE
 have cm:Hid ((↑aj:Int) < (↑p0.Race.Times.length:Int)):=zM (wAr bP)
 replace bP:=zM bP
 have bx:Hid (w64 ((↑aj:Int) + 1)=(↑(aj + 1):Int)):=zM (by have h1:=bR.out;have h2:=cm.out;rw [wAW] <;> omega)
 refine sR fL1 Z (oR Z (zY Z aZ bk) (eN (zL (cT Z cm (kN (zL (zb (sR fL5 Z (oM Z aZ (bnK fE fun cM cx fh=>?_))))))))))
 have dL:=bL.le bp
 have q:=dL.el (wAX cx)
 obtain ⟨cZ,fJ,gb,dN,bK,fA⟩:=q
 obtain ⟨cJ,cK,rfl,dM⟩:=fA
 replace bK:Cl aY cZ (fJ + aj * 1) [.slice cJ cM.length cK]:=bK
 refine oR Z (ZR Z bj dN aZ ZK zZ (wBA cx)) (oL Z (an.ldC (f:=0) bK (v:=.slice cJ cM.length cK) Z Z zj Z) (oA Z Z (oA Z Z (eN (sR fL8 Z (oM Z bb (oR Z (ZT Z Z) (oR Z (zJ Z Z Zl Z zZ) (oL Z (an.ldB (j:=2) Z Z Z zj (v:=.slice ae l9.length af) Z) (oM Z Z (bnK fh fun _ aX fj=>?_)))))))))))
 obtain ⟨fU,bd⟩:=an.rowSome (j:=0) rfl (by rw [wAC (f:=KL.encI) (sz:=1) (fun _=>rfl) l9];have hz:=wAY aX;omega)
 refine oR Z (ZR Z Z bd Z zC zD (wAY aX)) ?_
 have eM:=wBb (xs:=l9) (wAY aX)
 refine ZE rfl rfl rfl rfl (an.ldR (j:=0) rfl bd rfl rfl zF (wAa (sz:=1) (fun _=>rfl) _ _ 0 _ eM (by first | omega | rfl | simp) rfl)) rfl (yB rfl rfl rfl rfl rfl rfl (eN (sR fL22 rfl (zm rfl rfl rfl rfl rfl bb (ze rfl rfl rfl rfl (fun _=>ZT rfl rfl) (ze rfl rfl rfl rfl (fun _=>zJ rfl rfl Zl rfl Tryz.sizeOf64) (ZE rfl rfl rfl rfl (an.ldB (j:=2) rfl rfl rfl Tryz.isAgg64 (v:=.slice ao p0.out.length ap) rfl) rfl (zm rfl rfl rfl rfl rfl rfl (bnK fj fun _ bI fk=>?_)))))))))
 obtain ⟨fV,cA⟩:=an.rowSome (j:=1) rfl (by rw [wAC (f:=KL.encT) (sz:=1) (fun _=>rfl) p0.out];have hz:=wAY bI;omega)
 refine oR Z (ZR Z Z cA Z yJ yp (wAY bI)) ?_
 have eO:=wBb (xs:=p0.out) (wAY bI)
 refine ZE rfl rfl rfl rfl (an.ldR (j:=1) rfl cA rfl rfl Tryz.isAgg4 (wAa (sz:=1) (fun _=>rfl) _ _ 0 _ eO (by first | omega | rfl | simp) rfl)) rfl (ze rfl rfl rfl rfl (fun _=>ZW rfl rfl) (zm rfl rfl rfl rfl rfl rfl (ifc fk ?_ ?_)))
 intro ay fm
 refine ZA Z Z Z (zU Z Z (nC ay.out) Z) (ZA Z Z Z (zU Z Z (nC ay.out) Z) (ZA Z Z Z (zU Z Z (nC ay.out) Z) (ZA Z Z Z (zU Z Z (nC ay.out) Z) (oR Z (zc Z (nC ay.out) Z) (oM Z Z (oN Z (oN Z (oN Z (oN Z (oN Z (oN Z (oR Z (zc Z Z Z) (eN (zy Z (Zi (zx (zI (rR fL2 Z (oR Z (ZG (za Z aZ Z) (congrArg (jV) bx.out)) (oM Z Z (zg ?_)))))))))))))))))))))
 cases fm
 exact zI ⟨Z,⟨aY,Z,bb,bi,bj,bk,bp,an,bw⟩⟩
 intro ay fq
 refine zm Z Z Z (zQ Z Z (nF (ay.out))) Z Z (zm Z Z Z (zQ Z Z (nF (ay.out))) Z Z (ze Z Z Z (zQ Z Z (nF (ay.out))) (fun _=>zr Z Z zC) (ze Z Z Z (zQ Z Z (nF (ay.out))) (fun _=>zY Z Z Z) (oR Z (zT Z (nF (ay.out)) Z) (oM Z Z (ifc fq ?_ ?_))))))
 intro ai ft
 refine zm Z Z Z (wT Z ai) Z Z (zm Z Z Z (wT Z ai) Z Z (bnK ft fun fN bJ fu=>?_))
 have q:=dM.el (fun _=>rfl) (wAX bJ)
 obtain ⟨fW,f9,dO,dP⟩:=q
 refine rU Z (wT Z ai) (Ze Z Z dO Z zC zD (wBt bJ) (wBy bJ)) (ZE Z Z Z (wT Z ai) (an.ldC (f:=0) dP (v:=jV fN) Z Z zF Z) Z (zm Z Z Z (wT Z ai) Z bi (rU Z (wT Z ai) (yO Z Z Z) (oR Z (zT Z (Zm ai.out) Z) (eN (ifc fu ?_ ?_))))))
 intro bE fw
 refine cT Z bE (yf fun bf a7=>?_)
 have cu:bf 0=.pointer (some ⟨ac,0,none⟩):=(a7 0).trans bb
 have df:bf 1=jV p1:=(a7 1).trans bi
 have dg:bf 5=jV (↑aj:Int):=(a7 5).trans rfl
 have dh:bf 15=.slice au p0.Race.Times.length av:=(a7 15).trans bj
 have di:bf 16=jV (↑p0.Race.Times.length:Int):=(a7 16).trans bk
 have dm:bf 17=jV (↑aj:Int):=(a7 17).trans aZ
 clear a7
 refine rR (wOO (.fx 9 .nil .stop)) Z (oM Z cu (oR Z (ZT Z Z) (oR Z (zJ Z Z Zl Z zZ) (oL Z (an.ldB (j:=2) Z Z Z zj (v:=.slice ae l9.length af) Z) (oM Z dg (oR Z (ZR Z Z bd Z zC zD (wAY aX)) ?_))))))
 have eQ:=wBb (xs:=l9) (wAY aX)
 refine ZE rfl rfl rfl rfl (an.ldR (j:=0) rfl bd rfl rfl zF (wAa (sz:=1) (fun _=>rfl) _ _ 0 _ eQ (by first | omega | rfl | simp) rfl)) rfl (ze rfl rfl rfl rfl (fun _=>za rfl rfl rfl) (ze rfl rfl rfl rfl (fun _=>ZR rfl rfl bd rfl zC zD (wAY aX)) ?_))
 have eU:=wBb (xs:=l9) (wAY aX)
 refine YI (j:=0) (vs:=[jV (w64 ((gd l9 aj) + 1))]) (cs':=hD KL.encI (nJ l9 aj (w64 ((gd l9 aj) + 1)))) rfl rfl rfl rfl an rfl bd rfl rfl rfl zD (by rw [wAC (f:=KL.encI) (sz:=1) (fun _=>rfl)];have hz:=wAY aX;show _ + 1 <= _;first | omega | (simp only [nH];omega) | (simp only [nG,nD,nE];omega)) rfl (wDU (sz:=1) (fo:=0) (fun _=>rfl) _ _ _ _ eU (by first | omega | (simp only [nH];omega) | (simp only [nG,nD,nE];omega)) (zA rfl) rfl) rfl ?_
 intro cd eA
 let B3:Res:=.row ae af 3 1 (hD KL.encI (nJ l9 aj (w64 ((gd l9 aj) + 1))))
 have eB:SW w [B0,B2,B1] U aY [B3,B1,.blk ac 158 [jV p0.Race.Laps,.slice az p0.Race.Bibs.length aU,.slice au p0.Race.Times.length av,.slice ae l9.length af,.slice ao p0.out.length ap]] cd:=eA
 have eD:SW w [B0,B2,B1] U aY [B3,B1,.blk ac 158 [jV p0.Race.Laps,.slice az p0.Race.Bibs.length aU,.slice au p0.Race.Times.length av,.slice ae ((nJ l9 aj (w64 ((gd l9 aj) + 1))).length) af,.slice ao p0.out.length ap]] cd:=by simpa only [B0,B1,B2,B3,nI] using eB
 refine zg (zx (zI (rR fL2 Z (oR Z (ZG (za Z dm Z) (congrArg (jV) bx.out)) (oM Z Z (zg ?_))))))
 cases fw
 exact zI ⟨Z,⟨aY,Z,cu,df,dh,di,bp,eD,(nI.trans bw)⟩⟩
 intro bE fy
 refine cF Z bE (Zi (zx (zI (rR fL2 Z (oR Z (ZG (za Z aZ Z) (congrArg (jV) bx.out)) (oM Z Z (zg ?_)))))))
 cases fy
 exact zI ⟨Z,⟨aY,Z,bb,bi,bj,bk,bp,an,bw⟩⟩
 intro ai fz
 refine oF Z ai (oF Z ai (oF Z ai (oF Z ai (oF Z ai (oF Z ai (oR Z (zc Z (ZM ai.out) Z) (eN (zy Z (Zi (zx (zI (rR fL2 Z (oR Z (ZG (za Z aZ Z) (congrArg (jV) bx.out)) (oM Z Z (zg ?_)))))))))))))))
 cases fz
 exact zI ⟨Z,⟨aY,Z,bb,bi,bj,bk,bp,an,bw⟩⟩
 rintro gq fR ⟨cc,dq,cw,dn,fY,db,bA,cD,f8⟩
 have c6:Hid (¬ ((↑(((↑p0.Race.Times.length:Int):Int) - 0).toNat:Int) < (↑p0.Race.Times.length:Int))):=zM (wAf)
 refine sR fL1 Z (oR Z (zY Z dq db) (eN (zL (cF Z c6 (Zd (zn (zn (ZV (zI (sR fL1 Z (oA Z Z (eN (zL (sR fL6 Z (oM Z cw (oR Z (ZT Z Z) (oR Z (zJ Z Z Zl Z zZ) (oL Z (cD.ldB (j:=2) Z Z Z zj (v:=.slice ae aq.length af) Z) (oR Z (zr Z Z zC) (oM Z Z (eN (zb (bnK eV fun gh eG eW=>?_)))))))))))))))))))))))
 have q:=wBM eG
 obtain ⟨bQ,eH⟩:=q
 replace bQ:=zM bQ
 let B4:List Value:=[jV p0.Race.Laps,.slice az p0.Race.Bibs.length aU,.slice au p0.Race.Times.length av,.slice ae aq.length af,.slice ao p0.out.length ap]
 let B5:Res:=.row ae af 3 1 (hD KL.encI aq)
 refine CK.forN' (fun ax bn σ_ w_=>∃ (U_:PHeap) (a8:Option Addr) (ba:Nat),σ_ 66=jV (↑ax:Int)/\σ_ 0=.pointer (some ⟨ac,0,none⟩)/\σ_ 1=jV p1/\σ_ 8=.slice a8 bn.length ba/\σ_ 64=.slice ae aq.length af/\σ_ 65=jV (↑aq.length:Int)/\PHeap.Le cc U_/\SW w [B0,B2,B1] U U_ [B5,B1,.blk ac 158 B4,.row a8 ba 3 1 (hD KL.encI bn)] w_) eH ?_ ?_ ?_
 have dQ:=cD.nilrow 3 1
 exact ⟨cc,none,0,rfl,cw,dn,rfl,rfl,rfl,(zN _),(dQ.pick [1,2,3,0] _ (by decide) rfl)⟩
 rintro ax bn gf gi br bN ⟨cO,a8,ba,bc,bh,bt,bF,bu,bv,bo,a6⟩ fD
 have ci:Hid ((↑ax:Int) < (↑aq.length:Int)):=zM (wAr bN)
 replace bN:=zM bN
 have bM:Hid (w64 ((↑ax:Int) + 1)=(↑(ax + 1):Int)):=zM (by have h1:=bQ.out;have h2:=ci.out;rw [wAW] <;> omega)
 refine sR fL1 Z (oR Z (zY Z bc bv) (eN (zL (cT Z ci (kN (zL (zb (sR fL5 Z (oM Z bc (bnK fD fun _ bG eX=>?_))))))))))
 obtain ⟨fS,cy⟩:=a6.rowSome (j:=0) rfl (by rw [wAC (f:=KL.encI) (sz:=1) (fun _=>rfl) aq];have hz:=wAY bG;omega)
 refine oR Z (ZR Z bu cy bc zC zD (wAY bG)) ?_
 have eJ:=wBb (xs:=aq) (wAY bG)
 refine ZE rfl rfl rfl rfl (a6.ldR (j:=0) rfl cy rfl rfl zF (wAa (sz:=1) (fun _=>rfl) _ _ 0 _ eJ (by first | omega | rfl | simp) rfl)) rfl (yB rfl rfl rfl rfl rfl rfl (yB rfl rfl rfl rfl rfl rfl (eN (sR (wOP (.fx 13 (.fl 14 (.fl 15 .nil)) .stop)) rfl (zm rfl rfl rfl rfl rfl bh (ze rfl rfl rfl rfl (fun _=>ZT rfl rfl) (ze rfl rfl rfl rfl (fun _=>zJ rfl rfl Zl rfl Tryz.sizeOf64) (ZE rfl rfl rfl rfl (a6.ldB (j:=2) rfl rfl rfl Tryz.isAgg64 (v:=.slice ao p0.out.length ap) rfl) rfl (zm rfl rfl rfl rfl rfl rfl (bnK eX fun _ bH eY=>?_))))))))))
 obtain ⟨fT,cz⟩:=a6.rowSome (j:=1) rfl (by rw [wAC (f:=KL.encT) (sz:=1) (fun _=>rfl) p0.out];have hz:=wAY bH;omega)
 refine oR Z (ZR Z Z cz Z yJ yp (wAY bH)) ?_
 have eK:=wBb (xs:=p0.out) (wAY bH)
 refine ZE rfl rfl rfl rfl (a6.ldR (j:=1) rfl cz rfl rfl Tryz.isAgg4 (wAa (sz:=1) (fun _=>rfl) _ _ 0 _ eK (by first | omega | rfl | simp) rfl)) rfl (ze rfl rfl rfl rfl (fun _=>ZW rfl rfl) (zm rfl rfl rfl rfl rfl rfl (ifc eY ?_ ?_)))
 intro ah eZ
 refine ZA Z Z Z (zU Z Z (nC ah.out) Z) (ZA Z Z Z (zU Z Z (nC ah.out) Z) (ZA Z Z Z (zU Z Z (nC ah.out) Z) (ZA Z Z Z (zU Z Z (nC ah.out) Z) (ZI Z Z Z (zU Z Z (nC ah.out) Z) (ZA Z Z Z (zU Z Z (nC ah.out) Z) (oR Z (zc Z (nC ah.out) Z) (eN (zy Z (Zi (zx (zI (rR fL2 Z (oR Z (ZG (za Z bc Z) (congrArg (jV) bM.out)) (oM Z Z (zg ?_)))))))))))))))
 cases eZ
 exact zI ⟨Z,⟨cO,a8,ba,Z,bh,bt,bF,bu,bv,bo,a6⟩⟩
 intro ah fb
 refine zm Z Z Z (zQ Z Z (nF (ah.out))) Z bh (zm Z Z Z (zQ Z Z (nF (ah.out))) Z Z (zm Z Z Z (zQ Z Z (nF (ah.out))) Z Z (zm Z Z Z (zQ Z Z (nF (ah.out))) Z bt ?_)))
 have q:=a6.freezeT (k:=0) (n:=aq.length) rfl (wAC (f:=KL.encI) (sz:=1) (fun _=>rfl) aq) (by decide)
 obtain ⟨cP,cG,fB,dR,fK⟩:=q
 let B6:Res:=.row a8 ba 3 1 (hD KL.encI bn)
 have dS:SW w [B0,B2,B1] U cP [B1,.blk ac 158 B4,B6] br:=dR
 have q:=dS.freezeT (k:=0) (n:=p0.out.length) rfl (wAC (f:=KL.encT) (sz:=1) (fun _=>rfl) p0.out) (by decide)
 obtain ⟨cQ,bS,fC,dT,fL⟩:=q
 have dU:SW w [B0,B2,B1] U cQ [.blk ac 158 B4,B6] br:=dT
 have q:=dU.freezeTB (k:=0) rfl
 obtain ⟨bC,bz,bm,dV,fM⟩:=q
 replace bm:=Cl.of bm
 have dW:SW w [B0,B2,B1] U bC [B6] br:=dV
 replace bm:Cl bC ac 0 B4:=bm
 have dr:=cE.le bA
 have dt:=dr.le bo
 have du:=dt.le cG
 have dv:=du.le bS
 have dw:=dv.le bz
 have dx:=bL.le bA
 have dy:=dx.le bo
 have dz:=dy.le cG
 have dA:=dz.le bS
 have dB:=dA.le bz
 have dC:=fB.le bS
 have dD:=dC.le bz
 have dE:=fC.le bz
 refine bnK fb fun ge dF fc=>zH 0 rfl rfl rfl (zQ rfl rfl (nF (ah.out))) (zG rfl rfl Tryz.call84 (zB rfl (zB rfl (zB rfl (zB rfl zO)))) rfl) dW (fun hs=>wEM (⟨p0.Race,aq,p0.out⟩:wAN) ac az aU au av ae af ao ap (↑ax:Int) (gd aq ax) p1 br bC hs bm dw dB dD dE dF) (.inr rfl) ?_
 rintro cR fO ga bs fG dX ⟨rfl,rfl⟩
 have dY:SW w [B0,B2,B1] U cR [B6] bs:=dX
 have q:=fM _ _ _ fG dY
 obtain ⟨cS,fH,dZ⟩:=q
 have d5:SW w [B0,B2,B1] U cS [.blk ac 158 B4,B6] bs:=dZ
 have q:=fL _ _ _ fH d5
 obtain ⟨cU,fI,d7⟩:=q
 have d9:SW w [B0,B2,B1] U cU [B1,.blk ac 158 B4,B6] bs:=d7
 have q:=fK _ _ _ fI d9
 obtain ⟨bg,cH,ef⟩:=q
 have cB:SW w [B0,B2,B1] U bg [B5,B1,.blk ac 158 B4,B6] bs:=ef
 refine ze Z Z Z (zQ Z Z (nF (ah.out))) (fun _=>Runs.geq Z Z Z) (oR Z (zT Z (nF (ah.out)) Z) (eN (ifc fc ?_ ?_)))
 intro bD fd
 refine cT Z bD (rR (.fl 0 (.fl 1 (.fx 2 (.fx 3 (.fl 4 .nil) .stop) .stop))) Z (oM Z bF (oM Z Z (zo (pv:=[(0,jV (↑ax:Int))]) (zs:=[jV 0]) (cs:=[jV (↑ax:Int)]) Z Z Z Z Z (wAD Z wAM) zC zD zt Z Z Z Z Z cB ?_))))
 intro cW cY eh
 let B7:Res:=.row (some ⟨cY,0,none⟩) 1 3 1 (hD KL.encI [(↑ax:Int)])
 have cC:SW w [B0,B2,B1] U bg [B7,B5,B1,.blk ac 158 B4,B6] cW:=eh
 refine bnK fd fun cL dG ff=>yK (j:=4) (enc:=KL.encI) (xs:=bn) (ys:=[(↑ax:Int)]) (zs:=cL) rfl rfl rfl rfl rfl yb wFm rfl rfl rfl rfl rfl rfl cC rfl rfl rfl (cC.srcR (j:=0) rfl (by decide) (wAC (f:=KL.encI) (sz:=1) (fun _=>rfl) [(↑ax:Int)])) (fun _=>rfl) (fun _=>rfl) dG rfl ?_
 intro bV cj cX ep
 have eu:SW w [B0,B2,B1] U bg [B7,B5,B1,.blk ac 158 B4,.row bV cj 3 1 (hD KL.encI cL)] cX:=ep
 refine oA Z Z (zg (zx (zI (rR fL2 Z (oR Z (ZG (za Z bc Z) (congrArg (jV) bM.out)) (oM Z Z (zg ?_)))))))
 cases ff
 exact zI ⟨rfl,⟨bg,bV,cj,rfl,bh,bt,rfl,bu,bv,(bo.trans cH),(eu.pick [1,2,3,4] _ (by decide) rfl)⟩⟩
 intro bD fg
 refine cF Z bD (Zi (zx (zI (rR fL2 Z (oR Z (ZG (za Z bc Z) (congrArg (jV) bM.out)) (oM Z Z (zg ?_)))))))
 cases fg
 exact zI ⟨Z,⟨bg,a8,ba,Z,bh,bt,bF,bu,bv,(bo.trans cH),cB⟩⟩
 rintro gm fQ ⟨cV,cN,c8,dp,fZ,f5,dd,f7,de,cI,ew⟩
 have da:Hid (¬ ((↑(((↑aq.length:Int):Int) - 0).toNat:Int) < (↑aq.length:Int))):=zM (wAf)
 refine sR fL1 Z (oR Z (zY Z dp de) (eN (zL (cF Z da (Zd (zn (zn (ZV (zI (sR fL2 Z (oM Z dd (oA Z Z (eN (zR ?_))))))))))))))
 have dH:=cE.le bA
 have dI:=dH.le cI
 have dJ:=bL.le bA
 have dK:=dJ.le cI
 cases eW
 exact ⟨rfl,_,(ZH rfl),cV,_,(ew.pick [3,0,1,2] _ (by decide) rfl),cN,c8,az,aU,au,av,ae,af,ao,ap,rfl,rfl,dI,dK⟩
end Go.Proofs.YtkghaiefcjgfkaaGreat
namespace Go.Proofs.YtkghaiefcjgfkaaGreat
open Go.KL
set_option maxHeartbeats 4000000
theorem wDG (p0:List wAO) (ab:Option Addr) (ac:Nat) (p1:((wAO × wAO)->Option Int)) (ae:Value) (w:World) (U:PHeap) (hS:St ⟨w,[.row ab ac 75 4 (hD wAc p0)],U⟩ U [.row ab ac 75 4 (hD wAc p0)] w) (ag:FnOK Tryz.prog U ae wNp wNq p1) (ah:∃ g cb,ae=.func (.func g) #[] cb) {r:List wAO} (hm:wAs p0 p1=some r):Gv Tryz.prog 85 [.slice ab p0.length ac,ae] w (wBa w [.row ab ac 75 4 (hD wAc p0)] U (fun U_ L_ v=>v=.tuple #[]/\L_=[.row ab ac 75 4 (hD wAc r)]/\r.length=p0.length)) :=
 wKw (sz:=4) (fun _=>rfl) (fun x v h=>List.all_eq_true.1 (show (wAc x).all (·.oneCell')=true from rfl) v h) (fun _ _ _=>rfl) (fun _ _ _ _ h=>h.1) (fun enc a1 a2 cf b g cb k1 k2 k3 d w h1 h2 h3 h4 h5 h6=>Go.Proofs.Tryz.slices_SortFunc_total 4 Tryz.isAgg75 Tryz.sizeOf75 enc a1 a2 cf b g cb k1 k2 k3 d w h1 h2 h3 h4 h5 h6) (fun p c v w=>Go.Proofs.Tryz.slices_SortFunc_none (α:=Int) p c v w) hS ag (by decide) ah hm
theorem wFV (p0:Int) (w:World) (U:PHeap) (hS:St0 w U [])  {r:Bool} (hm:wCy p0=some r):Gv Tryz.prog 56 [jV p0] w (wBa w [] U (fun U_ L_ v=>v=.bool r/\L_=[])):=by
 unfold wCy at hm
 refine Gv.of Tryz.func56 Z Tryz.ntmps56 Tryz.results56 Z (sR fL1 Z (oA Z Z (eN (sR fL4 Z (oM Z Z (oM Z Z (oR Z (Zk Z Z Z) (oA Z Z (eN (zR ?_))))))))))
 first | (obtain rfl:=hJ hm) | cases hm
 exact ⟨Z,_,(ZH Z),U,_,hS,Z,Z⟩
theorem wEq (p0:Int) (p1:Int) (w:World) (U:PHeap) (hS:St0 w U [])  {r:Int} (hm:wCG p0 p1=some r):Gv Tryz.prog 27 [jV p0,jV p1] w (wBa w [] U (fun U_ L_ v=>v=jV r/\L_=[])):=by
 unfold wCG at hm
 refine Gv.of Tryz.func27 Z Tryz.ntmps27 Tryz.results27 Z (sR fL1 Z (oA Z Z (eN (sR gFi Z (oM Z Z (bnK hm fun x1 h2 aY=>zH 0 Z Z Z Z (zG Z Z Tryz.call56 (zB Z zO) Z) hS (fun hs=>wFV p0 w U hs h2) (.inr Z) ?_))))))
 rintro U4 L5 v6 W7 bd av ⟨rfl,rfl⟩
 have aq:sW w U U4 [] W7:=av
 refine oA Z Z (eN (sR gFi Z (oM Z Z (bnK aY fun bh ao ax=>zH 0 Z Z Z Z (zG Z Z Tryz.call56 (zB Z zO) Z) aq (fun hs=>wFV p1 W7 U4 hs ao) (.inr Z) ?_))))
 rintro aa ba be an bc au ⟨rfl,rfl⟩
 have ab:sW w U aa [] an:=au
 refine oA Z Z (eN (zL (sR fL1 Z (oM Z Z (eN (ifc ax ?_ ?_))))))
 intro ac ay
 refine ZJ (congrArg nA ac.out) (zL (sR fL1 Z (oM Z Z (eN (ifc ay ?_ ?_)))))
 intro ae az
 refine ZJ (congrArg nA ae.out) (sR fL1 Z (oA Z Z (eN (zR (zS (zS ?_))))))
 cases az
 exact ⟨Z,_,(ZH Z),aa,_,ab,Z,Z⟩
 intro ae aU
 refine zy (congrArg nA (nB.2 ae.out)) (kN (sR fL1 Z (oA Z Z (eN (zR (zS ?_))))))
 cases aU
 exact ⟨Z,_,(ZH Z),aa,_,ab,Z,Z⟩
 intro ac aV
 refine zy (congrArg nA (nB.2 ac.out)) (kN (zL (sR fL1 Z (oM Z Z (eN (ifc aV ?_ ?_))))))
 intro af aW
 refine ZJ (congrArg nA af.out) (sR fL1 Z (oA Z Z (eN (zR (zS ?_)))))
 cases aW
 exact ⟨Z,_,(ZH Z),aa,_,ab,Z,Z⟩
 intro af aX
 refine zy (congrArg nA (nB.2 af.out)) (kN (zL (sR fL3 Z (oM Z Z (oM Z Z (oR Z (zY Z Z Z) (eN (ifc aX ?_ ?_))))))))
 intro ag aZ
 refine cT Z ag (sR fL1 Z (oA Z Z (eN (zR (zS ?_)))))
 cases aZ
 exact ⟨Z,_,(ZH Z),aa,_,ab,Z,Z⟩
 intro ag a6
 refine cF Z ag (kN (zL (sR fL3 Z (oM Z Z (oM Z Z (oR Z (yt Z Z Z) (eN (ifc a6 ?_ ?_))))))))
 intro ah a7
 refine cT Z ah (sR fL1 Z (oA Z Z (eN (zR (zS ?_)))))
 cases a7
 exact ⟨Z,_,(ZH Z),aa,_,ab,Z,Z⟩
 intro ah a8
 refine cF Z ah (kN (sR fL1 Z (oA Z Z (eN (zR ?_)))))
 cases a8
 exact ⟨Z,_,(ZH Z),aa,_,ab,Z,Z⟩
theorem wIf (p0:List Int) (aj:Option Addr) (ak:Nat) (w:World) (U:PHeap) (hS:St0 w U []) (ba:Sl U 1 aj ak p0.length (hD KL.encI p0)) {r:Int} (hm:wDt p0=some r):Gv Tryz.prog 26 [.slice aj p0.length ak] w (wBa w [] U (fun U_ L_ v=>v=jV r/\L_=[])):=by
 unfold wDt at hm
 refine Gv.of Tryz.func26 Z Tryz.ntmps26 Tryz.results26 Z (sR fL1 Z (oA Z Z (eN (sR fL1 Z (oA Z Z (eN (zL (sR fL3 Z (oM Z Z (oR Z (zr Z Z zC) (oM Z Z (eN (zb ?_)))))))))))))
 have q:=wBQ hm
 obtain ⟨r3,ag⟩:=q
 have q:=wBP ag
 obtain ⟨ai,bd⟩:=q
 replace ai:=zM ai
 refine yG (fun k2 _ σ_ w_=>∃ (U_:PHeap),σ_ 8=jV (↑k2:Int)/\σ_ 3=jV 0/\σ_ 6=.slice aj p0.length ak/\σ_ 7=jV (↑p0.length:Int)/\PHeap.Le U U_/\sW w U U_ [] w_) bd ?_ ?_ ?_
 exact ⟨U,Z,Z,Z,Z,(zN _),hS⟩
 rintro k2 ⟨⟩ bt bv W8 ah ⟨am,ae,ao,ap,aq,ay,af⟩ ax bb
 try dsimp only at ax
 have an:Hid ((↑k2:Int) < (↑p0.length:Int)):=zM (wAr ah)
 replace ah:=zM ah
 have be:Hid (w64 ((↑k2:Int) + 1)=(↑(k2 + 1):Int)):=zM (by have h1:=ai.out;have h2:=an.out;rw [wAW] <;> omega)
 refine sR fL1 Z (oR Z (zY Z ae aq) (eN (zL (cT Z an (kN (zL (zb (sR fL3 Z (bnK ax fun bk au bf=>?_)))))))))
 have aZ:=ba.le ay
 have q:=aZ.el (fun _=>rfl) (wAX au)
 obtain ⟨bo,br,a6,a7⟩:=q
 refine oR Z (ZR Z ap a6 ae zC zD (wBA au)) (oL Z (af.ldC (f:=0) a7 (v:=jV bk) Z Z zF Z) (oA Z Z (eN (sR fL3 Z (oM Z Z (oM Z ao (oR Z (Zk Z Z Z) (eN (ifc bf ?_ ?_)))))))))
 intro ac bg
 refine zy (ZM (fun h=>h ac.out)) (Zi (zx (zI (rR fL2 Z (oR Z (ZG (za Z ae Z) (congrArg (jV) be.out)) (oM Z Z (zg ?_)))))))
 have q:=hJ bg
 obtain rfl:=q
 exact zI ⟨Z,_,Z,⟨am,Z,ao,ap,aq,ay,af⟩⟩
 intro ac bh
 refine cT Z ac (sR fL2 Z (oM Z Z (oA Z Z (eN (zR (zd (zS ?_)))))))
 have q:=wAZ bh
 obtain ⟨bj,bi,aV⟩:=q
 have q:=wBB hm ag (bb bj aV)
 obtain rfl:=q
 refine zS (zd (zS ?_))
 have hE:=hJ bi;first | subst r | cases hE
 exact ⟨Z,_,(ZH Z),am,_,af,Z,Z⟩
 rintro ⟨⟩ bu bm ⟨az,aY,aW,bp,aX,bq,a8⟩ bc
 have av:=wCE hm ag bc
 try dsimp only at av
 have aU:Hid (¬ ((↑(((↑p0.length:Int):Int) - 0).toNat:Int) < (↑p0.length:Int))):=zM (wAf)
 refine sR fL1 Z (oR Z (zY Z aY aX) (eN (zL (cF Z aU (Zd (zn (zn (ZV (zI (sR fL2 Z (oM Z aW (oA Z Z (eN (zR ?_))))))))))))))
 cases av
 exact ⟨Z,_,(ZH Z),az,_,a8,Z,Z⟩
theorem wIE (p0:wAO) (p1:wAO) (w:World) (U:PHeap) (hS:St0 w U [])  {r:Int} (hm:wBD p0 p1=some r):Gv Tryz.prog 86 [.agg #[jV p0.Bib,jV p0.Done,jV p0.Time,jV p0.By],.agg #[jV p1.Bib,jV p1.Done,jV p1.Time,jV p1.By]] w (wBa w [] U (fun U_ L_ v=>v=jV r/\L_=[])):=by
 unfold wBD at hm
 refine Gv.of Tryz.func86 Z Tryz.ntmps86 Tryz.results86 Z (sR (.fx 0 gFa .stop) Z ?_)
 let B0:List Value:=[jV p0.Bib,jV p0.Done,jV p0.Time,jV p0.By]
 refine ZC (cs:=B0) rfl rfl rfl rfl rfl rfl (by rfl) hS ?_
 intro W1 b2 a6
 let B1:List Value:=[jV p1.Bib,jV p1.Done,jV p1.Time,jV p1.By]
 refine ZC (cs:=B1) rfl rfl rfl rfl rfl rfl (by rfl) a6 ?_
 intro W5 b6 bf
 refine yB rfl rfl rfl rfl rfl rfl (eN (zL (ZF ZB [3,1,3,1,2,3,1,3,1,2,2,2,3] (wET (wHE (.fx 4 (.fx 9 (.fx 10 (.fx 11 (.fl 12 .nil) .stop) .stop) .stop) .stop))) (by kernel_rfl) ?_)))
 have af:=bf.drew
 generalize hw_W10:({ W5 with drawn:=W5.drawn + 1 }:World)=ax at af ⊢
 refine oR Z (zJ Z Z ym Z zD) (oL Z (af.ldB (j:=1) Z Z Z zF (v:=jV p0.Time) Z) (oR Z (zJ Z Z ym Z zD) (oL Z (af.ldB (j:=0) Z Z Z zF (v:=jV p1.Time) Z) (oR Z (zJ Z Z ym Z zD) (oL Z (af.ldB (j:=1) Z Z Z zF (v:=jV p0.Bib) Z) (oR Z (zJ Z Z ym Z zD) (oL Z (af.ldB (j:=0) Z Z Z zF (v:=jV p1.Bib) Z) (bnK hm fun ag aU bg=>zH 0 Z Z Z Z (zG Z Z Tryz.call27 (zB Z (zB Z zO)) Z) af (fun hs=>wEq p0.Time p1.Time ax U hs aU) (.inr Z) ?_))))))))
 rintro am bk bt aq bp aX ⟨rfl,rfl⟩
 have aY:sW w U am [.blk b6 75 B1,.blk b2 75 B0] aq:=aX
 refine bnK bg fun ah aV bh=>zH 0 Z Z Z Z (zG Z Z Tryz.call27 (zB Z (zB Z zO)) Z) aY (fun hs=>wEq p0.Bib p1.Bib aq am hs aV) (.inr Z) ?_
 rintro an bm bu ay bq aZ ⟨rfl,rfl⟩
 have a7:sW w U an [.blk b6 75 B1,.blk b2 75 B0] ay:=aZ
 refine zo (pv:=[(0,jV ag),(1,jV ah)]) (zs:=[jV 0,jV 0]) (cs:=[jV ag,jV ah]) Z Z Z Z Z (wAD Z (wAD Z wAM)) zC zD zt Z Z Z Z Z a7 ?_
 intro ak av a8
 have ba:sW w U an [.row (some ⟨av,0,none⟩) 2 3 1 (hD KL.encI [ag,ah]),.blk b6 75 B1,.blk b2 75 B0] ak:=a8
 have q:=ba.freezeR (k:=0) (n:=[ag,ah].length) rfl (wAC (f:=KL.encI) (sz:=1) (fun _=>rfl) [ag,ah]) (by decide)
 obtain ⟨ao,br,bj,bb⟩:=q
 have bc:sW w U ao [.blk b6 75 B1,.blk b2 75 B0] ak:=bb
 refine bnK bh fun bw aW bi=>zH 0 Z Z Z Z (zG Z Z Tryz.call26 (zB Z zO) Z) bc (fun hs=>wIf [ag,ah] (some ⟨av,0,none⟩) 2 ak ao hs bj aW) (.inr Z) ?_
 rintro ap bn bv az bs bd ⟨rfl,rfl⟩
 have be:sW w U ap [.blk b6 75 B1,.blk b2 75 B0] az:=bd
 refine oA Z Z (eN (zR ?_))
 have hE:=hJ bi;first | subst r | cases hE
 exact ⟨rfl,_,(ZH rfl),ap,_,(be.pick [] _ (by decide) rfl),rfl,rfl⟩
theorem wJI (p0:wAT) (ah:Option Addr) (ai:Nat) (ap:Option Addr) (aq:Nat) (w:World) (U:PHeap) (hS:St0 w U []) (m8:Sl U 1 ah ai p0.Bibs.length (hD KL.encI p0.Bibs)) (m9:SlR U wEX ap aq p0.Times) {r:wAN × (List wAO)} (hm:wDi p0=some r):Gv Tryz.prog 52 [.agg #[jV p0.Laps,.slice ah p0.Bibs.length ai,.slice ap p0.Times.length aq]] w (wBa w [] U (fun U_ L_ v=>∃ (b0:Nat) (A0p01:Option Addr) (c0p01:Nat) (A0p02:Option Addr) (c0p02:Nat) (A0p1:Option Addr) (c0p1:Nat) (A0p2:Option Addr) (c0p2:Nat) (A1:Option Addr) (c1:Nat),v=.tuple #[.pointer (some ⟨b0,0,none⟩),.slice A1 r.2.length c1]/\L_=[.blk b0 158 [jV r.1.Race.Laps,.slice A0p01 r.1.Race.Bibs.length c0p01,.slice A0p02 r.1.Race.Times.length c0p02,.slice A0p1 r.1.done.length c0p1,.slice A0p2 r.1.out.length c0p2],.row A0p1 c0p1 3 1 (hD KL.encI r.1.done),.row A0p2 c0p2 4 1 (hD KL.encT r.1.out),.row A1 c1 75 4 (hD wAc r.2)]/\Sl U_ 1 A0p01 c0p01 r.1.Race.Bibs.length (hD KL.encI r.1.Race.Bibs)/\SlR U_ wEX A0p02 c0p02 r.1.Race.Times)):=by
 unfold wDi at hm
 refine Go.KX.Gv.ofM Tryz.func52 Z Tryz.ntmps52 Tryz.results52 (zA Z) (sR gFj Z ?_)
 let B0:List Value:=[jV p0.Laps,.slice ah p0.Bibs.length ai,.slice ap p0.Times.length aq]
 refine ZC (cs:=B0) rfl rfl rfl rfl rfl rfl (by rfl) hS ?_
 intro W1 b2 mF
 refine oA Z Z (oA Z Z (eN ?_))
 have q:=bnd hm
 obtain ⟨⟨l9,cK⟩,oO,gB⟩:=q
 try dsimp only at gB
 refine yW (fun σ_ w_=>∃ (U_:PHeap) (b6:Nat) (b8:Nat) (bu:Option Addr) (bP:Nat) (bB:Option Addr) (bS:Nat),σ_ 1=.pointer (some ⟨b2,0,none⟩)/\σ_ 4=.pointer (some ⟨b6,0,none⟩)/\PHeap.Le U U_/\sW w U U_ [.blk b2 69 B0,.blk b6 128 [.pointer (some ⟨b8,0,none⟩)],.blk b8 158 [jV p0.Laps,.slice ah p0.Bibs.length ai,.slice ap p0.Times.length aq,.slice bu l9.length bP,.slice bB cK.length bS],.row bu bP 3 1 (hD KL.encI l9),.row bB bS 4 1 (hD KL.encT cK)] w_) ?_ ?_
 refine bnK oO fun ae df oD=>bnK oD fun af dg oE=>ZF ZB [1,3,1,3,2,3,1,3,2,3,2,2,0] (wET (wLX (.fx 4 (.fx 8 gFr (.fx 11 gFp .stop)) (.fx 8 (.fx 4 gFr (.fx 11 gFq .stop)) (.fx 11 (.fx 4 gFp (.fx 8 gFq .stop)) .stop))))) (by kernel_rfl) ?_
 have bs:=mF.drew
 generalize hw_W48:({ W1 with drawn:=W1.drawn + 1 }:World)=pU at bs ⊢
 refine ZS (s:=.nil) (M:=fun σ_ w_=>∃ (U_:PHeap) (cZ:Nat) (cz:Nat) (bC:Option Addr) (bU:Nat) (bD:Option Addr) (bV:Nat),σ_ 1=.pointer (some ⟨b2,0,none⟩)/\σ_ 4=.pointer (some ⟨cZ,0,none⟩)/\σ_ 12=.agg B0.toArray/\σ_ 13=.pointer (some ⟨b2,1,none⟩)/\σ_ 14=.slice ah p0.Bibs.length ai/\σ_ 15=jV (↑p0.Bibs.length:Int)/\σ_ 16=.slice bC ae.length bU/\σ_ 17=.pointer (some ⟨b2,1,none⟩)/\σ_ 18=.slice ah p0.Bibs.length ai/\σ_ 19=jV (↑p0.Bibs.length:Int)/\σ_ 20=.slice bD af.length bV/\σ_ 21=.agg #[jV p0.Laps,.slice ah p0.Bibs.length ai,.slice ap p0.Times.length aq,.slice bC ae.length bU,.slice bD af.length bV]/\σ_ 22=.pointer (some ⟨cz,0,none⟩)/\PHeap.Le U U_/\sW w U U_ [.blk b2 69 B0,.blk cZ 128 [.pointer (some ⟨cz,0,none⟩)],.blk cz 158 [jV p0.Laps,.slice ah p0.Bibs.length ai,.slice ap p0.Times.length aq,.slice bC ae.length bU,.slice bD af.length bV],.row bC bU 3 1 (hD KL.encI ae),.row bD bV 4 1 (hD KL.encT af)] w_) ?_ fun oP=>?_
 rintro qL pF ⟨g6,cZ,cz,bC,bU,bD,bV,iU,iV,qc,qd,qe,qf,qh,qi,qj,qk,qm,qn,qo,oY,mx⟩
 refine zg ?_
 cases oE
 exact zI ⟨Z,⟨g6,cZ,cz,bC,bU,bD,bV,iU,iV,oY,mx⟩⟩
 refine ZS (s:=.fx 12 .nil .stop) (M:=fun σ_ w_=>∃ (U_:PHeap) (cA:Nat) (bc:Option Addr) (bj:Nat) (bd:Option Addr) (bk:Nat) (bK:Nat),σ_ 1=.pointer (some ⟨b2,0,none⟩)/\σ_ 4=.pointer (some ⟨cA,0,none⟩)/\σ_ 12=.agg B0.toArray/\σ_ 13=.pointer (some ⟨b2,1,none⟩)/\σ_ 14=.slice ah p0.Bibs.length ai/\σ_ 15=jV (↑p0.Bibs.length:Int)/\σ_ 16=.slice bc ae.length bj/\σ_ 17=.pointer (some ⟨b2,1,none⟩)/\σ_ 18=.slice ah p0.Bibs.length ai/\σ_ 19=jV (↑p0.Bibs.length:Int)/\σ_ 20=.slice bd af.length bk/\σ_ 21=.agg #[jV p0.Laps,.slice ah p0.Bibs.length ai,.slice ap p0.Times.length aq,.slice bc ae.length bj,.slice bd af.length bk]/\σ_ 22=.pointer (some ⟨bK,0,none⟩)/\PHeap.Le U U_/\sW w U U_ [.blk b2 69 B0,.blk cA 128 [.pointer none],.row bc bj 3 1 (hD KL.encI ae),.row bd bk 4 1 (hD KL.encT af),.blk bK 158 [jV p0.Laps,.slice ah p0.Bibs.length ai,.slice ap p0.Times.length aq,.slice bc ae.length bj,.slice bd af.length bk]] w_) ?_ fun eB=>?_
 rintro qM pG ⟨fb,cA,bc,bj,bd,bk,bK,iW,fO,iX,iY,iZ,i2,i4,i5,i6,i7,i8,i9,fP,oZ,my⟩
 let B1:List Value:=[.pointer (some ⟨bK,0,none⟩)]
 refine zX (j:=1) (vs:=B1) Z Z Z Z my Z fO fP Z Tryz.sizeOf128 (zA Z) Z Z Z ?_
 intro il mz
 have mA:sW w U fb [.blk b2 69 B0,.blk cA 128 B1,.row bc bj 3 1 (hD KL.encI ae),.row bd bk 4 1 (hD KL.encT af),.blk bK 158 [jV p0.Laps,.slice ah p0.Bibs.length ai,.slice ap p0.Times.length aq,.slice bc ae.length bj,.slice bd af.length bk]] il:=mz
 exact oP _ _ ⟨fb,cA,bK,bc,bj,bd,bk,iW,fO,iX,iY,iZ,i2,i4,i5,i6,i7,i8,i9,fP,oZ,(mA.pick [0,1,4,2,3] _ (by decide) rfl)⟩
 refine ZS (s:=gFd) (M:=fun σ_ w_=>∃ (U_:PHeap) (c6:Nat) (bE:Option Addr) (bW:Nat) (bF:Option Addr) (bX:Nat),σ_ 1=.pointer (some ⟨b2,0,none⟩)/\σ_ 4=.pointer (some ⟨c6,0,none⟩)/\σ_ 12=.agg B0.toArray/\σ_ 13=.pointer (some ⟨b2,1,none⟩)/\σ_ 14=.slice ah p0.Bibs.length ai/\σ_ 15=jV (↑p0.Bibs.length:Int)/\σ_ 16=.slice bE ae.length bW/\σ_ 17=.pointer (some ⟨b2,1,none⟩)/\σ_ 18=.slice ah p0.Bibs.length ai/\σ_ 19=jV (↑p0.Bibs.length:Int)/\σ_ 20=.slice bF af.length bX/\σ_ 21=.agg #[jV p0.Laps,.slice ah p0.Bibs.length ai,.slice ap p0.Times.length aq,.slice bE ae.length bW,.slice bF af.length bX]/\PHeap.Le U U_/\sW w U U_ [.blk b2 69 B0,.blk c6 128 [.pointer none],.row bE bW 3 1 (hD KL.encI ae),.row bF bX 4 1 (hD KL.encT af)] w_) ?_ fun oQ=>?_
 rintro qN pH ⟨g7,c6,bE,bW,bF,bX,ja,jb,jc,jd,je,jf,jg,jh,ji,jj,jk,fQ,o0,mB⟩
 refine ZC (cs:=[jV p0.Laps,.slice ah p0.Bibs.length ai,.slice ap p0.Times.length aq,.slice bE ae.length bW,.slice bF af.length bX]) rfl rfl rfl rfl rfl fQ (by rfl) mB ?_
 intro pI iA mC
 exact eB _ _ ⟨g7,c6,bE,bW,bF,bX,iA,ja,jb,jc,jd,je,jf,jg,jh,ji,jj,jk,fQ,rfl,o0,(mC.pick [1,2,3,4,0] _ (by decide) rfl)⟩
 refine ZS (s:=gFc) (M:=fun σ_ w_=>∃ (U_:PHeap) (bG:Option Addr) (bY:Nat) (bH:Option Addr) (bZ:Nat) (c8:Nat),σ_ 1=.pointer (some ⟨b2,0,none⟩)/\σ_ 12=.agg B0.toArray/\σ_ 13=.pointer (some ⟨b2,1,none⟩)/\σ_ 14=.slice ah p0.Bibs.length ai/\σ_ 15=jV (↑p0.Bibs.length:Int)/\σ_ 16=.slice bG ae.length bY/\σ_ 17=.pointer (some ⟨b2,1,none⟩)/\σ_ 18=.slice ah p0.Bibs.length ai/\σ_ 19=jV (↑p0.Bibs.length:Int)/\σ_ 20=.slice bH af.length bZ/\σ_ 21=.agg #[jV p0.Laps,.slice ah p0.Bibs.length ai,.slice ap p0.Times.length aq,.slice bG ae.length bY,.slice bH af.length bZ]/\σ_ 22=.pointer (some ⟨c8,0,none⟩)/\PHeap.Le U U_/\sW w U U_ [.blk b2 69 B0,.row bG bY 3 1 (hD KL.encI ae),.row bH bZ 4 1 (hD KL.encT af),.blk c8 158 [jV p0.Laps,.slice ah p0.Bibs.length ai,.slice ap p0.Times.length aq,.slice bG ae.length bY,.slice bH af.length bZ]] w_) ?_ fun oS=>?_
 rintro qO pJ ⟨g8,bG,bY,bH,bZ,c8,jl,jm,jo,jp,jq,jr,jt,ju,jv,jw,jx,jy,o3,mD⟩
 refine zW (cs:=[.pointer none]) Z Z Z Z Z Tryz.zeroValue128 Z mD ?_
 intro pK iB mE
 exact eB _ _ ⟨g8,iB,bG,bY,bH,bZ,c8,jl,rfl,jm,jo,jp,jq,jr,jt,ju,jv,jw,jx,jy,o3,(mE.pick [1,0,2,3,4] _ (by decide) rfl)⟩
 refine ZS (s:=.fl 9 gFd) (M:=fun σ_ w_=>∃ (U_:PHeap) (da:Nat) (bI:Option Addr) (ca:Nat) (bJ:Option Addr) (cc:Nat),σ_ 1=.pointer (some ⟨b2,0,none⟩)/\σ_ 4=.pointer (some ⟨da,0,none⟩)/\σ_ 12=.agg B0.toArray/\σ_ 13=.pointer (some ⟨b2,1,none⟩)/\σ_ 14=.slice ah p0.Bibs.length ai/\σ_ 15=jV (↑p0.Bibs.length:Int)/\σ_ 16=.slice bI ae.length ca/\σ_ 17=.pointer (some ⟨b2,1,none⟩)/\σ_ 18=.slice ah p0.Bibs.length ai/\σ_ 19=jV (↑p0.Bibs.length:Int)/\σ_ 20=.slice bJ af.length cc/\PHeap.Le U U_/\sW w U U_ [.blk b2 69 B0,.blk da 128 [.pointer none],.row bI ca 3 1 (hD KL.encI ae),.row bJ cc 4 1 (hD KL.encT af)] w_) ?_ fun gC=>?_
 rintro qP pL ⟨g9,da,bI,ca,bJ,cc,jz,jA,fR,jB,jC,jD,fS,jE,jF,jG,fT,o5,mG⟩
 let B2:List Value:=[jV p0.Laps,.slice ah p0.Bibs.length ai,.slice ap p0.Times.length aq,.slice bI ae.length ca,.slice bJ af.length cc]
 refine ze rfl rfl rfl rfl (fun _=>zu (pv:=[(0,.agg B0.toArray),(1,.slice bI ae.length ca),(2,.slice bJ af.length cc)]) (z:=[jV 0,.slice none 0 0,.slice none 0 0,.slice none 0 0,.slice none 0 0]) (cs:=B2) rfl (wAD fR (wAD fS (wAD fT wAM))) Tryz.zeroValue158 wIa rfl rfl) (ZC (cs:=B2) rfl rfl rfl rfl rfl rfl (by rfl) mG ?_)
 intro pM iC mH
 exact eB _ _ ⟨g9,da,bI,ca,bJ,cc,iC,jz,jA,fR,jB,jC,jD,fS,jE,jF,jG,fT,rfl,rfl,o5,(mH.pick [1,2,3,4,0] _ (by decide) rfl)⟩
 refine ZS (s:=gFq) (M:=fun σ_ w_=>∃ (U_:PHeap) (cB:Nat) (cq:Option Addr) (cG:Nat),σ_ 1=.pointer (some ⟨b2,0,none⟩)/\σ_ 4=.pointer (some ⟨cB,0,none⟩)/\σ_ 12=.agg B0.toArray/\σ_ 13=.pointer (some ⟨b2,1,none⟩)/\σ_ 14=.slice ah p0.Bibs.length ai/\σ_ 15=jV (↑p0.Bibs.length:Int)/\σ_ 17=.pointer (some ⟨b2,1,none⟩)/\σ_ 18=.slice ah p0.Bibs.length ai/\σ_ 19=jV (↑p0.Bibs.length:Int)/\σ_ 20=.slice cq af.length cG/\PHeap.Le U U_/\sW w U U_ [.blk b2 69 B0,.blk cB 128 [.pointer none],.row cq cG 4 1 (hD KL.encT af)] w_) ?_ fun gD=>?_
 rintro qQ pN ⟨fc,cB,cq,cG,jH,jI,jJ,jK,jL,dR,jM,jN,jO,jP,o6,mI⟩
 refine yw (enc:=KL.encI) (z:=(0:Int)) (v:=jV 0) Z Z Z Z Z (wBE zC) wFm Z Z Z Z dR dR df mI ?_
 intro im ft mJ
 have mK:sW w U fc [.row (some ⟨ft,0,none⟩) ae.length 3 1 (hD KL.encI ae),.blk b2 69 B0,.blk cB 128 [.pointer none],.row cq cG 4 1 (hD KL.encT af)] im:=mJ
 exact gC _ _ ⟨fc,cB,(some ⟨ft,0,none⟩),ae.length,cq,cG,jH,jI,jJ,jK,jL,dR,rfl,jM,jN,jO,jP,o6,(mK.pick [1,2,0,3] _ (by decide) rfl)⟩
 refine ZS (s:=gFp) (M:=fun σ_ w_=>∃ (U_:PHeap) (cC:Nat) (cr:Option Addr) (cH:Nat),σ_ 1=.pointer (some ⟨b2,0,none⟩)/\σ_ 4=.pointer (some ⟨cC,0,none⟩)/\σ_ 12=.agg B0.toArray/\σ_ 13=.pointer (some ⟨b2,1,none⟩)/\σ_ 14=.slice ah p0.Bibs.length ai/\σ_ 15=jV (↑p0.Bibs.length:Int)/\σ_ 16=.slice cr ae.length cH/\σ_ 17=.pointer (some ⟨b2,1,none⟩)/\σ_ 18=.slice ah p0.Bibs.length ai/\σ_ 19=jV (↑p0.Bibs.length:Int)/\PHeap.Le U U_/\sW w U U_ [.blk b2 69 B0,.blk cC 128 [.pointer none],.row cr cH 3 1 (hD KL.encI ae)] w_) ?_ fun gE=>?_
 rintro qR pO ⟨fd,cC,cr,cH,jQ,jR,jS,jT,jU,jW,jX,jY,jZ,dS,o7,mL⟩
 refine yw (enc:=KL.encT) (z:=false) (v:=.bool false) Z Z Z Z Z (wBE yJ) wLs Z Z Z Z dS dS dg mL ?_
 intro io fu mM
 have mN:sW w U fd [.row (some ⟨fu,0,none⟩) af.length 4 1 (hD KL.encT af),.blk b2 69 B0,.blk cC 128 [.pointer none],.row cr cH 3 1 (hD KL.encI ae)] io:=mM
 exact gC _ _ ⟨fd,cC,cr,cH,(some ⟨fu,0,none⟩),af.length,jQ,jR,jS,jT,jU,jW,jX,jY,jZ,dS,rfl,o7,(mN.pick [1,2,3,0] _ (by decide) rfl)⟩
 refine ZS (s:=gFr) (M:=fun σ_ w_=>∃ (U_:PHeap) (bn:Option Addr) (bp:Nat) (bo:Option Addr) (bq:Nat),σ_ 1=.pointer (some ⟨b2,0,none⟩)/\σ_ 12=.agg B0.toArray/\σ_ 13=.pointer (some ⟨b2,1,none⟩)/\σ_ 14=.slice ah p0.Bibs.length ai/\σ_ 15=jV (↑p0.Bibs.length:Int)/\σ_ 16=.slice bn ae.length bp/\σ_ 17=.pointer (some ⟨b2,1,none⟩)/\σ_ 18=.slice ah p0.Bibs.length ai/\σ_ 19=jV (↑p0.Bibs.length:Int)/\σ_ 20=.slice bo af.length bq/\PHeap.Le U U_/\sW w U U_ [.blk b2 69 B0,.row bn bp 3 1 (hD KL.encI ae),.row bo bq 4 1 (hD KL.encT af)] w_) ?_ fun gF=>?_
 rintro qS pP ⟨ff,bn,bp,bo,bq,fU,dT,fV,fW,fY,dU,fZ,f5,f7,dV,gL,gt⟩
 let B3:List Value:=[jV p0.Laps,.slice ah p0.Bibs.length ai,.slice ap p0.Times.length aq,.slice bn ae.length bp,.slice bo af.length bq]
 refine oR Z (zu (pv:=[(0,.agg B0.toArray),(1,.slice bn ae.length bp),(2,.slice bo af.length bq)]) (z:=[jV 0,.slice none 0 0,.slice none 0 0,.slice none 0 0,.slice none 0 0]) (cs:=B3) Z (wAD dT (wAD dU (wAD dV wAM))) Tryz.zeroValue158 wIa Z Z) (zw ?_ ?_)
 refine ZC (cs:=B3) rfl rfl rfl rfl rfl rfl (by rfl) gt ?_
 intro pQ iD mO
 exact oS _ _ ⟨ff,bn,bp,bo,bq,iD,fU,dT,fV,fW,fY,dU,fZ,f5,f7,dV,rfl,rfl,gL,(mO.pick [1,2,3,0] _ (by decide) rfl)⟩
 refine zW (cs:=[.pointer none]) Z Z Z Z Z Tryz.zeroValue128 Z gt ?_
 intro pR iE mP
 exact oQ _ _ ⟨ff,iE,bn,bp,bo,bq,fU,rfl,dT,fV,fW,fY,dU,fZ,f5,f7,dV,rfl,gL,(mP.pick [1,0,2,3] _ (by decide) rfl)⟩
 refine oL Z (bs.ldBA (j:=0) Z Z Z Tryz.isAgg69 yI (vs:=B0) Z Z) (oR Z (zJ Z Z Zj Z zZ) (oL Z (bs.ldB (j:=0) Z Z Z zj (v:=.slice ah p0.Bibs.length ai) Z) (oR Z (zr Z Z zC) (oR Z (zJ Z Z Zj Z zZ) (oL Z (bs.ldB (j:=0) Z Z Z zj (v:=.slice ah p0.Bibs.length ai) Z) (oR Z (zr Z Z zC) (zw ?_ ?_)))))))
 refine yw (enc:=KL.encI) (z:=(0:Int)) (v:=jV 0) Z Z Z Z Z (wBE zC) wFm Z Z Z Z Z Z df bs ?_
 intro ip dK mQ
 let B4:Res:=.row (some ⟨dK,0,none⟩) ae.length 3 1 (hD KL.encI ae)
 have gu:sW w U U [B4,.blk b2 69 B0] ip:=mQ
 refine zw ?_ ?_
 refine yw (enc:=KL.encT) (z:=false) (v:=.bool false) Z Z Z Z Z (wBE yJ) wLs Z Z Z Z Z Z dg gu ?_
 intro iq fw mR
 have mS:sW w U U [.row (some ⟨fw,0,none⟩) af.length 4 1 (hD KL.encT af),B4,.blk b2 69 B0] iq:=mR
 exact gF _ _ ⟨U,(some ⟨dK,0,none⟩),ae.length,(some ⟨fw,0,none⟩),af.length,rfl,rfl,rfl,rfl,rfl,rfl,rfl,rfl,rfl,rfl,(zN _),(mS.pick [2,1,0] _ (by decide) rfl)⟩
 refine zW (cs:=[.pointer none]) Z Z Z Z Z Tryz.zeroValue128 Z gu ?_
 intro pS iF mT
 exact gE _ _ ⟨U,iF,(some ⟨dK,0,none⟩),ae.length,rfl,rfl,rfl,rfl,rfl,rfl,rfl,rfl,rfl,rfl,(zN _),(mT.pick [2,0,1] _ (by decide) rfl)⟩
 refine zw ?_ ?_
 refine yw (enc:=KL.encT) (z:=false) (v:=.bool false) Z Z Z Z Z (wBE yJ) wLs Z Z Z Z Z Z dg bs ?_
 intro ir dL mU
 let B5:Res:=.row (some ⟨dL,0,none⟩) af.length 4 1 (hD KL.encT af)
 have gv:sW w U U [B5,.blk b2 69 B0] ir:=mU
 refine zw ?_ ?_
 refine yw (enc:=KL.encI) (z:=(0:Int)) (v:=jV 0) Z Z Z Z Z (wBE zC) wFm Z Z Z Z Z Z df gv ?_
 intro it fy mV
 have mW:sW w U U [.row (some ⟨fy,0,none⟩) ae.length 3 1 (hD KL.encI ae),B5,.blk b2 69 B0] it:=mV
 exact gF _ _ ⟨U,(some ⟨fy,0,none⟩),ae.length,(some ⟨dL,0,none⟩),af.length,rfl,rfl,rfl,rfl,rfl,rfl,rfl,rfl,rfl,rfl,(zN _),(mW.pick [2,0,1] _ (by decide) rfl)⟩
 refine zW (cs:=[.pointer none]) Z Z Z Z Z Tryz.zeroValue128 Z gv ?_
 intro pT iG mX
 exact gD _ _ ⟨U,iG,(some ⟨dL,0,none⟩),af.length,rfl,rfl,rfl,rfl,rfl,rfl,rfl,rfl,rfl,rfl,(zN _),(mX.pick [2,0,1] _ (by decide) rfl)⟩
 refine zW (cs:=[.pointer none]) Z Z Z Z Z Tryz.zeroValue128 Z bs ?_
 intro pV db gw
 refine zw ?_ ?_
 refine yw (enc:=KL.encI) (z:=(0:Int)) (v:=jV 0) Z Z Z Z Z (wBE zC) wFm Z Z Z Z Z Z df gw ?_
 intro iu fz mY
 have mZ:sW w U U [.row (some ⟨fz,0,none⟩) ae.length 3 1 (hD KL.encI ae),.blk db 128 [.pointer none],.blk b2 69 B0] iu:=mY
 exact gE _ _ ⟨U,db,(some ⟨fz,0,none⟩),ae.length,rfl,rfl,rfl,rfl,rfl,rfl,rfl,rfl,rfl,rfl,(zN _),(mZ.pick [2,1,0] _ (by decide) rfl)⟩
 refine yw (enc:=KL.encT) (z:=false) (v:=.bool false) Z Z Z Z Z (wBE yJ) wLs Z Z Z Z Z Z dg gw ?_
 intro iv fA m2
 have m3:sW w U U [.row (some ⟨fA,0,none⟩) af.length 4 1 (hD KL.encT af),.blk db 128 [.pointer none],.blk b2 69 B0] iv:=m2
 exact gD _ _ ⟨U,db,(some ⟨fA,0,none⟩),af.length,rfl,rfl,rfl,rfl,rfl,rfl,rfl,rfl,rfl,rfl,(zN _),(m3.pick [2,1,0] _ (by decide) rfl)⟩
 rintro qT pW ⟨ic,b6,b8,bu,bP,bB,bS,j4,j5,gM,m4⟩
 refine sR (.fx 0 .nil .stop) Z (zW (cs:=[.slice none 0 0]) Z Z Z Z Z Tryz.zeroValue70 Z m4 ?_)
 intro iw ay gx
 refine eN (zL (sR gEx Z (oL Z (gx.ldBA (j:=1) Z Z j4 Tryz.isAgg69 yI (vs:=B0) Z Z) ?_)))
 have gb:=m8.le gM
 have ge:=m9.le gM
 refine bnK gB fun pg lF oG=>zH 0 Z Z Z Z (zG Z Z Tryz.call82 (zB Z zO) Z) gx (fun hs=>wGH p0 ah ai ap aq iw ic hs gb ge lF) (.inr Z) ?_
 rintro fg pu qB iy gN m5 ⟨fB,gS,iJ,rfl,rfl,lG,lH⟩
 let B6:Res:=.blk b6 128 [.pointer (some ⟨b8,0,none⟩)]
 have m6:sW w U fg [.blk ay 70 [.slice none 0 0],.blk b2 69 B0,B6,.blk b8 158 [jV p0.Laps,.slice ah p0.Bibs.length ai,.slice ap p0.Times.length aq,.slice bu l9.length bP,.slice bB cK.length bS],.row bu bP 3 1 (hD KL.encI l9),.row bB bS 4 1 (hD KL.encT cK)] iy:=m5
 refine eN (zb (yf fun dv dm=>?_))
 have f8:dv 4=.pointer (some ⟨b6,0,none⟩):=(dm 4).trans j5
 have dW:dv 5=.pointer (some ⟨ay,0,none⟩):=(dm 5).trans rfl
 have j6:dv 24=.func (.func 132) #[] #[.pointer (some ⟨fB,0,none⟩)]:=(dm 24).trans rfl
 clear dm
 have lQ:=m6.nilrow 75 4
 have j9:=gb.le gN
 have k5:=ge.le gN
 refine bnK oG fun gO oj gz=>CK.rangeY (S:=(List wAO) × Int × (List Int) × (List (List Int)) × (List Int) × (List Bool)) (E:=Empty) (ar:=wJG) (PY:=(fun (s_:(List wAO) × Int × (List Int) × (List (List Int)) × (List Int) × (List Bool)) (U_:PHeap) (L_:List Res)=>match s_ with | (l1081,x1085,l1086,l1089,l1092,l1095)=>∃ (bv:Option Addr) (bL:Nat) (co:Option Addr) (cD:Nat) (cp:Option Addr) (cE:Nat) (bw:Option Addr) (bM:Nat) (bx:Option Addr) (bN:Nat),L_=[.row bv bL 75 4 (hD wAc l1081),.blk ay 70 [.slice bv l1081.length bL],.blk b2 69 B0,B6,.row bw bM 3 1 (hD KL.encI l1092),.row bx bN 4 1 (hD KL.encT l1095),.blk b8 158 [jV x1085,.slice co l1086.length cD,.slice cp l1089.length cE,.slice bw l1092.length bM,.slice bx l1095.length bN]]/\Sl U_ 1 co cD l1086.length (hD KL.encI l1086)/\SlR U_ wEX cp cE l1089)) (PE:=(fun (_:Empty) _ _=>False)) (exO:=Empty.elim) (s0:=([],p0.Laps,p0.Bibs,p0.Times,l9,cK)) (rr:=gO) j6 Tryz.call132 (lQ.pick [0,1,2,3,5,6,4] _ (by decide) rfl) (by decide) (fun _ _ _ h=>by obtain rfl:=h;rfl) (fun e=>nomatch e) ⟨none,0,ah,ai,ap,aq,bu,bP,bB,bS,rfl,j9,k5⟩ (fun l w1 L1 PY' PE' lP lN m7=>wEi PY' PE' _ l _ pg fB gS iJ w1 L1 fg lP lN m7 lG lH oj) ?_ ?_
 rintro ao qx qp ⟨l1081,x1085,l1086,l1089,l1092,l1095⟩ aZ qC qw dp pm pf o8 an qr lR lO n3 gy dr ci
 obtain ⟨bv,bL,co,cD,cp,cE,bw,bM,bx,bN,rfl,k6,k8⟩:=lO
 obtain rfl:=n3
 replace ci:∀ t,dr t=upd dv 25 (jV aZ) t:=ci
 have iL:dr 25=jV aZ:=(ci 25).trans (wEt _ _ _)
 have fI:dr 4=.pointer (some ⟨b6,0,none⟩):=(ci 4).trans ((wFK _ _ (by decide)).trans f8)
 have iM:dr 5=.pointer (some ⟨ay,0,none⟩):=(ci 5).trans ((wFK _ _ (by decide)).trans dW)
 clear ci
 let B7:Res:=.blk b8 158 [jV x1085,.slice co l1086.length cD,.slice cp l1089.length cE,.slice bw l1092.length bM,.slice bx l1095.length bN]
 let B8:Res:=.row bv bL 75 4 (hD wAc l1081)
 let B9:Res:=.blk ay 70 [.slice bv l1081.length bL]
 let dz:Res:=.row bw bM 3 1 (hD KL.encI l1092)
 let dA:Res:=.row bx bN 4 1 (hD KL.encT l1095)
 have lS:St an dp [.obj ao o8,B8,B9,.blk b2 69 B0,B6,dz,dA,B7] pf:=lR
 try dsimp only at gy
 refine rR fL1 Z (oA Z iL (zg ⟨Z,Z,_,_,lS,fun dJ au lT=>?_⟩))
 have gi:St an dp [.obj ao au,B8,B9,.blk b2 69 B0,B6,dz,dA,B7] dJ:=lT
 refine zb (sR gFo Z (oL Z (gi.ldB (j:=4) Z Z fI YE (v:=.pointer (some ⟨b8,0,none⟩)) Z) (oM Z Z ?_)))
 have q:=bnd gy
 obtain ⟨⟨am,ag⟩,k9,gA⟩:=q
 try dsimp only at gA
 have lU:St an dp [B7,dz,dA,.obj ao au,B8,B9,.blk b2 69 B0,B6] dJ:=gi.pick [7,5,6,0,1,2,3,4] _ (by decide) rfl
 refine zH 3 Z Z Z Z (zG Z Z Tryz.call83 (zB Z (zB Z zO)) Z) lU (fun hs=>wFU (⟨(⟨x1085,l1086,l1089⟩:wAT),l1092,l1095⟩:wAN) b8 co cD cp cE bw bM bx bN aZ dJ dp hs k6 k8 k9) (.inl Z) ?_
 rintro dF pn qy ie qs lV ⟨cM,dd,ba,bh,bz,bQ,a6,a8,aW,aY,rfl,rfl,f9,ga⟩
 let aU:List Value:=[jV ag.Race.Laps,.slice ba ag.Race.Bibs.length bh,.slice bz ag.Race.Times.length bQ,.slice a6 ag.done.length a8,.slice aW ag.out.length aY]
 let av:Res:=.row cM dd 3 1 (hD KL.encI am)
 let aX:Res:=.row a6 a8 3 1 (hD KL.encI ag.done)
 let be:Res:=.row aW aY 4 1 (hD KL.encT ag.out)
 have lW:St an dF [av,aX,be,.blk b8 158 aU,.obj ao au,B8,B9,.blk b2 69 B0,B6] ie:=lV
 refine oA Z Z (eN (zL (sR fL3 Z (oM Z Z (oR Z (zr Z Z zC) (oM Z Z (eN (zb (bnK gA fun gP n4 om=>?_)))))))))
 have q:=wBM n4
 obtain ⟨ew,n5⟩:=q
 replace ew:=zM ew
 refine CK.forN' (fun az bt σ_ w_=>∃ (U_:PHeap) (bA:Option Addr) (bR:Nat),σ_ 31=jV (↑az:Int)/\σ_ 4=.pointer (some ⟨b6,0,none⟩)/\σ_ 5=.pointer (some ⟨ay,0,none⟩)/\σ_ 6=jV aZ/\σ_ 7=.slice cM am.length dd/\σ_ 29=.slice cM am.length dd/\σ_ 30=jV (↑am.length:Int)/\PHeap.Le dF U_/\St an U_ [aX,be,.blk b8 158 aU,.obj ao au,.row bA bR 75 4 (hD wAc bt),.blk ay 70 [.slice bA bt.length bR],.blk b2 69 B0,B6,av] w_) n5 ?_ ?_ ?_
 exact ⟨dF,bv,bL,rfl,fI,iM,rfl,rfl,rfl,rfl,(zN _),(lW.pick [1,2,3,4,5,6,7,8,0] _ (by decide) rfl)⟩
 rintro az bt qE qH fj ep ⟨py,bA,bR,dX,cd,dP,dQ,iN,fJ,fK,eD,eh⟩ oJ
 have fD:Hid ((↑az:Int) < (↑am.length:Int)):=zM (wAr ep)
 replace ep:=zM ep
 have og:Hid (w64 ((↑az:Int) + 1)=(↑(az + 1):Int)):=zM (by have h1:=ew.out;have h2:=fD.out;rw [wAW] <;> omega)
 refine sR fL1 Z (oR Z (zY Z dX fK) (eN (zL (cT Z fD (kN (zL (zb (sR fL3 Z (bnK oJ fun _ dZ oq=>?_)))))))))
 obtain ⟨pX,gf⟩:=eh.rowSome (j:=8) rfl (by rw [wAC (f:=KL.encI) (sz:=1) (fun _=>rfl) am];have hz:=wAY dZ;omega)
 refine oR Z (ZR Z fJ gf dX zC zD (wAY dZ)) ?_
 have n9:=wBb (xs:=am) (wAY dZ)
 refine ZE rfl rfl rfl rfl (eh.ldR (j:=8) rfl gf rfl rfl zF (wAa (sz:=1) (fun _=>rfl) _ _ 0 _ n9 (by first | omega | rfl | simp) rfl)) rfl (yB rfl rfl rfl rfl rfl rfl (eN (ZF ZB [1,1,3,3,3,1,3,3,1,1,3,3,1,3,3,1,3,1,3,3,3,1,1,3,1,3,3,1,3,3,1,3,2,3,1,3,2,0,0] (wOW (.fx 32 (wNS (.fx 36 (.fx 37 (.fx 38 .nil .stop) .stop) .stop)) .stop)) (by kernel_rfl) ?_)))
 have ax:=eh.drew
 generalize hw_W1221:({ fj with drawn:=fj.drawn + 1 }:World)=cW at ax ⊢
 refine oL Z (ax.ldB (j:=5) Z Z dP Tryz.isAgg70 (v:=.slice bA bt.length bR) Z) (oL Z (ax.ldB (j:=7) Z Z cd YE (v:=.pointer (some ⟨b8,0,none⟩)) Z) (oR Z (ZT Z Z) (oR Z (zJ Z Z Zl Z yI) (oR Z (zJ Z Z Zj Z zZ) (oL Z (ax.ldB (j:=2) Z Z Z zj (v:=.slice ba ag.Race.Bibs.length bh) Z) (oM Z Z (bnK oq fun cj d5 ot=>?_)))))))
 have d7:=f9.le eD
 have q:=d7.el (fun _=>rfl) (wAX d5)
 obtain ⟨pY,qu,lI,lK⟩:=q
 refine oR Z (Ze Z Z lI Z zC zD (wBt d5) (wBy d5)) (oL Z (ax.ldC (f:=0) lK (v:=jV cj) Z Z zF Z) (oL Z (ax.ldB (j:=7) Z Z cd YE (v:=.pointer (some ⟨b8,0,none⟩)) Z) (oR Z (ZT Z Z) (oR Z (zJ Z Z Zl Z zZ) (oL Z (ax.ldB (j:=2) Z Z Z zj (v:=.slice a6 ag.done.length a8) Z) (oM Z Z (bnK ot fun _ br ou=>?_)))))))
 obtain ⟨pZ,dh⟩:=ax.rowSome (j:=0) rfl (by rw [wAC (f:=KL.encI) (sz:=1) (fun _=>rfl) ag.done];have hz:=wAY br;omega)
 refine oR Z (Ze Z Z dh Z zC zD (wCC br) (wCD br)) ?_
 have oa:=wBb (xs:=ag.done) (wAY br)
 refine ZE rfl rfl rfl rfl (ax.ldR (j:=0) rfl dh rfl rfl zF (wAa (sz:=1) (fun _=>rfl) _ _ 0 _ oa (by first | omega | rfl | simp) rfl)) rfl (zm rfl rfl rfl rfl rfl dQ (ZE rfl rfl rfl rfl (ax.ldB (j:=7) rfl rfl cd YE (v:=.pointer (some ⟨b8,0,none⟩)) rfl) rfl (ze rfl rfl rfl rfl (fun _=>ZT rfl rfl) (ze rfl rfl rfl rfl (fun _=>zJ rfl rfl Zl rfl yI) (ze rfl rfl rfl rfl (fun _=>zJ rfl rfl Zj rfl zZ) (ZE rfl rfl rfl rfl (ax.ldB (j:=2) rfl rfl rfl zj (v:=.slice ba ag.Race.Bibs.length bh) rfl) rfl (ZE rfl rfl rfl rfl (ax.ldB (j:=7) rfl rfl cd YE (v:=.pointer (some ⟨b8,0,none⟩)) rfl) rfl (zm rfl rfl rfl rfl rfl rfl (ZE rfl rfl rfl rfl (ax.ldB (j:=7) rfl rfl cd YE (v:=.pointer (some ⟨b8,0,none⟩)) rfl) rfl (ze rfl rfl rfl rfl (fun _=>ZT rfl rfl) (ze rfl rfl rfl rfl (fun _=>zJ rfl rfl Zl rfl zZ) (ZE rfl rfl rfl rfl (ax.ldB (j:=2) rfl rfl rfl zj (v:=.slice a6 ag.done.length a8) rfl) rfl (zm rfl rfl rfl rfl rfl rfl (ze rfl rfl rfl rfl (fun _=>Ze rfl rfl dh rfl zC zD (wCC br) (wCD br)) ?_))))))))))))))
 have oc:=wBb (xs:=ag.done) (wAY br)
 refine ZE rfl rfl rfl rfl (ax.ldR (j:=0) rfl dh rfl rfl zF (wAa (sz:=1) (fun _=>rfl) _ _ 0 _ oc (by first | omega | rfl | simp) rfl)) rfl (zm rfl rfl rfl rfl rfl dQ ?_)
 have q:=ax.freezeT (k:=0) (n:=ag.done.length) rfl (wAC (f:=KL.encI) (sz:=1) (fun _=>rfl) ag.done) (by decide)
 obtain ⟨gV,gG,oH,lX,o9⟩:=q
 let bf:Res:=.row bA bR 75 4 (hD wAc bt)
 let a7:Res:=.blk ay 70 [.slice bA bt.length bR]
 have lY:St an gV [be,.blk b8 158 aU,.obj ao au,bf,a7,.blk b2 69 B0,B6,av] cW:=lX
 have q:=lY.freezeT (k:=0) (n:=ag.out.length) rfl (wAC (f:=KL.encT) (sz:=1) (fun _=>rfl) ag.out) (by decide)
 obtain ⟨gW,eF,oI,lZ,pd⟩:=q
 have l3:St an gW [.blk b8 158 aU,.obj ao au,bf,a7,.blk b2 69 B0,B6,av] cW:=lZ
 have q:=l3.freezeTB (k:=0) rfl
 obtain ⟨dG,dn,cJ,l4,pe⟩:=q
 replace cJ:=Cl.of cJ
 have l5:St an dG [.obj ao au,bf,a7,.blk b2 69 B0,B6,av] cW:=l4
 replace cJ:Cl dG b8 0 aU:=cJ
 have lb:=d7.le gG
 have lc:=lb.le eF
 have lf:=lc.le dn
 have lg:=ga.le eD
 have lh:=lg.le gG
 have li:=lh.le eF
 have lj:=li.le dn
 have lk:=oH.le eF
 have lm:=lk.le dn
 have ln:=oI.le dn
 refine bnK ou fun qD lp ov=>zH 0 rfl rfl rfl rfl (zG rfl rfl Tryz.call84 (zB rfl (zB rfl (zB rfl (zB rfl zO)))) rfl) l5 (fun hs=>wEM ag b8 ba bh bz bQ a6 a8 aW aY (gd am az) (gd ag.done (gd am az).toNat) aZ cW dG hs cJ lf lj lm ln lp) (.inr rfl) ?_
 rintro gX po qz cX oU l6 ⟨rfl,rfl⟩
 have l7:St an gX [.obj ao au,bf,a7,.blk b2 69 B0,B6,av] cX:=l6
 have q:=pe _ _ _ oU l7
 obtain ⟨gY,oV,l8⟩:=q
 have ma:St an gY [.blk b8 158 aU,.obj ao au,bf,a7,.blk b2 69 B0,B6,av] cX:=l8
 have q:=pd _ _ _ oV ma
 obtain ⟨gZ,oW,mb⟩:=q
 have mc:St an gZ [be,.blk b8 158 aU,.obj ao au,bf,a7,.blk b2 69 B0,B6,av] cX:=mb
 have q:=o9 _ _ _ oW mc
 obtain ⟨cy,gH,md⟩:=q
 have gj:St an cy [aX,be,.blk b8 158 aU,.obj ao au,bf,a7,.blk b2 69 B0,B6,av] cX:=md
 refine bnK ov fun cm d9 ow=>?_
 have lq:=d7.le gH
 have q:=lq.el (fun _=>rfl) (wAX d9)
 obtain ⟨p4,qv,lJ,lL⟩:=q
 refine oR Z (Ze Z Z lJ Z zC zD (wBt d9) (wBy d9)) (oL Z (gj.ldC (f:=0) lL (v:=jV cm) Z Z zF Z) ?_)
 let dB:List Value:=[jV cj,jV (gd ag.done (gd am az).toNat),jV aZ,jV cm]
 let eO:List Value:=[jV 0,jV 0,jV 0,jV 0]
 refine oR Z (zu (pv:=[(0,jV cj),(1,jV (gd ag.done (gd am az).toNat)),(2,jV aZ),(3,jV cm)]) (z:=eO) (cs:=dB) Z (wAD Z (wAD Z (wAD Z (wAD Z wAM)))) Tryz.zeroValue75 wLq Z Z) (zo (pv:=[(0,.agg dB.toArray)]) (zs:=eO) (cs:=dB) Z Z Z Z Z (wAD Z wAM) Tryz.runUnderlying70 Tryz.sizeOf75 Tryz.zeroValue75 Z Z Z Z Z gj ?_)
 intro ig iz me
 let dC:Res:=.row (some ⟨iz,0,none⟩) 1 75 4 (hD wAc [(⟨cj,(gd ag.done (gd am az).toNat),aZ,cm⟩:wAO)])
 have gm:St an cy [dC,aX,be,.blk b8 158 aU,.obj ao au,bf,a7,.blk b2 69 B0,B6,av] ig:=me
 refine bnK ow fun dt ls ox=>yK (j:=5) (enc:=wAc) (xs:=bt) (ys:=[(⟨cj,(gd ag.done (gd am az).toNat),aZ,cm⟩:wAO)]) (zs:=dt) rfl rfl rfl rfl rfl Tryz.underlying70 wNs rfl rfl rfl rfl rfl rfl gm rfl rfl rfl (gm.srcR (j:=0) rfl (by decide) (wAC (f:=wAc) (sz:=4) (fun _=>rfl) [(⟨cj,(gd ag.done (gd am az).toNat),aZ,cm⟩:wAO)])) (fun _=>rfl) (fun _=>rfl) ls rfl ?_
 intro cN de ii mf
 let eU:Res:=.row cN de 75 4 (hD wAc dt)
 have mg:St an cy [dC,aX,be,.blk b8 158 aU,.obj ao au,eU,a7,.blk b2 69 B0,B6,av] ii:=mf
 refine zX (j:=6) (vs:=[.slice cN dt.length de]) Z Z Z Z mg Z dP Z Z Tryz.sizeOf70 (zA Z) Z Z Z ?_
 intro ij mh
 have mi:St an cy [dC,aX,be,.blk b8 158 aU,.obj ao au,eU,.blk ay 70 [.slice cN dt.length de],.blk b2 69 B0,B6,av] ij:=mh
 refine zg (zx (zI (rR fL2 Z (oR Z (ZG (za Z dX Z) (congrArg (jV) og.out)) (oM Z Z (zg ?_))))))
 cases ox
 exact zI ⟨rfl,⟨cy,cN,de,rfl,cd,dP,dQ,iN,fJ,fK,(eD.trans gH),(mi.pick [1,2,3,4,5,6,7,8,9] _ (by decide) rfl)⟩⟩
 rintro qI pB ⟨eZ,dw,dM,j7,iO,iP,p7,iQ,p8,iR,gI,mj⟩
 have iH:Hid (¬ ((↑(((↑am.length:Int):Int) - 0).toNat:Int) < (↑am.length:Int))):=zM (wAf)
 refine sR fL1 Z (oR Z (zY Z j7 iR) (eN (zL (cF Z iH (Zd (zn (zn (ZV (zI (sR fL3 Z (oM Z iQ (oR Z (zr Z Z zC) (oM Z Z (eN (zb (bnK om fun qG n7 oy=>?_))))))))))))))))
 have q:=wBM n7
 obtain ⟨eA,n8⟩:=q
 replace eA:=zM eA
 let cO:Res:=.row dw dM 75 4 (hD wAc gP)
 let cP:Res:=.blk ay 70 [.slice dw gP.length dM]
 refine CK.forN' (fun bm aV σ_ w_=>∃ (U_:PHeap),σ_ 76=jV (↑bm:Int)/\σ_ 4=.pointer (some ⟨b6,0,none⟩)/\σ_ 5=.pointer (some ⟨ay,0,none⟩)/\σ_ 74=.slice cM am.length dd/\σ_ 75=jV (↑am.length:Int)/\PHeap.Le eZ U_/\St an U_ [aX,.row aW aY 4 1 (hD KL.encT aV),.blk b8 158 [jV ag.Race.Laps,.slice ba ag.Race.Bibs.length bh,.slice bz ag.Race.Times.length bQ,.slice a6 ag.done.length a8,.slice aW aV.length aY],.obj ao au,cO,cP,.blk b2 69 B0,B6,av] w_/\aV.length=ag.out.length) n8 ?_ ?_ ?_
 exact ⟨eZ,Z,iO,iP,Z,Z,(zN _),mj,Z⟩
 rintro bm aV qF qJ pC eu ⟨dH,dY,fL,iS,fM,fN,oX,cg,lu⟩ oK
 have fE:Hid ((↑bm:Int) < (↑am.length:Int)):=zM (wAr eu)
 replace eu:=zM eu
 have oh:Hid (w64 ((↑bm:Int) + 1)=(↑(bm + 1):Int)):=zM (by have h1:=eA.out;have h2:=fE.out;rw [wAW] <;> omega)
 refine sR fL1 Z (oR Z (zY Z dY fN) (eN (zL (cT Z fE (kN (zL (zb (sR fL3 Z (bnK oK fun _ ef oz=>?_)))))))))
 obtain ⟨p5,gg⟩:=cg.rowSome (j:=8) rfl (by rw [wAC (f:=KL.encI) (sz:=1) (fun _=>rfl) am];have hz:=wAY ef;omega)
 refine oR Z (ZR Z fM gg dY zC zD (wAY ef)) ?_
 have od:=wBb (xs:=am) (wAY ef)
 refine ZE rfl rfl rfl rfl (cg.ldR (j:=8) rfl gg rfl rfl zF (wAa (sz:=1) (fun _=>rfl) _ _ 0 _ od (by first | omega | rfl | simp) rfl)) rfl (yB rfl rfl rfl rfl rfl rfl (eN (rR (wFd (.fx 6 .nil .stop)) rfl (ZE rfl rfl rfl rfl (cg.ldB (j:=7) rfl rfl fL YE (v:=.pointer (some ⟨b8,0,none⟩)) rfl) rfl (ze rfl rfl rfl rfl (fun _=>ZT rfl rfl) (ze rfl rfl rfl rfl (fun _=>zJ rfl rfl Zl rfl Tryz.sizeOf64) (ZE rfl rfl rfl rfl (cg.ldB (j:=2) rfl rfl rfl Tryz.isAgg64 (v:=.slice aW aV.length aY) rfl) rfl (zm rfl rfl rfl rfl rfl rfl (bnK oz fun _ cI oB=>?_)))))))))
 obtain ⟨p6,gh⟩:=cg.rowSome (j:=1) rfl (by rw [wAC (f:=KL.encT) (sz:=1) (fun _=>rfl) aV];have hz:=wAY cI;omega)
 refine oR Z (Ze Z Z gh Z yJ yp (wCC cI) (wCD cI)) ?_
 have oe:=wBb (xs:=aV) (wAY cI)
 refine YI (j:=1) (vs:=[.bool true]) (cs':=hD KL.encT (nJ aV (gd am bm).toNat true)) rfl rfl rfl rfl cg rfl gh rfl rfl rfl yp (by rw [wAC (f:=KL.encT) (sz:=1) (fun _=>rfl)];have hz:=wAY cI;show _ + 1 <= _;first | omega | (simp only [nH];omega) | (simp only [nG,nD,nE];omega)) rfl (wDU (sz:=1) (fo:=0) (fun _=>rfl) _ _ _ _ oe (by first | omega | (simp only [nH];omega) | (simp only [nG,nD,nE];omega)) (zA rfl) rfl) rfl ?_
 intro fk ml
 let dD:Res:=.row aW aY 4 1 (hD KL.encT (nJ aV (gd am bm).toNat true))
 have mm:St an dH [aX,dD,.blk b8 158 [jV ag.Race.Laps,.slice ba ag.Race.Bibs.length bh,.slice bz ag.Race.Times.length bQ,.slice a6 ag.done.length a8,.slice aW aV.length aY],.obj ao au,cO,cP,.blk b2 69 B0,B6,av] fk:=ml
 have mn:St an dH [aX,dD,.blk b8 158 [jV ag.Race.Laps,.slice ba ag.Race.Bibs.length bh,.slice bz ag.Race.Times.length bQ,.slice a6 ag.done.length a8,.slice aW ((nJ aV (gd am bm).toNat true).length) aY],.obj ao au,cO,cP,.blk b2 69 B0,B6,av] fk:=by simpa only [B0,av,aX,cO,cP,dD,B6,nI] using mm
 refine zg (zx (zI (rR fL2 Z (oR Z (ZG (za Z dY Z) (congrArg (jV) oh.out)) (oM Z Z (zg ?_))))))
 cases oB
 exact zI ⟨Z,⟨dH,Z,fL,iS,fM,fN,oX,mn,(nI.trans lu)⟩⟩
 rintro qK pD ⟨pz,j8,p9,qa,qb,iT,gJ,mo,qq⟩
 have iI:Hid (¬ ((↑(((↑am.length:Int):Int) - 0).toNat:Int) < (↑am.length:Int))):=zM (wAf)
 refine sR fL1 Z (oR Z (zY Z j8 iT) (eN (zL (cF Z iI (Zd (zn (zn (ZV (zx ?_)))))))))
 have lv:=f9.le gI
 have lw:=lv.le gJ
 have lx:=ga.le gI
 have ly:=lx.le gJ
 have q:=hJ oy
 obtain rfl:=q
 exact ⟨_,_,(mo.pick [3,4,5,6,7,0,1,2] _ (by decide) rfl),rfl,⟨dw,dM,ba,bh,bz,bQ,a6,a8,aW,aY,rfl,lw,ly⟩⟩
 rintro dq dI pp fm qt mp
 rcases gO with ⟨du,ph,pj,pk,gQ,gR⟩ | iK
 try dsimp only at gz
 rintro ⟨bb,bi,eJ,fG,eK,fH,dx,dN,dy,dO,rfl,lz,lA⟩
 let cu:Res:=.blk b8 158 [jV ph,.slice eJ pj.length fG,.slice eK pk.length fH,.slice dx gQ.length dN,.slice dy gR.length dO]
 let cw:Res:=.row dx dN 3 1 (hD KL.encI gQ)
 let cx:Res:=.row dy dO 4 1 (hD KL.encT gR)
 let eV:Res:=.blk ay 70 [.slice bb du.length bi]
 have gq:sW w U dI [.row bb bi 75 4 (hD wAc du),eV,.blk b2 69 B0,B6,cw,cx,cu,.obj dq (.deferred (some []))] fm:=mp
 refine zx (zI (sR gEx Z (oL Z (gq.ldB (j:=1) Z Z dW Tryz.isAgg70 (v:=.slice bb du.length bi) Z) ?_)))
 have lM:FnOK Tryz.prog dI (.func (.func 86) #[] #[]) wNp wNq (fun x=>wBD x.1 x.2):=⟨86,[],[],rfl,Tryz.call86,fun U1 w1 x y vs le hs ha hm=>by obtain rfl:=ha;exact wIE x.1 x.2 w1 U1 hs  hm⟩
 refine bnK gz fun eH lB oC=>zH 1 Z Z Z Z (zG Z Z Tryz.call85 (zB Z (zB Z zO)) Z) gq (fun hs=>wDG du bb bi (fun x=>wBD x.1 x.2) (.func (.func 86) #[] #[]) fm dI hs lM ⟨_,_,Z⟩ lB) (.inl Z) ?_
 rintro cV pq qA cY gK mq ⟨rfl,rfl,lC⟩
 let cQ:Res:=.row bb bi 75 4 (hD wAc eH)
 have mr:sW w U cV [cQ,eV,.blk b2 69 B0,B6,cw,cx,cu,.obj dq (.deferred (some []))] cY:=mq
 let cR:Res:=.blk ay 70 [.slice bb eH.length bi]
 have ms:sW w U cV [cQ,cR,.blk b2 69 B0,B6,cw,cx,cu,.obj dq (.deferred (some []))] cY:=by simp only [cR,lC];exact mr
 refine eN (zL (ZF ZB [1,1,3,3] fL4 (by kernel_rfl) ?_))
 have di:=ms.drew
 generalize hw_W1451:({ cY with drawn:=cY.drawn + 1 }:World)=pE at di ⊢
 refine oL Z (di.ldB (j:=3) Z Z f8 YE (v:=.pointer (some ⟨b8,0,none⟩)) Z) (oL Z (di.ldB (j:=1) Z Z dW Tryz.isAgg70 (v:=.slice bb eH.length bi) Z) (oA Z Z (oA Z Z (eN (zR ?_)))))
 have lD:=lz.le gK
 have lE:=lA.le gK
 refine wKq (by first | exact .inl rfl | exact .inr rfl) (rbs:=[dq]) (L:=[cQ,cR,.blk b2 69 B0,B6,cw,cx,cu]) di fun ik mu=>?_
 have mw:sW w U cV [cQ,cR,.blk b2 69 B0,B6,cw,cx,cu] ik:=mu
 cases oC
 exact ⟨_,(wEF rfl rfl),cV,_,(mw.pick [6,4,5,0] _ (by decide) rfl),b8,eJ,fG,eK,fH,dx,dN,dy,dO,bb,bi,rfl,rfl,lD,lE⟩
 exact iK.elim
end Go.Proofs.YtkghaiefcjgfkaaGreat
namespace Go.Proofs.YtkghaiefcjgfkaaGreat
open Go.KL
set_option maxHeartbeats 4000000
theorem wHd (p0:wAT) (ae:Option Addr) (ag:Nat) (af:Option Addr) (ah:Nat) (w:World) (U:PHeap) (hS:St0 w U []) (aX:Sl U 1 ae ag p0.Bibs.length (hD KL.encI p0.Bibs)) (aY:SlR U wEX af ah p0.Times) {r:(List wAO) × Int} (hm:wDK p0=some r):Gv Tryz.prog 19 [.agg #[jV p0.Laps,.slice ae p0.Bibs.length ag,.slice af p0.Times.length ah]] w (wBa w [] U (fun U_ L_ v=>∃ (A0:Option Addr) (c0:Nat),v=.tuple #[.slice A0 r.1.length c0,jV r.2]/\L_=[.row A0 c0 75 4 (hD wAc r.1)])):=by
 unfold wDK at hm
 refine Gv.of Tryz.func19 Z Tryz.ntmps19 Tryz.results19 Z (sR gFj Z ?_)
 let B0:List Value:=[jV p0.Laps,.slice ae p0.Bibs.length ag,.slice af p0.Times.length ah]
 refine ZC (cs:=B0) rfl rfl rfl rfl rfl rfl (by rfl) hS ?_
 intro W1 b2 aW
 refine oA Z Z (oA Z Z (eN (zL (sR gFi Z (oL Z (aW.ldBA (j:=0) Z Z Z Tryz.isAgg69 yI (vs:=B0) Z Z) (bnK hm fun x5 h6 bq=>zH 0 Z Z Z Z (zG Z Z Tryz.call51 (zB Z zO) Z) aW (fun hs=>wGa p0 ae ag af ah W1 U hs aX aY h6) (.inr Z) ?_))))))
 rintro U8 L9 bw av a6 bj ⟨rfl,rfl⟩
 have an:sW w U U8 [.blk b2 69 B0] av:=bj
 refine oA Z Z (eN (sR fL2 Z (oM Z Z (oR Z (Zk Z Z Z) (eN (ifc bq ?_ ?_))))))
 intro ak bo
 refine zy (ZM (fun h=>h ak.out)) (kN (sR (.fl 0 (.fx 1 (wHD (.nil)) .stop)) Z (oL Z (an.ldBA (j:=0) Z Z Z Tryz.isAgg69 yI (vs:=B0) Z Z) ?_)))
 have bf:=aX.le a6
 have bg:=aY.le a6
 have q:=bnd bo
 obtain ⟨⟨ab,a7⟩,bh,aZ⟩:=q
 try dsimp only at aZ
 refine zH 0 Z Z Z Z (zG Z Z Tryz.call52 (zB Z zO) Z) an (fun hs=>wJI p0 ae ag af ah av U8 hs bf bg bh) (.inr Z) ?_
 rintro au br bx bc bv bk ⟨ay,a8,bd,ba,be,ap,aU,aq,aV,ai,am,rfl,rfl,bt,bu⟩
 have bm:sW w U au [.blk ay 158 [jV ab.Race.Laps,.slice a8 ab.Race.Bibs.length bd,.slice ba ab.Race.Times.length be,.slice ap ab.done.length aU,.slice aq ab.out.length aV],.row ap aU 3 1 (hD KL.encI ab.done),.row aq aV 4 1 (hD KL.encT ab.out),.row ai am 75 4 (hD wAc a7),.blk b2 69 B0] bc:=bk
 refine oM Z Z (oR Z (zV Z Z (v:=.pointer (some ⟨ay,0,none⟩)) Z) (oR Z (zV Z Z (v:=.slice ai a7.length am) Z) (oA Z Z (oA Z Z (eN (sR fL3 Z (oM Z Z (oA Z Z (oA Z Z (eN (zR ?_)))))))))))
 cases aZ
 exact ⟨rfl,_,(wEF rfl rfl),au,_,(bm.pick [3] _ (by decide) rfl),ai,am,rfl,rfl⟩
 intro ak bp
 refine cT Z ak (sR fL3 Z (oM Z Z (oA Z Z (oA Z Z (eN (zR (zS ?_)))))))
 have bn:=an.nilrow 75 4
 cases bp
 exact ⟨rfl,_,(wEF rfl rfl),U8,_,(bn.pick [0] _ (by decide) rfl),none,0,rfl,rfl⟩
theorem wEN (p0:wAO) (p1:Int) (ah:Nat) (w:World) (U:PHeap) (hS:St0 w U []) (ai:Cl U ah 0 [jV p1]) {r:Bool} (hm:wAt p0 p1=some r):Gv Tryz.prog 21 [.agg #[jV p0.Bib,jV p0.Done,jV p0.Time,jV p0.By],.pointer (some ⟨ah,0,none⟩)] w (wBa w [] U (fun U_ L_ v=>v=.bool r/\L_=[])):=by
 unfold wAt at hm
 refine Gv.of Tryz.func21 rfl Tryz.ntmps21 Tryz.results21 rfl (sR gEy rfl (ZC (cs:=[jV p0.Bib,jV p0.Done,jV p0.Time,jV p0.By]) rfl rfl rfl rfl rfl rfl (by rfl) hS ?_))
 intro W1 b2 ac
 refine oA Z Z (eN (sR fL10 Z (oR Z (zJ Z Z ym Z zD) (oL Z (ac.ldB (j:=0) Z Z Z zF (v:=jV p0.Bib) Z) (oR Z (yO Z Z Z) (oM Z Z ?_))))))
 by_cases c5:p0.Bib=2
 have ae:=hm;rw [if_pos c5] at ae;replace c5:=zM c5
 refine rU Z (wT Z c5) (zJ Z Z ym Z zD) (ZE Z Z Z (wT Z c5) (ac.ldB (j:=0) Z Z Z zF (v:=jV p0.Done) Z) Z (ZE Z Z Z (wT Z c5) (ac.ldC (f:=0) ai (v:=jV p1) Z Z zF Z) Z (rU Z (wT Z c5) (YH Z Z Z) (oR Z (zT Z (Zm c5.out) Z) (oA Z Z (eN (zR ?_)))))))
 first | (obtain rfl:=hJ ae) | cases ae
 exact ⟨rfl,_,(ZH rfl),U,_,(ac.pick [] _ (by decide) rfl),rfl,rfl⟩
 have ag:=hm;rw [if_neg c5] at ag;replace c5:=zM c5
 refine oF Z c5 (oF Z c5 (oF Z c5 (oF Z c5 (oR Z (zc Z (ZM c5.out) Z) (oA Z Z (eN (zR ?_)))))))
 have hE:=hJ ag;first | subst r | cases hE
 exact ⟨rfl,_,(ZH rfl),U,_,(ac.pick [] _ (by decide) rfl),rfl,rfl⟩
theorem wDC (p0:List wAO) (am:Option Addr) (an:Nat) (p1:(wAO->Option Bool)) (ao:Value) (w:World) (U:PHeap) (hS:St0 w U []) (bh:Sl U 4 am an p0.length (hD wAc p0)) (bi:FnOK Tryz.prog U ao ar76 rr76 p1) {r:Int} (hm:wAq p0 p1=some r):Gv Tryz.prog 53 [.slice am p0.length an,ao] w (wBa w [] U (fun U_ L_ v=>v=jV r/\L_=[])):=by
 unfold wAq at hm
 refine Gv.of Tryz.func53 Z Tryz.ntmps53 Tryz.results53 Z (sR fL1 Z (oA Z Z (eN (zL (sR fL3 Z (oM Z Z (oR Z (zr Z Z Tryz.runUnderlying70) (oM Z Z (eN (zb ?_))))))))))
 have q:=wBQ hm
 obtain ⟨r3,ah⟩:=q
 have q:=wBP ah
 obtain ⟨aj,bm⟩:=q
 replace aj:=zM aj
 refine yG (fun k2 _ σ_ w_=>∃ (U_:PHeap),σ_ 8=jV (↑k2:Int)/\σ_ 0=.slice am p0.length an/\σ_ 1=ao/\σ_ 7=jV (↑p0.length:Int)/\PHeap.Le U U_/\sW w U U_ [] w_) bm ?_ ?_ ?_
 exact ⟨U,Z,Z,Z,Z,(zN _),hS⟩
 rintro k2 ⟨⟩ bI bK W8 ai ⟨bw,ag,aq,au,av,ak,ay⟩ aV bj
 try dsimp only at aV
 have ap:Hid ((↑k2:Int) < (↑p0.length:Int)):=zM (wAr ai)
 replace ai:=zM ai
 have bn:Hid (w64 ((↑k2:Int) + 1)=(↑(k2 + 1):Int)):=zM (by have h1:=aj.out;have h2:=ap.out;rw [wAW] <;> omega)
 refine sR fL1 Z (oR Z (zY Z ag av) (eN (zL (cT Z ap (kN (zL (zb (sR fL2 Z (oM Z ag (oA Z Z (eN (sR (wHC (.fx 5 .nil .stop)) Z (oM Z au (oM Z aq (oM Z Z (bnK aV fun ac ax bo=>?_))))))))))))))))
 have ba:=bh.le ak
 have q:=ba.el (fun _=>rfl) (wAX ax)
 obtain ⟨bA,bE,bd,be⟩:=q
 refine oR Z (ZR Z Z bd Z Tryz.runUnderlying70 Tryz.sizeOf75 (wBA ax)) (oL Z (ay.ldCA (f:=0) be Z Z Tryz.isAgg75 Tryz.sizeOf75 (us:=[jV ac.Bib,jV ac.Done,jV ac.Time,jV ac.By]) Z Z) (bnK bo fun bH bb bp=>?_))
 have bc:=bi.le ak
 refine YF (a:=ac) Z Z Z Z Z Z (zB Z zO) ay bc Z bb ?_
 rintro ae bv bG aY bt bf ⟨rfl,rfl⟩
 have az:sW w U ae [] aY:=bf
 refine eN (ifc bp ?_ ?_)
 intro af bq
 refine ZJ (congrArg nA af.out) (sR fL2 Z (oM Z Z (oA Z Z (eN (zR (zd (zS ?_)))))))
 have q:=wAZ bq
 obtain ⟨bu,br,a6⟩:=q
 have q:=wBB hm ah (bj bu a6)
 obtain rfl:=q
 refine zS (zd (zS ?_))
 cases br
 exact ⟨Z,_,(ZH Z),ae,_,az,Z,Z⟩
 intro af bs
 refine zy (congrArg nA (nB.2 af.out)) (Zi (zx (zI (rR fL2 Z (oR Z (ZG (za Z ag Z) (congrArg (jV) bn.out)) (oM Z Z (zg ?_)))))))
 have q:=hJ bs
 obtain rfl:=q
 exact zI ⟨Z,_,Z,⟨ae,Z,aq,au,av,(ak.trans bt),az⟩⟩
 rintro ⟨⟩ bJ bx ⟨aX,a8,bB,bC,a7,bD,bg⟩ bk
 have aU:=wCE hm ah bk
 try dsimp only at aU
 have aZ:Hid (¬ ((↑(((↑p0.length:Int):Int) - 0).toNat:Int) < (↑p0.length:Int))):=zM (wAf)
 refine sR fL1 Z (oR Z (zY Z a8 a7) (eN (zL (cF Z aZ (Zd (zn (zn (ZV (zI (sR fL1 Z (oA Z Z (eN (zR ?_)))))))))))))
 cases aU
 exact ⟨Z,_,(ZH Z),aX,_,bg,Z,Z⟩
theorem wBd (p0:List wAO) (ac:Option Addr) (ae:Nat) (p1:(wAO->Option Bool)) (af:Value) (w:World) (U:PHeap) (hS:St0 w U []) (an:Sl U 4 ac ae p0.length (hD wAc p0)) (ao:FnOK Tryz.prog U af ar76 rr76 p1) {r:Bool} (hm:wAb p0 p1=some r):Gv Tryz.prog 20 [.slice ac p0.length ae,af] w (wBa w [] U (fun U_ L_ v=>v=.bool r/\L_=[])):=by
 unfold wAb at hm
 refine Gv.of Tryz.func20 Z Tryz.ntmps20 Tryz.results20 Z (sR fL1 Z (oA Z Z (eN (sR (.fl 0 (.fl 1 (.fx 2 (.fl 3 (.fl 4 .nil)) .stop))) Z (oM Z Z (oM Z Z (bnK hm fun x1 h2 ah=>zH 0 Z Z Z Z (zG Z Z Tryz.call53 (zB Z (zB Z zO)) Z) hS (fun hs=>wDC p0 ac ae p1 af w U hs an ao h2) (.inr Z) ?_)))))))
 rintro U4 L5 v6 W7 aq am ⟨rfl,rfl⟩
 have ak:sW w U U4 [] W7:=am
 refine oR Z (Runs.geq Z Z Z) (oA Z Z (eN (zR ?_)))
 first | (obtain rfl:=hJ ah) | cases ah
 exact ⟨Z,_,(ZH Z),U4,_,ak,Z,Z⟩
theorem wEO (p0:wAO) (w:World) (U:PHeap) (hS:St0 w U [])  {r:Bool} (hm:wAu p0=some r):Gv Tryz.prog 22 [.agg #[jV p0.Bib,jV p0.Done,jV p0.Time,jV p0.By]] w (wBa w [] U (fun U_ L_ v=>v=.bool r/\L_=[])):=by
 unfold wAu at hm
 refine Gv.of Tryz.func22 rfl Tryz.ntmps22 Tryz.results22 rfl (sR gEy rfl (ZC (cs:=[jV p0.Bib,jV p0.Done,jV p0.Time,jV p0.By]) rfl rfl rfl rfl rfl rfl (by rfl) hS ?_))
 intro W1 b2 ab
 refine oA Z Z (eN (sR fL4 Z (oR Z (zJ Z Z ym Z zD) (oL Z (ab.ldB (j:=0) Z Z Z zF (v:=jV p0.Bib) Z) (oR Z (yO Z Z Z) (oA Z Z (eN (zR ?_))))))))
 first | (obtain rfl:=hJ hm) | cases hm
 exact ⟨rfl,_,(ZH rfl),U,_,(ab.pick [] _ (by decide) rfl),rfl,rfl⟩
theorem wEj (p0:List Int) (gb:Option Addr) (ge:Nat) (p1:Int) (w:World) (U:PHeap) (hS:St0 w U []) (sr:Sl U 1 gb ge p0.length (hD KL.encB8 p0)) {r:Bool} (hm:wBo p0 p1=some r):Gv Tryz.prog 4 [.slice gb p0.length ge,jV p1] w (wBa w [] U (fun U_ L_ v=>v=.bool r/\L_=[])):=by
 unfold wBo at hm
 refine Gv.of Tryz.func4 Z Tryz.ntmps4 Tryz.results4 Z (sR fL1 Z (oA Z Z (eN (sR (.fl 0 (.fx 1 (.fx 2 (wKZ (.fx 7 (.fx 8 (.fl 9 (.fl 10 .nil)) .stop) .stop)) .stop) .stop)) Z (oM Z Z (bnK hm fun x1 h2 tj=>zH 0 Z Z Z Z (zG Z Z Tryz.call5 (zB Z zO) Z) hS (fun hs=>wGv p0 gb ge w U hs sr h2) (.inr Z) ?_))))))
 rintro U4 L5 v6 W7 vC r6 ⟨fw,gu,io,rfl,rfl,mz⟩
 have pK:sW w U U4 [.blk fw 80 [.slice gu x1.bytes.length io,jV x1.next,.int .u32 x1.state]] W7:=r6
 have q:=bnd tj
 obtain ⟨⟨ab,cw,jI,gi⟩,mA,jk⟩:=q
 try dsimp only at jk
 refine zH 1 Z Z Z Z (zG Z Z Tryz.call14 (zB Z (zB Z (zB Z (zB Z zO)))) Z) pK (fun hs=>wFn x1 fw gu io 1 6 0 W7 U4 hs mz mA) (.inl Z) ?_
 rintro bJ uP vK k8 vz p4 ⟨cZ,di,aY,a6,a7,bb,a8,bc,bG,bW,gv,ip,jK,lT,rfl,rfl,vu,vv⟩
 let B0:Res:=.blk fw 80 [.slice jK gi.bytes.length lT,jV gi.next,.int .u32 gi.state]
 let B1:Res:=.row gv ip 3 1 (hD KL.encI jI)
 let B2:Res:=.row a8 bc 52 4 (hD wAB ab.Readings)
 let B3:Res:=.row a7 bb 39 3 (hD wAA ab.Clocks)
 let B4:Res:=.row aY a6 37 2 (hD wAF ab.Splits)
 let B5:Res:=.row cZ di 3 1 (hD KL.encI ab.Starts)
 have qQ:sW w U bJ [B5,B4,B3,B2,B1,B0] k8:=p4
 refine oM Z Z (oR Z (zV Z Z (v:=.agg #[.slice cZ ab.Starts.length di,.slice aY ab.Splits.length a6,.slice a7 ab.Clocks.length bb,.slice a8 ab.Readings.length bc]) Z) (oR Z (zV Z Z (v:=.slice bG cw.length bW) Z) (oR Z (zV Z Z (v:=.slice gv jI.length ip) Z) (zW (cs:=[.slice none 0 0,.slice none 0 0,.slice none 0 0,.slice none 0 0]) Z Z Z Z Z yy Z qQ ?_))))
 intro ve ba qT
 let B6:List Value:=[.slice cZ ab.Starts.length di,.slice aY ab.Splits.length a6,.slice a7 ab.Clocks.length bb,.slice a8 ab.Readings.length bc]
 refine zX (j:=0) (vs:=B6) Z Z Z Z qT Z Z Z Z zh (zA Z) Z Z Z ?_
 intro dH qW
 have fR:sW w U bJ [.blk ba 45 B6,B5,B4,B3,B2,B1,B0] dH:=qW
 refine oA Z Z (oA Z Z (eN (zL (sR fL4 Z (oR Z (zJ Z Z zP Z yA) (oL Z (fR.ldB (j:=0) Z Z Z yL (v:=.slice aY ab.Splits.length a6) Z) (oR Z (zr Z Z ZP) (oR Z (zY Z Z Z) (eN (ifc jk ?_ ?_))))))))))
 intro fC tr
 refine cT Z fC (sR gEy Z (bnK tr fun wg oq tu=>zH 0 Z Z Z Z (zG Z Z Tryz.call13 zO Z) fR (fun hs=>wDy dH bJ hs oq) (.inr Z) ?_))
 rintro gY u3 vW lp vB re ⟨rfl,rfl⟩
 have rf:sW w U gY [.blk ba 45 B6,B5,B4,B3,B2,B1,B0] lp:=re
 refine oA Z Z (eN (zR (zS ?_)))
 have hE:=hJ tu;first | subst r | cases hE
 exact ⟨rfl,_,(ZH rfl),gY,_,(rf.pick [] _ (by decide) rfl),rfl,rfl⟩
 intro fC tA
 refine cF Z fC (kN (zL (ZF ZB [3,1,3,1,3,1,2,0,3,0] (wFd (.fx 6 (.fx 7 (.fl 8 (.fx 9 .nil .stop)) .stop) .stop)) (by kernel_rfl) ?_)))
 have cJ:=fR.drew
 generalize hw_W71:({ dH with drawn:=dH.drawn + 1 }:World)=vf at cJ ⊢
 refine oR Z (zJ Z Z zP Z zZ) (oL Z (cJ.ldB (j:=0) Z Z Z zj (v:=.slice cZ ab.Starts.length di) Z) (oR Z (zJ Z Z zP Z zZ) (oL Z (cJ.ldB (j:=0) Z Z Z zj (v:=.slice cZ ab.Starts.length di) Z) (bnK tA fun _ fM tE=>?_))))
 obtain ⟨vo,iY⟩:=cJ.rowSome (j:=1) rfl (by rw [wAC (f:=KL.encI) (sz:=1) (fun _=>rfl) ab.Starts];have hz:=wAY fM;omega)
 refine oR Z (ZR Z Z iY Z zC zD (wAY fM)) ?_
 have sF:=wBb (xs:=ab.Starts) (wAY fM)
 refine ZE rfl rfl rfl rfl (cJ.ldR (j:=1) rfl iY rfl rfl zF (wAa (sz:=1) (fun _=>rfl) _ _ 0 _ sF (by first | omega | rfl | simp) rfl)) rfl (zo (pv:=[(0,jV (gd ab.Starts 0))]) (zs:=[jV 0]) (cs:=[jV (gd ab.Starts 0)]) rfl rfl rfl rfl rfl (wAD rfl wAM) zC zD zt rfl rfl rfl rfl rfl cJ ?_)
 intro ls lQ rp
 let B7:Res:=.row (some ⟨lQ,0,none⟩) 1 3 1 (hD KL.encI [(gd ab.Starts 0)])
 have ja:sW w U bJ [B7,.blk ba 45 B6,B5,B4,B3,B2,B1,B0] ls:=rp
 refine bnK tE fun aW oO tF=>yK (j:=2) (enc:=KL.encI) (xs:=ab.Starts) (ys:=[(gd ab.Starts 0)]) (zs:=aW) rfl rfl rfl rfl rfl yb wFm rfl rfl rfl rfl rfl rfl ja rfl rfl rfl (ja.srcR (j:=0) rfl (by decide) (wAC (f:=KL.encI) (sz:=1) (fun _=>rfl) [(gd ab.Starts 0)])) (fun _=>rfl) (fun _=>rfl) oO rfl ?_
 intro be bh lD rS
 let B8:Res:=.row be bh 3 1 (hD KL.encI aW)
 have rX:sW w U bJ [B7,.blk ba 45 B6,B8,B4,B3,B2,B1,B0] lD:=rS
 refine oR Z (zJ Z Z zP Z zZ) (zX (j:=1) (vs:=[.slice be aW.length bh]) Z Z Z Z rX Z Z Z Z zZ (zA Z) Z Z Z ?_)
 intro ij sd
 let B9:Res:=.blk ba 45 [.slice be aW.length bh,.slice aY ab.Splits.length a6,.slice a7 ab.Clocks.length bb,.slice a8 ab.Readings.length bc]
 have jd:sW w U bJ [B7,B9,B8,B4,B3,B2,B1,B0] ij:=sd
 refine eN (sR (wHC (.fx 5 (.fx 6 (.fx 7 .nil .stop) .stop) .stop)) Z (oM Z Z (oR Z (zJ Z Z zP Z yA) (oL Z (jd.ldB (j:=1) Z Z Z yL (v:=.slice aY ab.Splits.length a6) Z) (oR Z (zr Z Z ZP) (oR Z (yP Z Z Z) (bnK tF fun aU oQ tG=>zH 0 Z Z Z Z (zG Z Z Tryz.call9 (zB Z (zB Z zO)) Z) jd (fun hs=>wGY p1 (w64 ((↑ab.Splits.length:Int) - 1)) ij bJ hs oQ) (.inr Z) ?_)))))))
 rintro de u6 vZ lL vw pC ⟨rfl,rfl⟩
 have pD:sW w U de [B7,B9,B8,B4,B3,B2,B1,B0] lL:=pC
 refine zW (cs:=[jV 0]) Z Z Z Z Z zt Z pD ?_
 intro va bf pF
 refine zX (j:=0) (vs:=[jV aU]) Z Z Z Z pF Z Z Z Z zD (zA Z) Z Z Z ?_
 intro fk pG
 let aj:Res:=.blk bf 3 [jV aU]
 have pH:sW w U de [aj,B7,B9,B8,B4,B3,B2,B1,B0] fk:=pG
 refine eN ?_
 have q:=bnd tG
 obtain ⟨⟨cm,aq,co,cp,uE,eF,uF⟩,ui,jj⟩:=q
 try dsimp only at jj
 let af:List Value:=[jV uE,jV eF]
 refine yW (fun σ_ w_=>∃ (U_:PHeap) (bD:Option Addr) (bS:Nat) (bt:Option Addr) (bz:Nat) (bE:Option Addr) (bU:Nat) (bF:Option Addr) (bV:Nat) (ac:Nat),σ_ 5=.pointer (some ⟨ba,0,none⟩)/\σ_ 6=.slice bG cw.length bW/\σ_ 8=.pointer (some ⟨bf,0,none⟩)/\σ_ 9=.pointer (some ⟨ac,0,none⟩)/\σ_ 10=jV uF/\PHeap.Le de U_/\sW w U U_ [aj,.blk ba 45 [.slice bD cm.length bS,.slice bt aq.length bz,.slice bE co.length bU,.slice bF cp.length bV],B0,.blk ac 37 af] w_/\Sl U_ 1 bD bS cm.length (hD KL.encI cm)/\Sl U_ 2 bt bz aq.length (hD wAF aq)/\Sl U_ 3 bE bU co.length (hD wAA co)/\Sl U_ 4 bF bV cp.length (hD wAB cp)) ?_ ?_
 refine yf fun gt dZ=>?_
 have dn:gt 5=.pointer (some ⟨ba,0,none⟩):=(dZ 5).trans rfl
 have dV:gt 6=.slice bG cw.length bW:=(dZ 6).trans rfl
 have cE:gt 8=.pointer (some ⟨bf,0,none⟩):=(dZ 8).trans rfl
 clear dZ
 refine bnK ui fun eG iw tg=>bnK tg fun eH fJ th=>?_
 have q:=bnd th
 obtain ⟨⟨aX,eI⟩,dX,dr⟩:=q
 try dsimp only at dr
 refine ZF ZB [1,1,3,2,1,3,2,2,3,3,3,2,0,3] (wCv (.fl 4 (.fl 5 (.fx 3 (.fx 6 (.fx 7 (wHF (.fx 11 gFe .stop)) (.fx 11 (.fx 7 (wHF gFe) (.stop)) (.stop))) (.fx 11 (.fx 6 (.fx 7 (wHF gFe) (.stop)) (.stop)) (.stop))) (.fx 11 (.fx 3 (.fx 6 (.fx 7 (wHF gFe) (.stop)) (.stop)) (.stop)) (.stop)))))) (by kernel_rfl) ?_
 have cI:=pH.drew
 generalize hw_W203:({ fk with drawn:=fk.drawn + 1 }:World)=k6 at cI ⊢
 refine oL Z (cI.ldBA (j:=2) Z Z dn zz zh (vs:=[.slice be aW.length bh,.slice aY ab.Splits.length a6,.slice a7 ab.Clocks.length bb,.slice a8 ab.Readings.length bc]) Z Z) (oL Z (cI.ldB (j:=0) Z Z cE zF (v:=jV aU) Z) (oR Z (za Z Z Z) (oL Z (cI.ldB (j:=0) Z Z cE zF (v:=jV aU) Z) (oR Z (za Z Z Z) (zw ?_ ?_)))))
 refine zH 0 Z Z Z Z (zG Z Z ye (zB Z (zB Z zO)) Z) cI (fun hs=>wAe 1 (w64 (aU + 1)) k6 de hs iw) (.inr Z) ?_
 rintro fc uN vI g7 fV pL ⟨rfl,rfl⟩
 have i4:sW w U fc [aj,B7,B9,B8,B4,B3,B2,B1,B0] g7:=pL
 refine zw ?_ ?_
 refine zH 0 Z Z Z Z (zG Z Z ye (zB Z (zB Z zO)) Z) i4 (fun hs=>wAe 0 (w64 (aU + 2)) g7 fc hs fJ) (.inr Z) ?_
 rintro jL uO vJ cz jy pM ⟨rfl,rfl⟩
 have i5:sW w U jL [aj,B7,B9,B8,B4,B3,B2,B1,B0] cz:=pM
 refine zw ?_ ?_
 have q:=i5.freezeR (k:=3) (n:=aW.length) rfl (wAC (f:=KL.encI) (sz:=1) (fun _=>rfl) aW) (by decide)
 obtain ⟨jM,um,tU,pN⟩:=q
 have pO:sW w U jM [aj,B7,B9,B4,B3,B2,B1,B0] cz:=pN
 have q:=pO.freezeR (k:=3) (n:=ab.Splits.length) rfl (wAC (f:=wAF) (sz:=2) (fun _=>rfl) ab.Splits) (by decide)
 obtain ⟨jN,jz,tV,pP⟩:=q
 have pQ:sW w U jN [aj,B7,B9,B3,B2,B1,B0] cz:=pP
 have q:=pQ.freezeR (k:=3) (n:=ab.Clocks.length) rfl (wAC (f:=wAA) (sz:=3) (fun _=>rfl) ab.Clocks) (by decide)
 obtain ⟨jO,fW,tW,pR⟩:=q
 have pS:sW w U jO [aj,B7,B9,B2,B1,B0] cz:=pR
 have q:=pS.freezeR (k:=3) (n:=ab.Readings.length) rfl (wAC (f:=wAB) (sz:=4) (fun _=>rfl) ab.Readings) (by decide)
 obtain ⟨gN,d7,jq,pT⟩:=q
 have pU:sW w U gN [aj,B7,B9,B1,B0] cz:=pT
 have mB:=tU.le jz
 have mC:=mB.le fW
 have iz:=mC.le d7
 have mD:=tV.le fW
 have iA:=mD.le d7
 have iB:=tW.le d7
 refine zH 0 Z Z Z Z (zG Z Z Tryz.call15 (zB Z (zB Z (zB Z zO))) Z) pU (fun hs=>wEo (⟨aW,ab.Splits,ab.Clocks,ab.Readings⟩:wAE) be bh aY a6 a7 bb a8 bc eG eH cz gN hs iz iA iB jq dX) (.inr Z) ?_
 rintro fd uQ vL k9 dt pV ⟨rfl,rfl⟩
 have pW:sW w U fd [aj,B7,B9,B1,B0] k9:=pV
 refine oM Z Z (oR Z (zV Z Z (v:=.agg #[jV aX.Lo,jV aX.Hi]) Z) (oR Z (zV Z Z (v:=jV eI) Z) (zW (cs:=[jV 0,jV 0]) Z Z Z Z Z ZQ Z pW ?_)))
 intro vc ik pX
 let gw:List Value:=[jV aX.Lo,jV aX.Hi]
 refine zX (j:=0) (vs:=gw) Z Z Z Z pX Z Z Z Z ZD (zA Z) Z Z Z ?_
 intro lb pY
 have pZ:sW w U fd [.blk ik 37 gw,aj,B7,B9,B1,B0] lb:=pY
 refine oA Z Z (zg ?_)
 cases dr
 have mE:=iz.le dt
 have mF:=iA.le dt
 have mG:=iB.le dt
 have mH:=jq.le dt
 exact zI ⟨rfl,⟨fd,be,bh,aY,a6,a7,bb,a8,bc,ik,dn,dV,cE,rfl,rfl,((((((fV.trans jy).trans um).trans jz).trans fW).trans d7).trans dt),(pZ.pick [1,3,5,0] _ (by decide) rfl),mE,mF,mG,mH⟩⟩
 let cy:List Value:=[jV 0,jV 0]
 refine zW (cs:=cy) Z Z Z Z Z ZQ Z i5 ?_
 intro dg bK p5
 have q:=p5.freezeR (k:=4) (n:=aW.length) rfl (wAC (f:=KL.encI) (sz:=1) (fun _=>rfl) aW) (by decide)
 obtain ⟨jP,un,tX,p6⟩:=q
 have p7:sW w U jP [.blk bK 37 cy,aj,B7,B9,B4,B3,B2,B1,B0] dg:=p6
 have q:=p7.freezeR (k:=4) (n:=ab.Splits.length) rfl (wAC (f:=wAF) (sz:=2) (fun _=>rfl) ab.Splits) (by decide)
 obtain ⟨jQ,jA,tY,p8⟩:=q
 have p9:sW w U jQ [.blk bK 37 cy,aj,B7,B9,B3,B2,B1,B0] dg:=p8
 have q:=p9.freezeR (k:=4) (n:=ab.Clocks.length) rfl (wAC (f:=wAA) (sz:=3) (fun _=>rfl) ab.Clocks) (by decide)
 obtain ⟨jR,fY,tZ,qa⟩:=q
 have qb:sW w U jR [.blk bK 37 cy,aj,B7,B9,B2,B1,B0] dg:=qa
 have q:=qb.freezeR (k:=4) (n:=ab.Readings.length) rfl (wAC (f:=wAB) (sz:=4) (fun _=>rfl) ab.Readings) (by decide)
 obtain ⟨gO,d9,jr,qc⟩:=q
 have qd:sW w U gO [.blk bK 37 cy,aj,B7,B9,B1,B0] dg:=qc
 have mI:=tX.le jA
 have mJ:=mI.le fY
 have iC:=mJ.le d9
 have mK:=tY.le fY
 have iD:=mK.le d9
 have iE:=tZ.le d9
 refine zH 0 Z Z Z Z (zG Z Z Tryz.call15 (zB Z (zB Z (zB Z zO))) Z) qd (fun hs=>wEo (⟨aW,ab.Splits,ab.Clocks,ab.Readings⟩:wAE) be bh aY a6 a7 bb a8 bc eG eH dg gO hs iC iD iE jr dX) (.inr Z) ?_
 rintro ff uR vM lc du qe ⟨rfl,rfl⟩
 have qf:sW w U ff [.blk bK 37 cy,aj,B7,B9,B1,B0] lc:=qe
 refine oM Z Z (oR Z (zV Z Z (v:=.agg #[jV aX.Lo,jV aX.Hi]) Z) (oR Z (zV Z Z (v:=jV eI) Z) ?_))
 let gx:List Value:=[jV aX.Lo,jV aX.Hi]
 refine zX (j:=0) (vs:=gx) Z Z Z Z qf Z Z Z Z ZD (zA Z) Z Z Z ?_
 intro lf qh
 have qi:sW w U ff [.blk bK 37 gx,aj,B7,B9,B1,B0] lf:=qh
 refine oA Z Z (zg ?_)
 cases dr
 have mL:=iC.le du
 have mM:=iD.le du
 have mN:=iE.le du
 have mO:=jr.le du
 exact zI ⟨rfl,⟨ff,be,bh,aY,a6,a7,bb,a8,bc,bK,dn,dV,cE,rfl,rfl,((((((fV.trans jy).trans un).trans jA).trans fY).trans d9).trans du),(qi.pick [1,3,5,0] _ (by decide) rfl),mL,mM,mN,mO⟩⟩
 let bH:List Value:=[jV 0,jV 0]
 refine zW (cs:=bH) Z Z Z Z Z ZQ Z i4 ?_
 intro lg bw qj
 refine zH 0 Z Z Z Z (zG Z Z ye (zB Z (zB Z zO)) Z) qj (fun hs=>wAe 0 (w64 (aU + 2)) lg fc hs fJ) (.inr Z) ?_
 rintro jS uS vN cA uo qk ⟨rfl,rfl⟩
 have qm:sW w U jS [.blk bw 37 bH,aj,B7,B9,B8,B4,B3,B2,B1,B0] cA:=qk
 have q:=qm.freezeR (k:=4) (n:=aW.length) rfl (wAC (f:=KL.encI) (sz:=1) (fun _=>rfl) aW) (by decide)
 obtain ⟨jT,up,t6,qn⟩:=q
 have qo:sW w U jT [.blk bw 37 bH,aj,B7,B9,B4,B3,B2,B1,B0] cA:=qn
 have q:=qo.freezeR (k:=4) (n:=ab.Splits.length) rfl (wAC (f:=wAF) (sz:=2) (fun _=>rfl) ab.Splits) (by decide)
 obtain ⟨jU,jB,t7,qp⟩:=q
 have qq:sW w U jU [.blk bw 37 bH,aj,B7,B9,B3,B2,B1,B0] cA:=qp
 have q:=qq.freezeR (k:=4) (n:=ab.Clocks.length) rfl (wAC (f:=wAA) (sz:=3) (fun _=>rfl) ab.Clocks) (by decide)
 obtain ⟨jW,fZ,t8,qr⟩:=q
 have qs:sW w U jW [.blk bw 37 bH,aj,B7,B9,B2,B1,B0] cA:=qr
 have q:=qs.freezeR (k:=4) (n:=ab.Readings.length) rfl (wAC (f:=wAB) (sz:=4) (fun _=>rfl) ab.Readings) (by decide)
 obtain ⟨gP,ef,jt,qt⟩:=q
 have qu:sW w U gP [.blk bw 37 bH,aj,B7,B9,B1,B0] cA:=qt
 have mP:=t6.le jB
 have mQ:=mP.le fZ
 have iF:=mQ.le ef
 have mR:=t7.le fZ
 have iG:=mR.le ef
 have iH:=t8.le ef
 refine zH 0 Z Z Z Z (zG Z Z Tryz.call15 (zB Z (zB Z (zB Z zO))) Z) qu (fun hs=>wEo (⟨aW,ab.Splits,ab.Clocks,ab.Readings⟩:wAE) be bh aY a6 a7 bb a8 bc eG eH cA gP hs iF iG iH jt dX) (.inr Z) ?_
 rintro fg uT vO lh dv qv ⟨rfl,rfl⟩
 have qw:sW w U fg [.blk bw 37 bH,aj,B7,B9,B1,B0] lh:=qv
 refine oM Z Z (oR Z (zV Z Z (v:=.agg #[jV aX.Lo,jV aX.Hi]) Z) (oR Z (zV Z Z (v:=jV eI) Z) ?_))
 let gy:List Value:=[jV aX.Lo,jV aX.Hi]
 refine zX (j:=0) (vs:=gy) Z Z Z Z qw Z Z Z Z ZD (zA Z) Z Z Z ?_
 intro li qx
 have qy:sW w U fg [.blk bw 37 gy,aj,B7,B9,B1,B0] li:=qx
 refine oA Z Z (zg ?_)
 cases dr
 have mS:=iF.le dv
 have mT:=iG.le dv
 have mU:=iH.le dv
 have mV:=jt.le dv
 exact zI ⟨rfl,⟨fg,be,bh,aY,a6,a7,bb,a8,bc,bw,dn,dV,cE,rfl,rfl,((((((fV.trans uo).trans up).trans jB).trans fZ).trans ef).trans dv),(qy.pick [1,3,5,0] _ (by decide) rfl),mS,mT,mU,mV⟩⟩
 let bu:List Value:=[jV 0,jV 0]
 refine zW (cs:=bu) Z Z Z Z Z ZQ Z cI ?_
 intro lj bq qz
 refine zH 0 Z Z Z Z (zG Z Z ye (zB Z (zB Z zO)) Z) qz (fun hs=>wAe 1 (w64 (aU + 1)) lj de hs iw) (.inr Z) ?_
 rintro gR uU vP g8 uq qA ⟨rfl,rfl⟩
 have qB:sW w U gR [.blk bq 37 bu,aj,B7,B9,B8,B4,B3,B2,B1,B0] g8:=qA
 refine zH 0 Z Z Z Z (zG Z Z ye (zB Z (zB Z zO)) Z) qB (fun hs=>wAe 0 (w64 (aU + 2)) g8 gR hs fJ) (.inr Z) ?_
 rintro jX uV vQ cB ur qC ⟨rfl,rfl⟩
 have qD:sW w U jX [.blk bq 37 bu,aj,B7,B9,B8,B4,B3,B2,B1,B0] cB:=qC
 have q:=qD.freezeR (k:=4) (n:=aW.length) rfl (wAC (f:=KL.encI) (sz:=1) (fun _=>rfl) aW) (by decide)
 obtain ⟨jY,uu,ua,qE⟩:=q
 have qF:sW w U jY [.blk bq 37 bu,aj,B7,B9,B4,B3,B2,B1,B0] cB:=qE
 have q:=qF.freezeR (k:=4) (n:=ab.Splits.length) rfl (wAC (f:=wAF) (sz:=2) (fun _=>rfl) ab.Splits) (by decide)
 obtain ⟨jZ,jC,ub,qG⟩:=q
 have qH:sW w U jZ [.blk bq 37 bu,aj,B7,B9,B3,B2,B1,B0] cB:=qG
 have q:=qH.freezeR (k:=4) (n:=ab.Clocks.length) rfl (wAC (f:=wAA) (sz:=3) (fun _=>rfl) ab.Clocks) (by decide)
 obtain ⟨j4,f5,ud,qI⟩:=q
 have qJ:sW w U j4 [.blk bq 37 bu,aj,B7,B9,B2,B1,B0] cB:=qI
 have q:=qJ.freezeR (k:=4) (n:=ab.Readings.length) rfl (wAC (f:=wAB) (sz:=4) (fun _=>rfl) ab.Readings) (by decide)
 obtain ⟨gS,eh,ju,qK⟩:=q
 have qL:sW w U gS [.blk bq 37 bu,aj,B7,B9,B1,B0] cB:=qK
 have mW:=ua.le jC
 have mX:=mW.le f5
 have iI:=mX.le eh
 have mY:=ub.le f5
 have iJ:=mY.le eh
 have iK:=ud.le eh
 refine zH 0 Z Z Z Z (zG Z Z Tryz.call15 (zB Z (zB Z (zB Z zO))) Z) qL (fun hs=>wEo (⟨aW,ab.Splits,ab.Clocks,ab.Readings⟩:wAE) be bh aY a6 a7 bb a8 bc eG eH cB gS hs iI iJ iK ju dX) (.inr Z) ?_
 rintro fh uW vR lk dw qM ⟨rfl,rfl⟩
 have qN:sW w U fh [.blk bq 37 bu,aj,B7,B9,B1,B0] lk:=qM
 refine oM Z Z (oR Z (zV Z Z (v:=.agg #[jV aX.Lo,jV aX.Hi]) Z) (oR Z (zV Z Z (v:=jV eI) Z) ?_))
 let gz:List Value:=[jV aX.Lo,jV aX.Hi]
 refine zX (j:=0) (vs:=gz) Z Z Z Z qN Z Z Z Z ZD (zA Z) Z Z Z ?_
 intro lm qO
 have qP:sW w U fh [.blk bq 37 gz,aj,B7,B9,B1,B0] lm:=qO
 refine oA Z Z (zg ?_)
 cases dr
 have mZ:=iI.le dw
 have m2:=iJ.le dw
 have m3:=iK.le dw
 have m4:=ju.le dw
 exact zI ⟨rfl,⟨fh,be,bh,aY,a6,a7,bb,a8,bc,bq,dn,dV,cE,rfl,rfl,((((((uq.trans ur).trans uu).trans jC).trans f5).trans eh).trans dw),(qP.pick [1,3,5,0] _ (by decide) rfl),mZ,m2,m3,m4⟩⟩
 rintro wl vd ⟨gT,bD,bS,bt,bz,bE,bU,bF,bV,ac,me,mf,mg,mh,mi,vA,i6,m5,m6,m7,m8⟩
 refine zL (sR fL2 Z (oM Z mi (oR Z (Zk Z Z Z) (eN (ifc jj ?_ ?_)))))
 intro fB cL
 refine zy (ZM (fun h=>h fB.out)) (kN (zL (sR gFj Z (zo (pv:=[(0,.bool false),(1,.bool true)]) (zs:=[.bool false,.bool false]) (cs:=[.bool false,.bool true]) Z Z Z Z Z (wAD Z (wAD Z wAM)) yJ yp Tryz.zeroValue4 Z Z Z Z Z i6 ?_))))
 intro g9 cC qR
 let ag:Res:=.blk ba 45 [.slice bD cm.length bS,.slice bt aq.length bz,.slice bE co.length bU,.slice bF cp.length bV]
 let ai:Res:=.row (some ⟨cC,0,none⟩) 2 4 1 (hD KL.encT [false,true])
 have qS:sW w U gT [ai,aj,ag,B0,.blk ac 37 af] g9:=qR
 refine oR Z (zr Z Z yJ) (oM Z Z (eN (zb ?_)))
 have q:=qS.freeze (k:=1) rfl
 obtain ⟨dG,ep,dp,qU⟩:=q
 replace dp:=Cl.of dp
 have qV:sW w U dG [ai,ag,B0,.blk ac 37 af] g9:=qU
 replace dp:Cl dG bf 0 [jV aU]:=dp
 have q:=wBQ cL
 obtain ⟨vF,cK⟩:=q
 have q:=wBP cK
 obtain ⟨fU,sD⟩:=q
 replace fU:=zM fU
 refine yG (fun bs _ σ_ w_=>∃ (U_:PHeap),σ_ 63=jV (↑bs:Int)/\σ_ 5=.pointer (some ⟨ba,0,none⟩)/\σ_ 6=.slice bG cw.length bW/\σ_ 8=.pointer (some ⟨bf,0,none⟩)/\σ_ 9=.pointer (some ⟨ac,0,none⟩)/\σ_ 61=.slice (some ⟨cC,0,none⟩) ([false,true].length) 2/\σ_ 62=jV 2/\PHeap.Le dG U_/\sW w U U_ [ag,B0,.blk ac 37 af,ai] w_) sD ?_ ?_ ?_
 exact ⟨dG,rfl,me,mf,mg,mh,rfl,rfl,(zN _),(qV.pick [1,2,3,0] _ (by decide) rfl)⟩
 rintro bs ⟨⟩ wi wm ic fT ⟨j5,bB,br,cG,bA,cH,cg,ci,cO,i7⟩ jx dY
 try dsimp only at jx
 have iq:Hid ((↑bs:Int) < 2):=zM (wAr fT)
 replace fT:=zM fT
 have sG:Hid (w64 ((↑bs:Int) + 1)=(↑(bs + 1):Int)):=zM (by have h1:=fU.out;have h2:=iq.out;rw [wAW] <;> omega)
 refine sR fL1 Z (oR Z (zY Z bB ci) (eN (zL (cT Z iq (kN (zL (zb (sR fL3 Z (bnK jx fun _ iL tm=>oR Z (ZR Z cg Z bB yJ yp (wAY iL)) ?_)))))))))
 have sE:=wBb (xs:=[false,true]) (wAY iL)
 refine ZE rfl rfl rfl rfl (i7.ldR (j:=3) rfl rfl rfl rfl Tryz.isAgg4 (wAa (sz:=1) (fun _=>rfl) _ _ 0 _ sE (by first | omega | rfl | simp) rfl)) rfl (yB rfl rfl rfl rfl rfl rfl (eN (zL (ZF ZB [1,1,3,2,1,3,2,3,2,3,3,3,3,3,3,3] (wCv (.fl 4 (.fl 5 (.fl 7 (.fx 3 (.fx 6 (.fx 8 (wOe (.nil)) .stop) .stop) .stop))))) (by kernel_rfl) ?_))))
 have dq:=i7.drew
 generalize hw_W552:({ ic with drawn:=ic.drawn + 1 }:World)=ln at dq ⊢
 let gA:List Value:=[.slice bD cm.length bS,.slice bt aq.length bz,.slice bE co.length bU,.slice bF cp.length bV]
 refine oL Z (dq.ldBA (j:=0) Z Z br zz zh (vs:=gA) Z Z) ?_
 have fK:=dp.le cO
 refine oL Z (dq.ldC (f:=0) fK (v:=jV aU) Z bA zF Z) (oR Z (za Z Z Z) (oL Z (dq.ldC (f:=0) fK (v:=jV aU) Z bA zF Z) (oR Z (za Z Z Z) (oM Z Z (bnK tm fun uG m9 tp=>zH 0 Z Z Z Z (zG Z Z ye (zB Z (zB Z zO)) Z) dq (fun hs=>wAe 1 (w64 (aU + 1)) ln j5 hs m9) (.inr Z) ?_)))))
 rintro gU uY vS ie cP qX ⟨rfl,rfl⟩
 have qY:sW w U gU [ag,B0,.blk ac 37 af,ai] ie:=qX
 refine bnK tp fun uH n3 tq=>zH 0 Z Z Z Z (zG Z Z ye (zB Z (zB Z zO)) Z) qY (fun hs=>wAe 0 (w64 (aU + 2)) ie gU hs n3) (.inr Z) ?_
 rintro gV uZ vT ig cQ qZ ⟨rfl,rfl⟩
 have q5:sW w U gV [ag,B0,.blk ac 37 af,ai] ig:=qZ
 have n4:=m5.le ep
 have n5:=n4.le cO
 have n7:=n5.le cP
 have iM:=n7.le cQ
 have n8:=m6.le ep
 have n9:=n8.le cO
 have oa:=n9.le cP
 have iN:=oa.le cQ
 have oc:=m7.le ep
 have od:=oc.le cO
 have oe:=od.le cP
 have iO:=oe.le cQ
 have og:=m8.le ep
 have oh:=og.le cO
 have oj:=oh.le cP
 have iP:=oj.le cQ
 have q:=bnd tq
 obtain ⟨⟨gj,dy,uI⟩,om,jl⟩:=q
 try dsimp only at jl
 refine zH 0 Z Z Z Z (zG Z Z Tryz.call17 (zB Z (zB Z (zB Z (zB Z zO)))) Z) q5 (fun hs=>wIe (⟨cm,aq,co,cp⟩:wAE) bD bS bt bz bE bU bF bV uG uH (gd [false,true] bs) ig gV hs iM iN iO iP om) (.inr Z) ?_
 rintro gW u0 vU dI cR q6 ⟨dz,dR,lU,eJ,fD,rfl,rfl,ot⟩
 let gB:Res:=.row eJ fD 3 1 (hD KL.encI dy)
 have fS:sW w U gW [.row dz dR 41 1 lU,gB,ag,B0,.blk ac 37 af,ai] dI:=q6
 refine oM Z Z (oR Z (zV Z Z (v:=.slice dz gj.length dR) Z) (oR Z (zV Z Z (v:=.slice eJ dy.length fD) Z) (oR Z (zV Z Z (v:=jV uI) Z) (oA Z Z (oA Z Z (oA Z Z (eN (zL (sR (wFd (.fx 6 (.fl 7 (.fl 8 .nil)) .stop)) Z (oM Z Z (oR Z (Zk Z Z Z) (oM Z Z (ifc jl ?_ ?_)))))))))))))
 intro bd tv
 refine ZE Z Z Z (zQ Z Z (ZM (fun h=>h bd.out))) (fS.ldBA (j:=2) Z Z br zz zh (vs:=gA) Z Z) Z (zm Z Z Z (zQ Z Z (ZM (fun h=>h bd.out))) Z Z (zm Z Z Z (zQ Z Z (ZM (fun h=>h bd.out))) Z Z ?_))
 have q:=fS.freezeRR (R:=wEX) (k:=0) rfl ot rfl (by decide)
 obtain ⟨j6,cS,ue,q7⟩:=q
 have q8:sW w U j6 [gB,ag,B0,.blk ac 37 af,ai] dI:=q7
 have q:=q8.freezeR (k:=0) (n:=dy.length) rfl (wAC (f:=KL.encI) (sz:=1) (fun _=>rfl) dy) (by decide)
 obtain ⟨gX,cq,uf,q9⟩:=q
 have rc:sW w U gX [ag,B0,.blk ac 37 af,ai] dI:=q9
 have ou:=iM.le cR
 have ov:=ou.le cS
 have ow:=ov.le cq
 have ox:=iN.le cR
 have oy:=ox.le cS
 have oz:=oy.le cq
 have oB:=iO.le cR
 have oC:=oB.le cS
 have oD:=oC.le cq
 have oE:=iP.le cR
 have oG:=oE.le cS
 have oH:=oG.le cq
 have fL:=ue.le cq
 refine bnK tv fun wh oI tw=>zH 0 Z Z Z (zQ Z Z (ZM (fun h=>h bd.out))) (zG Z Z Tryz.call18 (zB Z (zB Z (zB Z zO))) Z) rc (fun hs=>wFp (⟨cm,aq,co,cp⟩:wAE) bD bS bt bz bE bU bF bV gj dz dR dy eJ fD dI gX hs ow oz oD oH fL uf oI) (.inr Z) ?_
 rintro am u4 vX fm eu rd ⟨rfl,rfl⟩
 have i8:sW w U am [ag,B0,.blk ac 37 af,ai] fm:=rd
 refine ze Z Z Z (zQ Z Z (ZM (fun h=>h bd.out))) (fun _=>ZW Z Z) (oR Z (zc Z (ZM (fun h=>h bd.out)) Z) (eN (ifc tw ?_ ?_)))
 intro fE tz
 refine zy (nC fE.out) (kN ?_)
 have q:=bnd tz
 obtain ⟨⟨cN,d5⟩,uj,jm⟩:=q
 try dsimp only at jm
 refine yW (fun σ_ w_=>∃ (U_:PHeap) (bj:Nat) (c6:Option Addr) (dm:Nat) (cx:Option Addr) (cD:Nat) (dT:List Value),σ_ 5=.pointer (some ⟨ba,0,none⟩)/\σ_ 6=.slice bG cw.length bW/\σ_ 8=.pointer (some ⟨bf,0,none⟩)/\σ_ 9=.pointer (some ⟨ac,0,none⟩)/\σ_ 13=.slice dz gj.length dR/\σ_ 16=.pointer (some ⟨bj,0,none⟩)/\σ_ 61=.slice (some ⟨cC,0,none⟩) ([false,true].length) 2/\σ_ 62=jV 2/\σ_ 63=jV (↑bs:Int)/\PHeap.Le am U_/\sW w U U_ [ag,B0,.blk ac 37 af,.blk bj 69 [jV (↑aq.length:Int),.slice c6 cN.length dm,.slice cx d5.length cD],.row c6 dm 3 1 (hD KL.encI cN),.row cx cD 41 1 dT,.row (some ⟨cC,0,none⟩) 2 4 1 (hD KL.encT [false,true])] w_/\RlL U_ wEX d5 dT) ?_ ?_
 refine bnK uj fun gm iQ tB=>bnK tB fun an oJ tC=>bnK tC fun gq iR tD=>bnK tD fun ao oK cM=>ZF ZB [3,1,3,2,3,3,1,3,3,3,1,3,2,3,2,0] (wCv (wOb (.fx 3 (.fx 12 gFk (.fx 14 gFl .stop)) (.fx 12 (.fx 3 gFk (.fx 14 gFm .stop)) (.fx 14 (.fx 3 gFl (.fx 12 gFm .stop)) .stop))))) (by kernel_rfl) ?_
 have cj:=i8.drew
 generalize hw_W731:({ fm with drawn:=fm.drawn + 1 }:World)=vg at cj ⊢
 refine oR Z (zJ Z br zP Z yA) (oL Z (cj.ldB (j:=0) Z Z Z yL (v:=.slice bt aq.length bz) Z) (oR Z (zr Z Z ZP) (oM Z Z ?_)))
 have iS:=fL.le eu
 have q:=iS.el (wAX iQ)
 obtain ⟨lO,uw,wc,pp,fP,tO⟩:=q
 obtain ⟨cU,cW,rfl,iT⟩:=tO
 replace fP:Cl am lO (uw + 0 * 1) [.slice cU gm.length cW]:=fP
 refine oR Z (ZR Z Z pp Z ZK zZ (wBA iQ)) (oL Z (cj.ldC (f:=0) fP (v:=.slice cU gm.length cW) Z Z zj Z) ?_)
 have q:=Sl.cutM (sz:=1) (f:=KL.encI) iT (fun _=>rfl) oJ
 obtain ⟨cr,ss,sv,sB,tK⟩:=q
 refine ze (v:=.slice (if cW=(1:Int).toNat then cU else nK (·.add ((1:Int).toNat * 1)) cU) an.length (cW - (1:Int).toNat)) rfl rfl rfl rfl (fun _=>ZG (Runs.slc (sz:=1) (a:=1) (b:=(↑(gm.length):Int)) rfl rfl (.inl ⟨_,rfl,rfl⟩) (.inr ⟨rfl,rfl⟩) zC zD ss sv sB (iT).cap) (by rw [tK])) ?_
 generalize hA_A743:(if cW=(1:Int).toNat then cU else nK (·.add ((1:Int).toNat * 1)) cU)=av at cr ⊢
 generalize hc_c744:cW - (1:Int).toNat=ay at cr ⊢
 refine oM Z Z ?_
 have q:=iS.el (wAX iR)
 obtain ⟨lP,ux,wd,pq,fQ,tP⟩:=q
 obtain ⟨cV,cX,rfl,iU⟩:=tP
 replace fQ:Cl am lP (ux + 1 * 1) [.slice cV gq.length cX]:=fQ
 refine oR Z (ZR Z Z pq Z ZK zZ (wBA iR)) (oL Z (cj.ldC (f:=0) fQ (v:=.slice cV gq.length cX) Z Z zj Z) ?_)
 have q:=Sl.cutM (sz:=1) (f:=KL.encI) iU (fun _=>rfl) oK
 obtain ⟨cu,su,sw,sC,tL⟩:=q
 refine ze (v:=.slice (if cX=(1:Int).toNat then cV else nK (·.add ((1:Int).toNat * 1)) cV) ao.length (cX - (1:Int).toNat)) rfl rfl rfl rfl (fun _=>ZG (Runs.slc (sz:=1) (a:=1) (b:=(↑(gq.length):Int)) rfl rfl (.inl ⟨_,rfl,rfl⟩) (.inr ⟨rfl,rfl⟩) zC zD su sw sC (iU).cap) (by rw [tL])) ?_
 generalize hA_A761:(if cX=(1:Int).toNat then cV else nK (·.add ((1:Int).toNat * 1)) cV)=ax at cu ⊢
 generalize hc_c762:cX - (1:Int).toNat=az at cu ⊢
 refine zw ?_ ?_
 refine zo (pv:=[(0,jV 1),(1,jV 2)]) (zs:=[jV 0,jV 0]) (cs:=[jV 1,jV 2]) Z Z Z Z Z (wAD Z (wAD Z wAM)) zC zD zt Z Z Z Z Z cj ?_
 intro lq bL rh
 let c8:Res:=.row (some ⟨bL,0,none⟩) 2 3 1 (hD KL.encI [1,2])
 have i9:sW w U am [c8,ag,B0,.blk ac 37 af,ai] lq:=rh
 refine zw ?_ ?_
 let dB:List Value:=[.slice av an.length ay,.slice ax ao.length az]
 refine zo (pv:=[(0,.slice av an.length ay),(1,.slice ax ao.length az)]) (zs:=[.slice none 0 0,.slice none 0 0]) (cs:=dB) Z Z Z Z Z (wAD Z (wAD Z wAM)) ZK zZ YA Z Z Z Z Z i9 ?_
 intro lu dJ ri
 have tQ:RlL am wEX [an,ao] dB:=(RlL.cons (R:=wEX) (x:=an) (vs:=[.slice av an.length ay]) ⟨av,ay,rfl,cr⟩ (RlL.cons (R:=wEX) (x:=ao) (vs:=[.slice ax ao.length az]) ⟨ax,az,rfl,cu⟩ RlL.nil))
 let gC:Res:=.row (some ⟨dJ,0,none⟩) 2 41 1 dB
 have rj:sW w U am [gC,c8,ag,B0,.blk ac 37 af,ai] lu:=ri
 let eK:List Value:=[jV (↑aq.length:Int),.slice (some ⟨bL,0,none⟩) 2 2,.slice (some ⟨dJ,0,none⟩) 2 2]
 let gD:List Value:=[jV 0,.slice none 0 0,.slice none 0 0]
 refine oR Z (zu (pv:=[(0,jV (↑aq.length:Int)),(1,.slice (some ⟨bL,0,none⟩) 2 2),(2,.slice (some ⟨dJ,0,none⟩) 2 2)]) (z:=gD) (cs:=eK) Z (wAD Z (wAD Z (wAD Z wAM))) yZ wFa Z Z) (zW (cs:=gD) Z Z Z Z Z yZ Z rj ?_)
 intro vh il rk
 refine zX (j:=0) (vs:=eK) Z Z Z Z rk Z Z Z Z yI (zA Z) Z Z Z ?_
 intro lv rn
 have ro:sW w U am [.blk il 69 eK,gC,c8,ag,B0,.blk ac 37 af,ai] lv:=rn
 refine zg ?_
 cases cM
 exact zI ⟨rfl,⟨am,il,(some ⟨bL,0,none⟩),2,(some ⟨dJ,0,none⟩),2,dB,br,cG,bA,cH,rfl,rfl,cg,ci,bB,(zN _),(ro.pick [3,4,5,0,2,1,6] _ (by decide) rfl),tQ⟩⟩
 let eM:List Value:=[jV 0,.slice none 0 0,.slice none 0 0]
 refine zW (cs:=eM) Z Z Z Z Z yZ Z i9 ?_
 intro vi fy rq
 let dC:List Value:=[.slice av an.length ay,.slice ax ao.length az]
 refine zo (pv:=[(0,.slice av an.length ay),(1,.slice ax ao.length az)]) (zs:=[.slice none 0 0,.slice none 0 0]) (cs:=dC) Z Z Z Z Z (wAD Z (wAD Z wAM)) ZK zZ YA Z Z Z Z Z rq ?_
 intro lw dK rv
 have tR:RlL am wEX [an,ao] dC:=(RlL.cons (R:=wEX) (x:=an) (vs:=[.slice av an.length ay]) ⟨av,ay,rfl,cr⟩ (RlL.cons (R:=wEX) (x:=ao) (vs:=[.slice ax ao.length az]) ⟨ax,az,rfl,cu⟩ RlL.nil))
 let gE:Res:=.row (some ⟨dK,0,none⟩) 2 41 1 dC
 have rx:sW w U am [gE,.blk fy 69 eM,c8,ag,B0,.blk ac 37 af,ai] lw:=rv
 let eO:List Value:=[jV (↑aq.length:Int),.slice (some ⟨bL,0,none⟩) 2 2,.slice (some ⟨dK,0,none⟩) 2 2]
 refine oR Z (zu (pv:=[(0,jV (↑aq.length:Int)),(1,.slice (some ⟨bL,0,none⟩) 2 2),(2,.slice (some ⟨dK,0,none⟩) 2 2)]) (z:=eM) (cs:=eO) Z (wAD Z (wAD Z (wAD Z wAM))) yZ wFa Z Z) (zX (j:=1) (vs:=eO) Z Z Z Z rx Z Z Z Z yI (zA Z) Z Z Z ?_)
 intro lx ry
 have rz:sW w U am [gE,.blk fy 69 eO,c8,ag,B0,.blk ac 37 af,ai] lx:=ry
 refine zg ?_
 cases cM
 exact zI ⟨rfl,⟨am,fy,(some ⟨bL,0,none⟩),2,(some ⟨dK,0,none⟩),2,dC,br,cG,bA,cH,rfl,rfl,cg,ci,bB,(zN _),(rz.pick [3,4,5,1,2,0,6] _ (by decide) rfl),tR⟩⟩
 refine zw ?_ ?_
 let da:List Value:=[.slice av an.length ay,.slice ax ao.length az]
 refine zo (pv:=[(0,.slice av an.length ay),(1,.slice ax ao.length az)]) (zs:=[.slice none 0 0,.slice none 0 0]) (cs:=da) Z Z Z Z Z (wAD Z (wAD Z wAM)) ZK zZ YA Z Z Z Z Z cj ?_
 intro ly bM rC
 have jp:RlL am wEX [an,ao] da:=(RlL.cons (R:=wEX) (x:=an) (vs:=[.slice av an.length ay]) ⟨av,ay,rfl,cr⟩ (RlL.cons (R:=wEX) (x:=ao) (vs:=[.slice ax ao.length az]) ⟨ax,az,rfl,cu⟩ RlL.nil))
 let db:Res:=.row (some ⟨bM,0,none⟩) 2 41 1 da
 have jb:sW w U am [db,ag,B0,.blk ac 37 af,ai] ly:=rC
 refine zw ?_ ?_
 refine zo (pv:=[(0,jV 1),(1,jV 2)]) (zs:=[jV 0,jV 0]) (cs:=[jV 1,jV 2]) Z Z Z Z Z (wAD Z (wAD Z wAM)) zC zD zt Z Z Z Z Z jb ?_
 intro lz dL rD
 let gF:Res:=.row (some ⟨dL,0,none⟩) 2 3 1 (hD KL.encI [1,2])
 have rE:sW w U am [gF,db,ag,B0,.blk ac 37 af,ai] lz:=rD
 let eQ:List Value:=[jV (↑aq.length:Int),.slice (some ⟨dL,0,none⟩) 2 2,.slice (some ⟨bM,0,none⟩) 2 2]
 let gG:List Value:=[jV 0,.slice none 0 0,.slice none 0 0]
 refine oR Z (zu (pv:=[(0,jV (↑aq.length:Int)),(1,.slice (some ⟨dL,0,none⟩) 2 2),(2,.slice (some ⟨bM,0,none⟩) 2 2)]) (z:=gG) (cs:=eQ) Z (wAD Z (wAD Z (wAD Z wAM))) yZ wFa Z Z) (zW (cs:=gG) Z Z Z Z Z yZ Z rE ?_)
 intro vj im rF
 refine zX (j:=0) (vs:=eQ) Z Z Z Z rF Z Z Z Z yI (zA Z) Z Z Z ?_
 intro lA rG
 have rH:sW w U am [.blk im 69 eQ,gF,db,ag,B0,.blk ac 37 af,ai] lA:=rG
 refine zg ?_
 cases cM
 exact zI ⟨rfl,⟨am,im,(some ⟨dL,0,none⟩),2,(some ⟨bM,0,none⟩),2,da,br,cG,bA,cH,rfl,rfl,cg,ci,bB,(zN _),(rH.pick [3,4,5,0,1,2,6] _ (by decide) rfl),jp⟩⟩
 let eU:List Value:=[jV 0,.slice none 0 0,.slice none 0 0]
 refine zW (cs:=eU) Z Z Z Z Z yZ Z jb ?_
 intro vk fz rI
 refine zo (pv:=[(0,jV 1),(1,jV 2)]) (zs:=[jV 0,jV 0]) (cs:=[jV 1,jV 2]) Z Z Z Z Z (wAD Z (wAD Z wAM)) zC zD zt Z Z Z Z Z rI ?_
 intro lB dM rJ
 let gH:Res:=.row (some ⟨dM,0,none⟩) 2 3 1 (hD KL.encI [1,2])
 have rK:sW w U am [gH,.blk fz 69 eU,db,ag,B0,.blk ac 37 af,ai] lB:=rJ
 let eV:List Value:=[jV (↑aq.length:Int),.slice (some ⟨dM,0,none⟩) 2 2,.slice (some ⟨bM,0,none⟩) 2 2]
 refine oR Z (zu (pv:=[(0,jV (↑aq.length:Int)),(1,.slice (some ⟨dM,0,none⟩) 2 2),(2,.slice (some ⟨bM,0,none⟩) 2 2)]) (z:=eU) (cs:=eV) Z (wAD Z (wAD Z (wAD Z wAM))) yZ wFa Z Z) (zX (j:=1) (vs:=eV) Z Z Z Z rK Z Z Z Z yI (zA Z) Z Z Z ?_)
 intro lC rL
 have rM:sW w U am [gH,.blk fz 69 eV,db,ag,B0,.blk ac 37 af,ai] lC:=rL
 refine zg ?_
 cases cM
 exact zI ⟨rfl,⟨am,fz,(some ⟨dM,0,none⟩),2,(some ⟨bM,0,none⟩),2,da,br,cG,bA,cH,rfl,rfl,cg,ci,bB,(zN _),(rM.pick [3,4,5,1,0,2,6] _ (by decide) rfl),jp⟩⟩
 let bI:List Value:=[jV 0,.slice none 0 0,.slice none 0 0]
 refine zW (cs:=bI) Z Z Z Z Z yZ Z cj ?_
 intro vl bx jc
 refine zw ?_ ?_
 refine zo (pv:=[(0,jV 1),(1,jV 2)]) (zs:=[jV 0,jV 0]) (cs:=[jV 1,jV 2]) Z Z Z Z Z (wAD Z (wAD Z wAM)) zC zD zt Z Z Z Z Z jc ?_
 intro lE dN rN
 let eW:Res:=.row (some ⟨dN,0,none⟩) 2 3 1 (hD KL.encI [1,2])
 have rP:sW w U am [eW,.blk bx 69 bI,ag,B0,.blk ac 37 af,ai] lE:=rN
 let dD:List Value:=[.slice av an.length ay,.slice ax ao.length az]
 refine zo (pv:=[(0,.slice av an.length ay),(1,.slice ax ao.length az)]) (zs:=[.slice none 0 0,.slice none 0 0]) (cs:=dD) Z Z Z Z Z (wAD Z (wAD Z wAM)) ZK zZ YA Z Z Z Z Z rP ?_
 intro lF dO rQ
 have tS:RlL am wEX [an,ao] dD:=(RlL.cons (R:=wEX) (x:=an) (vs:=[.slice av an.length ay]) ⟨av,ay,rfl,cr⟩ (RlL.cons (R:=wEX) (x:=ao) (vs:=[.slice ax ao.length az]) ⟨ax,az,rfl,cu⟩ RlL.nil))
 let gI:Res:=.row (some ⟨dO,0,none⟩) 2 41 1 dD
 have rT:sW w U am [gI,eW,.blk bx 69 bI,ag,B0,.blk ac 37 af,ai] lF:=rQ
 let eX:List Value:=[jV (↑aq.length:Int),.slice (some ⟨dN,0,none⟩) 2 2,.slice (some ⟨dO,0,none⟩) 2 2]
 refine oR Z (zu (pv:=[(0,jV (↑aq.length:Int)),(1,.slice (some ⟨dN,0,none⟩) 2 2),(2,.slice (some ⟨dO,0,none⟩) 2 2)]) (z:=bI) (cs:=eX) Z (wAD Z (wAD Z (wAD Z wAM))) yZ wFa Z Z) (zX (j:=2) (vs:=eX) Z Z Z Z rT Z Z Z Z yI (zA Z) Z Z Z ?_)
 intro lG rV
 have rW:sW w U am [gI,eW,.blk bx 69 eX,ag,B0,.blk ac 37 af,ai] lG:=rV
 refine zg ?_
 cases cM
 exact zI ⟨rfl,⟨am,bx,(some ⟨dN,0,none⟩),2,(some ⟨dO,0,none⟩),2,dD,br,cG,bA,cH,rfl,rfl,cg,ci,bB,(zN _),(rW.pick [3,4,5,2,1,0,6] _ (by decide) rfl),tS⟩⟩
 let dE:List Value:=[.slice av an.length ay,.slice ax ao.length az]
 refine zo (pv:=[(0,.slice av an.length ay),(1,.slice ax ao.length az)]) (zs:=[.slice none 0 0,.slice none 0 0]) (cs:=dE) Z Z Z Z Z (wAD Z (wAD Z wAM)) ZK zZ YA Z Z Z Z Z jc ?_
 intro lH dP rY
 have tT:RlL am wEX [an,ao] dE:=(RlL.cons (R:=wEX) (x:=an) (vs:=[.slice av an.length ay]) ⟨av,ay,rfl,cr⟩ (RlL.cons (R:=wEX) (x:=ao) (vs:=[.slice ax ao.length az]) ⟨ax,az,rfl,cu⟩ RlL.nil))
 let eY:Res:=.row (some ⟨dP,0,none⟩) 2 41 1 dE
 have rZ:sW w U am [eY,.blk bx 69 bI,ag,B0,.blk ac 37 af,ai] lH:=rY
 refine zo (pv:=[(0,jV 1),(1,jV 2)]) (zs:=[jV 0,jV 0]) (cs:=[jV 1,jV 2]) Z Z Z Z Z (wAD Z (wAD Z wAM)) zC zD zt Z Z Z Z Z rZ ?_
 intro lI dQ r7
 let gJ:Res:=.row (some ⟨dQ,0,none⟩) 2 3 1 (hD KL.encI [1,2])
 have r8:sW w U am [gJ,eY,.blk bx 69 bI,ag,B0,.blk ac 37 af,ai] lI:=r7
 let eZ:List Value:=[jV (↑aq.length:Int),.slice (some ⟨dQ,0,none⟩) 2 2,.slice (some ⟨dP,0,none⟩) 2 2]
 refine oR Z (zu (pv:=[(0,jV (↑aq.length:Int)),(1,.slice (some ⟨dQ,0,none⟩) 2 2),(2,.slice (some ⟨dP,0,none⟩) 2 2)]) (z:=bI) (cs:=eZ) Z (wAD Z (wAD Z (wAD Z wAM))) yZ wFa Z Z) (zX (j:=2) (vs:=eZ) Z Z Z Z r8 Z Z Z Z yI (zA Z) Z Z Z ?_)
 intro lJ r9
 have sc:sW w U am [gJ,eY,.blk bx 69 eZ,ag,B0,.blk ac 37 af,ai] lJ:=r9
 refine zg ?_
 cases cM
 exact zI ⟨rfl,⟨am,bx,(some ⟨dQ,0,none⟩),2,(some ⟨dP,0,none⟩),2,dE,br,cG,bA,cH,rfl,rfl,cg,ci,bB,(zN _),(sc.pick [3,4,5,2,0,1,6] _ (by decide) rfl),tT⟩⟩
 rintro wn fq ⟨u9,bj,c6,dm,cx,cD,dT,mj,ml,dW,mm,it,mn,mo,mp,mq,f7,je,oP⟩
 refine sR (.fl 0 (.fx 1 (wHD (.nil)) .stop)) Z ?_
 let bv:List Value:=[jV (↑aq.length:Int),.slice c6 cN.length dm,.slice cx d5.length cD]
 refine oL Z (je.ldBA (j:=3) Z Z mn Tryz.isAgg69 yI (vs:=bv) Z Z) ?_
 have q:=je.freezeR (k:=4) (n:=cN.length) rfl (wAC (f:=KL.encI) (sz:=1) (fun _=>rfl) cN) (by decide)
 obtain ⟨j7,ew,ug,sf⟩:=q
 have sg:sW w U j7 [ag,B0,.blk ac 37 af,.blk bj 69 bv,.row cx cD 41 1 dT,ai] fq:=sf
 have oS:=oP.le ew
 have q:=sg.freezeRR (R:=wEX) (k:=4) rfl oS rfl (by decide)
 obtain ⟨gZ,eA,uh,sh⟩:=q
 have sj:sW w U gZ [ag,B0,.blk ac 37 af,.blk bj 69 bv,ai] fq:=sh
 have oU:=ug.le eA
 have q:=bnd jm
 obtain ⟨⟨cY,uJ⟩,oV,jo⟩:=q
 try dsimp only at jo
 refine zH 0 Z Z Z Z (zG Z Z Tryz.call19 (zB Z zO) Z) sj (fun hs=>wHd (⟨(↑aq.length:Int),cN,d5⟩:wAT) c6 dm cx cD fq gZ hs oU uh oV) (.inr Z) ?_
 rintro g6 u5 vY ft f8 sk ⟨dA,dS,rfl,rfl⟩
 have jf:sW w U g6 [.row dA dS 75 4 (hD wAc cY),ag,B0,.blk ac 37 af,.blk bj 69 bv,ai] ft:=sk
 refine oM Z Z (oR Z (zV Z Z (v:=.slice dA cY.length dS) Z) (oR Z (zV Z Z (v:=jV uJ) Z) (oA Z Z (oA Z Z (eN (zL (sR fL2 Z (oM Z Z (oR Z (Zk Z Z Z) (eN (ifc jo ?_ ?_)))))))))))
 intro fG tH
 refine zy (ZM (fun h=>h fG.out)) (kN (sR gFo Z (oM Z Z (oR Z (YD Z zO (zB dW zO)) ?_))))
 have q:=jf.freezeR (k:=0) (n:=cY.length) rfl (wAC (f:=wAc) (sz:=4) (fun _=>rfl) cY) (by decide)
 obtain ⟨fj,f9,jv,sl⟩:=q
 have sm:sW w U fj [ag,B0,.blk ac 37 af,.blk bj 69 bv,ai] ft:=sl
 have oW:=fK.le cP
 have oX:=oW.le cQ
 have oY:=oX.le cR
 have oZ:=oY.le cS
 have o0:=oZ.le cq
 have o3:=o0.le eu
 have o5:=o3.le f7
 have o6:=o5.le ew
 have o7:=o6.le eA
 have o8:=o7.le f8
 have iV:=o8.le f9
 have pB:FnOK Tryz.prog fj (.func (.func 21) #[] #[.pointer (some ⟨bf,0,none⟩)]) ar76 rr76 (fun x=>wAt x aU):=⟨21,[],[.pointer (some ⟨bf,0,none⟩)],rfl,Tryz.call21,fun U1 w1 x y vs le hs ha hm=>by obtain rfl:=ha;exact wEN x aU bf w1 U1 hs (iV.le le) hm⟩
 refine bnK tH fun uK o9 tI=>zH 0 Z Z Z Z (zG Z Z Tryz.call20 (zB Z (zB Z zO)) Z) sm (fun hs=>wBd cY dA dS (fun x=>wAt x aU) (.func (.func 21) #[] #[.pointer (some ⟨bf,0,none⟩)]) ft fj hs jv pB o9) (.inr Z) ?_
 rintro df u7 v2 fu eB sn ⟨rfl,rfl⟩
 have sq:sW w U df [ag,B0,.blk ac 37 af,.blk bj 69 bv,ai] fu:=sn
 refine yB rfl rfl rfl rfl rfl rfl (eN (zL (ZF ZB [3,3,1,1,3,3,1,3,3,1,1,3,3,1,3,3] fL16 (by kernel_rfl) ?_)))
 have bC:=sq.drew
 generalize hw_W987:({ fu with drawn:=fu.drawn + 1 }:World)=lK at bC ⊢
 refine oM Z it (bnK tI fun jJ iW tJ=>?_)
 have pd:=fL.le eu
 have pe:=pd.le f7
 have pf:=pe.le ew
 have pg:=pf.le eA
 have ph:=pg.le f8
 have pj:=ph.le f9
 have iX:=pj.le eB
 have q:=iX.el (wAX iW)
 obtain ⟨lR,uy,wa,pk,fN,tM⟩:=q
 obtain ⟨jD,jF,rfl,ms⟩:=tM
 replace fN:Cl df lR (uy + 0 * 1) [.slice jD jJ.length jF]:=fN
 refine oR Z (ZR Z Z pk Z ZK zZ (wBA iW)) (oL Z (bC.ldC (f:=0) fN (v:=.slice jD jJ.length jF) Z Z zj Z) ?_)
 have iu:=iV.le eB
 refine oL Z (bC.ldC (f:=0) iu (v:=jV aU) Z dW zF Z) (oR Z (za Z Z Z) (bnK tJ fun gg fH sH=>?_))
 have q:=ms.el (fun _=>rfl) (wAX fH)
 obtain ⟨vm,vD,pm,pu⟩:=q
 refine oR Z (Ze Z Z pm Z zC zD (wBt fH) (wBy fH)) (oL Z (bC.ldC (f:=0) pu (v:=jV gg) Z Z zF Z) (oM Z it (bnK sH fun jH iv sI=>?_)))
 have q:=iX.el (wAX iv)
 obtain ⟨lM,uv,wb,pn,fO,tN⟩:=q
 obtain ⟨jE,jG,rfl,mu⟩:=tN
 replace fO:Cl df lM (uv + 1 * 1) [.slice jE jH.length jG]:=fO
 refine oR Z (ZR Z Z pn Z ZK zZ (wBA iv)) (oL Z (bC.ldC (f:=0) fO (v:=.slice jE jH.length jG) Z Z zj Z) (oL Z (bC.ldC (f:=0) iu (v:=jV aU) Z dW zF Z) (oR Z (za Z Z Z) (bnK sI fun gh fI sJ=>?_))))
 have q:=mu.el (fun _=>rfl) (wAX fI)
 obtain ⟨vn,vE,po,py⟩:=q
 refine oR Z (Ze Z Z po Z zC zD (wBt fI) (wBy fI)) (oL Z (bC.ldC (f:=0) py (v:=jV gh) Z Z zF Z) (oR Z (zY Z Z Z) (oA Z Z (eN (sR gFi Z (oM Z Z ?_))))))
 have mw:=jv.le eB
 have pz:FnOK Tryz.prog df (.func (.func 22) #[] #[]) ar76 rr76 wAu:=⟨22,[],[],rfl,Tryz.call22,fun U1 w1 x y vs le hs ha hm=>by obtain rfl:=ha;exact wEO x w1 U1 hs  hm⟩
 refine bnK sJ fun uD mx sK=>zH 0 Z Z Z Z (zG Z Z Tryz.call20 (zB Z (zB Z zO)) Z) bC (fun hs=>wBd cY dA dS wAu (.func (.func 22) #[] #[]) lK df hs mw pz mx) (.inr Z) ?_
 rintro bp uL vG j8 uk pE ⟨rfl,rfl⟩
 have bm:sW w U bp [ag,B0,.blk ac 37 af,.blk bj 69 bv,ai] j8:=pE
 refine oA Z Z (eN (bnK sK fun lN jw sL=>yW (fun σ_ w_=>∃ (U_:PHeap),σ_ 5=.pointer (some ⟨ba,0,none⟩)/\σ_ 6=.slice bG cw.length bW/\σ_ 8=.pointer (some ⟨bf,0,none⟩)/\σ_ 9=.pointer (some ⟨ac,0,none⟩)/\σ_ 61=.slice (some ⟨cC,0,none⟩) ([false,true].length) 2/\σ_ 62=jV 2/\σ_ 63=jV (↑bs:Int)/\σ_ 147=.bool lN/\PHeap.Le bp U_/\sW w U U_ [ag,B0,.blk ac 37 af,.blk bj 69 bv,ai] w_) ?_ ?_))
 refine yf fun bn bi=>?_
 have bX:bn 5=.pointer (some ⟨ba,0,none⟩):=(bi 5).trans mj
 have bY:bn 6=.slice bG cw.length bW:=(bi 6).trans ml
 have bZ:bn 8=.pointer (some ⟨bf,0,none⟩):=(bi 8).trans dW
 have bk:bn 9=.pointer (some ⟨ac,0,none⟩):=(bi 9).trans mm
 have lZ:bn 18=.bool uK:=(bi 18).trans rfl
 have dU:bn 19=.bool (decide (gg < gh)):=(bi 19).trans rfl
 have l3:bn 20=.bool uD:=(bi 20).trans rfl
 have ca:bn 61=.slice (some ⟨cC,0,none⟩) ([false,true].length) 2:=(bi 61).trans mo
 have cc:bn 62=jV 2:=(bi 62).trans mp
 have cd:bn 63=jV (↑bs:Int):=(bi 63).trans mq
 clear bi
 refine rR fL18 Z (oM Z dU (oM Z Z ?_))
 by_cases bg:gg < gh
 have jg:=jw;rw [if_pos bg] at jg;replace bg:=zM bg
 refine zm Z Z Z (wT Z bg) Z lZ (rU Z (wT Z bg) (ZW Z Z) (oR Z (zT Z (Zm bg.out) Z) (oM Z Z (ifc jg ?_ ?_))))
 intro bN sM
 refine ZA Z Z Z (zU Z Z (nC bN.out) Z) (ZA Z Z Z (zU Z Z (nC bN.out) Z) (oR Z (zc Z (nC bN.out) Z) (oM Z Z (ze Z Z Z (zQ Z Z Z) (fun _=>zJ Z bk ZU Z zD) (ZE Z Z Z (zQ Z Z Z) (bm.ldB (j:=2) Z Z Z zF (v:=jV eF) Z) Z (ze Z Z Z (zQ Z Z Z) (fun _=>zY Z Z Z) (zm Z Z Z (zQ Z Z Z) Z Z (ifc sM ?_ ?_))))))))
 intro bP sN
 refine zm Z Z Z (wT Z bP) Z dU (rU Z (wT Z bP) (Runs.notP Z Z) (ze Z Z Z (zQ Z Z Z) (fun _=>zT Z (Zm bP.out) Z) (oR Z (zc Z Z Z) (zg ?_))))
 have q:=hJ sN
 obtain rfl:=q
 exact zI ⟨Z,⟨bp,bX,bY,bZ,bk,ca,cc,cd,Z,(zN _),bm⟩⟩
 intro bP sO
 refine oF Z bP (oF Z bP (ze Z Z Z (zQ Z Z Z) (fun _=>zc Z (ZM bP.out) Z) (oR Z (zc Z Z Z) (zg ?_))))
 cases sO
 exact zI ⟨Z,⟨bp,bX,bY,bZ,bk,ca,cc,cd,Z,(zN _),bm⟩⟩
 intro bN sP
 refine zm Z Z Z (zQ Z Z (nF (bN.out))) Z l3 (ze Z Z Z (zQ Z Z (nF (bN.out))) (fun _=>ZW Z Z) (oR Z (zT Z (nF (bN.out)) Z) (oM Z Z (ifc sP ?_ ?_))))
 intro aZ sQ
 refine ze Z Z Z (zQ Z Z (nC aZ.out)) (fun _=>zJ Z bk ZU Z zD) (ZE Z Z Z (zQ Z Z (nC aZ.out)) (bm.ldB (j:=2) Z Z Z zF (v:=jV eF) Z) Z (ze Z Z Z (zQ Z Z (nC aZ.out)) (fun _=>zY Z Z Z) (zm Z Z Z (zQ Z Z (nC aZ.out)) Z Z (ifc sQ ?_ ?_))))
 intro bQ sS
 refine zm Z Z Z (wT Z bQ) Z dU (rU Z (wT Z bQ) (Runs.notP Z Z) (ze Z Z Z (zQ Z Z (nC aZ.out)) (fun _=>zT Z (Zm bQ.out) Z) (oR Z (zc Z (nC aZ.out) Z) (zg ?_))))
 have q:=hJ sS
 obtain rfl:=q
 exact zI ⟨Z,⟨bp,bX,bY,bZ,bk,ca,cc,cd,Z,(zN _),bm⟩⟩
 intro bQ sT
 refine oF Z bQ (oF Z bQ (ze Z Z Z (zQ Z Z (nC aZ.out)) (fun _=>zc Z (ZM bQ.out) Z) (oR Z (zc Z (nC aZ.out) Z) (zg ?_))))
 cases sT
 exact zI ⟨Z,⟨bp,bX,bY,bZ,bk,ca,cc,cd,Z,(zN _),bm⟩⟩
 intro aZ sU
 refine ZA Z Z Z (zU Z Z (nF (aZ.out)) Z) (ZA Z Z Z (zU Z Z (nF (aZ.out)) Z) (ZA Z Z Z (zU Z Z (nF (aZ.out)) Z) (ZA Z Z Z (zU Z Z (nF (aZ.out)) Z) (ZA Z Z Z (wAi Z Z Z) (ZA Z Z Z (wAi Z Z Z) (ZA Z Z Z (zU Z Z (nF (aZ.out)) Z) (oR Z (zT Z (nF (aZ.out)) Z) (zg ?_))))))))
 cases sU
 exact zI ⟨Z,⟨bp,bX,bY,bZ,bk,ca,cc,cd,Z,(zN _),bm⟩⟩
 have jh:=jw;rw [if_neg bg] at jh;replace bg:=zM bg
 refine oF Z bg (oF Z bg (oR Z (zc Z (ZM bg.out) Z) (oM Z Z (oN Z (oN Z (oR Z (zc Z Z Z) (oM Z Z (ze Z Z Z (zQ Z Z Z) (fun _=>zJ Z bk ZU Z zD) (ZE Z Z Z (zQ Z Z Z) (bm.ldB (j:=2) Z Z Z zF (v:=jV eF) Z) Z (ze Z Z Z (zQ Z Z Z) (fun _=>zY Z Z Z) (zm Z Z Z (zQ Z Z Z) Z Z (ifc jh ?_ ?_))))))))))))
 intro bR sV
 refine zm Z Z Z (wT Z bR) Z dU (rU Z (wT Z bR) (Runs.notP Z Z) (ze Z Z Z (zQ Z Z Z) (fun _=>zT Z (Zm bR.out) Z) (oR Z (zc Z Z Z) (zg ?_))))
 have q:=hJ sV
 obtain rfl:=q
 exact zI ⟨Z,⟨bp,bX,bY,bZ,bk,ca,cc,cd,Z,(zN _),bm⟩⟩
 intro bR sX
 refine oF Z bR (oF Z bR (ze Z Z Z (zQ Z Z Z) (fun _=>zc Z (ZM bR.out) Z) (oR Z (zc Z Z Z) (zg ?_))))
 cases sX
 exact zI ⟨Z,⟨bp,bX,bY,bZ,bk,ca,cc,cd,Z,(zN _),bm⟩⟩
 rintro wj vb ⟨gK,l4,l5,l6,l7,l8,ma,mb,ir,ul,iZ⟩
 refine ifc sL ?_ ?_
 intro fA sY
 refine ZJ (ir.trans (congrArg nA fA.out)) (sR fL1 Z (oA Z Z (eN (zR (zd (zS ?_))))))
 have q:=wAZ sY
 obtain ⟨uz,sZ,lV⟩:=q
 have q:=wBB cL cK (dY uz lV)
 obtain rfl:=q
 refine zS (zd (zS ?_))
 have hE:=hJ sZ;first | subst r | cases hE
 exact ⟨rfl,_,(ZH rfl),gK,_,(iZ.pick [] _ (by decide) rfl),rfl,rfl⟩
 intro fA s3
 refine zy (ir.trans (congrArg nA (nB.2 fA.out))) (Zi (zx (zI (rR fL2 Z (oR Z (ZG (za Z mb Z) (congrArg (jV) sG.out)) (oM Z Z (zg ?_)))))))
 have q:=hJ s3
 obtain rfl:=q
 exact zI ⟨rfl,_,rfl,⟨gK,rfl,l4,l5,l6,l7,l8,ma,((((((((((((((cO.trans cP).trans cQ).trans cR).trans cS).trans cq).trans eu).trans f7).trans ew).trans eA).trans f8).trans f9).trans eB).trans uk).trans ul),(iZ.pick [0,1,2,4] _ (by decide) rfl)⟩⟩
 intro fG s4
 refine cT Z fG (sR fL1 Z (oA Z Z (eN (zR (zS (zd (zS ?_)))))))
 have q:=wAZ s4
 obtain ⟨uA,s5,lW⟩:=q
 have q:=wBB cL cK (dY uA lW)
 obtain rfl:=q
 refine zS (zd (zS ?_))
 have hE:=hJ s5;first | subst r | cases hE
 exact ⟨rfl,_,(ZH rfl),g6,_,(jf.pick [] _ (by decide) rfl),rfl,rfl⟩
 intro fE s6
 refine ZJ (nF (fE.out)) (sR fL1 Z (oA Z Z (eN (zR (zS (zd (zS ?_)))))))
 have q:=wAZ s6
 obtain ⟨uB,s7,lX⟩:=q
 have q:=wBB cL cK (dY uB lX)
 obtain rfl:=q
 refine zS (zd (zS ?_))
 have hE:=hJ s7;first | subst r | cases hE
 exact ⟨rfl,_,(ZH rfl),am,_,(i8.pick [] _ (by decide) rfl),rfl,rfl⟩
 intro bd s8
 refine oT Z bd (oT Z bd (oT Z bd (ZI Z Z Z (zU Z Z (Zm bd.out) Z) (oT Z bd (oR Z (zT Z (Zm bd.out) Z) (eN (ZJ Z (sR fL1 Z (oA Z Z (eN (zR (zS (zd (zS ?_))))))))))))))
 have q:=wAZ s8
 obtain ⟨uC,s9,lY⟩:=q
 have q:=wBB cL cK (dY uC lY)
 obtain rfl:=q
 refine zS (zd (zS ?_))
 have hE:=hJ s9;first | subst r | cases hE
 exact ⟨rfl,_,(ZH rfl),gW,_,(fS.pick [] _ (by decide) rfl),rfl,rfl⟩
 rintro ⟨⟩ wk j9 ⟨gL,mr,vp,mc,vq,vr,vt,md,vx,i2⟩ sA
 have ji:=wCE cL cK sA
 try dsimp only at ji
 have lS:Hid (¬ ((↑((2:Int) - 0).toNat:Int) < 2)):=zM (wAf)
 refine sR fL1 Z (oR Z (zY Z mr md) (eN (zL (cF Z lS (Zd (zn (zn (ZV (zI (sR (wET (.fx 4 (.fl 5 (.fl 6 .nil)) .stop)) Z (oM Z mc (oR Z (zr Z Z ZK) (oR Z (yO Z Z Z) (oM Z Z (ifc ji ?_ ?_)))))))))))))))
 intro dh ta
 refine bnK ta fun we my tb=>zH 0 Z Z Z (wT Z dh) (zG Z Z Tryz.call13 zO Z) i2 (fun hs=>wDy j9 gL hs my) (.inr Z) ?_
 rintro gM uM vH k5 vy pI ⟨rfl,rfl⟩
 have pJ:sW w U gM [ag,B0,.blk ac 37 af,ai] k5:=pI
 refine oR Z (zT Z (Zm dh.out) Z) (oA Z Z (eN (zR ?_)))
 have hE:=hJ tb;first | subst r | cases hE
 exact ⟨rfl,_,(ZH rfl),gM,_,(pJ.pick [] _ (by decide) rfl),rfl,rfl⟩
 intro dh tc
 refine ZI Z Z Z (zU Z Z (ZM dh.out) Z) (oR Z (zc Z (ZM dh.out) Z) (oA Z Z (eN (zR ?_))))
 have hE:=hJ tc;first | subst r | cases hE
 exact ⟨rfl,_,(ZH rfl),gL,_,(i2.pick [] _ (by decide) rfl),rfl,rfl⟩
 intro fB tf
 refine cT Z fB (sR fL1 Z (oA Z Z (eN (zR (zS ?_)))))
 have hE:=hJ tf;first | subst r | cases hE
 exact ⟨rfl,_,(ZH rfl),gT,_,(i6.pick [] _ (by decide) rfl),rfl,rfl⟩
end Go.Proofs.YtkghaiefcjgfkaaGreat
