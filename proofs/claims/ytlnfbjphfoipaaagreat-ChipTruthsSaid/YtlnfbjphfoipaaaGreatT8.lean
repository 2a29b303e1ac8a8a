import Derived.Test.YtlnfbjphfoipaaaGreatT7
import Derived.Test.YtlnfbjphfoipaaaGreatT6
set_option linter.all false
open List renaming flatMap->hH,getElem_cons_succ->nA,getElem_cons_zero->nB,getElem_toArray->nD,length_set->nH,set->nI
open Option.some renaming inj->nE
open Int renaming toNat_natCast->nG,eq_ofNat_of_zero_le->nL
open Go.Value renaming bool->nJ
open Bool renaming eq_false_iff->nK
namespace Go.Proofs.YtlnfbjphfoipaaaGreat
open Go.KL
def gBm:Sch:=.fx 0 (.fl 1 .nil) .stop
def gBn:Sch:=.fx 7 (.fx 8 .nil .stop) .stop
def gBo:Sch:=.fx 6 (.fx 8 .nil .stop) .stop
def gBp:Sch:=.fx 0 (.fx 1 .nil .stop) .stop
def gBq:Sch:=.fl 14 (.fx 16 .nil .stop)
def gBr:Sch:=.fl 17 (.fx 18 .nil .stop)
def gBs:Sch:=.fl 0 (.fx 1 (.fx 2 .nil .stop) .stop)
def gBt:Sch:=.fl 22 (.fl 23 (.fx 24 .nil .stop))
def gBu:Sch:=.fx 0 (.fl 1 (.fl 2 .nil)) .stop
def gBv:Sch:=.fl 0 (.fx 1 (.fl 2 .nil) .stop)
def gBw:Sch:=.fx 12 (.fx 13 (.fl 14 .nil) .stop) .stop
def gBx:Sch:=.fl 14 (.fx 15 (.fx 16 .nil .stop) .stop)
def gBy:Sch:=.fx 13 gBq .stop
def gBz:Sch:=.fl 4 (.fl 5 gBo)
def gCa:Sch:=.fx 0 (.fl 5 gBo) .stop
def gCb:Sch:=.fx 21 gBt .stop
def gCc:Sch:=.fl 0 (.fx 1 (.fl 2 (.fl 3 .nil)) .stop)
def gCd:Sch:=.fl 0 (.fl 1 (.fx 2 (.fl 3 .nil) .stop))
def gCe:Sch:=.fx 11 gBw .stop
def gCf:Sch:=.fx 10 gBw .stop
def gCg:Sch:=.fx 7 gBy .stop
def gCh:Sch:=.fl 5 (.fx 6 gBn (.fx 7 gBo .stop))
def gCi:Sch:=.fx 3 gBz .stop
def gCj:Sch:=.fx 13 gBx (.fx 15 gBy .stop)
def gCk:Sch:=.fx 6 (.fl 12 gBy) .stop
def gCl:Sch:=.fx 4 (.fx 16 gBr .stop) (.fx 16 (.fx 4 gBr .stop) .stop)
def gCm:Sch:=.fx 2 gCi .stop
def gCn:Sch:=.fx 1 gCi .stop
def gCo:Sch:=.fx 0 gCk .stop
def gCp:Sch:=.fx 3 (.fl 4 gCh) (.fx 7 gCi .stop)
def gCq:Sch:=.fl 4 (.fx 0 gCh (.fx 7 gCa .stop))
def gCr:Sch:=.fx 0 gCi (.fx 3 (.fl 4 gCa) .stop)
def gCs:Sch:=.fx 6 (.fl 12 gCj) (.fx 15 gCk .stop)
def gCt:Sch:=.fx 6 (.fl 12 gCg) (.fx 7 gCk .stop)
def gCu:Sch:=.fx 2 gCp (.fx 7 gCm .stop)
def gCv:Sch:=.fx 1 gCp (.fx 7 gCn .stop)
def gCw:Sch:=.fx 1 gCm (.fx 2 gCn .stop)
def gCx:Sch:=.fx 0 gCm (.fx 2 gCr .stop)
def gCy:Sch:=.fx 0 gCn (.fx 1 gCr .stop)
def gCz:Sch:=.fx 0 gCp (.fx 3 gCq (.fx 7 gCr .stop))
set_option maxHeartbeats 4000000
theorem wJK (p0:wAA) (ai:Option Addr) (ap:Nat) (aj:Option Addr) (aq:Nat) (ak:Option Addr) (au:Nat) (am:Option Addr) (av:Nat) (w:World) (U:PHeap) (hS:St0 w U []) (qV:Sl U 1 ai ap p0.Starts.length (hH KL.encI p0.Starts)) (qW:Sl U 2 aj aq p0.Splits.length (hH wAB p0.Splits)) (qY:Sl U 3 ak au p0.Clocks.length (hH wAD p0.Clocks)) (qZ:Sl U 4 am av p0.Readings.length (hH wAC p0.Readings)) {r:wBT} (hm:wDQ p0=some r):Gv Tryz.prog 124 [.agg #[.slice ai p0.Starts.length ap,.slice aj p0.Splits.length aq,.slice ak p0.Clocks.length au,.slice am p0.Readings.length av]] w (wCs w [] U (fun U_ L_ v=>∃ (b0:Nat) (A0p00:Option Addr) (c0p00:Nat) (A0p01:Option Addr) (c0p01:Nat) (A0p02:Option Addr) (c0p02:Nat) (A0p03:Option Addr) (c0p03:Nat) (m0p1:Nat) (es0p1:Array MapEntry) (ck0p1:Nat) (A0p2:Option Addr) (c0p2:Nat),v=.pointer (some ⟨b0,0,none⟩)/\L_=[.blk b0 139 [.slice A0p00 r.Race.Starts.length c0p00,.slice A0p01 r.Race.Splits.length c0p01,.slice A0p02 r.Race.Clocks.length c0p02,.slice A0p03 r.Race.Readings.length c0p03,.map (some m0p1),.slice A0p2 r.edges.length c0p2],.obj m0p1 (.map es0p1 ck0p1),.row A0p2 c0p2 184 7 (hH wAS r.edges)]/\Sl U_ 1 A0p00 c0p00 r.Race.Starts.length (hH KL.encI r.Race.Starts)/\Sl U_ 2 A0p01 c0p01 r.Race.Splits.length (hH wAB r.Race.Splits)/\Sl U_ 3 A0p02 c0p02 r.Race.Clocks.length (hH wAD r.Race.Clocks)/\Sl U_ 4 A0p03 c0p03 r.Race.Readings.length (hH wAC r.Race.Readings)/\MpR es0p1 wBf wBo r.number)):=by
 unfold wDQ at hm
 refine Go.KX.Gv.ofM Tryz.func124 Z Tryz.ntmps124 Tryz.results124 (zA Z) (sR gBm Z ?_)
 let B0:List Value:=[.slice ai p0.Starts.length ap,.slice aj p0.Splits.length aq,.slice ak p0.Clocks.length au,.slice am p0.Readings.length av]
 refine ZH (cs:=B0) rfl rfl rfl rfl rfl rfl (by rfl) hS ?_
 intro W1 b2 qe
 refine oA Z Z (eN (bnK hm fun jl rL rj=>yY (fun σ_ w_=>∃ (U_:PHeap) (b6:Nat) (b8:Nat) (ah:Nat) (cr:Array MapEntry) (dh:Nat),σ_ 1=.pointer (some ⟨b2,0,none⟩)/\σ_ 3=.pointer (some ⟨b6,0,none⟩)/\PHeap.Le U U_/\sW w U U_ [.blk b2 27 B0,.blk b6 118 [.pointer (some ⟨b8,0,none⟩)],.blk b8 139 [.slice ai p0.Starts.length ap,.slice aj p0.Splits.length aq,.slice ak p0.Clocks.length au,.slice am p0.Readings.length av,.map (some ah),.slice none 0 0],.obj ah (.map cr dh)] w_/\MpR cr wBf wBo jl) ?_ ?_))
 refine bnK rL fun x22 bt rq=>zy zu [2,2,2,0,3,3,2,2,0] (.fx 0 (.fx 1 gCu (.fx 2 gCv (.fx 7 gCw .stop))) (.fx 1 (.fx 0 gCu (.fx 2 gCz (.fx 7 gCx .stop))) (.fx 2 (.fx 0 gCv (.fx 1 gCz (.fx 7 gCy .stop))) (.fx 7 (.fx 0 gCw (.fx 1 gCx (.fx 2 gCy .stop))) .stop)))) (by kernel_rfl) ?_
 have bv:=qe.drew
 generalize hw_W51:({ W1 with drawn:=W1.drawn + 1 }:World)=gp at bv ⊢
 refine ZC (s:=.nil) (M:=fun σ_ w_=>∃ (U_:PHeap) (cR:Nat) (b5:Nat) (bw:Nat) (dv:Array MapEntry) (eg:Nat),σ_ 1=.pointer (some ⟨b2,0,none⟩)/\σ_ 3=.pointer (some ⟨cR,0,none⟩)/\σ_ 12=.agg B0.toArray/\σ_ 13=.map (some bw)/\σ_ 14=.agg #[jV x22.skier,jV x22.mat]/\σ_ 15=.map (some bw)/\σ_ 16=.agg #[.slice ai p0.Starts.length ap,.slice aj p0.Splits.length aq,.slice ak p0.Clocks.length au,.slice am p0.Readings.length av,.map (some bw),.slice none 0 0]/\σ_ 17=.pointer (some ⟨b5,0,none⟩)/\PHeap.Le U U_/\sW w U U_ [.blk b2 27 B0,.blk cR 118 [.pointer (some ⟨b5,0,none⟩)],.blk b5 139 [.slice ai p0.Starts.length ap,.slice aj p0.Splits.length aq,.slice ak p0.Clocks.length au,.slice am p0.Readings.length av,.map (some bw),.slice none 0 0],.obj bw (.map dv eg)] w_/\MpR dv wBf wBo (mput ([]:List (wAE × Int)) x22 0)) ?_ fun rN=>?_
 rintro uu s7 ⟨jE,cR,b5,bw,dv,eg,ml,mn,tP,tQ,tR,tS,tT,tU,r0,qf,ou⟩
 refine zo ?_
 cases rq
 exact zH ⟨Z,⟨jE,cR,b5,bw,dv,eg,ml,mn,r0,qf,ou⟩⟩
 refine ZC (s:=.fx 8 .nil .stop) (M:=fun σ_ w_=>∃ (U_:PHeap) (b9:Nat) (bq:Nat) (cu:Array MapEntry) (dl:Nat) (bI:Nat),σ_ 1=.pointer (some ⟨b2,0,none⟩)/\σ_ 3=.pointer (some ⟨b9,0,none⟩)/\σ_ 12=.agg B0.toArray/\σ_ 13=.map (some bq)/\σ_ 14=.agg #[jV x22.skier,jV x22.mat]/\σ_ 15=.map (some bq)/\σ_ 16=.agg #[.slice ai p0.Starts.length ap,.slice aj p0.Splits.length aq,.slice ak p0.Clocks.length au,.slice am p0.Readings.length av,.map (some bq),.slice none 0 0]/\σ_ 17=.pointer (some ⟨bI,0,none⟩)/\PHeap.Le U U_/\sW w U U_ [.blk b2 27 B0,.blk b9 118 [.pointer none],.obj bq (.map cu dl),.blk bI 139 [.slice ai p0.Starts.length ap,.slice aj p0.Splits.length aq,.slice ak p0.Clocks.length au,.slice am p0.Readings.length av,.map (some bq),.slice none 0 0]] w_/\MpR cu wBf wBo (mput ([]:List (wAE × Int)) x22 0)) ?_ fun dO=>?_
 rintro uv s8 ⟨fU,b9,bq,cu,dl,bI,mo,gW,mp,mq,mr,ms,mu,gX,r6,qh,ow⟩
 let B1:List Value:=[.pointer (some ⟨bI,0,none⟩)]
 refine zW (j:=1) (vs:=B1) Z Z Z Z qh Z gW gX Z Tryz.sizeOf118 (zA Z) Z Z Z ?_
 intro lu qi
 have qj:sW w U fU [.blk b2 27 B0,.blk b9 118 B1,.obj bq (.map cu dl),.blk bI 139 [.slice ai p0.Starts.length ap,.slice aj p0.Splits.length aq,.slice ak p0.Clocks.length au,.slice am p0.Readings.length av,.map (some bq),.slice none 0 0]] lu:=qi
 exact rN _ _ ⟨fU,b9,bI,bq,cu,dl,mo,gW,mp,mq,mr,ms,mu,gX,r6,(qj.pick [0,1,3,2] _ (by decide) rfl),ow⟩
 refine ZC (s:=gBo) (M:=fun σ_ w_=>∃ (U_:PHeap) (cS:Nat) (bz:Nat) (dw:Array MapEntry) (eh:Nat),σ_ 1=.pointer (some ⟨b2,0,none⟩)/\σ_ 3=.pointer (some ⟨cS,0,none⟩)/\σ_ 12=.agg B0.toArray/\σ_ 13=.map (some bz)/\σ_ 14=.agg #[jV x22.skier,jV x22.mat]/\σ_ 15=.map (some bz)/\σ_ 16=.agg #[.slice ai p0.Starts.length ap,.slice aj p0.Splits.length aq,.slice ak p0.Clocks.length au,.slice am p0.Readings.length av,.map (some bz),.slice none 0 0]/\PHeap.Le U U_/\sW w U U_ [.blk b2 27 B0,.blk cS 118 [.pointer none],.obj bz (.map dw eh)] w_/\MpR dw wBf wBo (mput ([]:List (wAE × Int)) x22 0)) ?_ fun je=>?_
 rintro uw s9 ⟨jG,cS,bz,dw,eh,mw,my,mz,mA,mB,mC,gZ,r7,qk,ox⟩
 refine ZH (cs:=[.slice ai p0.Starts.length ap,.slice aj p0.Splits.length aq,.slice ak p0.Clocks.length au,.slice am p0.Readings.length av,.map (some bz),.slice none 0 0]) rfl rfl rfl rfl rfl gZ (by rfl) qk ?_
 intro tc lR qm
 exact dO _ _ ⟨jG,cS,bz,dw,eh,lR,mw,my,mz,mA,mB,mC,gZ,rfl,r7,(qm.pick [1,2,3,0] _ (by decide) rfl),ox⟩
 refine ZC (s:=gBn) (M:=fun σ_ w_=>∃ (U_:PHeap) (bA:Nat) (dx:Array MapEntry) (ej:Nat) (cU:Nat),σ_ 1=.pointer (some ⟨b2,0,none⟩)/\σ_ 12=.agg B0.toArray/\σ_ 13=.map (some bA)/\σ_ 14=.agg #[jV x22.skier,jV x22.mat]/\σ_ 15=.map (some bA)/\σ_ 16=.agg #[.slice ai p0.Starts.length ap,.slice aj p0.Splits.length aq,.slice ak p0.Clocks.length au,.slice am p0.Readings.length av,.map (some bA),.slice none 0 0]/\σ_ 17=.pointer (some ⟨cU,0,none⟩)/\PHeap.Le U U_/\sW w U U_ [.blk b2 27 B0,.obj bA (.map dx ej),.blk cU 139 [.slice ai p0.Starts.length ap,.slice aj p0.Splits.length aq,.slice ak p0.Clocks.length au,.slice am p0.Readings.length av,.map (some bA),.slice none 0 0]] w_/\MpR dx wBf wBo (mput ([]:List (wAE × Int)) x22 0)) ?_ fun jf=>?_
 rintro ux td ⟨jH,bA,dx,ej,cU,mD,mE,mF,mG,mH,mI,mJ,r8,qn,oy⟩
 refine zS (cs:=[.pointer none]) Z Z Z Z Z Zm Z qn ?_
 intro te lS qo
 exact dO _ _ ⟨jH,lS,bA,dx,ej,cU,mD,rfl,mE,mF,mG,mH,mI,mJ,r8,(qo.pick [1,0,2,3] _ (by decide) rfl),oy⟩
 refine ZC (s:=.fl 5 gBo) (M:=fun σ_ w_=>∃ (U_:PHeap) (cV:Nat) (bB:Nat) (dy:Array MapEntry) (en:Nat),σ_ 1=.pointer (some ⟨b2,0,none⟩)/\σ_ 3=.pointer (some ⟨cV,0,none⟩)/\σ_ 12=.agg B0.toArray/\σ_ 13=.map (some bB)/\σ_ 14=.agg #[jV x22.skier,jV x22.mat]/\σ_ 15=.map (some bB)/\PHeap.Le U U_/\sW w U U_ [.blk b2 27 B0,.blk cV 118 [.pointer none],.obj bB (.map dy en)] w_/\MpR dy wBf wBo (mput ([]:List (wAE × Int)) x22 0)) ?_ fun jg=>?_
 rintro uy tf ⟨jJ,cV,bB,dy,en,mK,mL,g7,mM,mN,g8,r9,qp,oz⟩
 let B2:List Value:=[.slice ai p0.Starts.length ap,.slice aj p0.Splits.length aq,.slice ak p0.Clocks.length au,.slice am p0.Readings.length av,.map (some bB),.slice none 0 0]
 refine zm rfl rfl rfl rfl (fun _=>ZP (pv:=[(0,.agg B0.toArray),(1,.map (some bB))]) (z:=[.slice none 0 0,.slice none 0 0,.slice none 0 0,.slice none 0 0,.map none,.slice none 0 0]) (cs:=B2) rfl (wAI g7 (wAI g8 wAY)) Tryz.zeroValue139 wGJ rfl rfl) (ZH (cs:=B2) rfl rfl rfl rfl rfl rfl (by rfl) qp ?_)
 intro tg lT qq
 exact dO _ _ ⟨jJ,cV,bB,dy,en,lT,mK,mL,g7,mM,mN,g8,rfl,rfl,r9,(qq.pick [1,2,3,0] _ (by decide) rfl),oz⟩
 refine ZC (s:=gCa) (M:=fun σ_ w_=>∃ (U_:PHeap) (cW:Nat) (cb:Nat) (dz:Array MapEntry) (eu:Nat),σ_ 1=.pointer (some ⟨b2,0,none⟩)/\σ_ 3=.pointer (some ⟨cW,0,none⟩)/\σ_ 13=.map (some cb)/\σ_ 14=.agg #[jV x22.skier,jV x22.mat]/\σ_ 15=.map (some cb)/\PHeap.Le U U_/\sW w U U_ [.blk b2 27 B0,.blk cW 118 [.pointer none],.obj cb (.map dz eu)] w_/\MpR dz wBf wBo (mput ([]:List (wAE × Int)) x22 0)) ?_ fun rO=>?_
 rintro uz th ⟨jK,cW,cb,dz,eu,g9,mO,mP,mQ,mR,sb,iV,oB⟩
 exact ZQ Z Z Z Z (iV.ldBA (j:=0) Z Z g9 ZD zr (vs:=B0) Z Z) (jg _ _ ⟨jK,cW,cb,dz,eu,g9,mO,Z,mP,mQ,mR,sb,iV,oB⟩)
 refine ZC (s:=gCh) (M:=fun σ_ w_=>∃ (U_:PHeap) (bs:Nat) (cw:Array MapEntry) (dm:Nat),σ_ 1=.pointer (some ⟨b2,0,none⟩)/\σ_ 12=.agg B0.toArray/\σ_ 13=.map (some bs)/\σ_ 14=.agg #[jV x22.skier,jV x22.mat]/\σ_ 15=.map (some bs)/\PHeap.Le U U_/\sW w U U_ [.blk b2 27 B0,.obj bs (.map cw dm)] w_/\MpR cw wBf wBo (mput ([]:List (wAE × Int)) x22 0)) ?_ fun rP=>?_
 rintro uA tj ⟨fV,bs,cw,dm,ib,eG,ic,ie,eH,jq,iW,iI⟩
 let B3:List Value:=[.slice ai p0.Starts.length ap,.slice aj p0.Splits.length aq,.slice ak p0.Clocks.length au,.slice am p0.Readings.length av,.map (some bs),.slice none 0 0]
 refine oR Z (ZP (pv:=[(0,.agg B0.toArray),(1,.map (some bs))]) (z:=[.slice none 0 0,.slice none 0 0,.slice none 0 0,.slice none 0 0,.map none,.slice none 0 0]) (cs:=B3) Z (wAI eG (wAI eH wAY)) Tryz.zeroValue139 wGJ Z Z) (zl ?_ ?_)
 refine ZH (cs:=B3) rfl rfl rfl rfl rfl rfl (by rfl) iW ?_
 intro tl lU qr
 exact jf _ _ ⟨fV,bs,cw,dm,lU,ib,eG,ic,ie,eH,rfl,rfl,jq,(qr.pick [1,2,0] _ (by decide) rfl),iI⟩
 refine zS (cs:=[.pointer none]) Z Z Z Z Z Zm Z iW ?_
 intro tm lV qt
 exact je _ _ ⟨fV,lV,bs,cw,dm,ib,rfl,eG,ic,ie,eH,rfl,jq,(qt.pick [1,0,2] _ (by decide) rfl),iI⟩
 refine ZC (s:=gBz) (M:=fun σ_ w_=>∃ (U_:PHeap) (cX:Nat) (bJ:Nat) (dA:Array MapEntry) (ey:Nat),σ_ 1=.pointer (some ⟨b2,0,none⟩)/\σ_ 3=.pointer (some ⟨cX,0,none⟩)/\σ_ 12=.agg B0.toArray/\σ_ 13=.map (some bJ)/\σ_ 14=.agg #[jV x22.skier,jV x22.mat]/\PHeap.Le U U_/\sW w U U_ [.blk b2 27 B0,.blk cX 118 [.pointer none],.obj bJ (.map dA ey)] w_/\MpR dA wBf wBo (mput ([]:List (wAE × Int)) x22 0)) ?_ fun rQ=>?_
 rintro uB tn ⟨jL,cX,bJ,dA,ey,mS,mT,ig,ii,mU,sc,qu,oG⟩
 refine oM Z ii ?_
 let B4:List Value:=[.slice ai p0.Starts.length ap,.slice aj p0.Splits.length aq,.slice ak p0.Clocks.length au,.slice am p0.Readings.length av,.map (some bJ),.slice none 0 0]
 refine zm rfl rfl rfl rfl (fun _=>ZP (pv:=[(0,.agg B0.toArray),(1,.map (some bJ))]) (z:=[.slice none 0 0,.slice none 0 0,.slice none 0 0,.slice none 0 0,.map none,.slice none 0 0]) (cs:=B4) rfl (wAI ig (wAI rfl wAY)) Tryz.zeroValue139 wGJ rfl rfl) (ZH (cs:=B4) rfl rfl rfl rfl rfl rfl (by rfl) qu ?_)
 intro tp lW qv
 exact dO _ _ ⟨jL,cX,bJ,dA,ey,lW,mS,mT,ig,ii,mU,rfl,rfl,rfl,sc,(qv.pick [1,2,3,0] _ (by decide) rfl),oG⟩
 refine ZC (s:=.fl 4 gCa) (M:=fun σ_ w_=>∃ (U_:PHeap) (cY:Nat) (cZ:Nat) (dB:Array MapEntry) (eA:Nat),σ_ 1=.pointer (some ⟨b2,0,none⟩)/\σ_ 3=.pointer (some ⟨cY,0,none⟩)/\σ_ 13=.map (some cZ)/\σ_ 14=.agg #[jV x22.skier,jV x22.mat]/\PHeap.Le U U_/\sW w U U_ [.blk b2 27 B0,.blk cY 118 [.pointer none],.obj cZ (.map dB eA)] w_/\MpR dB wBf wBo (mput ([]:List (wAE × Int)) x22 0)) ?_ fun rS=>?_
 rintro uC tq ⟨jM,cY,cZ,dB,eA,ij,mV,ik,mW,sd,iX,oH⟩
 exact oM Z ik (ZQ Z Z Z Z (iX.ldBA (j:=0) Z Z ij ZD zr (vs:=B0) Z Z) (jg _ _ ⟨jM,cY,cZ,dB,eA,ij,mV,Z,ik,mW,Z,sd,iX,oH⟩))
 refine ZC (s:=gCi) (M:=fun σ_ w_=>∃ (U_:PHeap) (cd:Nat) (cf:Nat) (eE:Array MapEntry) (gx:Nat),σ_ 1=.pointer (some ⟨b2,0,none⟩)/\σ_ 3=.pointer (some ⟨cd,0,none⟩)/\σ_ 12=.agg B0.toArray/\σ_ 13=.map (some cf)/\σ_ 14=.agg #[jV x22.skier,jV x22.mat]/\PHeap.Le U U_/\sW w U U_ [.blk b2 27 B0,.blk cd 118 [.pointer none],.obj cf (.map eE gx)] w_/\MpR eE wBf wBo ([]:List (wAE × Int))) ?_ fun dP=>?_
 rintro uD tu ⟨fW,cd,cf,eE,gx,mX,mY,mZ,il,im,se,qw,oI⟩
 refine OKS.mapPut (x:=.tmp 13) (y:=.tmp 14) (j:=2) (mk:=wBf) (mv:=wBo) (a:=x22) (v:=0) rfl rfl rfl (by first | exact .inl rfl | exact .inr rfl) qw rfl il im rfl (wCO ZR) wEV oI rfl ?_
 intro gD gy lv rE qx
 have qy:sW w U fW [.blk b2 27 B0,.blk cd 118 [.pointer none],.obj cf (.map gD gy)] lv:=qx
 exact rQ _ _ ⟨fW,cd,cf,gD,gy,mX,mY,mZ,il,im,se,qy,rE⟩
 refine ZC (s:=.fl 4 gCh) (M:=fun σ_ w_=>∃ (U_:PHeap) (bD:Nat) (cx:Array MapEntry) (dp:Nat),σ_ 1=.pointer (some ⟨b2,0,none⟩)/\σ_ 12=.agg B0.toArray/\σ_ 13=.map (some bD)/\σ_ 14=.agg #[jV x22.skier,jV x22.mat]/\PHeap.Le U U_/\sW w U U_ [.blk b2 27 B0,.obj bD (.map cx dp)] w_/\MpR cx wBf wBo (mput ([]:List (wAE × Int)) x22 0)) ?_ fun rT=>?_
 rintro uE tv ⟨fY,bD,cx,dp,io,eI,eJ,ip,jr,iY,iJ⟩
 refine oM Z eJ ?_
 let B5:List Value:=[.slice ai p0.Starts.length ap,.slice aj p0.Splits.length aq,.slice ak p0.Clocks.length au,.slice am p0.Readings.length av,.map (some bD),.slice none 0 0]
 refine oR Z (ZP (pv:=[(0,.agg B0.toArray),(1,.map (some bD))]) (z:=[.slice none 0 0,.slice none 0 0,.slice none 0 0,.slice none 0 0,.map none,.slice none 0 0]) (cs:=B5) Z (wAI eI (wAI Z wAY)) Tryz.zeroValue139 wGJ Z Z) (zl ?_ ?_)
 refine ZH (cs:=B5) rfl rfl rfl rfl rfl rfl (by rfl) iY ?_
 intro tw lX qz
 exact jf _ _ ⟨fY,bD,cx,dp,lX,io,eI,eJ,ip,rfl,rfl,rfl,jr,(qz.pick [1,2,0] _ (by decide) rfl),iJ⟩
 refine zS (cs:=[.pointer none]) Z Z Z Z Z Zm Z iY ?_
 intro tz lY qA
 exact je _ _ ⟨fY,lY,bD,cx,dp,io,rfl,eI,eJ,ip,rfl,rfl,jr,(qA.pick [1,0,2] _ (by decide) rfl),iJ⟩
 refine ZC (s:=gCr) (M:=fun σ_ w_=>∃ (U_:PHeap) (bK:Nat) (bL:Nat) (dC:Array MapEntry) (eC:Nat),σ_ 1=.pointer (some ⟨b2,0,none⟩)/\σ_ 3=.pointer (some ⟨bK,0,none⟩)/\σ_ 13=.map (some bL)/\σ_ 14=.agg #[jV x22.skier,jV x22.mat]/\PHeap.Le U U_/\sW w U U_ [.blk b2 27 B0,.blk bK 118 [.pointer none],.obj bL (.map dC eC)] w_/\MpR dC wBf wBo ([]:List (wAE × Int))) ?_ fun ft=>?_
 rintro uF tA ⟨d7,bK,bL,dC,eC,eK,iq,eL,eM,jt,fc,iK⟩
 refine zl ?_ ?_
 exact ZQ Z Z Z Z (fc.ldBA (j:=0) Z Z eK ZD zr (vs:=B0) Z Z) (dP _ _ ⟨d7,bK,bL,dC,eC,eK,iq,Z,eL,eM,jt,fc,iK⟩)
 refine OKS.mapPut (x:=.tmp 13) (y:=.tmp 14) (j:=2) (mk:=wBf) (mv:=wBo) (a:=x22) (v:=0) rfl rfl rfl (by first | exact .inl rfl | exact .inr rfl) fc rfl eL eM rfl (wCO ZR) wEV iK rfl ?_
 intro gE gz lw rF qB
 have qC:sW w U d7 [.blk b2 27 B0,.blk bK 118 [.pointer none],.obj bL (.map gE gz)] lw:=qB
 exact rS _ _ ⟨d7,bK,bL,gE,gz,eK,iq,eL,eM,jt,qC,rF⟩
 refine ZC (s:=gCq) (M:=fun σ_ w_=>∃ (U_:PHeap) (cg:Nat) (cy:Array MapEntry) (dq:Nat),σ_ 1=.pointer (some ⟨b2,0,none⟩)/\σ_ 13=.map (some cg)/\σ_ 14=.agg #[jV x22.skier,jV x22.mat]/\PHeap.Le U U_/\sW w U U_ [.blk b2 27 B0,.obj cg (.map cy dq)] w_/\MpR cy wBf wBo (mput ([]:List (wAE × Int)) x22 0)) ?_ fun rV=>?_
 rintro uG tB ⟨fZ,cg,cy,dq,eO,eP,ir,ju,fd,iL⟩
 refine oM Z eP (zl ?_ ?_)
 exact ZQ Z Z Z Z (fd.ldBA (j:=0) Z Z eO ZD zr (vs:=B0) Z Z) (rP _ _ ⟨fZ,cg,cy,dq,eO,Z,eP,ir,Z,ju,fd,iL⟩)
 refine zS (cs:=[.pointer none]) Z Z Z Z Z Zm Z fd ?_
 intro tC lZ qD
 exact rO _ _ ⟨fZ,lZ,cg,cy,dq,eO,rfl,eP,ir,rfl,ju,(qD.pick [1,0,2] _ (by decide) rfl),iL⟩
 refine ZC (s:=gCn) (M:=fun σ_ w_=>∃ (U_:PHeap) (da:Nat),σ_ 1=.pointer (some ⟨b2,0,none⟩)/\σ_ 3=.pointer (some ⟨da,0,none⟩)/\σ_ 12=.agg B0.toArray/\σ_ 14=.agg #[jV x22.skier,jV x22.mat]/\PHeap.Le U U_/\sW w U U_ [.blk b2 27 B0,.blk da 118 [.pointer none]] w_) ?_ fun fu=>?_
 rintro uH tD ⟨jN,da,m0,m4,m5,m6,sf,qE⟩
 refine OKS.makeMap Z Z Z Z Z qE ?_
 intro tE l3 qF
 have rG:=MpR.nil wBf wBo
 exact dP _ _ ⟨jN,da,l3,#[],0,m0,m4,m5,rfl,m6,sf,(qF.pick [1,2,0] _ (by decide) rfl),rG⟩
 refine ZC (s:=gCm) (M:=fun σ_ w_=>∃ (U_:PHeap) (cj:Nat) (cm:Nat) (cz:Array MapEntry) (dr:Nat),σ_ 1=.pointer (some ⟨b2,0,none⟩)/\σ_ 3=.pointer (some ⟨cj,0,none⟩)/\σ_ 12=.agg B0.toArray/\σ_ 13=.map (some cm)/\PHeap.Le U U_/\sW w U U_ [.blk b2 27 B0,.blk cj 118 [.pointer none],.obj cm (.map cz dr)] w_/\MpR cz wBf wBo ([]:List (wAE × Int))) ?_ fun fw=>?_
 rintro uI lx ⟨jO,cj,cm,cz,dr,m7,m8,m9,n5,sg,qG,oK⟩
 refine zI 0 Z Z Z Z (zJ Z Z yS zP Z) qG (fun hs=>wBk lx jO hs bt) (.inr Z) ?_
 rintro ga sE uf ly sh qH ⟨rfl,rfl⟩
 have qI:sW w U ga [.blk b2 27 B0,.blk cj 118 [.pointer none],.obj cm (.map cz dr)] ly:=qH
 exact dP _ _ ⟨ga,cj,cm,cz,dr,m7,m8,m9,n5,Z,(sg.trans sh),qI,oK⟩
 refine ZC (s:=gCp) (M:=fun σ_ w_=>∃ (U_:PHeap) (bM:Nat) (dD:Array MapEntry) (eD:Nat),σ_ 1=.pointer (some ⟨b2,0,none⟩)/\σ_ 12=.agg B0.toArray/\σ_ 13=.map (some bM)/\σ_ 14=.agg #[jV x22.skier,jV x22.mat]/\PHeap.Le U U_/\sW w U U_ [.blk b2 27 B0,.obj bM (.map dD eD)] w_/\MpR dD wBf wBo ([]:List (wAE × Int))) ?_ fun fy=>?_
 rintro uJ tF ⟨d8,bM,dD,eD,it,iu,eQ,eR,jv,iZ,iM⟩
 refine zl ?_ ?_
 refine OKS.mapPut (x:=.tmp 13) (y:=.tmp 14) (j:=1) (mk:=wBf) (mv:=wBo) (a:=x22) (v:=0) rfl rfl rfl (by first | exact .inl rfl | exact .inr rfl) iZ rfl eQ eR rfl (wCO ZR) wEV iM rfl ?_
 intro gF gA lz rH qJ
 have qK:sW w U d8 [.blk b2 27 B0,.obj bM (.map gF gA)] lz:=qJ
 exact rT _ _ ⟨d8,bM,gF,gA,it,iu,eQ,eR,jv,qK,rH⟩
 refine zS (cs:=[.pointer none]) Z Z Z Z Z Zm Z iZ ?_
 intro tG l4 qL
 exact dP _ _ ⟨d8,l4,bM,dD,eD,it,rfl,iu,eQ,eR,jv,(qL.pick [1,0,2] _ (by decide) rfl),iM⟩
 refine ZC (s:=gCy) (M:=fun σ_ w_=>∃ (U_:PHeap) (cn:Nat),σ_ 1=.pointer (some ⟨b2,0,none⟩)/\σ_ 3=.pointer (some ⟨cn,0,none⟩)/\σ_ 14=.agg #[jV x22.skier,jV x22.mat]/\PHeap.Le U U_/\sW w U U_ [.blk b2 27 B0,.blk cn 118 [.pointer none]] w_) ?_ fun jh=>?_
 rintro uK tH ⟨gb,cn,eS,iv,iw,jw,ff⟩
 refine zl ?_ ?_
 exact ZQ Z Z Z Z (ff.ldBA (j:=0) Z Z eS ZD zr (vs:=B0) Z Z) (fu _ _ ⟨gb,cn,eS,iv,Z,iw,jw,ff⟩)
 refine OKS.makeMap Z Z Z Z Z ff ?_
 intro tI l5 qM
 have rI:=MpR.nil wBf wBo
 exact ft _ _ ⟨gb,cn,l5,#[],0,eS,iv,rfl,iw,jw,(qM.pick [1,2,0] _ (by decide) rfl),rI⟩
 refine ZC (s:=gCx) (M:=fun σ_ w_=>∃ (U_:PHeap) (bN:Nat) (bO:Nat) (bS:Array MapEntry) (cq:Nat),σ_ 1=.pointer (some ⟨b2,0,none⟩)/\σ_ 3=.pointer (some ⟨bN,0,none⟩)/\σ_ 13=.map (some bO)/\PHeap.Le U U_/\sW w U U_ [.blk b2 27 B0,.blk bN 118 [.pointer none],.obj bO (.map bS cq)] w_/\MpR bS wBf wBo ([]:List (wAE × Int))) ?_ fun ji=>?_
 rintro uL lA ⟨ge,bN,bO,bS,cq,eT,iy,iz,jx,fg,iN⟩
 refine zl ?_ ?_
 exact ZQ Z Z Z Z (fg.ldBA (j:=0) Z Z eT ZD zr (vs:=B0) Z Z) (fw _ _ ⟨ge,bN,bO,bS,cq,eT,iy,Z,iz,jx,fg,iN⟩)
 refine zI 0 Z Z Z Z (zJ Z Z yS zP Z) fg (fun hs=>wBk lA ge hs bt) (.inr Z) ?_
 rintro gf sF ug lB sj qN ⟨rfl,rfl⟩
 have qO:sW w U gf [.blk b2 27 B0,.blk bN 118 [.pointer none],.obj bO (.map bS cq)] lB:=qN
 exact ft _ _ ⟨gf,bN,bO,bS,cq,eT,iy,iz,Z,(jx.trans sj),qO,iN⟩
 refine ZC (s:=gCz) (M:=fun σ_ w_=>∃ (U_:PHeap) (bE:Nat) (cA:Array MapEntry) (dt:Nat),σ_ 1=.pointer (some ⟨b2,0,none⟩)/\σ_ 13=.map (some bE)/\σ_ 14=.agg #[jV x22.skier,jV x22.mat]/\PHeap.Le U U_/\sW w U U_ [.blk b2 27 B0,.obj bE (.map cA dt)] w_/\MpR cA wBf wBo ([]:List (wAE × Int))) ?_ fun jj=>?_
 rintro uM tJ ⟨cO,bE,cA,dt,dE,dF,dG,fA,dM,e8⟩
 refine zl ?_ ?_
 exact ZQ Z Z Z Z (dM.ldBA (j:=0) Z Z dE ZD zr (vs:=B0) Z Z) (fy _ _ ⟨cO,bE,cA,dt,dE,Z,dF,dG,fA,dM,e8⟩)
 refine zl ?_ ?_
 refine OKS.mapPut (x:=.tmp 13) (y:=.tmp 14) (j:=1) (mk:=wBf) (mv:=wBo) (a:=x22) (v:=0) rfl rfl rfl (by first | exact .inl rfl | exact .inr rfl) dM rfl dF dG rfl (wCO ZR) wEV e8 rfl ?_
 intro gG gB lD rJ qP
 have qQ:sW w U cO [.blk b2 27 B0,.obj bE (.map gG gB)] lD:=qP
 exact rV _ _ ⟨cO,bE,gG,gB,dE,dF,dG,fA,qQ,rJ⟩
 refine zS (cs:=[.pointer none]) Z Z Z Z Z Zm Z dM ?_
 intro tK l6 qR
 exact ft _ _ ⟨cO,l6,bE,cA,dt,dE,rfl,dF,dG,fA,(qR.pick [1,0,2] _ (by decide) rfl),e8⟩
 refine ZC (s:=gCw) (M:=fun σ_ w_=>∃ (U_:PHeap) (bP:Nat),σ_ 1=.pointer (some ⟨b2,0,none⟩)/\σ_ 3=.pointer (some ⟨bP,0,none⟩)/\σ_ 12=.agg B0.toArray/\PHeap.Le U U_/\sW w U U_ [.blk b2 27 B0,.blk bP 118 [.pointer none]] w_) ?_ fun jk=>?_
 rintro uN lE ⟨gg,bP,iA,iB,iC,jy,i4⟩
 refine zl ?_ ?_
 refine OKS.makeMap Z Z Z Z Z i4 ?_
 intro tL l7 qS
 have rK:=MpR.nil wBf wBo
 exact fw _ _ ⟨gg,bP,l7,#[],0,iA,iB,iC,rfl,jy,(qS.pick [1,2,0] _ (by decide) rfl),rK⟩
 refine zI 0 Z Z Z Z (zJ Z Z yS zP Z) i4 (fun hs=>wBk lE gg hs bt) (.inr Z) ?_
 rintro gh sG uh lF sk qT ⟨rfl,rfl⟩
 have oW:sW w U gh [.blk b2 27 B0,.blk bP 118 [.pointer none]] lF:=qT
 exact fu _ _ ⟨gh,bP,iA,iB,iC,Z,(jy.trans sk),oW⟩
 refine ZC (s:=gCv) (M:=fun σ_ w_=>∃ (U_:PHeap),σ_ 1=.pointer (some ⟨b2,0,none⟩)/\σ_ 12=.agg B0.toArray/\σ_ 14=.agg #[jV x22.skier,jV x22.mat]/\PHeap.Le U U_/\sW w U U_ [.blk b2 27 B0] w_) ?_ fun jc=>?_
 rintro ul sH ⟨fN,gH,gI,gJ,jm,iO⟩
 refine zl ?_ ?_
 refine OKS.makeMap Z Z Z Z Z iO ?_
 intro sI lG oX
 have rx:=MpR.nil wBf wBo
 exact fy _ _ ⟨fN,lG,#[],0,gH,gI,rfl,gJ,jm,(oX.pick [1,0] _ (by decide) rfl),rx⟩
 refine zS (cs:=[.pointer none]) Z Z Z Z Z Zm Z iO ?_
 intro sJ lH oY
 exact fu _ _ ⟨fN,lH,gH,rfl,gI,gJ,jm,(oY.pick [1,0] _ (by decide) rfl)⟩
 refine ZC (s:=gCu) (M:=fun σ_ w_=>∃ (U_:PHeap) (bH:Nat) (bR:Array MapEntry) (cp:Nat),σ_ 1=.pointer (some ⟨b2,0,none⟩)/\σ_ 12=.agg B0.toArray/\σ_ 13=.map (some bH)/\PHeap.Le U U_/\sW w U U_ [.blk b2 27 B0,.obj bH (.map bR cp)] w_/\MpR bR wBf wBo ([]:List (wAE × Int))) ?_ fun jd=>?_
 rintro um jP ⟨fO,bH,bR,cp,gK,gL,gM,jo,iP,iD⟩
 refine zl ?_ ?_
 refine zI 0 Z Z Z Z (zJ Z Z yS zP Z) iP (fun hs=>wBk jP fO hs bt) (.inr Z) ?_
 rintro fP sq t7 jQ rW o0 ⟨rfl,rfl⟩
 have o3:sW w U fP [.blk b2 27 B0,.obj bH (.map bR cp)] jQ:=o0
 exact fy _ _ ⟨fP,bH,bR,cp,gK,gL,gM,Z,(jo.trans rW),o3,iD⟩
 refine zS (cs:=[.pointer none]) Z Z Z Z Z Zm Z iP ?_
 intro sK lI o5
 exact fw _ _ ⟨fO,lI,bH,bR,cp,gK,rfl,gL,gM,jo,(o5.pick [1,0,2] _ (by decide) rfl),iD⟩
 refine zl ?_ ?_
 refine ZQ Z Z Z Z (bv.ldBA (j:=0) Z Z Z ZD zr (vs:=B0) Z Z) (zl ?_ ?_)
 refine OKS.makeMap Z Z Z Z Z bv ?_
 intro sL lJ o6
 have ry:=MpR.nil wBf wBo
 exact jd _ _ ⟨U,lJ,#[],0,rfl,rfl,rfl,(zM _),(o6.pick [1,0] _ (by decide) rfl),ry⟩
 refine zl ?_ ?_
 refine zI 0 Z Z Z Z (zJ Z Z yS zP Z) bv (fun hs=>wBk gp U hs bt) (.inr Z) ?_
 rintro fQ ss t8 jR rX o7 ⟨rfl,rfl⟩
 have o8:sW w U fQ [.blk b2 27 B0] jR:=o7
 exact jc _ _ ⟨fQ,Z,Z,Z,rX,o8⟩
 refine zS (cs:=[.pointer none]) Z Z Z Z Z Zm Z bv ?_
 intro sM lK o9
 exact jk _ _ ⟨U,lK,rfl,rfl,rfl,(zM _),(o9.pick [1,0] _ (by decide) rfl)⟩
 refine zl ?_ ?_
 refine OKS.makeMap Z Z Z Z Z bv ?_
 intro jS cP dJ
 have fq:=MpR.nil wBf wBo
 refine zl ?_ ?_
 exact ZQ rfl rfl rfl rfl (dJ.ldBA (j:=1) rfl rfl rfl ZD zr (vs:=B0) rfl rfl) (jd _ _ ⟨U,cP,#[],0,rfl,rfl,rfl,(zM _),(dJ.pick [1,0] _ (by decide) rfl),fq⟩)
 refine zl ?_ ?_
 refine zI 0 Z Z Z Z (zJ Z Z yS zP Z) dJ (fun hs=>wBk jS U hs bt) (.inr Z) ?_
 rintro fR su t9 jU rY pe ⟨rfl,rfl⟩
 have pf:sW w U fR [.obj cP (.map #[] 0),.blk b2 27 B0] jU:=pe
 exact jj _ _ ⟨fR,cP,#[],0,rfl,rfl,rfl,rY,(pf.pick [1,0] _ (by decide) rfl),fq⟩
 refine zS (cs:=[.pointer none]) Z Z Z Z Z Zm Z dJ ?_
 intro sN lL pg
 exact ji _ _ ⟨U,lL,cP,#[],0,rfl,rfl,rfl,(zM _),(pg.pick [2,0,1] _ (by decide) rfl),fq⟩
 refine zl ?_ ?_
 refine zI 0 Z Z Z Z (zJ Z Z yS zP Z) bv (fun hs=>wBk gp U hs bt) (.inr Z) ?_
 rintro cM sv ua jW fz ph ⟨rfl,rfl⟩
 have dK:sW w U cM [.blk b2 27 B0] jW:=ph
 refine zl ?_ ?_
 exact ZQ Z Z Z Z (dK.ldBA (j:=0) Z Z Z ZD zr (vs:=B0) Z Z) (jc _ _ ⟨cM,Z,Z,Z,fz,dK⟩)
 refine zl ?_ ?_
 refine OKS.makeMap Z Z Z Z Z dK ?_
 intro sP lM pj
 have rA:=MpR.nil wBf wBo
 exact jj _ _ ⟨cM,lM,#[],0,rfl,rfl,rfl,fz,(pj.pick [1,0] _ (by decide) rfl),rA⟩
 refine zS (cs:=[.pointer none]) Z Z Z Z Z Zm Z dK ?_
 intro sQ lN pk
 exact jh _ _ ⟨cM,lN,rfl,rfl,rfl,fz,(pk.pick [1,0] _ (by decide) rfl)⟩
 refine zS (cs:=[.pointer none]) Z Z Z Z Z Zm Z bv ?_
 intro jX cQ dL
 refine zl ?_ ?_
 exact ZQ rfl rfl rfl rfl (dL.ldBA (j:=1) rfl rfl rfl ZD zr (vs:=B0) rfl rfl) (jk _ _ ⟨U,cQ,rfl,rfl,rfl,(zM _),(dL.pick [1,0] _ (by decide) rfl)⟩)
 refine zl ?_ ?_
 refine OKS.makeMap Z Z Z Z Z dL ?_
 intro sS lO pm
 have rC:=MpR.nil wBf wBo
 exact ji _ _ ⟨U,cQ,lO,#[],0,rfl,rfl,rfl,(zM _),(pm.pick [2,1,0] _ (by decide) rfl),rC⟩
 refine zI 0 Z Z Z Z (zJ Z Z yS zP Z) dL (fun hs=>wBk jX U hs bt) (.inr Z) ?_
 rintro fS sw ub jY rZ pn ⟨rfl,rfl⟩
 have po:sW w U fS [.blk cQ 118 [.pointer none],.blk b2 27 B0] jY:=pn
 exact jh _ _ ⟨fS,cQ,rfl,rfl,rfl,rZ,(po.pick [1,0] _ (by decide) rfl)⟩
 rintro uo jZ ⟨jD,b6,b8,ah,cr,dh,gN,mb,dQ,iQ,n7⟩
 refine zK (sR (.fl 0 (.fx 1 .nil .stop)) Z (oL Z (iQ.ldBA (j:=0) Z Z gN ZD zr (vs:=B0) Z Z) ?_))
 have iE:=qV.le dQ
 have iF:=qW.le dQ
 have iG:=qY.le dQ
 have iH:=qZ.le dQ
 have q:=bnd rj
 obtain ⟨⟨⟩,n8,i9⟩:=q
 try dsimp only at i9
 refine zI 0 Z Z Z Z (zJ Z Z Tryz.call106 (zC Z zP) Z) iQ (fun hs=>wEb p0 ai ap aj aq ak au am av jZ jD hs iE iF iG iH n8) (.inr Z) ?_
 rintro fT sA ud j0 dR pp ⟨gt,rfl,rfl,n9⟩
 let B6:Res:=.blk b6 118 [.pointer (some ⟨b8,0,none⟩)]
 have pq:sW w U fT [.blk b2 27 B0,B6,.blk b8 139 [.slice ai p0.Starts.length ap,.slice aj p0.Splits.length aq,.slice ak p0.Clocks.length au,.slice am p0.Readings.length av,.map (some ah),.slice none 0 0],.obj ah (.map cr dh)] j0:=pp
 refine eN (zd (yi fun dW dN=>?_))
 have mc:dW 1=.pointer (some ⟨b2,0,none⟩):=(dN 1).trans gN
 have gO:dW 3=.pointer (some ⟨b6,0,none⟩):=(dN 3).trans mb
 have md:dW 19=.func (.func 126) #[] #[.pointer (some ⟨gt,0,none⟩)]:=(dN 19).trans rfl
 clear dN
 have pt:=pq.nilrow 184 7
 refine bnK i9 fun jA ri ja=>?_
 have eU:=iE.le dR
 have eV:=iF.le dR
 have eW:=iG.le dR
 have eX:=iH.le dR
 refine CK.rangeY (S:=(List wAa) × (List (wAE × Int))) (E:=Empty) (ar:=wRm) (PY:=(fun (s_:(List wAa) × (List (wAE × Int))) (U_:PHeap) (L_:List Res)=>match s_ with | (l1591,l1595)=>∃ (bG:Option Addr) (bQ:Nat) (bo:Array MapEntry) (bp:Nat),L_=[.blk b2 27 B0,B6,.row bG bQ 184 7 (hH wAS l1591),.blk b8 139 [.slice ai p0.Starts.length ap,.slice aj p0.Splits.length aq,.slice ak p0.Clocks.length au,.slice am p0.Readings.length av,.map (some ah),.slice bG l1591.length bQ],.obj ah (.map bo bp)]/\MpR bo wBf wBo l1595)) (PE:=(fun (_:Empty) _ _=>False)) (exO:=Empty.elim) (s0:=([],jl)) (rr:=jA) md Tryz.call126 (pt.pick [1,2,0,3,4] _ (by decide) rfl) (by decide) (fun _ _ _ h=>by obtain rfl:=h;rfl) (fun e=>nomatch e) ⟨none,0,cr,dh,rfl,n7⟩ (fun l w1 L1 PY' PE' oU oO qU=>wEH PY' PE' _ l _ p0 gt ai ap aj aq ak au am av w1 L1 fT oU oO qU n9 eU eV eW eX ri) ?_ ?_
 rintro aX tZ tV ⟨l1591,l1595⟩ az ui tY dU sB sn fB ba dS pu oP qX i6 dV bU
 obtain ⟨bG,bQ,bo,bp,rfl,oa⟩:=oP
 obtain rfl:=qX
 replace bU:∀ t,dV t=upd dW 20 (.agg #[jV az.Kind,jV az.Skier,jV az.Index,.bool az.Up]) t:=bU
 have me:dV 20=.agg #[jV az.Kind,jV az.Skier,jV az.Index,.bool az.Up]:=(bU 20).trans (wDB _ _ _)
 have gP:dV 1=.pointer (some ⟨b2,0,none⟩):=(bU 1).trans ((wDJ _ _ (by decide)).trans mc)
 have mf:dV 3=.pointer (some ⟨b6,0,none⟩):=(bU 3).trans ((wDJ _ _ (by decide)).trans gO)
 clear bU
 let B7:Res:=.blk b8 139 [.slice ai p0.Starts.length ap,.slice aj p0.Splits.length aq,.slice ak p0.Clocks.length au,.slice am p0.Readings.length av,.map (some ah),.slice bG l1591.length bQ]
 let B8:Res:=.row bG bQ 184 7 (hH wAS l1591)
 have py:St ba dU [.obj aX fB,.blk b2 27 B0,B6,B8,B7,.obj ah (.map bo bp)] sn:=pu
 try dsimp only at i6
 refine rR gBp Z (zS (cs:=[jV 0,jV 0,jV 0,.bool false]) Z Z Z Z Z yn Z py ?_)
 intro sU aW pz
 let B9:List Value:=[jV az.Kind,jV az.Skier,jV az.Index,.bool az.Up]
 refine zW (j:=0) (vs:=B9) Z Z Z Z pz Z Z me Z yF (zA Z) Z Z Z ?_
 intro j5 pB
 have pC:St ba dU [.blk aW 93 B9,.obj aX fB,.blk b2 27 B0,B6,B8,B7,.obj ah (.map bo bp)] j5:=pB
 refine zo ⟨rfl,rfl,_,_,(pC.pick [1,0,2,3,4,5,6] [.obj aX fB,.blk aW 93 B9,.blk b2 27 B0,B6,B8,B7,.obj ah (.map bo bp)] (by decide) rfl),fun gj bf pD=>?_⟩
 have e9:St ba dU [.obj aX bf,.blk aW 93 B9,.blk b2 27 B0,B6,B8,B7,.obj ah (.map bo bp)] gj:=pD
 refine zd (sR (.fl 0 (.fl 1 (.fx 2 (wQA (.fx 7 (.fx 8 (.fx 9 (.fx 10 (.fl 11 .nil) .stop) .stop) .stop) .stop)) .stop))) Z (oL Z (e9.ldBA (j:=2) Z Z gP ZD zr (vs:=B0) Z Z) (oL Z (e9.ldBA (j:=1) Z Z Z yU yF (vs:=B9) Z Z) ?_)))
 have oc:=eU.le dS
 have od:=eV.le dS
 have oe:=eW.le dS
 have og:=eX.le dS
 have q:=bnd i6
 obtain ⟨⟨aY,aZ,bj⟩,oh,jb⟩:=q
 try dsimp only at jb
 refine zI 0 Z Z Z Z (zJ Z Z Tryz.call107 (zC Z (zC Z zP)) Z) e9 (fun hs=>wCA p0 ai ap aj aq ak au am av az gj dU hs oc od oe og oh) (.inr Z) ?_
 rintro bZ sC ue j6 tW pE ⟨rfl,rfl⟩
 have pF:St ba bZ [.obj aX bf,.blk aW 93 B9,.blk b2 27 B0,B6,B8,B7,.obj ah (.map bo bp)] j6:=pE
 refine oM Z Z (oR Z (ZB Z Z (v:=.agg #[jV aY.skier,jV aY.mat]) Z) (oR Z (ZB Z Z (v:=.agg #[jV aZ.skier,jV aZ.mat]) Z) (oR Z (ZB Z Z (v:=jV bj) Z) ?_)))
 let cL:List Value:=[jV 0,jV 0]
 refine zS (cs:=cL) Z Z Z Z Z ze Z pF ?_
 intro sV bg pG
 refine zS (cs:=cL) Z Z Z Z Z ze Z pG ?_
 intro sX bh pH
 let a0:List Value:=[jV aY.skier,jV aY.mat]
 refine zW (j:=1) (vs:=a0) Z Z Z Z pH Z Z Z Z zE (zA Z) Z Z Z ?_
 intro j7 pI
 have pJ:St ba bZ [.blk bh 123 cL,.blk bg 123 a0,.obj aX bf,.blk aW 93 B9,.blk b2 27 B0,B6,B8,B7,.obj ah (.map bo bp)] j7:=pI
 let bb:List Value:=[jV aZ.skier,jV aZ.mat]
 refine zW (j:=0) (vs:=bb) Z Z Z Z pJ Z Z Z Z zE (zA Z) Z Z Z ?_
 intro j8 pK
 have fb:St ba bZ [.blk bh 123 bb,.blk bg 123 a0,.obj aX bf,.blk aW 93 B9,.blk b2 27 B0,B6,B8,B7,.obj ah (.map bo bp)] j8:=pK
 refine oA Z Z (eN (zK (sR fL4 Z (oL Z (fb.ldBA (j:=1) Z Z Z zj zE (vs:=a0) Z Z) (oL Z (fb.ldBA (j:=0) Z Z Z zj zE (vs:=bb) Z Z) ?_)))))
 let fD:List Value:=[jV aY.skier,jV aY.mat,jV aZ.skier,jV aZ.mat]
 refine oR Z (Runs.buildA (pv:=[(0,.agg a0.toArray),(1,.agg bb.toArray)]) (z:=[jV 0,jV 0,jV 0,jV 0]) (cs:=fD) Z (wAI Z (wAI Z wAY)) Tryz.zeroValue210 Tryz.runUnderlying210 zE Z Z) (oM Z Z (eN (zd (bnK jb fun aV rc rk=>?_))))
 have q:=wCl rc
 obtain ⟨fj,re⟩:=q
 replace fj:=zL fj
 refine CK.forN' (fun cG cH σ_ w_=>∃ (U_:PHeap) (ct:Array MapEntry) (dk:Nat),σ_ 31=jV (↑cG:Int)/\σ_ 1=.pointer (some ⟨b2,0,none⟩)/\σ_ 3=.pointer (some ⟨b6,0,none⟩)/\σ_ 4=.pointer (some ⟨aW,0,none⟩)/\σ_ 5=.pointer (some ⟨bg,0,none⟩)/\σ_ 6=.pointer (some ⟨bh,0,none⟩)/\σ_ 7=jV bj/\σ_ 30=.agg fD.toArray/\PHeap.Le bZ U_/\St ba U_ [.blk bh 123 bb,.blk bg 123 a0,.obj aX bf,.blk aW 93 B9,.blk b2 27 B0,B6,B8,B7,.obj ah (.map ct dk)] w_/\MpR ct wBf wBo cH) re ?_ ?_ ?_
 exact ⟨bZ,bo,bp,Z,gP,mf,Z,Z,Z,Z,Z,(zM _),fb,oa⟩
 rintro cG cH uj uq sY fh ⟨cN,ct,dk,dH,gQ,cC,gR,gS,gT,gU,eF,jp,pL,dI⟩ rM
 have gv:Hid ((↑cG:Int) < 2):=zL (wBR fh)
 replace fh:=zL fh
 have i8:Hid (w64 ((↑cG:Int) + 1)=(↑(cG + 1):Int)):=zL (by have h1:=fj.out;have h2:=gv.out;rw [wAU] <;> omega)
 refine sR fL1 Z (oR Z (zg Z dH Z) (eN (zK (cT Z gv (kN (zK (zd (sR gBs Z (bnK rM fun bV eY rn=>oR Z (Runs.ixA (cs:=hH wCQ ([aY,aZ]:List wAE)) Z eF dH Tryz.runUnderlying210 zE (wBG eY) (wBI eY) (wDC zj zE (wJb (sz:=2) (fun _=>Z) _ _ (wAP eY)))) (zS (cs:=cL) Z Z Z Z Z ze Z pL ?_))))))))))
 intro sZ gu pM
 let bW:List Value:=[jV bV.skier,jV bV.mat]
 refine zW (j:=0) (vs:=bW) Z Z Z Z pM Z Z Z Z zE (zA Z) Z Z Z ?_
 intro d9 pN
 have pO:St ba cN [.blk gu 123 bW,.blk bh 123 bb,.blk bg 123 a0,.obj aX bf,.blk aW 93 B9,.blk b2 27 B0,B6,B8,B7,.obj ah (.map ct dk)] d9:=pN
 refine eN (zK (zy zu [1,3,3,1,1,1,3,3,3,3,3] fL11 (by kernel_rfl) ?_))
 have bF:=pO.drew
 generalize hw_W1729:({ d9 with drawn:=d9.drawn + 1 }:World)=gk at bF ⊢
 refine oL Z (bF.ldB (j:=6) Z Z cC yG (v:=.pointer (some ⟨b8,0,none⟩)) Z) (oR Z (yE Z Z) (oR Z (zF Z Z ZK Z yP) (oL Z (bF.ldB (j:=8) Z Z Z yX (v:=.map (some ah)) Z) (oL Z (bF.ldBA (j:=0) Z Z Z zj zE (vs:=bW) Z Z) (oL Z (bF.lookup2 (j:=9) (mk:=wBf) (mv:=wBo) (a:=bV) (z:=0) Z Z Z Z (wCO ZR) wEV Zj dI) (oM Z Z (oR Z (ZB Z Z (v:=jV (wBd cH bV 0)) Z) (oR Z (ZB Z Z (v:=.bool (wIs cH bV)) Z) (oA Z Z (oA Z Z (eN (sR fL2 Z (oM Z Z (oR Z (Zd Z Z) (eN (ifc rn ?_ ?_))))))))))))))))
 intro ec ro
 refine zx (nC ec.out) (Ze (zt (zH (rR fL2 Z (oR Z (ZT (zi Z dH Z) (congrArg (jV) i8.out)) (oM Z Z (zo ?_)))))))
 cases ro
 exact zH ⟨rfl,⟨cN,ct,dk,rfl,gQ,cC,gR,gS,gT,gU,eF,jp,(bF.pick [1,2,3,4,5,6,7,8,9] _ (by decide) rfl),dI⟩⟩
 intro ec rp
 refine ZE (nF (ec.out)) (zy zu [1,3,3,1,1,1,3,3,1,1,0] (fC0_9 (.fx 10 .nil .stop)) (by kernel_rfl) ?_)
 have bu:=bF.drew
 generalize hw_W1737:({ gk with drawn:=gk.drawn + 1 }:World)=s5 at bu ⊢
 refine ZI rfl rfl rfl rfl (bu.ldB (j:=6) rfl rfl cC yG (v:=.pointer (some ⟨b8,0,none⟩)) rfl) rfl (zm rfl rfl rfl rfl (fun _=>yE rfl rfl) (zm rfl rfl rfl rfl (fun _=>zF rfl rfl ZK rfl yP) (ZI rfl rfl rfl rfl (bu.ldB (j:=8) rfl rfl rfl yX (v:=.map (some ah)) rfl) rfl (ZI rfl rfl rfl rfl (bu.ldBA (j:=0) rfl rfl rfl zj zE (vs:=bW) rfl rfl) rfl (ZI rfl rfl rfl rfl (bu.ldB (j:=6) rfl rfl cC yG (v:=.pointer (some ⟨b8,0,none⟩)) rfl) rfl (zm rfl rfl rfl rfl (fun _=>yE rfl rfl) (zm rfl rfl rfl rfl (fun _=>zF rfl rfl ZK rfl yP) (ZI rfl rfl rfl rfl (bu.ldB (j:=8) rfl rfl rfl yX (v:=.map (some ah)) rfl) rfl (ZI rfl rfl rfl rfl (bu.lenM (j:=9) (mk:=wBf) (mv:=wBo) rfl rfl rfl (wCO ZR) dI) rfl (OKS.mapPut (x:=.tmp 48) (y:=.tmp 49) (z:=.tmp 54) (j:=9) (mk:=wBf) (mv:=wBo) (a:=bV) (v:=(↑(cH.length):Int)) rfl rfl rfl (by first | exact .inl rfl | exact .inr rfl) bu rfl rfl rfl rfl (wCO ZR) wEV dI rfl ?_))))))))))
 intro gC gw j9 rD pP
 have pQ:St ba cN [.blk gu 123 bW,.blk bh 123 bb,.blk bg 123 a0,.obj aX bf,.blk aW 93 B9,.blk b2 27 B0,B6,B8,B7,.obj ah (.map gC gw)] j9:=pP
 refine zo (zt (zH (rR fL2 Z (oR Z (ZT (zi Z dH Z) (congrArg (jV) i8.out)) (oM Z Z (zo ?_))))))
 cases rp
 exact zH ⟨rfl,⟨cN,gC,gw,rfl,gQ,cC,gR,gS,gT,gU,eF,jp,(pQ.pick [1,2,3,4,5,6,7,8,9] _ (by decide) rfl),rD⟩⟩
 rintro ur gm ⟨br,bn,bm,n6,tM,bT,mg,mh,mi,mj,tO,tX,pR,cD⟩
 have l8:Hid (¬ ((↑((2:Int) - 0).toNat:Int) < 2)):=zL (wAs)
 refine sR fL1 rfl (zm rfl rfl rfl rfl (fun _=>zg rfl n6 rfl) (eN (zK (cF Z l8 (ZU (zk (zk (ZM (zH (bnK rk fun bk eZ fm=>zy zu [2,1,3,3,1,1,1,3,3,1,1,1,1,3,3,1,1,1,3,3,2,0,3,3,0] (wUA (.fx 0 (.fx 20 gCb .stop) (.fx 20 (.fx 0 gCb (.fx 21 (.fx 0 gBt .stop) .stop)) .stop))) (by kernel_rfl) ?_))))))))))
 have be:=pR.drew
 generalize hw_W1786:({ gm with drawn:=gm.drawn + 1 }:World)=s6 at be ⊢
 refine oL Z (be.ldB (j:=5) Z Z bT yG (v:=.pointer (some ⟨b8,0,none⟩)) Z) (oR Z (yE Z Z) (oR Z (zF Z Z ZK Z yf) (oL Z (be.ldB (j:=7) Z Z Z Tryz.isAgg137 (v:=.slice bG l1591.length bQ) Z) (oL Z (be.ldBA (j:=3) Z Z mg yU yF (vs:=B9) Z Z) (oL Z (be.ldB (j:=5) Z Z bT yG (v:=.pointer (some ⟨b8,0,none⟩)) Z) (oR Z (yE Z Z) (oR Z (zF Z Z ZK Z yP) (oL Z (be.ldB (j:=7) Z Z Z yX (v:=.map (some ah)) Z) (oL Z (be.ldBA (j:=1) Z Z mh zj zE (vs:=a0) Z Z) (oL Z (be.lookup1 (j:=8) (mk:=wBf) (mv:=wBo) (a:=aY) (z:=0) Z Z Z Z (wCO ZR) wEV Zj cD) (oL Z (be.ldB (j:=5) Z Z bT yG (v:=.pointer (some ⟨b8,0,none⟩)) Z) (oR Z (yE Z Z) (oR Z (zF Z Z ZK Z yP) (oL Z (be.ldB (j:=7) Z Z Z yX (v:=.map (some ah)) Z) (oL Z (be.ldBA (j:=0) Z Z mi zj zE (vs:=bb) Z Z) (oL Z (be.lookup1 (j:=8) (mk:=wBf) (mv:=wBo) (a:=aZ) (z:=0) Z Z Z Z (wCO ZR) wEV Zj cD) (oM Z mj ?_)))))))))))))))))
 let bX:List Value:=[jV az.Kind,jV az.Skier,jV az.Index,.bool az.Up,jV (wBd aV aY 0),jV (wBd aV aZ 0),jV bj]
 let dY:List Value:=[jV 0,jV 0,jV 0,.bool false,jV 0,jV 0,jV 0]
 refine oR Z (ZP (pv:=[(0,.agg B9.toArray),(1,jV (wBd aV aY 0)),(2,jV (wBd aV aZ 0)),(3,jV bj)]) (z:=dY) (cs:=bX) Z (wAI Z (wAI Z (wAI Z (wAI Z wAY)))) Tryz.zeroValue184 wOg Z Z) (zl ?_ ?_)
 refine ZQ Z Z Z Z (be.ldB (j:=5) Z Z bT yG (v:=.pointer (some ⟨b8,0,none⟩)) Z) (Zg (pv:=[(0,.agg bX.toArray)]) (zs:=dY) (cs:=bX) Z Z Z Z Z (wAI Z wAY) Tryz.runUnderlying137 Tryz.sizeOf184 Tryz.zeroValue184 Z Z Z Z Z be ?_)
 intro k9 lP pS
 let dZ:Res:=.row (some ⟨lP,0,none⟩) 1 184 7 (hH wAS [(⟨az,(wBd aV aY 0),(wBd aV aZ 0),bj⟩:wAa)])
 have iR:St ba br [dZ,.blk bh 123 bb,.blk bg 123 a0,.obj aX bf,.blk aW 93 B9,.blk b2 27 B0,B6,B8,B7,.obj ah (.map bn bm)] k9:=pS
 refine yW (j:=7) (enc:=wAS) (xs:=l1591) (ys:=[(⟨az,(wBd aV aY 0),(wBd aV aZ 0),bj⟩:wAa)]) (zs:=bk) rfl rfl rfl rfl rfl Tryz.underlying137 wLB rfl rfl rfl rfl rfl rfl iR rfl rfl rfl (iR.srcR (j:=0) rfl (by decide) (wAJ (f:=wAS) (sz:=7) (fun _=>rfl) [(⟨az,(wBd aV aY 0),(wBd aV aZ 0),bj⟩:wAa)])) (fun _=>rfl) (fun _=>rfl) eZ rfl ?_
 intro cI db lf pT
 let fE:Res:=.row cI db 184 7 (hH wAS bk)
 have pU:St ba br [dZ,.blk bh 123 bb,.blk bg 123 a0,.obj aX bf,.blk aW 93 B9,.blk b2 27 B0,B6,fE,B7,.obj ah (.map bn bm)] lf:=pT
 refine oR Z (yE Z Z) (oR Z (zF Z Z ZK Z yf) (zW (j:=8) (vs:=[.slice cI bk.length db]) Z Z Z Z pU Z Z Z Z yf (zA Z) Z Z Z ?_))
 intro lg pV
 have pW:St ba br [dZ,.blk bh 123 bb,.blk bg 123 a0,.obj aX bf,.blk aW 93 B9,.blk b2 27 B0,B6,fE,.blk b8 139 [.slice ai p0.Starts.length ap,.slice aj p0.Splits.length aq,.slice ak p0.Clocks.length au,.slice am p0.Readings.length av,.map (some ah),.slice cI bk.length db],.obj ah (.map bn bm)] lg:=pV
 refine zo (zt ?_)
 obtain rfl:=nE fm
 exact ⟨_,_,(pW.pick [3,5,6,7,8,9] _ (by decide) rfl),rfl,⟨cI,db,bn,bm,rfl,cD⟩⟩
 refine Zg (pv:=[(0,.agg bX.toArray)]) (zs:=dY) (cs:=bX) Z Z Z Z Z (wAI Z wAY) Tryz.runUnderlying137 Tryz.sizeOf184 Tryz.zeroValue184 Z Z Z Z Z be ?_
 intro lh lQ pX
 let bY:Res:=.row (some ⟨lQ,0,none⟩) 1 184 7 (hH wAS [(⟨az,(wBd aV aY 0),(wBd aV aZ 0),bj⟩:wAa)])
 have cE:St ba br [bY,.blk bh 123 bb,.blk bg 123 a0,.obj aX bf,.blk aW 93 B9,.blk b2 27 B0,B6,B8,B7,.obj ah (.map bn bm)] lh:=pX
 refine zl ?_ ?_
 refine ZQ rfl rfl rfl rfl (cE.ldB (j:=6) rfl rfl bT yG (v:=.pointer (some ⟨b8,0,none⟩)) rfl) (yW (j:=7) (enc:=wAS) (xs:=l1591) (ys:=[(⟨az,(wBd aV aY 0),(wBd aV aZ 0),bj⟩:wAa)]) (zs:=bk) rfl rfl rfl rfl rfl Tryz.underlying137 wLB rfl rfl rfl rfl rfl rfl cE rfl rfl rfl (cE.srcR (j:=0) rfl (by decide) (wAJ (f:=wAS) (sz:=7) (fun _=>rfl) [(⟨az,(wBd aV aY 0),(wBd aV aZ 0),bj⟩:wAa)])) (fun _=>rfl) (fun _=>rfl) eZ rfl ?_)
 intro cJ de li pY
 let fH:Res:=.row cJ de 184 7 (hH wAS bk)
 have pZ:St ba br [bY,.blk bh 123 bb,.blk bg 123 a0,.obj aX bf,.blk aW 93 B9,.blk b2 27 B0,B6,fH,B7,.obj ah (.map bn bm)] li:=pY
 refine oR Z (yE Z Z) (oR Z (zF Z Z ZK Z yf) (zW (j:=8) (vs:=[.slice cJ bk.length de]) Z Z Z Z pZ Z Z Z Z yf (zA Z) Z Z Z ?_))
 intro lj p6
 have p7:St ba br [bY,.blk bh 123 bb,.blk bg 123 a0,.obj aX bf,.blk aW 93 B9,.blk b2 27 B0,B6,fH,.blk b8 139 [.slice ai p0.Starts.length ap,.slice aj p0.Splits.length aq,.slice ak p0.Clocks.length au,.slice am p0.Readings.length av,.map (some ah),.slice cJ bk.length de],.obj ah (.map bn bm)] lj:=p6
 refine zo (zt ?_)
 obtain rfl:=nE fm
 exact ⟨_,_,(p7.pick [3,5,6,7,8,9] _ (by decide) rfl),rfl,⟨cJ,de,bn,bm,rfl,cD⟩⟩
 refine yW (j:=7) (enc:=wAS) (xs:=l1591) (ys:=[(⟨az,(wBd aV aY 0),(wBd aV aZ 0),bj⟩:wAa)]) (zs:=bk) rfl rfl rfl rfl rfl Tryz.underlying137 wLB rfl rfl rfl rfl rfl rfl cE rfl rfl rfl (cE.srcR (j:=0) rfl (by decide) (wAJ (f:=wAS) (sz:=7) (fun _=>rfl) [(⟨az,(wBd aV aY 0),(wBd aV aZ 0),bj⟩:wAa)])) (fun _=>rfl) (fun _=>rfl) eZ rfl ?_
 intro cK df lm p8
 let fJ:Res:=.row cK df 184 7 (hH wAS bk)
 have iT:St ba br [bY,.blk bh 123 bb,.blk bg 123 a0,.obj aX bf,.blk aW 93 B9,.blk b2 27 B0,B6,fJ,B7,.obj ah (.map bn bm)] lm:=p8
 refine ZQ Z Z Z Z (iT.ldB (j:=6) Z Z bT yG (v:=.pointer (some ⟨b8,0,none⟩)) Z) (oR Z (yE Z Z) (oR Z (zF Z Z ZK Z yf) (zW (j:=8) (vs:=[.slice cK bk.length df]) Z Z Z Z iT Z Z Z Z yf (zA Z) Z Z Z ?_)))
 intro ln p9
 have qa:St ba br [bY,.blk bh 123 bb,.blk bg 123 a0,.obj aX bf,.blk aW 93 B9,.blk b2 27 B0,B6,fJ,.blk b8 139 [.slice ai p0.Starts.length ap,.slice aj p0.Splits.length aq,.slice ak p0.Clocks.length au,.slice am p0.Readings.length av,.map (some ah),.slice cK bk.length df],.obj ah (.map bn bm)] ln:=p9
 refine zo (zt ?_)
 obtain rfl:=nE fm
 exact ⟨_,_,(qa.pick [3,5,6,7,8,9] _ (by decide) rfl),rfl,⟨cK,df,bn,bm,rfl,cD⟩⟩
 rintro jz d6 sD lp dT qb
 rcases jA with ⟨jB,uk⟩ | ma
 try dsimp only at ja
 rintro ⟨dX,ef,du,dg,rfl,oi⟩
 let d4:Res:=.blk b8 139 [.slice ai p0.Starts.length ap,.slice aj p0.Splits.length aq,.slice ak p0.Clocks.length au,.slice am p0.Readings.length av,.map (some ah),.slice dX jB.length ef]
 let d5:Res:=.row dX ef 184 7 (hH wAS jB)
 have iU:sW w U d6 [.blk b2 27 B0,B6,d5,d4,.obj ah (.map du dg),.obj jz (.deferred (some []))] lp:=qb
 refine zt (zH (sR fL2 Z (oL Z (iU.ldB (j:=1) Z Z gO yG (v:=.pointer (some ⟨b8,0,none⟩)) Z) (oA Z Z (eN (zR ?_))))))
 have oj:=eU.le dT
 have om:=eV.le dT
 have oq:=eW.le dT
 have ot:=eX.le dT
 refine wDE (by first | exact .inl rfl | exact .inr rfl) (rbs:=[jz]) (L:=[.blk b2 27 B0,B6,d5,d4,.obj ah (.map du dg)]) iU fun ls qc=>?_
 have qd:sW w U d6 [.blk b2 27 B0,B6,d5,d4,.obj ah (.map du dg)] ls:=qc
 cases ja
 exact ⟨_,(ZF rfl),d6,_,(qd.pick [3,4,2] _ (by decide) rfl),b8,ai,ap,aj,aq,ak,au,am,av,ah,du,dg,dX,ef,rfl,rfl,oj,om,oq,ot,oi⟩
 exact ma.elim
end Go.Proofs.YtlnfbjphfoipaaaGreat
namespace Go.Proofs.YtlnfbjphfoipaaaGreat
open Go.KL
set_option maxHeartbeats 4000000
theorem wGn (p0:wAA) (ah:Option Addr) (am:Nat) (ai:Option Addr) (ap:Nat) (aj:Option Addr) (aq:Nat) (ak:Option Addr) (au:Nat) (w:World) (U:PHeap) (hS:St0 w U []) (bo:Sl U 1 ah am p0.Starts.length (hH KL.encI p0.Starts)) (bp:Sl U 2 ai ap p0.Splits.length (hH wAB p0.Splits)) (bq:Sl U 3 aj aq p0.Clocks.length (hH wAD p0.Clocks)) (br:Sl U 4 ak au p0.Readings.length (hH wAC p0.Readings)) {r:(Option wBT) × Int} (hm:wCq p0=some r):Gv Tryz.prog 80 [.agg #[.slice ah p0.Starts.length am,.slice ai p0.Splits.length ap,.slice aj p0.Clocks.length aq,.slice ak p0.Readings.length au]] w (wCs w [] U (fun U_ L_ v=>match r.1 with | none=>v=.tuple #[.pointer none,jV r.2]/\L_=[] | some d=>∃ (b0:Nat) (A0p00:Option Addr) (c0p00:Nat) (A0p01:Option Addr) (c0p01:Nat) (A0p02:Option Addr) (c0p02:Nat) (A0p03:Option Addr) (c0p03:Nat) (m0p1:Nat) (es0p1:Array MapEntry) (ck0p1:Nat) (A0p2:Option Addr) (c0p2:Nat),v=.tuple #[.pointer (some ⟨b0,0,none⟩),jV r.2]/\L_=[.blk b0 139 [.slice A0p00 d.Race.Starts.length c0p00,.slice A0p01 d.Race.Splits.length c0p01,.slice A0p02 d.Race.Clocks.length c0p02,.slice A0p03 d.Race.Readings.length c0p03,.map (some m0p1),.slice A0p2 d.edges.length c0p2],.obj m0p1 (.map es0p1 ck0p1),.row A0p2 c0p2 184 7 (hH wAS d.edges)]/\Sl U_ 1 A0p00 c0p00 d.Race.Starts.length (hH KL.encI d.Race.Starts)/\Sl U_ 2 A0p01 c0p01 d.Race.Splits.length (hH wAB d.Race.Splits)/\Sl U_ 3 A0p02 c0p02 d.Race.Clocks.length (hH wAD d.Race.Clocks)/\Sl U_ 4 A0p03 c0p03 d.Race.Readings.length (hH wAC d.Race.Readings)/\MpR es0p1 wBf wBo d.number)):=by
 unfold wCq at hm
 refine Gv.of Tryz.func80 Z Tryz.ntmps80 Tryz.results80 Z (sR gBu Z ?_)
 let B0:List Value:=[.slice ah p0.Starts.length am,.slice ai p0.Splits.length ap,.slice aj p0.Clocks.length aq,.slice ak p0.Readings.length au]
 refine ZH (cs:=B0) rfl rfl rfl rfl rfl rfl (by rfl) hS ?_
 intro W1 b2 bn
 refine oA Z Z (oA Z Z (eN (zK (sR gBv Z (oL Z (bn.ldBA (j:=0) Z Z Z ZD zr (vs:=B0) Z Z) (bnK hm fun x5 h6 bN=>zI 0 Z Z Z Z (zJ Z Z Tryz.call33 (zC Z zP) Z) bn (fun hs=>wGm p0 ah am ai ap aj aq ak au W1 U hs bo bp bq br h6) (.inr Z) ?_))))))
 rintro U8 L9 bR bb av bH ⟨rfl,rfl⟩
 have aV:sW w U U8 [.blk b2 27 B0] bb:=bH
 refine oA Z Z (eN (sR fL2 Z (oM Z Z (oR Z (Zu Z Z Z) (eN (ifc bN ?_ ?_))))))
 intro aT bK
 refine zx (Zh (fun h=>h aT.out)) (kN (sR gCc Z (oL Z (aV.ldBA (j:=0) Z Z Z ZD zr (vs:=B0) Z Z) ?_)))
 have bu:=bo.le av
 have bv:=bp.le av
 have bw:=bq.le av
 have bz:=br.le av
 refine bnK bK fun ab bA bL=>zI 0 Z Z Z Z (zJ Z Z Tryz.call124 (zC Z zP) Z) aV (fun hs=>wJK p0 ah am ai ap aj aq ak au bb U8 hs bu bv bw bz bA) (.inr Z) ?_
 rintro ba bO bS bt bQ bI ⟨bf,aX,bg,aY,bh,aZ,bi,a0,bj,aW,bm,bk,az,aU,rfl,rfl,bB,bC,bD,bE,bF⟩
 have bJ:sW w U ba [.blk bf 139 [.slice aX ab.Race.Starts.length bg,.slice aY ab.Race.Splits.length bh,.slice aZ ab.Race.Clocks.length bi,.slice a0 ab.Race.Readings.length bj,.map (some aW),.slice az ab.edges.length aU],.obj aW (.map bm bk),.row az aU 184 7 (hH wAS ab.edges),.blk b2 27 B0] bt:=bI
 refine oA Z Z (oA Z Z (eN (zR ?_)))
 cases bL
 exact ⟨rfl,_,(wJS rfl rfl),ba,_,(bJ.pick [0,1,2] _ (by decide) rfl),bf,aX,bg,aY,bh,aZ,bi,a0,bj,aW,bm,bk,az,aU,rfl,rfl,bB,bC,bD,bE,bF⟩
 intro aT bM
 refine cT Z aT (sR fL3 Z (oM Z Z (oA Z Z (oA Z Z (eN (zR (zN ?_)))))))
 cases bM
 exact ⟨rfl,_,(wJS rfl rfl),U8,_,(aV.pick [] _ (by decide) rfl),rfl,rfl⟩
theorem wDu (p0:Int) (w:World) (U:PHeap) (hS:St0 w U [])  {r:Bool} (hm:wAc p0=some r):Gv Tryz.prog 101 [jV p0] w (wCs w [] U (fun U_ L_ v=>v=.bool r/\L_=[])):=by
 unfold wAc at hm
 refine Gv.of Tryz.func101 Z Tryz.ntmps101 Tryz.results101 Z (sR fL1 Z (oA Z Z (eN (sR gBv Z (oM Z Z (bnK hm fun x1 h2 ak=>zI 0 Z Z Z Z (zJ Z Z Tryz.call69 (zC Z (zC Z (zC Z zP))) Z) hS (fun hs=>wDp p0 (-100000000) 100000000 w U hs h2) (.inr Z) ?_))))))
 rintro U4 L5 v6 W7 ap aj ⟨rfl,rfl⟩
 have ai:sW w U U4 [] W7:=aj
 refine oA Z Z (eN (zR ?_))
 have hE:=nE ak;first | subst r | cases hE
 exact ⟨Z,_,(ZF Z),U4,_,ai,Z,Z⟩
theorem wGL (p0:List Int) (ai:Option Addr) (aq:Nat) (p1:wAA) (ap:Nat) (aj:Option Addr) (au:Nat) (ae:Option Addr) (ah:Nat) (ak:Option Addr) (av:Nat) (am:Option Addr) (az:Nat) (w:World) (U:PHeap) (hS:St0 w U []) (aT:Sl U 1 ai aq p0.length (hH KL.encI p0)) (aS:Cl U ap 0 [.slice aj p1.Starts.length au,.slice ae p1.Splits.length ah,.slice ak p1.Clocks.length av,.slice am p1.Readings.length az]) (aU:Sl U 1 aj au p1.Starts.length (hH KL.encI p1.Starts)) (aV:Sl U 2 ae ah p1.Splits.length (hH wAB p1.Splits)) (aW:Sl U 3 ak av p1.Clocks.length (hH wAD p1.Clocks)) (aX:Sl U 4 am az p1.Readings.length (hH wAC p1.Readings)) {r:Bool} (hm:wBs p0 p1=some r):Gv Tryz.prog 103 [.slice ai p0.length aq,.pointer (some ⟨ap,0,none⟩)] w (wCs w [] U (fun U_ L_ v=>v=.bool r/\L_=[])):=by
 unfold wBs at hm
 refine Gv.of Tryz.func103 Z Tryz.ntmps103 Tryz.results103 Z (sR fL1 Z (oA Z Z (eN (sR fL8 Z (oM Z Z (oR Z (zf Z Z zB) (oR Z (zF Z Z zQ Z ZX) (oL Z (hS.ldC (f:=1) aS (v:=.slice ae p1.Splits.length ah) Z Z Za Z) (oR Z (zf Z Z zw) (oR Z (zi Z Z Z) (oR Z (Runs.eql Z Z Z) (oA Z Z (eN (zR ?_))))))))))))))
 first | (obtain rfl:=nE hm) | cases hm
 exact ⟨Z,_,(ZF Z),U,_,hS,Z,Z⟩
theorem wCI (p0:List (List Int)) (au:Option Addr) (az:Nat) (p1:((List Int)->Option Bool)) (aT:Value) (w:World) (U:PHeap) (hS:St0 w U []) (bu:SlR U wEx au az p0) (bv:FnOK Tryz.prog U aT wOe wOf p1) {r:Bool} (hm:wAm p0 p1=some r):Gv Tryz.prog 102 [.slice au p0.length az,aT] w (wCs w [] U (fun U_ L_ v=>v=.bool r/\L_=[])):=by
 unfold wAm at hm
 refine Gv.of Tryz.func102 Z Tryz.ntmps102 Tryz.results102 Z (sR fL1 Z (oA Z Z (eN (zK (sR fL3 Z (oM Z Z (oR Z (zf Z Z zV) (oM Z Z (eN (zd ?_))))))))))
 have q:=wCD hm
 obtain ⟨r3,ak⟩:=q
 have q:=wCC ak
 obtain ⟨ap,bA⟩:=q
 replace ap:=zL ap
 refine yK (fun k2 _ σ_ w_=>∃ (U_:PHeap),σ_ 9=jV (↑k2:Int)/\σ_ 1=aT/\σ_ 7=.slice au p0.length az/\σ_ 8=jV (↑p0.length:Int)/\PHeap.Le U U_/\sW w U U_ [] w_) bA ?_ ?_ ?_
 exact ⟨U,Z,Z,Z,Z,(zM _),hS⟩
 rintro k2 ⟨⟩ bV bX W8 am ⟨be,ai,aV,aW,aX,aq,aZ⟩ bb bw
 try dsimp only at bb
 have aU:Hid ((↑k2:Int) < (↑p0.length:Int)):=zL (wBR am)
 replace am:=zL am
 have bB:Hid (w64 ((↑k2:Int) + 1)=(↑(k2 + 1):Int)):=zL (by have h1:=ap.out;have h2:=aU.out;rw [wAU] <;> omega)
 refine sR fL1 Z (oR Z (zg Z ai aX) (eN (zK (cT Z aU (kN (zK (zd (sR fL3 Z (bnK bb fun x22 aY bC=>?_)))))))))
 have bn:=bu.le aq
 have q:=bn.el (wAP aY)
 obtain ⟨bh,bJ,bT,br,aj,bH⟩:=q
 obtain ⟨av,aS,rfl,bo⟩:=bH
 replace aj:Cl be bh (bJ + k2 * 1) [.slice av x22.length aS]:=aj
 refine oR Z (ZJ Z aW br ai zV zX (wBa aY)) (oL Z (aZ.ldC (f:=0) aj (v:=.slice av x22.length aS) Z Z zY Z) (oA Z Z (eN (sR gCd Z (oM Z aV (oM Z Z (bnK bC fun bU bp bD=>?_)))))))
 have bq:=bv.le aq
 refine OKS.callV (a:=x22) Z Z Z Z Z Z (zC Z zP) aZ bq ⟨av,aS,Z,bo⟩ bp ?_
 rintro ae bL bS bg bI bs ⟨rfl,rfl⟩
 have a0:sW w U ae [] bg:=bs
 refine oR Z (Zd Z Z) (eN (ifc bD ?_ ?_))
 intro ah bE
 refine zx (nC ah.out) (Ze (zt (zH (rR fL2 Z (oR Z (ZT (zi Z ai Z) (congrArg (jV) bB.out)) (oM Z Z (zo ?_)))))))
 obtain rfl:=nE bE
 exact zH ⟨Z,_,Z,⟨ae,Z,aV,aW,aX,(aq.trans bI),a0⟩⟩
 intro ah bF
 refine ZE (nF (ah.out)) (sR fL1 Z (oA Z Z (eN (zR (zZ (zN ?_))))))
 have q:=wAR bF
 obtain ⟨bK,bG,bj⟩:=q
 obtain rfl:=wCE hm ak (bw bK bj)
 refine zN (zZ (zN ?_))
 have hE:=nE bG;first | subst r | cases hE
 exact ⟨Z,_,(ZF Z),ae,_,a0,Z,Z⟩
 rintro ⟨⟩ bW bM ⟨bf,bm,bO,bP,bk,bQ,bt⟩ bz
 have ba:=wCp hm ak bz
 try dsimp only at ba
 have bi:Hid (¬ ((↑(((↑p0.length:Int):Int) - 0).toNat:Int) < (↑p0.length:Int))):=zL (wAs)
 refine sR fL1 Z (oR Z (zg Z bm bk) (eN (zK (cF Z bi (ZU (zk (zk (ZM (zH (sR fL1 Z (oA Z Z (eN (zR ?_)))))))))))))
 have hE:=nE ba;first | subst r | cases hE
 exact ⟨Z,_,(ZF Z),bf,_,bt,Z,Z⟩
theorem wGM (p0:List Int) (ah:Option Addr) (ai:Nat) (p1:(Int->Option Bool)) (ak:Nat) (ab:Value) (w:World) (U:PHeap) (hS:St0 w U []) (av:Sl U 1 ah ai p0.length (hH KL.encI p0)) (az:Cl U ak 0 [ab]) (aS:FnOK Tryz.prog U ab wKz wLA p1) {r:Bool} (hm:wBt p0 p1=some r):Gv Tryz.prog 104 [.slice ah p0.length ai,.pointer (some ⟨ak,0,none⟩)] w (wCs w [] U (fun U_ L_ v=>v=.bool r/\L_=[])):=by
 unfold wBt at hm
 refine Gv.of Tryz.func104 Z Tryz.ntmps104 Tryz.results104 Z (sR fL1 Z (oA Z Z (eN (sR gCd Z (oM Z Z (oL Z (hS.ldC (f:=0) az (v:=ab) Z Z Tryz.isAgg152 Z) (bnK hm fun x1 h2 aT=>zI 0 Z Z Z Z (zJ Z Z Tryz.call89 (zC Z (zC Z zP)) Z) hS (fun hs=>wCu p0 ah ai p1 ab w U hs av aS h2) (.inr Z) ?_)))))))
 rintro U4 L5 v6 W7 aV au ⟨rfl,rfl⟩
 have aq:sW w U U4 [] W7:=au
 refine oA Z Z (eN (zR ?_))
 have hE:=nE aT;first | subst r | cases hE
 exact ⟨Z,_,(ZF Z),U4,_,aq,Z,Z⟩
theorem wGN (p0:wAE) (p1:List Int) (ba:Nat) (aV:Option Addr) (aX:Nat) (p2:List (List Int)) (bb:Nat) (aW:Option Addr) (aY:Nat) (w:World) (U:PHeap) (hS:St0 w U []) (bw:Cl U ba 0 [.slice aV p1.length aX]) (bz:Sl U 1 aV aX p1.length (hH KL.encI p1)) (bA:Cl U bb 0 [.slice aW p2.length aY]) (bB:SlR U wEx aW aY p2) {r:Int} (hm:wCt p0 p1 p2=some r):Gv Tryz.prog 105 [.agg #[jV p0.skier,jV p0.mat],.pointer (some ⟨ba,0,none⟩),.pointer (some ⟨bb,0,none⟩)] w (wCs w [] U (fun U_ L_ v=>v=jV r/\L_=[])):=by
 unfold wCt at hm
 refine Gv.of Tryz.func105 Z Tryz.ntmps105 Tryz.results105 Z (sR gBm Z ?_)
 let B0:List Value:=[jV p0.skier,jV p0.mat]
 refine ZH (cs:=B0) rfl rfl rfl rfl rfl rfl (by rfl) hS ?_
 intro W1 b2 bv
 refine yk rfl rfl rfl rfl rfl rfl (eN (zK (zd (zK (zy zu [1,2,3,3] gCc (by kernel_rfl) ?_)))))
 have aU:=bv.drew
 generalize hw_W6:({ W1 with drawn:=W1.drawn + 1 }:World)=W6 at aU ⊢
 refine oL Z (aU.ldBA (j:=0) Z Z Z zj zE (vs:=B0) Z Z) (bnK hm fun x7 h8 bJ=>zI 0 Z Z Z Z (zJ Z Z yS zP Z) aU (fun hs=>wBk W6 U hs h8) (.inr Z) ?_)
 rintro ah bO bU ap aj bu ⟨rfl,rfl⟩
 have ab:sW w U ah [.blk b2 123 B0] ap:=bu
 refine oR Z (Runs.eqS (enc:=wCQ) (a:=p0) (b:=x7) Z Z Z wTg wTf) (oA Z Z (eN (ifc bJ ?_ ?_)))
 intro aq bC
 refine cT Z aq (sR fL1 Z (oA Z Z (eN (zR (zZ (zN ?_))))))
 cases bC
 exact ⟨rfl,_,(ZF rfl),ah,_,(ab.pick [] _ (by decide) rfl),rfl,rfl⟩
 intro aq bD
 refine cF Z aq (sR fL4 Z (oR Z (zF Z Z Tryz.runUnderlying123 Z zD) (oL Z (ab.ldB (j:=0) Z Z Z zG (v:=jV p0.skier) Z) (oR Z (zg Z Z Z) (oA Z Z (eN (ifc bD ?_ ?_)))))))
 intro au bE
 refine cT Z au (sR fL8 Z ?_)
 have bi:=bw.le aj
 refine oL Z (ab.ldC (f:=0) bi (v:=.slice aV p1.length aX) Z Z zY Z) (oR Z (zF Z Z Tryz.runUnderlying123 Z zD) (oL Z (ab.ldB (j:=0) Z Z Z zG (v:=jV p0.mat) Z) (oR Z (yg Z Z Z) (bnK bE fun bM av bF=>?_))))
 have bj:=bz.le aj
 have q:=bj.el (fun _=>rfl) (wAP av)
 obtain ⟨bQ,bS,bp,bs⟩:=q
 refine oR Z (zz Z Z bp Z zB zD (wBG av) (wBI av)) (oL Z (ab.ldC (f:=0) bs (v:=jV bM) Z Z zG Z) (oR Z (Runs.negw Z Z) (oA Z Z (eN (zR (zZ (zN ?_)))))))
 cases bF
 exact ⟨rfl,_,(ZF rfl),ah,_,(ab.pick [] _ (by decide) rfl),rfl,rfl⟩
 intro au bG
 refine cF Z au (Ze (zt (zH (zK (zy zu [1,3,1,3,1,3,1,3,1,3] fL10 (by kernel_rfl) ?_)))))
 have ae:=ab.drew
 generalize hw_W33:({ ap with drawn:=ap.drawn + 1 }:World)=bP at ae ⊢
 have bk:=bA.le aj
 refine oL Z (ae.ldC (f:=0) bk (v:=.slice aW p2.length aY) Z Z yV Z) (oR Z (zF Z Z Tryz.runUnderlying123 Z zD) (oL Z (ae.ldB (j:=0) Z Z Z zG (v:=jV p0.skier) Z) (bnK bG fun be az bH=>?_)))
 have bm:=bB.le aj
 have q:=bm.el (wAP az)
 obtain ⟨bh,bL,bV,bq,aT,bK⟩:=q
 obtain ⟨a0,bd,rfl,bn⟩:=bK
 replace aT:Cl ah bh (bL + p0.skier.toNat * 1) [.slice a0 be.length bd]:=aT
 refine oR Z (zz Z Z bq Z zV zX (wBG az) (wBI az)) (oL Z (ae.ldC (f:=0) aT (v:=.slice a0 be.length bd) Z Z zY Z) (oR Z (zF Z Z Tryz.runUnderlying123 Z zD) (oL Z (ae.ldB (j:=0) Z Z Z zG (v:=jV p0.mat) Z) (bnK bH fun x48 aS bI=>?_))))
 have q:=bn.el (fun _=>rfl) (wAP aS)
 obtain ⟨bR,bT,br,bt⟩:=q
 refine oR Z (zz Z Z br Z zB zD (wBG aS) (wBI aS)) (oL Z (ae.ldC (f:=0) bt (v:=jV x48) Z Z zG Z) (oA Z Z (eN (zR ?_))))
 have hE:=nE bI;first | subst r | cases hE
 exact ⟨rfl,_,(ZF rfl),ah,_,(ae.pick [] _ (by decide) rfl),rfl,rfl⟩
theorem wLC (p0:wAA) (cf:Option Addr) (cj:Nat) (cY:Option Addr) (da:Nat) (cg:Option Addr) (cm:Nat) (cZ:Option Addr) (db:Nat) (p1:List (List Int)) (bm:Option Addr) (bn:Nat) (p2:List Int) (bt:Option Addr) (bu:Nat) (w:World) (U:PHeap) (hS:St0 w U []) (sq:Sl U 1 cf cj p0.Starts.length (hH KL.encI p0.Starts)) (ss:Sl U 2 cY da p0.Splits.length (hH wAB p0.Splits)) (sv:Sl U 3 cg cm p0.Clocks.length (hH wAD p0.Clocks)) (sw:Sl U 4 cZ db p0.Readings.length (hH wAC p0.Readings)) (gR:SlR U wEx bm bn p1) (gS:Sl U 1 bt bu p2.length (hH KL.encI p2)) {r:Bool × Int} (hm:wEE p0 p1 p2=some r):Gv Tryz.prog 35 [.agg #[.slice cf p0.Starts.length cj,.slice cY p0.Splits.length da,.slice cg p0.Clocks.length cm,.slice cZ p0.Readings.length db],.slice bm p1.length bn,.slice bt p2.length bu] w (wCs w [] U (fun U_ L_ v=>v=.tuple #[.bool r.1,jV r.2]/\L_=[])):=by
 unfold wEE at hm
 refine Go.KX.Gv.ofM Tryz.func35 Z Tryz.ntmps35 Tryz.results35 (zA Z) (sR (.fx 0 (.fx 1 (.fx 2 (.fx 3 (.fx 4 .nil .stop) .stop) .stop) .stop) .stop) Z ?_)
 let B0:List Value:=[.slice cf p0.Starts.length cj,.slice cY p0.Splits.length da,.slice cg p0.Clocks.length cm,.slice cZ p0.Readings.length db]
 refine ZH (cs:=B0) rfl rfl rfl rfl rfl rfl (by rfl) hS ?_
 intro W1 b2 rX
 have q:=rX.freeze (k:=0) rfl
 obtain ⟨U5,cd,du,sf⟩:=q
 replace du:=Cl.of du
 have sm:sW w U U5 [] W1:=sf
 replace du:Cl U5 b2 0 B0:=du
 refine ZH (cs:=[.slice bm p1.length bn]) rfl rfl rfl rfl rfl rfl (by rfl) sm ?_
 intro ii bI pk
 have q:=pk.freeze (k:=0) rfl
 obtain ⟨fN,bP,cO,qL⟩:=q
 replace cO:=Cl.of cO
 have qO:sW w U fN [] ii:=qL
 replace cO:Cl fN bI 0 [.slice bm p1.length bn]:=cO
 refine ZH (cs:=[.slice bt p2.length bu]) rfl rfl rfl rfl rfl rfl (by rfl) qO ?_
 intro jk bK rk
 have q:=rk.freeze (k:=0) rfl
 obtain ⟨eu,bB,cP,rQ⟩:=q
 replace cP:=Cl.of cP
 have rV:sW w U eu [] jk:=rQ
 replace cP:Cl eu bK 0 [.slice bt p2.length bu]:=cP
 refine zS (cs:=[.bool false]) Z Z Z Z Z Tryz.zeroValue4 Z rV ?_
 intro t9 bY rY
 refine zS (cs:=[jV 0]) Z Z Z Z Z Tryz.zeroValue40 Z rY ?_
 intro jE bg gO
 refine eN (sR (.fl 0 (.fx 1 (fC2_4 (.fx 5 (.fx 6 (.fl 7 .nil) .stop) .stop)) .stop)) Z ?_)
 have mN:=du.le bP
 have eT:=mN.le bB
 refine oL Z (gO.ldCA (f:=0) eT Z Z ZD zr (us:=B0) Z Z) ?_
 have m4:=sq.le cd
 have m6:=m4.le bP
 have eU:=m6.le bB
 have m7:=ss.le cd
 have m8:=m7.le bP
 have eV:=m8.le bB
 have m9:=sv.le cd
 have n5:=m9.le bP
 have eW:=n5.le bB
 have n6:=sw.le cd
 have n7:=n6.le bP
 have eX:=n7.le bB
 have q:=bnd hm
 obtain ⟨⟨tz,x51⟩,n8,dv⟩:=q
 try dsimp only at dv
 refine zI 0 Z Z Z Z (zJ Z Z Tryz.call80 (zC Z zP) Z) gO (fun hs=>wGn p0 cf cj cY da cg cm cZ db jE eu hs eU eV eW eX n8) (.inr Z) ?_
 rintro aU tR uE fY bh gQ gH
 rcases tz with _ | x75
 try dsimp only at dv
 obtain ⟨rfl,rfl⟩:=gH
 let B1:Res:=.blk bY 4 [.bool false]
 let B2:Res:=.blk bg 40 [jV 0]
 have sd:sW w U aU [B2,B1] fY:=gQ
 refine oM Z Z (oR Z (ZB Z Z (v:=.pointer none) Z) (oR Z (ZB Z Z (v:=jV x51) Z) (zS (cs:=[.pointer none]) Z Z Z Z Z Zm Z sd ?_)))
 intro ub gb se
 refine zW (j:=0) (vs:=[.pointer none]) Z Z Z Z se Z Z Z Z Tryz.sizeOf118 (zA Z) Z Z Z ?_
 intro jJ sg
 let B3:Res:=.blk gb 118 [.pointer none]
 have sh:sW w U aU [B3,B2,B1] jJ:=sg
 refine oA Z Z (eN (sR gBp Z (zS (cs:=[.nilFunc]) Z Z Z Z Z Tryz.zeroValue152 Z sh ?_)))
 intro ud aZ sj
 let B4:List Value:=[.func (.func 101) #[] #[]]
 refine zW (j:=0) (vs:=B4) Z Z Z Z sj Z Z Z Z Tryz.sizeOf152 (zA Z) Z Z Z ?_
 intro fZ sk
 have cW:sW w U aU [.blk aZ 152 B4,B3,B2,B1] fZ:=sk
 refine eN (zK (zd (sR fL3 Z (oM Z Z (oR Z (Zu Z Z Z) (oA Z Z (eN (ifc dv ?_ ?_))))))))
 intro eQ tj
 refine zx (Zh (fun h=>h eQ.out)) (sR (wTu (.fx 9 (wPB (.nil)) .stop)) Z ?_)
 have n9:=cO.le bB
 have eY:=n9.le bh
 refine oL Z (cW.ldC (f:=0) eY (v:=.slice bm p1.length bn) Z Z yV Z) (oR Z (zf Z Z zV) (oR Z (zF Z Z zQ Z zX) ?_))
 have eZ:=eT.le bh
 refine oL Z (cW.ldC (f:=0) eZ (v:=.slice cf p0.Starts.length cj) Z Z zY Z) (oR Z (zf Z Z zB) (oR Z (Zu Z Z Z) (oM Z Z (ifc tj ?_ ?_))))
 intro bA tl
 refine ZI Z Z Z (zO Z Z (Zh (fun h=>h bA.out))) (cW.ldC (f:=0) eY (v:=.slice bm p1.length bn) Z Z yV Z) Z (zm Z Z Z (zO Z Z (Zh (fun h=>h bA.out))) (fun _=>Runs.mkf Z zP (zC Z zP)) ?_)
 have oa:=gR.le cd
 have oc:=oa.le bP
 have jX:=oc.le bB
 have gp:=jX.le bh
 have jY:=eU.le bh
 have jZ:=eV.le bh
 have j0:=eW.le bh
 have j5:=eX.le bh
 have od:FnOK Tryz.prog aU (.func (.func 103) #[] #[.pointer (some ⟨b2,0,none⟩)]) wOe wOf (fun x=>wBs x p0):=⟨103,[],[.pointer (some ⟨b2,0,none⟩)],rfl,Tryz.call103,fun U1 w1 x y vs le hs ha hm=>by obtain ⟨pA_0,pc_0,rfl,hq0_0⟩:=ha;exact wGL x pA_0 pc_0 p0 b2 cf cj cY da cg cm cZ db w1 U1 hs hq0_0 (eZ.le le) (jY.le le) (jZ.le le) (j0.le le) (j5.le le) hm⟩
 refine bnK tl fun x107 j6 sB=>zI 0 Z Z Z (zO Z Z (Zh (fun h=>h bA.out))) (zJ Z Z Tryz.call102 (zC Z (zC Z zP)) Z) cW (fun hs=>wCI p1 bm bn (fun x=>wBs x p0) (.func (.func 103) #[] #[.pointer (some ⟨b2,0,none⟩)]) fZ aU hs gp od j6) (.inr Z) ?_
 rintro bG tB um eA dw o0 ⟨rfl,rfl⟩
 have cR:sW w U bG [.blk aZ 152 B4,B3,B2,B1] eA:=o0
 refine zm Z Z Z (zO Z Z (Zh (fun h=>h bA.out))) (fun _=>Zd Z Z) (oR Z (zq Z (Zh (fun h=>h bA.out)) Z) (oM Z Z (ifc sB ?_ ?_)))
 intro bp sC
 have lj:=cP.le bh
 have gq:=lj.le dw
 refine ZI Z Z Z (zO Z Z (nC bp.out)) (cR.ldC (f:=0) gq (v:=.slice bt p2.length bu) Z Z zY Z) Z (zm Z Z Z (zO Z Z (nC bp.out)) (fun _=>zf Z Z zB) (zm Z Z Z (zO Z Z (nC bp.out)) (fun _=>zF Z Z zQ Z Zt) ?_))
 have lm:=eZ.le dw
 refine ZI Z Z Z (zO Z Z (nC bp.out)) (cR.ldC (f:=2) lm (v:=.slice cg p0.Clocks.length cm) Z Z Zy Z) Z (zm Z Z Z (zO Z Z (nC bp.out)) (fun _=>zf Z Z ZL) (zm Z Z Z (zO Z Z (nC bp.out)) (fun _=>Zu Z Z Z) (oR Z (zq Z (nC bp.out) Z) (oA Z Z (eN (ifc sC ?_ ?_))))))
 intro eJ sD
 refine zx (Zh (fun h=>h eJ.out)) (zK (yi fun dg cz=>?_))
 have ge:dg 4=.pointer (some ⟨bI,0,none⟩):=(cz 4).trans rfl
 have gf:dg 5=.pointer (some ⟨bK,0,none⟩):=(cz 5).trans rfl
 have dH:dg 6=.pointer (some ⟨bY,0,none⟩):=(cz 6).trans rfl
 have dI:dg 7=.pointer (some ⟨bg,0,none⟩):=(cz 7).trans rfl
 have jM:dg 8=.pointer (some ⟨gb,0,none⟩):=(cz 8).trans rfl
 have gg:dg 10=.pointer (some ⟨aZ,0,none⟩):=(cz 10).trans rfl
 clear cz
 refine rR (.fl 0 (.fl 1 (.fx 2 (wQA (.fx 7 (wPA (.nil)) .stop)) .stop))) Z ?_
 have lE:=eY.le dw
 refine oL Z (cR.ldC (f:=0) lE (v:=.slice bm p1.length bn) Z ge yV Z) ?_
 have q:=cR.freeze (k:=0) rfl
 obtain ⟨dl,fz,cN,pS⟩:=q
 replace cN:=Cl.of cN
 have pU:sW w U dl [B3,B2,B1] eA:=pS
 replace cN:Cl dl aZ 0 B4:=cN
 refine oR Z (Runs.mkf Z zP (zC gg zP)) ?_
 have l3:=gp.le dw
 have l4:=l3.le fz
 have oe:FnOK Tryz.prog dl (.func (.func 101) #[] #[]) wKz wLA wAc:=⟨101,[],[],rfl,Tryz.call101,fun U1 w1 x y vs le hs ha hm=>by obtain rfl:=ha;exact wDu x w1 U1 hs  hm⟩
 have og:FnOK Tryz.prog dl (.func (.func 104) #[] #[.pointer (some ⟨aZ,0,none⟩)]) wOe wOf (fun x=>wBt x wAc):=⟨104,[],[.pointer (some ⟨aZ,0,none⟩)],rfl,Tryz.call104,fun U1 w1 x y vs le hs ha hm=>by obtain ⟨pA_0,pc_0,rfl,hq0_0⟩:=ha;exact wGM x pA_0 pc_0 wAc aZ (.func (.func 101) #[] #[]) w1 U1 hs hq0_0 (cN.le le) (oe.le le) hm⟩
 refine bnK sD fun x142 l5 sM=>zI 0 Z Z Z Z (zJ Z Z Tryz.call102 (zC Z (zC Z zP)) Z) pU (fun hs=>wCI p1 bm bn (fun x=>wBt x wAc) (.func (.func 104) #[] #[.pointer (some ⟨aZ,0,none⟩)]) eA dl hs l4 og l5) (.inr Z) ?_
 rintro cp tK uy fT fA qK ⟨rfl,rfl⟩
 have dL:sW w U cp [B3,B2,B1] fT:=qK
 refine oR Z (Zd Z Z) (oM Z Z (ifc sM ?_ ?_))
 intro bv sQ
 have l6:=gq.le fz
 have l7:=l6.le fA
 refine ZI Z Z Z (zO Z Z (nC bv.out)) (dL.ldC (f:=0) l7 (v:=.slice bt p2.length bu) Z gf zY Z) Z ?_
 have l8:=cN.le fA
 refine ZI Z Z Z (zO Z Z (nC bv.out)) (dL.ldC (f:=0) l8 (v:=.func (.func 101) #[] #[]) Z gg Tryz.isAgg152 Z) Z ?_
 have ma:=gS.le cd
 have mb:=ma.le bP
 have mc:=mb.le bB
 have md:=mc.le bh
 have me:=md.le dw
 have mf:=me.le fz
 have mg:=mf.le fA
 have oh:FnOK Tryz.prog cp (.func (.func 101) #[] #[]) wKz wLA wAc:=⟨101,[],[],rfl,Tryz.call101,fun U1 w1 x y vs le hs ha hm=>by obtain rfl:=ha;exact wDu x w1 U1 hs  hm⟩
 refine bnK sQ fun uI mh sS=>zI 0 Z Z Z (zO Z Z (nC bv.out)) (zJ Z Z Tryz.call89 (zC Z (zC Z zP)) Z) dL (fun hs=>wCu p2 bt bu wAc (.func (.func 101) #[] #[]) fT cp hs mg oh mh) (.inr Z) ?_
 rintro cE tL uz jg uj qM ⟨rfl,rfl⟩
 have gN:sW w U cE [B3,B2,B1] jg:=qM
 refine zm Z Z Z (zO Z Z (nC bv.out)) (fun _=>Zd Z Z) (oR Z (zq Z (nC bv.out) Z) (oA Z Z (eN (ifc sS ?_ ?_))))
 intro eL sU
 refine zx (nC eL.out) (Ze (zt (zH (sR gBs Z (oR Z (Runs.mkf Z zP (zC gf (zC ge zP))) (zS (cs:=[.nilFunc]) Z Z Z Z Z Tryz.zeroValue161 Z gN ?_))))))
 intro tZ jK qN
 let B5:List Value:=[.func (.func 105) #[] #[.pointer (some ⟨bK,0,none⟩),.pointer (some ⟨bI,0,none⟩)]]
 refine zW (j:=0) (vs:=B5) Z Z Z Z qN Z Z Z Z Tryz.sizeOf161 (zA Z) Z Z Z ?_
 intro jh qP
 have qQ:sW w U cE [.blk jK 161 B5,B3,B2,B1] jh:=qP
 refine eN (zK (sR (wEf (.fx 4 .nil .stop)) Z (oL Z (qQ.ldB (j:=1) Z Z jM yG (v:=.pointer none) Z) ?_)))
 cases sU
 intro eL sV
 refine ZE (nF (eL.out)) (sR gBp Z (zW (j:=2) (vs:=[.bool false]) Z Z Z Z gN Z dH Z Z Zs (zA Z) Z Z Z ?_))
 intro ji qR
 have qS:sW w U cE [B3,B2,B1] ji:=qR
 refine zW (j:=1) (vs:=[jV 3]) Z Z Z Z qS Z dI Z Z yB (zA Z) Z Z Z ?_
 intro jj qT
 let B6:Res:=.blk bg 40 [jV 3]
 have qU:sW w U cE [B3,B6,B1] jj:=qT
 refine eN (zR (zZ (zN (wDE (by first | exact .inl rfl | exact .inr rfl) (rbs:=[]) (L:=[B3,B6,B1]) qU fun jl qV=>?_))))
 have fj:sW w U cE [B3,B6,B1] jl:=qV
 cases sV
 exact ⟨_,(wDL (rs:=[.cell 6 4,.cell 7 40]) (vs:=[.bool false,jV 3]) ⟨⟨_,dH,(wDT Zx (fj.blkAt (k:=2) rfl) rfl)⟩,⟨⟨_,dI,(wDT yJ (fj.blkAt (k:=1) rfl) rfl)⟩,trivial⟩⟩ rfl),cE,_,(fj.pick [] _ (by decide) rfl),rfl,rfl⟩
 intro bv sX
 refine ZO Z Z Z (zh Z Z (nF (bv.out)) Z) (ZO Z Z Z (zh Z Z (nF (bv.out)) Z) (yD Z Z Z (zh Z Z (nF (bv.out)) Z) (ZO Z Z Z (zh Z Z (nF (bv.out)) Z) (oR Z (zn Z (nF (bv.out)) Z) (oA Z Z (eN (ZE Z (sR gBp Z (zW (j:=2) (vs:=[.bool false]) Z Z Z Z dL Z dH Z Z Zs (zA Z) Z Z Z ?_)))))))))
 intro jm qW
 have qX:sW w U cp [B3,B2,B1] jm:=qW
 refine zW (j:=1) (vs:=[jV 3]) Z Z Z Z qX Z dI Z Z yB (zA Z) Z Z Z ?_
 intro jo qY
 let B7:Res:=.blk bg 40 [jV 3]
 have qZ:sW w U cp [B3,B7,B1] jo:=qY
 refine eN (zR (zZ (zN (wDE (by first | exact .inl rfl | exact .inr rfl) (rbs:=[]) (L:=[B3,B7,B1]) qZ fun jp rc=>?_))))
 have fm:sW w U cp [B3,B7,B1] jp:=rc
 cases sX
 exact ⟨_,(wDL (rs:=[.cell 6 4,.cell 7 40]) (vs:=[.bool false,jV 3]) ⟨⟨_,dH,(wDT Zx (fm.blkAt (k:=2) rfl) rfl)⟩,⟨⟨_,dI,(wDT yJ (fm.blkAt (k:=1) rfl) rfl)⟩,trivial⟩⟩ rfl),cp,_,(fm.pick [] _ (by decide) rfl),rfl,rfl⟩
 intro eJ sY
 refine cT Z eJ (sR gBp Z (zW (j:=3) (vs:=[.bool false]) Z Z Z Z cR Z Z Z Z Zs (zA Z) Z Z Z ?_))
 intro jq re
 have ri:sW w U bG [.blk aZ 152 B4,B3,B2,B1] jq:=re
 refine zW (j:=2) (vs:=[jV 2]) Z Z Z Z ri Z Z Z Z yB (zA Z) Z Z Z ?_
 intro jr rj
 let B8:Res:=.blk bg 40 [jV 2]
 have rn:sW w U bG [.blk aZ 152 B4,B3,B8,B1] jr:=rj
 refine eN (zR (zZ (zN (wDE (by first | exact .inl rfl | exact .inr rfl) (rbs:=[]) (L:=[.blk aZ 152 B4,B3,B8,B1]) rn fun jt ro=>?_))))
 have fq:sW w U bG [.blk aZ 152 B4,B3,B8,B1] jt:=ro
 cases sY
 exact ⟨_,(wDL (rs:=[.cell 6 4,.cell 7 40]) (vs:=[.bool false,jV 2]) ⟨⟨_,rfl,(wDT Zx (fq.blkAt (k:=3) rfl) rfl)⟩,⟨⟨_,rfl,(wDT yJ (fq.blkAt (k:=2) rfl) rfl)⟩,trivial⟩⟩ rfl),bG,_,(fq.pick [] _ (by decide) rfl),rfl,rfl⟩
 intro bp sZ
 refine ZO Z Z Z (zh Z Z (nF (bp.out)) Z) (ZO Z Z Z (zh Z Z (nF (bp.out)) Z) (ZO Z Z Z (zh Z Z (nF (bp.out)) Z) (ZO Z Z Z (zh Z Z (nF (bp.out)) Z) (ZO Z Z Z (zh Z Z (nF (bp.out)) Z) (ZO Z Z Z (zh Z Z (nF (bp.out)) Z) (oR Z (zn Z (nF (bp.out)) Z) (oA Z Z (eN (ZE Z (sR gBp Z (zW (j:=3) (vs:=[.bool false]) Z Z Z Z cR Z Z Z Z Zs (zA Z) Z Z Z ?_)))))))))))
 intro ju rp
 have rq:sW w U bG [.blk aZ 152 B4,B3,B2,B1] ju:=rp
 refine zW (j:=2) (vs:=[jV 2]) Z Z Z Z rq Z Z Z Z yB (zA Z) Z Z Z ?_
 intro jv rx
 let B9:Res:=.blk bg 40 [jV 2]
 have ry:sW w U bG [.blk aZ 152 B4,B3,B9,B1] jv:=rx
 refine eN (zR (zZ (zN (wDE (by first | exact .inl rfl | exact .inr rfl) (rbs:=[]) (L:=[.blk aZ 152 B4,B3,B9,B1]) ry fun jw rA=>?_))))
 have ft:sW w U bG [.blk aZ 152 B4,B3,B9,B1] jw:=rA
 cases sZ
 exact ⟨_,(wDL (rs:=[.cell 6 4,.cell 7 40]) (vs:=[.bool false,jV 2]) ⟨⟨_,rfl,(wDT Zx (ft.blkAt (k:=3) rfl) rfl)⟩,⟨⟨_,rfl,(wDT yJ (ft.blkAt (k:=2) rfl) rfl)⟩,trivial⟩⟩ rfl),bG,_,(ft.pick [] _ (by decide) rfl),rfl,rfl⟩
 intro bA s5
 refine oT Z bA (oT Z bA (yD Z Z Z (zh Z Z (Zk bA.out) Z) (oT Z bA (oR Z (zn Z (Zk bA.out) Z) (oM Z Z (oN Z (oN Z (oN Z (oN Z (oN Z (oN Z (oR Z (zn Z Z Z) (oA Z Z (eN (ZE Z (sR gBp Z (zW (j:=3) (vs:=[.bool false]) Z Z Z Z cW Z Z Z Z Zs (zA Z) Z Z Z ?_)))))))))))))))))
 intro jx rC
 have rD:sW w U aU [.blk aZ 152 B4,B3,B2,B1] jx:=rC
 refine zW (j:=2) (vs:=[jV 2]) Z Z Z Z rD Z Z Z Z yB (zA Z) Z Z Z ?_
 intro jy rE
 let dR:Res:=.blk bg 40 [jV 2]
 have rF:sW w U aU [.blk aZ 152 B4,B3,dR,B1] jy:=rE
 refine eN (zR (zZ (zN (wDE (by first | exact .inl rfl | exact .inr rfl) (rbs:=[]) (L:=[.blk aZ 152 B4,B3,dR,B1]) rF fun jz rG=>?_))))
 have fu:sW w U aU [.blk aZ 152 B4,B3,dR,B1] jz:=rG
 cases s5
 exact ⟨_,(wDL (rs:=[.cell 6 4,.cell 7 40]) (vs:=[.bool false,jV 2]) ⟨⟨_,rfl,(wDT Zx (fu.blkAt (k:=3) rfl) rfl)⟩,⟨⟨_,rfl,(wDT yJ (fu.blkAt (k:=2) rfl) rfl)⟩,trivial⟩⟩ rfl),aU,_,(fu.pick [] _ (by decide) rfl),rfl,rfl⟩
 intro eQ s6
 refine cT Z eQ (sR gBs Z (oM Z Z (zW (j:=3) (vs:=[.bool false]) Z Z Z Z cW Z Z Z Z Zs (zA Z) Z Z Z ?_)))
 intro jA rH
 have rI:sW w U aU [.blk aZ 152 B4,B3,B2,B1] jA:=rH
 refine zW (j:=2) (vs:=[jV x51]) Z Z Z Z rI Z Z Z Z yB (zA Z) Z Z Z ?_
 intro jB rJ
 let dS:Res:=.blk bg 40 [jV x51]
 have rK:sW w U aU [.blk aZ 152 B4,B3,dS,B1] jB:=rJ
 refine eN (zR (zZ (zN (wDE (by first | exact .inl rfl | exact .inr rfl) (rbs:=[]) (L:=[.blk aZ 152 B4,B3,dS,B1]) rK fun jC rL=>?_))))
 have fw:sW w U aU [.blk aZ 152 B4,B3,dS,B1] jC:=rL
 cases s6
 exact ⟨_,(wDL (rs:=[.cell 6 4,.cell 7 40]) (vs:=[.bool false,jV x51]) ⟨⟨_,rfl,(wDT Zx (fw.blkAt (k:=3) rfl) rfl)⟩,⟨⟨_,rfl,(wDT yJ (fw.blkAt (k:=2) rfl) rfl)⟩,trivial⟩⟩ rfl),aU,_,(fw.pick [] _ (by decide) rfl),rfl,rfl⟩
 try dsimp only at dv
 obtain ⟨dp,bC,bL,bD,bM,bE,bN,bF,bO,ab,aj,ai,dy,dG,rfl,rfl,mi,mj,ml,mn,ug⟩:=gH
 let ae:Res:=.blk dp 139 [.slice bC x75.Race.Starts.length bL,.slice bD x75.Race.Splits.length bM,.slice bE x75.Race.Clocks.length bN,.slice bF x75.Race.Readings.length bO,.map (some ab),.slice dy x75.edges.length dG]
 let ak:Res:=.row dy dG 184 7 (hH wAS x75.edges)
 let am:Res:=.blk bY 4 [.bool false]
 let ap:Res:=.blk bg 40 [jV 0]
 have rM:sW w U aU [ae,.obj ab (.map aj ai),ak,ap,am] fY:=gQ
 refine oM Z Z (oR Z (ZB Z Z (v:=.pointer (some ⟨dp,0,none⟩)) Z) (oR Z (ZB Z Z (v:=jV x51) Z) (zS (cs:=[.pointer none]) Z Z Z Z Z Zm Z rM ?_)))
 intro t7 aa rN
 let ah:List Value:=[.pointer (some ⟨dp,0,none⟩)]
 refine zW (j:=0) (vs:=ah) Z Z Z Z rN Z Z Z Z Tryz.sizeOf118 (zA Z) Z Z Z ?_
 intro jD rO
 have rP:sW w U aU [.blk aa 118 ah,ae,.obj ab (.map aj ai),ak,ap,am] jD:=rO
 refine oA Z Z (eN (sR gBp Z (zS (cs:=[.nilFunc]) Z Z Z Z Z Tryz.zeroValue152 Z rP ?_)))
 intro t8 aY rS
 let be:List Value:=[.func (.func 101) #[] #[]]
 refine zW (j:=0) (vs:=be) Z Z Z Z rS Z Z Z Z Tryz.sizeOf152 (zA Z) Z Z Z ?_
 intro fU rT
 have cU:sW w U aU [.blk aY 152 be,.blk aa 118 ah,ae,.obj ab (.map aj ai),ak,ap,am] fU:=rT
 refine eN (zK (zd (sR fL3 Z (oM Z Z (oR Z (Zu Z Z Z) (oA Z Z (eN (ifc dv ?_ ?_))))))))
 intro eM s7
 refine zx (Zh (fun h=>h eM.out)) (sR (wTu (.fx 9 (wPB (.nil)) .stop)) Z ?_)
 have mo:=cO.le bB
 have eR:=mo.le bh
 refine oL Z (cU.ldC (f:=0) eR (v:=.slice bm p1.length bn) Z Z yV Z) (oR Z (zf Z Z zV) (oR Z (zF Z Z zQ Z zX) ?_))
 have eS:=eT.le bh
 refine oL Z (cU.ldC (f:=0) eS (v:=.slice cf p0.Starts.length cj) Z Z zY Z) (oR Z (zf Z Z zB) (oR Z (Zu Z Z Z) (oM Z Z (ifc s7 ?_ ?_))))
 intro bw s8
 refine ZI Z Z Z (zO Z Z (Zh (fun h=>h bw.out))) (cU.ldC (f:=0) eR (v:=.slice bm p1.length bn) Z Z yV Z) Z (zm Z Z Z (zO Z Z (Zh (fun h=>h bw.out))) (fun _=>Runs.mkf Z zP (zC Z zP)) ?_)
 have mp:=gR.le cd
 have mq:=mp.le bP
 have mr:=mq.le bB
 have gx:=mr.le bh
 have ms:=eU.le bh
 have mu:=eV.le bh
 have mw:=eW.le bh
 have my:=eX.le bh
 have oi:FnOK Tryz.prog aU (.func (.func 103) #[] #[.pointer (some ⟨b2,0,none⟩)]) wOe wOf (fun x=>wBs x p0):=⟨103,[],[.pointer (some ⟨b2,0,none⟩)],rfl,Tryz.call103,fun U1 w1 x y vs le hs ha hm=>by obtain ⟨pA_0,pc_0,rfl,hq0_0⟩:=ha;exact wGL x pA_0 pc_0 p0 b2 cf cj cY da cg cm cZ db w1 U1 hs hq0_0 (eS.le le) (ms.le le) (mu.le le) (mw.le le) (my.le le) hm⟩
 refine bnK s8 fun uJ mz s9=>zI 0 Z Z Z (zO Z Z (Zh (fun h=>h bw.out))) (zJ Z Z Tryz.call102 (zC Z (zC Z zP)) Z) cU (fun hs=>wCI p1 bm bn (fun x=>wBs x p0) (.func (.func 103) #[] #[.pointer (some ⟨b2,0,none⟩)]) fU aU hs gx oi mz) (.inr Z) ?_
 rintro bH tM uA eC bQ rW ⟨rfl,rfl⟩
 have cV:sW w U bH [.blk aY 152 be,.blk aa 118 ah,ae,.obj ab (.map aj ai),ak,ap,am] eC:=rW
 refine zm Z Z Z (zO Z Z (Zh (fun h=>h bw.out))) (fun _=>Zd Z Z) (oR Z (zq Z (Zh (fun h=>h bw.out)) Z) (oM Z Z (ifc s9 ?_ ?_)))
 intro bq tc
 have mA:=cP.le bh
 have gy:=mA.le bQ
 refine ZI Z Z Z (zO Z Z (nC bq.out)) (cV.ldC (f:=0) gy (v:=.slice bt p2.length bu) Z Z zY Z) Z (zm Z Z Z (zO Z Z (nC bq.out)) (fun _=>zf Z Z zB) (zm Z Z Z (zO Z Z (nC bq.out)) (fun _=>zF Z Z zQ Z Zt) ?_))
 have mB:=eS.le bQ
 refine ZI Z Z Z (zO Z Z (nC bq.out)) (cV.ldC (f:=2) mB (v:=.slice cg p0.Clocks.length cm) Z Z Zy Z) Z (zm Z Z Z (zO Z Z (nC bq.out)) (fun _=>zf Z Z ZL) (zm Z Z Z (zO Z Z (nC bq.out)) (fun _=>Zu Z Z Z) (oR Z (zq Z (nC bq.out) Z) (oA Z Z (eN (ifc tc ?_ ?_))))))
 intro eO td
 refine zx (Zh (fun h=>h eO.out)) (zK (yi fun dh cA=>?_))
 have gi:dh 4=.pointer (some ⟨bI,0,none⟩):=(cA 4).trans rfl
 have gj:dh 5=.pointer (some ⟨bK,0,none⟩):=(cA 5).trans rfl
 have dq:dh 6=.pointer (some ⟨bY,0,none⟩):=(cA 6).trans rfl
 have dr:dh 7=.pointer (some ⟨bg,0,none⟩):=(cA 7).trans rfl
 have gk:dh 8=.pointer (some ⟨aa,0,none⟩):=(cA 8).trans rfl
 have gm:dh 10=.pointer (some ⟨aY,0,none⟩):=(cA 10).trans rfl
 clear cA
 refine rR (.fl 0 (.fl 1 (.fx 2 (wQA (.fx 7 (wPA (.nil)) .stop)) .stop))) Z ?_
 have gz:=eR.le bQ
 refine oL Z (cV.ldC (f:=0) gz (v:=.slice bm p1.length bn) Z gi yV Z) ?_
 have q:=cV.freeze (k:=0) rfl
 obtain ⟨dm,b5,cQ,rZ⟩:=q
 replace cQ:=Cl.of cQ
 have r0:sW w U dm [.blk aa 118 ah,ae,.obj ab (.map aj ai),ak,ap,am] eC:=rZ
 replace cQ:Cl dm aY 0 be:=cQ
 refine oR Z (Runs.mkf Z zP (zC gm zP)) ?_
 have mC:=gx.le bQ
 have gA:=mC.le b5
 have oj:FnOK Tryz.prog dm (.func (.func 101) #[] #[]) wKz wLA wAc:=⟨101,[],[],rfl,Tryz.call101,fun U1 w1 x y vs le hs ha hm=>by obtain rfl:=ha;exact wDu x w1 U1 hs  hm⟩
 have om:FnOK Tryz.prog dm (.func (.func 104) #[] #[.pointer (some ⟨aY,0,none⟩)]) wOe wOf (fun x=>wBt x wAc):=⟨104,[],[.pointer (some ⟨aY,0,none⟩)],rfl,Tryz.call104,fun U1 w1 x y vs le hs ha hm=>by obtain ⟨pA_0,pc_0,rfl,hq0_0⟩:=ha;exact wGM x pA_0 pc_0 wAc aY (.func (.func 101) #[] #[]) w1 U1 hs hq0_0 (cQ.le le) (oj.le le) hm⟩
 refine bnK td fun uK mD te=>zI 0 Z Z Z Z (zJ Z Z Tryz.call102 (zC Z (zC Z zP)) Z) r0 (fun hs=>wCI p1 bm bn (fun x=>wBt x wAc) (.func (.func 104) #[] #[.pointer (some ⟨aY,0,none⟩)]) eC dm hs gA om mD) (.inr Z) ?_
 rintro cq tO uB fV bR r6 ⟨rfl,rfl⟩
 have dM:sW w U cq [.blk aa 118 ah,ae,.obj ab (.map aj ai),ak,ap,am] fV:=r6
 refine oR Z (Zd Z Z) (oM Z Z (ifc te ?_ ?_))
 intro bz tf
 have mE:=gy.le b5
 have gB:=mE.le bR
 refine ZI Z Z Z (zO Z Z (nC bz.out)) (dM.ldC (f:=0) gB (v:=.slice bt p2.length bu) Z gj zY Z) Z ?_
 have mF:=cQ.le bR
 refine ZI Z Z Z (zO Z Z (nC bz.out)) (dM.ldC (f:=0) mF (v:=.func (.func 101) #[] #[]) Z gm Tryz.isAgg152 Z) Z ?_
 have mG:=gS.le cd
 have mH:=mG.le bP
 have mI:=mH.le bB
 have mJ:=mI.le bh
 have mK:=mJ.le bQ
 have mL:=mK.le b5
 have gC:=mL.le bR
 have oq:FnOK Tryz.prog cq (.func (.func 101) #[] #[]) wKz wLA wAc:=⟨101,[],[],rfl,Tryz.call101,fun U1 w1 x y vs le hs ha hm=>by obtain rfl:=ha;exact wDu x w1 U1 hs  hm⟩
 refine bnK tf fun uL mM tg=>zI 0 Z Z Z (zO Z Z (nC bz.out)) (zJ Z Z Tryz.call89 (zC Z (zC Z zP)) Z) dM (fun hs=>wCu p2 bt bu wAc (.func (.func 101) #[] #[]) fV cq hs gC oq mM) (.inr Z) ?_
 rintro cr tP uC jG b9 r7 ⟨rfl,rfl⟩
 have gP:sW w U cr [.blk aa 118 ah,ae,.obj ab (.map aj ai),ak,ap,am] jG:=r7
 refine zm Z Z Z (zO Z Z (nC bz.out)) (fun _=>Zd Z Z) (oR Z (zq Z (nC bz.out) Z) (oA Z Z (eN (ifc tg ?_ ?_))))
 intro eP th
 refine zx (nC eP.out) (Ze (zt (zH (sR gBs Z (oR Z (Runs.mkf Z zP (zC gj (zC gi zP))) (zS (cs:=[.nilFunc]) Z Z Z Z Z Tryz.zeroValue161 Z gP ?_))))))
 intro ua aq r8
 let au:List Value:=[.func (.func 105) #[] #[.pointer (some ⟨bK,0,none⟩),.pointer (some ⟨bI,0,none⟩)]]
 refine zW (j:=0) (vs:=au) Z Z Z Z r8 Z Z Z Z Tryz.sizeOf161 (zA Z) Z Z Z ?_
 intro fW r9
 have fy:sW w U cr [.blk aq 161 au,.blk aa 118 ah,ae,.obj ab (.map aj ai),ak,ap,am] fW:=r9
 refine eN (zK (sR (wEf (.fx 4 .nil .stop)) Z (oL Z (fy.ldB (j:=1) Z Z gk yG (v:=.pointer (some ⟨dp,0,none⟩)) Z) (oR Z (yE Z Z) (oR Z (zF Z Z ZK Z zr) ?_)))))
 let fC:List Value:=[.slice bC x75.Race.Starts.length bL,.slice bD x75.Race.Splits.length bM,.slice bE x75.Race.Clocks.length bN,.slice bF x75.Race.Readings.length bO]
 refine oL Z (fy.ldBA (j:=2) Z Z Z ZD zr (vs:=fC) Z Z) ?_
 have mO:=mi.le bQ
 have mP:=mO.le b5
 have mQ:=mP.le bR
 have gD:=mQ.le b9
 have mR:=mj.le bQ
 have mS:=mR.le b5
 have mT:=mS.le bR
 have gE:=mT.le b9
 have mU:=ml.le bQ
 have mV:=mU.le b5
 have mW:=mV.le bR
 have gF:=mW.le b9
 have mX:=mn.le bQ
 have mY:=mX.le b5
 have mZ:=mY.le bR
 have gG:=mZ.le b9
 have q:=bnd th
 obtain ⟨⟨⟩,m0,gW⟩:=q
 try dsimp only at gW
 refine zI 0 Z Z Z Z (zJ Z Z Tryz.call106 (zC Z zP) Z) fy (fun hs=>wEb x75.Race bC bL bD bM bE bN bF bO fW cr hs gD gE gF gG m0) (.inr Z) ?_
 rintro fO tQ uD jH cb sb ⟨ga,rfl,rfl,m5⟩
 have sc:sW w U fO [.blk aq 161 au,.blk aa 118 ah,ae,.obj ab (.map aj ai),ak,ap,am] jH:=sb
 refine eN (zd (yi fun dk cX=>?_))
 have dJ:dk 6=.pointer (some ⟨bY,0,none⟩):=(cX 6).trans dq
 have dK:dk 7=.pointer (some ⟨bg,0,none⟩):=(cX 7).trans dr
 have jS:dk 8=.pointer (some ⟨aa,0,none⟩):=(cX 8).trans gk
 have jU:dk 11=.pointer (some ⟨aq,0,none⟩):=(cX 11).trans rfl
 have jW:dk 62=.func (.func 126) #[] #[.pointer (some ⟨ga,0,none⟩)]:=(cX 62).trans rfl
 clear cX
 refine bnK gW fun gZ sA dN=>?_
 have cJ:=gD.le cb
 have cK:=gE.le cb
 have cL:=gF.le cb
 have cM:=gG.le cb
 refine CK.rangeY (S:=Unit) (E:=Unit) (ar:=wRm) (PY:=(fun (_:Unit) (U_:PHeap) (L_:List Res)=>L_=[.blk aq 161 au,.blk aa 118 ah,.row dy dG 184 7 (hH wAS x75.edges),ae,.obj ab (.map aj ai),ap,am])) (PE:=(fun (_:Unit) (U_:PHeap) (L_:List Res)=>L_=[.blk aq 161 au,.blk aa 118 ah,.row dy dG 184 7 (hH wAS x75.edges),ae,.obj ab (.map aj ai),ap,am])) (exO:=(fun _=>.ret)) (s0:=()) (rr:=gZ) jW Tryz.call126 (sc.pick [0,1,4,2,3,5,6] _ (by decide) rfl) (by decide) (fun _ _ _ h=>by obtain rfl:=h;rfl) (fun _=>.inl rfl) rfl (fun l w1 L1 PY' PE' ow ot sn=>wEH PY' PE' _ l _ x75.Race ga bC bL bD bM bE bN bF bO w1 L1 fO ow ot sn m5 cJ cK cL cM sA) ?_ ?_
 rintro aV ul uf ⟨⟩ bk uF uk bS tA tv fB aW a0 ox ou su gT df bZ
 obtain rfl:=ou
 obtain rfl:=su
 replace bZ:∀ t,df t=upd dk 63 (.agg #[jV bk.Kind,jV bk.Skier,jV bk.Index,.bool bk.Up]) t:=bZ
 have jL:df 63=.agg #[jV bk.Kind,jV bk.Skier,jV bk.Index,.bool bk.Up]:=(bZ 63).trans (wDB _ _ _)
 have cG:df 6=.pointer (some ⟨bY,0,none⟩):=(bZ 6).trans ((wDJ _ _ (by decide)).trans dJ)
 have cH:df 7=.pointer (some ⟨bg,0,none⟩):=(bZ 7).trans ((wDJ _ _ (by decide)).trans dK)
 have cw:df 8=.pointer (some ⟨aa,0,none⟩):=(bZ 8).trans ((wDJ _ _ (by decide)).trans jS)
 have cI:df 11=.pointer (some ⟨aq,0,none⟩):=(bZ 11).trans ((wDJ _ _ (by decide)).trans jU)
 clear bZ
 have oy:St aW bS [.obj aV fB,.blk aq 161 au,.blk aa 118 ah,ak,ae,.obj ab (.map aj ai),ap,am] tv:=ox
 try dsimp only at gT
 refine rR gBp Z (zS (cs:=[jV 0,jV 0,jV 0,.bool false]) Z Z Z Z Z yn Z oy ?_)
 intro tS aX oz
 let aT:List Value:=[jV bk.Kind,jV bk.Skier,jV bk.Index,.bool bk.Up]
 refine zW (j:=0) (vs:=aT) Z Z Z Z oz Z Z jL Z yF (zA Z) Z Z Z ?_
 intro ij oB
 have oG:St aW bS [.blk aX 93 aT,.obj aV fB,.blk aq 161 au,.blk aa 118 ah,ak,ae,.obj ab (.map aj ai),ap,am] ij:=oB
 refine zo ⟨rfl,rfl,_,_,(oG.pick [1,0,2,3,4,5,6,7,8] [.obj aV fB,.blk aX 93 aT,.blk aq 161 au,.blk aa 118 ah,ak,ae,.obj ab (.map aj ai),ap,am] (by decide) rfl),fun ey ba oH=>?_⟩
 have oI:St aW bS [.obj aV ba,.blk aX 93 aT,.blk aq 161 au,.blk aa 118 ah,ak,ae,.obj ab (.map aj ai),ap,am] ey:=oH
 refine zd ?_
 have q:=bnd gT
 obtain ⟨⟨g7,g8,g9,ib,tw⟩,tm,gU⟩:=q
 try dsimp only at gU
 let cC:List Value:=[jV g7,jV g8]
 let cD:List Value:=[jV g9,jV ib]
 refine yY (fun σ_ w_=>∃ (U_:PHeap) (ct:Nat) (cu:Nat),σ_ 6=.pointer (some ⟨bY,0,none⟩)/\σ_ 7=.pointer (some ⟨bg,0,none⟩)/\σ_ 8=.pointer (some ⟨aa,0,none⟩)/\σ_ 11=.pointer (some ⟨aq,0,none⟩)/\σ_ 13=.pointer (some ⟨ct,0,none⟩)/\σ_ 14=.pointer (some ⟨cu,0,none⟩)/\σ_ 15=jV tw/\PHeap.Le bS U_/\St aW U_ [.obj aV ba,.blk aX 93 aT,.blk aq 161 au,.blk aa 118 ah,ak,ae,.obj ab (.map aj ai),ap,am,.blk ct 123 cC,.blk cu 123 cD] w_) ?_ ?_
 have q:=bnd tm
 obtain ⟨⟨bb,bd,dx⟩,dt,cy⟩:=q
 try dsimp only at cy
 refine zy zu [1,3,3,1,1,2,3,3,3,3,2,2,0,0,3] (wHz (.fx 5 (wOz (.fx 10 gCe (.fx 11 gCf .stop))) (.fx 10 (.fx 5 (wOz gCe) (.fx 11 (.fx 5 (wOz gBw) (.stop)) (.stop))) (.fx 11 (.fx 5 (wOz gCf) (.fx 10 (.fx 5 (wOz gBw) (.stop)) (.stop))) (.stop))))) (by kernel_rfl) ?_
 have cx:=oI.drew
 generalize hw_W1113:({ ey with drawn:=ey.drawn + 1 }:World)=ik at cx ⊢
 refine oL Z (cx.ldB (j:=3) Z Z cw yG (v:=.pointer (some ⟨dp,0,none⟩)) Z) (oR Z (yE Z Z) (oR Z (zF Z Z ZK Z zr) (oL Z (cx.ldBA (j:=5) Z Z Z ZD zr (vs:=fC) Z Z) (oL Z (cx.ldBA (j:=1) Z Z Z yU yF (vs:=aT) Z Z) (zl ?_ ?_)))))
 have j7:=cJ.le a0
 have j8:=cK.le a0
 have j9:=cL.le a0
 have k9:=cM.le a0
 refine zI 0 Z Z Z Z (zJ Z Z Tryz.call107 (zC Z (zC Z zP)) Z) cx (fun hs=>wCA x75.Race bC bL bD bM bE bN bF bO bk ik bS hs j7 j8 j9 k9 dt) (.inr Z) ?_
 rintro cn tC uo il gX oK ⟨rfl,rfl⟩
 have gI:St aW cn [.obj aV ba,.blk aX 93 aT,.blk aq 161 au,.blk aa 118 ah,ak,ae,.obj ab (.map aj ai),ap,am] il:=oK
 refine oM Z Z (oR Z (ZB Z Z (v:=.agg #[jV bb.skier,jV bb.mat]) Z) (oR Z (ZB Z Z (v:=.agg #[jV bd.skier,jV bd.mat]) Z) (oR Z (ZB Z Z (v:=jV dx) Z) (zl ?_ ?_))))
 let dT:List Value:=[jV 0,jV 0]
 refine zS (cs:=dT) Z Z Z Z Z ze Z gI ?_
 intro tT eD oO
 refine zS (cs:=dT) Z Z Z Z Z ze Z oO ?_
 intro tU eE oP
 let dU:List Value:=[jV bb.skier,jV bb.mat]
 refine zW (j:=1) (vs:=dU) Z Z Z Z oP Z Z Z Z zE (zA Z) Z Z Z ?_
 intro im oU
 have oW:St aW cn [.blk eE 123 dT,.blk eD 123 dU,.obj aV ba,.blk aX 93 aT,.blk aq 161 au,.blk aa 118 ah,ak,ae,.obj ab (.map aj ai),ap,am] im:=oU
 let fD:List Value:=[jV bd.skier,jV bd.mat]
 refine zW (j:=0) (vs:=fD) Z Z Z Z oW Z Z Z Z zE (zA Z) Z Z Z ?_
 intro io oX
 have oY:St aW cn [.blk eE 123 fD,.blk eD 123 dU,.obj aV ba,.blk aX 93 aT,.blk aq 161 au,.blk aa 118 ah,ak,ae,.obj ab (.map aj ai),ap,am] io:=oX
 refine oA Z Z (zo ?_)
 cases cy
 exact zH ⟨rfl,⟨cn,eD,eE,cG,cH,cw,cI,rfl,rfl,rfl,gX,(oY.pick [2,3,4,5,6,7,8,9,10,1,0] _ (by decide) rfl)⟩⟩
 let dV:List Value:=[jV 0,jV 0]
 refine zS (cs:=dV) Z Z Z Z Z ze Z gI ?_
 intro tV eF o3
 refine zS (cs:=dV) Z Z Z Z Z ze Z o3 ?_
 intro tW eG o5
 let dW:List Value:=[jV bb.skier,jV bb.mat]
 refine zW (j:=0) (vs:=dW) Z Z Z Z o5 Z Z Z Z zE (zA Z) Z Z Z ?_
 intro ip o6
 have o7:St aW cn [.blk eG 123 dW,.blk eF 123 dV,.obj aV ba,.blk aX 93 aT,.blk aq 161 au,.blk aa 118 ah,ak,ae,.obj ab (.map aj ai),ap,am] ip:=o6
 let fE:List Value:=[jV bd.skier,jV bd.mat]
 refine zW (j:=1) (vs:=fE) Z Z Z Z o7 Z Z Z Z zE (zA Z) Z Z Z ?_
 intro iq o8
 have o9:St aW cn [.blk eG 123 dW,.blk eF 123 fE,.obj aV ba,.blk aX 93 aT,.blk aq 161 au,.blk aa 118 ah,ak,ae,.obj ab (.map aj ai),ap,am] iq:=o8
 refine oA Z Z (zo ?_)
 cases cy
 exact zH ⟨rfl,⟨cn,eG,eF,cG,cH,cw,cI,rfl,rfl,rfl,gX,(o9.pick [2,3,4,5,6,7,8,9,10,0,1] _ (by decide) rfl)⟩⟩
 refine zl ?_ ?_
 let bT:List Value:=[jV 0,jV 0]
 refine zS (cs:=bT) Z Z Z Z Z ze Z cx ?_
 intro ir bW gJ
 refine zl ?_ ?_
 have lf:=cJ.le a0
 have lg:=cK.le a0
 have lh:=cL.le a0
 have li:=cM.le a0
 refine zI 0 Z Z Z Z (zJ Z Z Tryz.call107 (zC Z (zC Z zP)) Z) gJ (fun hs=>wCA x75.Race bC bL bD bM bE bN bF bO bk ir bS hs lf lg lh li dt) (.inr Z) ?_
 rintro dA tD uq it tn pe ⟨rfl,rfl⟩
 have pf:St aW dA [.blk bW 123 bT,.obj aV ba,.blk aX 93 aT,.blk aq 161 au,.blk aa 118 ah,ak,ae,.obj ab (.map aj ai),ap,am] it:=pe
 refine oM Z Z (oR Z (ZB Z Z (v:=.agg #[jV bb.skier,jV bb.mat]) Z) (oR Z (ZB Z Z (v:=.agg #[jV bd.skier,jV bd.mat]) Z) (oR Z (ZB Z Z (v:=jV dx) Z) (zS (cs:=bT) Z Z Z Z Z ze Z pf ?_))))
 intro tX eH pg
 let dX:List Value:=[jV bb.skier,jV bb.mat]
 refine zW (j:=1) (vs:=dX) Z Z Z Z pg Z Z Z Z zE (zA Z) Z Z Z ?_
 intro iu ph
 have pj:St aW dA [.blk eH 123 bT,.blk bW 123 dX,.obj aV ba,.blk aX 93 aT,.blk aq 161 au,.blk aa 118 ah,ak,ae,.obj ab (.map aj ai),ap,am] iu:=ph
 let fG:List Value:=[jV bd.skier,jV bd.mat]
 refine zW (j:=0) (vs:=fG) Z Z Z Z pj Z Z Z Z zE (zA Z) Z Z Z ?_
 intro iv pm
 have pn:St aW dA [.blk eH 123 fG,.blk bW 123 dX,.obj aV ba,.blk aX 93 aT,.blk aq 161 au,.blk aa 118 ah,ak,ae,.obj ab (.map aj ai),ap,am] iv:=pm
 refine oA Z Z (zo ?_)
 cases cy
 exact zH ⟨rfl,⟨dA,bW,eH,cG,cH,cw,cI,rfl,rfl,rfl,tn,(pn.pick [2,3,4,5,6,7,8,9,10,1,0] _ (by decide) rfl)⟩⟩
 refine zS (cs:=bT) Z Z Z Z Z ze Z gJ ?_
 intro iw dE po
 have ln:=cJ.le a0
 have lp:=cK.le a0
 have ls:=cL.le a0
 have lu:=cM.le a0
 refine zI 0 Z Z Z Z (zJ Z Z Tryz.call107 (zC Z (zC Z zP)) Z) po (fun hs=>wCA x75.Race bC bL bD bM bE bN bF bO bk iw bS hs ln lp ls lu dt) (.inr Z) ?_
 rintro dB tE ur iy tp pp ⟨rfl,rfl⟩
 have pq:St aW dB [.blk dE 123 bT,.blk bW 123 bT,.obj aV ba,.blk aX 93 aT,.blk aq 161 au,.blk aa 118 ah,ak,ae,.obj ab (.map aj ai),ap,am] iy:=pp
 refine oM Z Z (oR Z (ZB Z Z (v:=.agg #[jV bb.skier,jV bb.mat]) Z) (oR Z (ZB Z Z (v:=.agg #[jV bd.skier,jV bd.mat]) Z) (oR Z (ZB Z Z (v:=jV dx) Z) ?_)))
 let dY:List Value:=[jV bb.skier,jV bb.mat]
 refine zW (j:=1) (vs:=dY) Z Z Z Z pq Z Z Z Z zE (zA Z) Z Z Z ?_
 intro iz pt
 have pu:St aW dB [.blk dE 123 bT,.blk bW 123 dY,.obj aV ba,.blk aX 93 aT,.blk aq 161 au,.blk aa 118 ah,ak,ae,.obj ab (.map aj ai),ap,am] iz:=pt
 let fH:List Value:=[jV bd.skier,jV bd.mat]
 refine zW (j:=0) (vs:=fH) Z Z Z Z pu Z Z Z Z zE (zA Z) Z Z Z ?_
 intro iA py
 have pz:St aW dB [.blk dE 123 fH,.blk bW 123 dY,.obj aV ba,.blk aX 93 aT,.blk aq 161 au,.blk aa 118 ah,ak,ae,.obj ab (.map aj ai),ap,am] iA:=py
 refine oA Z Z (zo ?_)
 cases cy
 exact zH ⟨rfl,⟨dB,bW,dE,cG,cH,cw,cI,rfl,rfl,rfl,tp,(pz.pick [2,3,4,5,6,7,8,9,10,1,0] _ (by decide) rfl)⟩⟩
 let bU:List Value:=[jV 0,jV 0]
 refine zS (cs:=bU) Z Z Z Z Z ze Z cx ?_
 intro iB bX gK
 refine zl ?_ ?_
 have lv:=cJ.le a0
 have lw:=cK.le a0
 have lx:=cL.le a0
 have ly:=cM.le a0
 refine zI 0 Z Z Z Z (zJ Z Z Tryz.call107 (zC Z (zC Z zP)) Z) gK (fun hs=>wCA x75.Race bC bL bD bM bE bN bF bO bk iB bS hs lv lw lx ly dt) (.inr Z) ?_
 rintro dC tF uu iC tq pB ⟨rfl,rfl⟩
 have pC:St aW dC [.blk bX 123 bU,.obj aV ba,.blk aX 93 aT,.blk aq 161 au,.blk aa 118 ah,ak,ae,.obj ab (.map aj ai),ap,am] iC:=pB
 refine oM Z Z (oR Z (ZB Z Z (v:=.agg #[jV bb.skier,jV bb.mat]) Z) (oR Z (ZB Z Z (v:=.agg #[jV bd.skier,jV bd.mat]) Z) (oR Z (ZB Z Z (v:=jV dx) Z) (zS (cs:=bU) Z Z Z Z Z ze Z pC ?_))))
 intro tY eI pD
 let dZ:List Value:=[jV bb.skier,jV bb.mat]
 refine zW (j:=0) (vs:=dZ) Z Z Z Z pD Z Z Z Z zE (zA Z) Z Z Z ?_
 intro iD pE
 have pF:St aW dC [.blk eI 123 dZ,.blk bX 123 bU,.obj aV ba,.blk aX 93 aT,.blk aq 161 au,.blk aa 118 ah,ak,ae,.obj ab (.map aj ai),ap,am] iD:=pE
 let fJ:List Value:=[jV bd.skier,jV bd.mat]
 refine zW (j:=1) (vs:=fJ) Z Z Z Z pF Z Z Z Z zE (zA Z) Z Z Z ?_
 intro iE pG
 have pH:St aW dC [.blk eI 123 dZ,.blk bX 123 fJ,.obj aV ba,.blk aX 93 aT,.blk aq 161 au,.blk aa 118 ah,ak,ae,.obj ab (.map aj ai),ap,am] iE:=pG
 refine oA Z Z (zo ?_)
 cases cy
 exact zH ⟨rfl,⟨dC,eI,bX,cG,cH,cw,cI,rfl,rfl,rfl,tq,(pH.pick [2,3,4,5,6,7,8,9,10,0,1] _ (by decide) rfl)⟩⟩
 refine zS (cs:=bU) Z Z Z Z Z ze Z gK ?_
 intro iF dF pI
 have lz:=cJ.le a0
 have lA:=cK.le a0
 have lB:=cL.le a0
 have lD:=cM.le a0
 refine zI 0 Z Z Z Z (zJ Z Z Tryz.call107 (zC Z (zC Z zP)) Z) pI (fun hs=>wCA x75.Race bC bL bD bM bE bN bF bO bk iF bS hs lz lA lB lD dt) (.inr Z) ?_
 rintro dD tG uv iG tu pJ ⟨rfl,rfl⟩
 have pK:St aW dD [.blk dF 123 bU,.blk bX 123 bU,.obj aV ba,.blk aX 93 aT,.blk aq 161 au,.blk aa 118 ah,ak,ae,.obj ab (.map aj ai),ap,am] iG:=pJ
 refine oM Z Z (oR Z (ZB Z Z (v:=.agg #[jV bb.skier,jV bb.mat]) Z) (oR Z (ZB Z Z (v:=.agg #[jV bd.skier,jV bd.mat]) Z) (oR Z (ZB Z Z (v:=jV dx) Z) ?_)))
 let d4:List Value:=[jV bb.skier,jV bb.mat]
 refine zW (j:=0) (vs:=d4) Z Z Z Z pK Z Z Z Z zE (zA Z) Z Z Z ?_
 intro iH pL
 have pM:St aW dD [.blk dF 123 d4,.blk bX 123 bU,.obj aV ba,.blk aX 93 aT,.blk aq 161 au,.blk aa 118 ah,ak,ae,.obj ab (.map aj ai),ap,am] iH:=pL
 let fK:List Value:=[jV bd.skier,jV bd.mat]
 refine zW (j:=1) (vs:=fK) Z Z Z Z pM Z Z Z Z zE (zA Z) Z Z Z ?_
 intro iI pN
 have pO:St aW dD [.blk dF 123 d4,.blk bX 123 fK,.obj aV ba,.blk aX 93 aT,.blk aq 161 au,.blk aa 118 ah,ak,ae,.obj ab (.map aj ai),ap,am] iI:=pN
 refine oA Z Z (zo ?_)
 cases cy
 exact zH ⟨rfl,⟨dD,dF,bX,cG,cH,cw,cI,rfl,rfl,rfl,tu,(pO.pick [2,3,4,5,6,7,8,9,10,0,1] _ (by decide) rfl)⟩⟩
 rintro uM fQ ⟨ie,ct,cu,jN,jO,ue,gh,jP,jQ,jR,dO,pP⟩
 refine zK (zy zu [1,1,2,1,1,2,3,3,3] (.fl 0 (.fl 1 (.fl 3 (.fl 4 (.fl 6 (.fx 2 (.fx 5 (.fl 7 (.fl 8 .nil)) .stop) .stop)))))) (by kernel_rfl) ?_)
 have cS:=pP.drew
 generalize hw_W1327:({ fQ with drawn:=fQ.drawn + 1 }:World)=iJ at cS ⊢
 refine oL Z (cS.ldB (j:=2) Z Z gh Tryz.isAgg161 (v:=.func (.func 105) #[] #[.pointer (some ⟨bK,0,none⟩),.pointer (some ⟨bI,0,none⟩)]) Z) (oL Z (cS.ldBA (j:=10) Z Z jQ zj zE (vs:=cD) Z Z) (oL Z (cS.ldB (j:=2) Z Z gh Tryz.isAgg161 (v:=.func (.func 105) #[] #[.pointer (some ⟨bK,0,none⟩),.pointer (some ⟨bI,0,none⟩)]) Z) (oL Z (cS.ldBA (j:=9) Z Z jP zj zE (vs:=cC) Z Z) (oM Z jR ?_))))
 have lF:=gB.le b9
 have lG:=lF.le cb
 have lH:=lG.le a0
 have gt:=lH.le dO
 have lI:=gC.le b9
 have lJ:=lI.le cb
 have lK:=lJ.le a0
 have gu:=lK.le dO
 have lL:=gz.le b5
 have lM:=lL.le bR
 have lN:=lM.le b9
 have lO:=lN.le cb
 have lP:=lO.le a0
 have gv:=lP.le dO
 have lQ:=gA.le bR
 have lR:=lQ.le b9
 have lS:=lR.le cb
 have lT:=lS.le a0
 have gw:=lT.le dO
 refine bnK gU fun uG lU sE=>zI 0 Z Z Z Z (zJ Z Z Tryz.call105 (zC Z zP) Z) cS (fun hs=>wGN (⟨g9,ib⟩:wAE) p2 bK bt bu p1 bI bm bn iJ ie hs gt gu gv gw lU) (.inr Z) ?_
 rintro fM tH uw fR dP pQ ⟨rfl,rfl⟩
 have pR:St aW fM [.obj aV ba,.blk aX 93 aT,.blk aq 161 au,.blk aa 118 ah,ak,ae,.obj ab (.map aj ai),ap,am,.blk ct 123 cC,.blk cu 123 cD] fR:=pQ
 have lV:=gt.le dP
 have lW:=gu.le dP
 have lX:=gv.le dP
 have lY:=gw.le dP
 refine bnK sE fun uH lZ sF=>zI 0 Z Z Z Z (zJ Z Z Tryz.call105 (zC Z zP) Z) pR (fun hs=>wGN (⟨g7,g8⟩:wAE) p2 bK bt bu p1 bI bm bn fR fM hs lV lW lX lY lZ) (.inr Z) ?_
 rintro en tI ux iK uh pT ⟨rfl,rfl⟩
 have gL:St aW en [.obj aV ba,.blk aX 93 aT,.blk aq 161 au,.blk aa 118 ah,ak,ae,.obj ab (.map aj ai),ap,am,.blk ct 123 cC,.blk cu 123 cD] iK:=pT
 refine oR Z (zi Z Z Z) (oR Z (yN Z Z Z) (eN (ifc sF ?_ ?_)))
 intro eK sG
 refine cT Z eK (sR gBp Z (zW (j:=8) (vs:=[.bool false]) Z Z Z Z gL Z jN Z Z Zs (zA Z) Z Z Z ?_))
 intro iL pV
 have pW:St aW en [.obj aV ba,.blk aX 93 aT,.blk aq 161 au,.blk aa 118 ah,ak,ae,.obj ab (.map aj ai),ap,am,.blk ct 123 cC,.blk cu 123 cD] iL:=pV
 refine zW (j:=7) (vs:=[jV 0]) Z Z Z Z pW Z jO Z Z yB (zA Z) Z Z Z ?_
 intro iM pX
 have pY:St aW en [.obj aV ba,.blk aX 93 aT,.blk aq 161 au,.blk aa 118 ah,ak,ae,.obj ab (.map aj ai),ap,am,.blk ct 123 cC,.blk cu 123 cD] iM:=pX
 refine eN (zR (zZ ?_))
 obtain rfl:=nE sG
 exact ⟨_,_,(pY.pick [0,2,3,4,5,6,7,8] _ (by decide) rfl),rfl,rfl⟩
 intro eK sH
 refine cF Z eK (Ze (zt ?_))
 obtain rfl:=nE sH
 exact ⟨_,_,(gL.pick [0,2,3,4,5,6,7,8] _ (by decide) rfl),rfl,rfl⟩
 rintro de bV tJ fS ui gM
 rcases gZ with ⟨⟩ | ⟨⟩
 try dsimp only at dN
 rintro rfl
 have pZ:sW w U bV [.blk aq 161 au,.blk aa 118 ah,ak,ae,.obj ab (.map aj ai),ap,am,.obj de (.deferred (some []))] fS:=gM
 refine zt (zH (sR gBp Z (zW (j:=6) (vs:=[.bool true]) Z Z Z Z pZ Z dJ Z Z Zs (zA Z) Z Z Z ?_)))
 intro iN p6
 let dz:Res:=.blk bY 4 [.bool true]
 have p7:sW w U bV [.blk aq 161 au,.blk aa 118 ah,ak,ae,.obj ab (.map aj ai),ap,dz,.obj de (.deferred (some []))] iN:=p6
 refine zW (j:=5) (vs:=[jV 0]) Z Z Z Z p7 Z dK Z Z yB (zA Z) Z Z Z ?_
 intro iO p8
 have p9:sW w U bV [.blk aq 161 au,.blk aa 118 ah,ak,ae,.obj ab (.map aj ai),ap,dz,.obj de (.deferred (some []))] iO:=p8
 refine eN (zR (wDE (by first | exact .inl rfl | exact .inr rfl) (rbs:=[de]) (L:=[.blk aq 161 au,.blk aa 118 ah,ak,ae,.obj ab (.map aj ai),ap,dz]) p9 fun iP qa=>?_))
 have e8:sW w U bV [.blk aq 161 au,.blk aa 118 ah,ak,ae,.obj ab (.map aj ai),ap,dz] iP:=qa
 cases dN
 exact ⟨_,(wDL (rs:=[.cell 6 4,.cell 7 40]) (vs:=[.bool true,jV 0]) ⟨⟨_,dJ,(wDT Zx (e8.blkAt (k:=6) rfl) rfl)⟩,⟨⟨_,dK,(wDT yJ (e8.blkAt (k:=5) rfl) rfl)⟩,trivial⟩⟩ rfl),bV,_,(e8.pick [] _ (by decide) rfl),rfl,rfl⟩
 try dsimp only at dN
 rintro rfl
 have qb:sW w U bV [.blk aq 161 au,.blk aa 118 ah,ak,ae,.obj ab (.map aj ai),ap,am,.obj de (.deferred (some []))] fS:=gM
 refine zZ (zN (wDE (by first | exact .inl rfl | exact .inr rfl) (rbs:=[de]) (L:=[.blk aq 161 au,.blk aa 118 ah,ak,ae,.obj ab (.map aj ai),ap,am]) qb fun iQ qc=>?_))
 have e9:sW w U bV [.blk aq 161 au,.blk aa 118 ah,ak,ae,.obj ab (.map aj ai),ap,am] iQ:=qc
 cases dN
 exact ⟨_,(wDL (rs:=[.cell 6 4,.cell 7 40]) (vs:=[.bool false,jV 0]) ⟨⟨_,dJ,(wDT Zx (e9.blkAt (k:=6) rfl) rfl)⟩,⟨⟨_,dK,(wDT yJ (e9.blkAt (k:=5) rfl) rfl)⟩,trivial⟩⟩ rfl),bV,_,(e9.pick [] _ (by decide) rfl),rfl,rfl⟩
 intro eP sI
 refine ZE (nF (eP.out)) (sR gBp Z (zW (j:=5) (vs:=[.bool false]) Z Z Z Z gP Z dq Z Z Zs (zA Z) Z Z Z ?_))
 intro iR qd
 have qe:sW w U cr [.blk aa 118 ah,ae,.obj ab (.map aj ai),ak,ap,am] iR:=qd
 refine zW (j:=4) (vs:=[jV 3]) Z Z Z Z qe Z dr Z Z yB (zA Z) Z Z Z ?_
 intro iT qf
 let d5:Res:=.blk bg 40 [jV 3]
 have qh:sW w U cr [.blk aa 118 ah,ae,.obj ab (.map aj ai),ak,d5,am] iT:=qf
 refine eN (zR (zZ (zN (wDE (by first | exact .inl rfl | exact .inr rfl) (rbs:=[]) (L:=[.blk aa 118 ah,ae,.obj ab (.map aj ai),ak,d5,am]) qh fun iU qi=>?_))))
 have fb:sW w U cr [.blk aa 118 ah,ae,.obj ab (.map aj ai),ak,d5,am] iU:=qi
 cases sI
 exact ⟨_,(wDL (rs:=[.cell 6 4,.cell 7 40]) (vs:=[.bool false,jV 3]) ⟨⟨_,dq,(wDT Zx (fb.blkAt (k:=5) rfl) rfl)⟩,⟨⟨_,dr,(wDT yJ (fb.blkAt (k:=4) rfl) rfl)⟩,trivial⟩⟩ rfl),cr,_,(fb.pick [] _ (by decide) rfl),rfl,rfl⟩
 intro bz sJ
 refine ZO Z Z Z (zh Z Z (nF (bz.out)) Z) (ZO Z Z Z (zh Z Z (nF (bz.out)) Z) (yD Z Z Z (zh Z Z (nF (bz.out)) Z) (ZO Z Z Z (zh Z Z (nF (bz.out)) Z) (oR Z (zn Z (nF (bz.out)) Z) (oA Z Z (eN (ZE Z (sR gBp Z (zW (j:=5) (vs:=[.bool false]) Z Z Z Z dM Z dq Z Z Zs (zA Z) Z Z Z ?_)))))))))
 intro iV qj
 have qk:sW w U cq [.blk aa 118 ah,ae,.obj ab (.map aj ai),ak,ap,am] iV:=qj
 refine zW (j:=4) (vs:=[jV 3]) Z Z Z Z qk Z dr Z Z yB (zA Z) Z Z Z ?_
 intro iW qm
 let d6:Res:=.blk bg 40 [jV 3]
 have qn:sW w U cq [.blk aa 118 ah,ae,.obj ab (.map aj ai),ak,d6,am] iW:=qm
 refine eN (zR (zZ (zN (wDE (by first | exact .inl rfl | exact .inr rfl) (rbs:=[]) (L:=[.blk aa 118 ah,ae,.obj ab (.map aj ai),ak,d6,am]) qn fun iX qo=>?_))))
 have fc:sW w U cq [.blk aa 118 ah,ae,.obj ab (.map aj ai),ak,d6,am] iX:=qo
 cases sJ
 exact ⟨_,(wDL (rs:=[.cell 6 4,.cell 7 40]) (vs:=[.bool false,jV 3]) ⟨⟨_,dq,(wDT Zx (fc.blkAt (k:=5) rfl) rfl)⟩,⟨⟨_,dr,(wDT yJ (fc.blkAt (k:=4) rfl) rfl)⟩,trivial⟩⟩ rfl),cq,_,(fc.pick [] _ (by decide) rfl),rfl,rfl⟩
 intro eO sK
 refine cT Z eO (sR gBp Z (zW (j:=6) (vs:=[.bool false]) Z Z Z Z cV Z Z Z Z Zs (zA Z) Z Z Z ?_))
 intro iY qp
 have qq:sW w U bH [.blk aY 152 be,.blk aa 118 ah,ae,.obj ab (.map aj ai),ak,ap,am] iY:=qp
 refine zW (j:=5) (vs:=[jV 2]) Z Z Z Z qq Z Z Z Z yB (zA Z) Z Z Z ?_
 intro iZ qr
 let d7:Res:=.blk bg 40 [jV 2]
 have qt:sW w U bH [.blk aY 152 be,.blk aa 118 ah,ae,.obj ab (.map aj ai),ak,d7,am] iZ:=qr
 refine eN (zR (zZ (zN (wDE (by first | exact .inl rfl | exact .inr rfl) (rbs:=[]) (L:=[.blk aY 152 be,.blk aa 118 ah,ae,.obj ab (.map aj ai),ak,d7,am]) qt fun i4 qu=>?_))))
 have fd:sW w U bH [.blk aY 152 be,.blk aa 118 ah,ae,.obj ab (.map aj ai),ak,d7,am] i4:=qu
 cases sK
 exact ⟨_,(wDL (rs:=[.cell 6 4,.cell 7 40]) (vs:=[.bool false,jV 2]) ⟨⟨_,rfl,(wDT Zx (fd.blkAt (k:=6) rfl) rfl)⟩,⟨⟨_,rfl,(wDT yJ (fd.blkAt (k:=5) rfl) rfl)⟩,trivial⟩⟩ rfl),bH,_,(fd.pick [] _ (by decide) rfl),rfl,rfl⟩
 intro bq sL
 refine ZO Z Z Z (zh Z Z (nF (bq.out)) Z) (ZO Z Z Z (zh Z Z (nF (bq.out)) Z) (ZO Z Z Z (zh Z Z (nF (bq.out)) Z) (ZO Z Z Z (zh Z Z (nF (bq.out)) Z) (ZO Z Z Z (zh Z Z (nF (bq.out)) Z) (ZO Z Z Z (zh Z Z (nF (bq.out)) Z) (oR Z (zn Z (nF (bq.out)) Z) (oA Z Z (eN (ZE Z (sR gBp Z (zW (j:=6) (vs:=[.bool false]) Z Z Z Z cV Z Z Z Z Zs (zA Z) Z Z Z ?_)))))))))))
 intro i6 qv
 have qw:sW w U bH [.blk aY 152 be,.blk aa 118 ah,ae,.obj ab (.map aj ai),ak,ap,am] i6:=qv
 refine zW (j:=5) (vs:=[jV 2]) Z Z Z Z qw Z Z Z Z yB (zA Z) Z Z Z ?_
 intro i8 qx
 let d8:Res:=.blk bg 40 [jV 2]
 have qy:sW w U bH [.blk aY 152 be,.blk aa 118 ah,ae,.obj ab (.map aj ai),ak,d8,am] i8:=qx
 refine eN (zR (zZ (zN (wDE (by first | exact .inl rfl | exact .inr rfl) (rbs:=[]) (L:=[.blk aY 152 be,.blk aa 118 ah,ae,.obj ab (.map aj ai),ak,d8,am]) qy fun i9 qz=>?_))))
 have ff:sW w U bH [.blk aY 152 be,.blk aa 118 ah,ae,.obj ab (.map aj ai),ak,d8,am] i9:=qz
 cases sL
 exact ⟨_,(wDL (rs:=[.cell 6 4,.cell 7 40]) (vs:=[.bool false,jV 2]) ⟨⟨_,rfl,(wDT Zx (ff.blkAt (k:=6) rfl) rfl)⟩,⟨⟨_,rfl,(wDT yJ (ff.blkAt (k:=5) rfl) rfl)⟩,trivial⟩⟩ rfl),bH,_,(ff.pick [] _ (by decide) rfl),rfl,rfl⟩
 intro bw sN
 refine oT Z bw (oT Z bw (yD Z Z Z (zh Z Z (Zk bw.out) Z) (oT Z bw (oR Z (zn Z (Zk bw.out) Z) (oM Z Z (oN Z (oN Z (oN Z (oN Z (oN Z (oN Z (oR Z (zn Z Z Z) (oA Z Z (eN (ZE Z (sR gBp Z (zW (j:=6) (vs:=[.bool false]) Z Z Z Z cU Z Z Z Z Zs (zA Z) Z Z Z ?_)))))))))))))))))
 intro ja qA
 have qB:sW w U aU [.blk aY 152 be,.blk aa 118 ah,ae,.obj ab (.map aj ai),ak,ap,am] ja:=qA
 refine zW (j:=5) (vs:=[jV 2]) Z Z Z Z qB Z Z Z Z yB (zA Z) Z Z Z ?_
 intro jb qC
 let d9:Res:=.blk bg 40 [jV 2]
 have qD:sW w U aU [.blk aY 152 be,.blk aa 118 ah,ae,.obj ab (.map aj ai),ak,d9,am] jb:=qC
 refine eN (zR (zZ (zN (wDE (by first | exact .inl rfl | exact .inr rfl) (rbs:=[]) (L:=[.blk aY 152 be,.blk aa 118 ah,ae,.obj ab (.map aj ai),ak,d9,am]) qD fun jc qE=>?_))))
 have fg:sW w U aU [.blk aY 152 be,.blk aa 118 ah,ae,.obj ab (.map aj ai),ak,d9,am] jc:=qE
 cases sN
 exact ⟨_,(wDL (rs:=[.cell 6 4,.cell 7 40]) (vs:=[.bool false,jV 2]) ⟨⟨_,rfl,(wDT Zx (fg.blkAt (k:=6) rfl) rfl)⟩,⟨⟨_,rfl,(wDT yJ (fg.blkAt (k:=5) rfl) rfl)⟩,trivial⟩⟩ rfl),aU,_,(fg.pick [] _ (by decide) rfl),rfl,rfl⟩
 intro eM sP
 refine cT Z eM (sR gBs Z (oM Z Z (zW (j:=6) (vs:=[.bool false]) Z Z Z Z cU Z Z Z Z Zs (zA Z) Z Z Z ?_)))
 intro jd qF
 have qG:sW w U aU [.blk aY 152 be,.blk aa 118 ah,ae,.obj ab (.map aj ai),ak,ap,am] jd:=qF
 refine zW (j:=5) (vs:=[jV x51]) Z Z Z Z qG Z Z Z Z yB (zA Z) Z Z Z ?_
 intro je qH
 let ec:Res:=.blk bg 40 [jV x51]
 have qI:sW w U aU [.blk aY 152 be,.blk aa 118 ah,ae,.obj ab (.map aj ai),ak,ec,am] je:=qH
 refine eN (zR (zZ (zN (wDE (by first | exact .inl rfl | exact .inr rfl) (rbs:=[]) (L:=[.blk aY 152 be,.blk aa 118 ah,ae,.obj ab (.map aj ai),ak,ec,am]) qI fun jf qJ=>?_))))
 have fh:sW w U aU [.blk aY 152 be,.blk aa 118 ah,ae,.obj ab (.map aj ai),ak,ec,am] jf:=qJ
 cases sP
 exact ⟨_,(wDL (rs:=[.cell 6 4,.cell 7 40]) (vs:=[.bool false,jV x51]) ⟨⟨_,rfl,(wDT Zx (fh.blkAt (k:=6) rfl) rfl)⟩,⟨⟨_,rfl,(wDT yJ (fh.blkAt (k:=5) rfl) rfl)⟩,trivial⟩⟩ rfl),aU,_,(fh.pick [] _ (by decide) rfl),rfl,rfl⟩
end Go.Proofs.YtlnfbjphfoipaaaGreat
namespace Go.Proofs.YtlnfbjphfoipaaaGreat
open Go.KL
set_option maxHeartbeats 4000000
theorem wEI (p0:wAK) (bo:Option Addr) (bq:Nat) (a0:Option Addr) (bb:Nat) (ba:Option Addr) (bd:Nat) (bp:Option Addr) (br:Nat) (p1:List (List Int)) (av:Option Addr) (aS:Nat) (p2:List Int) (az:Option Addr) (aT:Nat) (w:World) (U:PHeap) (hS:St0 w U []) (eQ:Sl U 1 bo bq p0.Starts.length (hH KL.encI p0.Starts)) (eR:Sl U 2 a0 bb p0.Splits.length (hH wAB p0.Splits)) (dm:Sl U 3 ba bd p0.Clocks.length (hH wAG p0.Clocks)) (eS:Sl U 4 bp br p0.Readings.length (hH wAF p0.Readings)) (bS:SlR U wEx av aS p1) (dp:Sl U 1 az aT p2.length (hH KL.encI p2)) {r:Bool × Int} (hm:wBZ p0 p1 p2=some r):Gv Tryz.prog 36 [.agg #[.slice bo p0.Starts.length bq,.slice a0 p0.Splits.length bb,.slice ba p0.Clocks.length bd,.slice bp p0.Readings.length br],.slice av p1.length aS,.slice az p2.length aT] w (wCs w [] U (fun U_ L_ v=>v=.tuple #[.bool r.1,jV r.2]/\L_=[])):=by
 unfold wBZ at hm
 refine Gv.of Tryz.func36 Z Tryz.ntmps36 Tryz.results36 Z (sR gBu Z ?_)
 let B0:List Value:=[.slice bo p0.Starts.length bq,.slice a0 p0.Splits.length bb,.slice ba p0.Clocks.length bd,.slice bp p0.Readings.length br]
 refine ZH (cs:=B0) rfl rfl rfl rfl rfl rfl (by rfl) hS ?_
 intro W1 b2 eL
 refine oA Z Z (oA Z Z (eN (zK (sR gBv Z (oL Z (eL.ldBA (j:=0) Z Z Z Zr Zc (vs:=B0) Z Z) (bnK hm fun x5 h6 og=>zI 0 Z Z Z Z (zJ Z Z Tryz.call34 (zC Z zP) Z) eL (fun hs=>wCy p0 bo bq a0 bb ba bd bp br W1 U hs eQ eR dm eS h6) (.inr Z) ?_))))))
 rintro U8 L9 qq fZ am lE ⟨rfl,rfl⟩
 have bk:sW w U U8 [.blk b2 36 B0] fZ:=lE
 refine oA Z Z (eN (sR fL2 Z (oM Z Z (oR Z (Zu Z Z Z) (eN (ifc og ?_ ?_))))))
 intro cr mo
 refine zx (Zh (fun h=>h cr.out)) (kN (zK (sR fL14 Z (oM Z Z (oR Z (zf Z Z zV) (oR Z (zF Z Z zU Z zX) (oL Z (bk.ldB (j:=0) Z Z Z zY (v:=.slice bo p0.Starts.length bq) Z) (oR Z (zf Z Z zB) (oR Z (Zu Z Z Z) (oM Z Z (ifc mo ?_ ?_)))))))))))
 intro aj my
 refine ZA Z Z Z (zO Z Z (Zh (fun h=>h aj.out))) Z Z (zm Z Z Z (zO Z Z (Zh (fun h=>h aj.out))) (fun _=>zf Z Z zB) (zm Z Z Z (zO Z Z (Zh (fun h=>h aj.out))) (fun _=>zF Z Z zU Z Zp) (ZI Z Z Z (zO Z Z (Zh (fun h=>h aj.out))) (bk.ldB (j:=0) Z Z Z yC (v:=.slice ba p0.Clocks.length bd) Z) Z (zm Z Z Z (zO Z Z (Zh (fun h=>h aj.out))) (fun _=>zf Z Z Zb) (zm Z Z Z (zO Z Z (Zh (fun h=>h aj.out))) (fun _=>Zu Z Z Z) (oR Z (zq Z (Zh (fun h=>h aj.out)) Z) (eN (ifc my ?_ ?_))))))))
 intro cu dB
 refine zx (Zh (fun h=>h cu.out)) (kN (zK (sR fL1 Z (oA Z Z (eN (zd ?_))))))
 have q:=wCD dB
 obtain ⟨qm,dh⟩:=q
 have q:=wCC dh
 obtain ⟨dx,ma⟩:=q
 replace dx:=zL dx
 refine yK (fun bm _ σ_ w_=>∃ (U_:PHeap),σ_ 9=jV (↑bm:Int)/\σ_ 1=.slice av p1.length aS/\σ_ 2=.slice az p2.length aT/\σ_ 3=.pointer (some ⟨b2,0,none⟩)/\PHeap.Le U8 U_/\sW w U U_ [.blk b2 36 B0] w_) ma ?_ ?_ ?_
 exact ⟨U8,Z,Z,Z,Z,(zM _),bk⟩
 rintro bm ⟨⟩ qN qX dO dt ⟨cg,cM,cH,gW,d7,fq,lK⟩ fd lY
 try dsimp only at fd
 have dU:Hid ((↑bm:Int) < (↑p1.length:Int)):=zL (wBR dt)
 replace dt:=zL dt
 have mf:Hid (w64 ((↑bm:Int) + 1)=(↑(bm + 1):Int)):=zL (by have h1:=dx.out;have h2:=dU.out;rw [wAU] <;> omega)
 refine zK (sR fL4 rfl (ZA rfl rfl rfl rfl rfl cM (ZA rfl rfl rfl rfl rfl cH (zm rfl rfl rfl rfl (fun _=>zf rfl rfl zV) (zm rfl rfl rfl rfl (fun _=>zg rfl rfl rfl) (eN (cT Z dU (kN (zK (zd (zK (zy zu [3,3,3,1,3,3,1,3,3,3] fL10 (by kernel_rfl) ?_))))))))))))
 have bw:=lK.drew
 generalize hw_W43:({ dO with drawn:=dO.drawn + 1 }:World)=pB at bw ⊢
 refine oM Z cH (oM Z cM (bnK fd fun x44 eG mV=>?_))
 have ja:=bS.le am
 have jc:=ja.le fq
 have q:=jc.el (wAP eG)
 obtain ⟨gv,oU,qC,j8,db,ot⟩:=q
 obtain ⟨fB,fK,rfl,pX⟩:=ot
 replace db:Cl cg gv (oU + bm * 1) [.slice fB x44.length fK]:=db
 refine oR Z (ZJ Z Z j8 Z zV zX (wBa eG)) (oL Z (bw.ldC (f:=0) db (v:=.slice fB x44.length fK) Z Z zY Z) (oR Z (zf Z Z zB) (oR Z (zF Z d7 zU Z ZX) (oL Z (bw.ldB (j:=0) Z Z Z Za (v:=.slice a0 p0.Splits.length bb) Z) (oR Z (zf Z Z zw) (oR Z (zi Z Z Z) (oR Z (Zu Z Z Z) (eN (ifc mV ?_ ?_)))))))))
 intro cA m8
 refine zx (Zh (fun h=>h cA.out)) (Ze (zt (zH (rR fL3 Z (oM Z cM (oR Z (ZT (zi Z Z Z) (congrArg (jV) mf.out)) (oA Z Z (zo ?_))))))))
 obtain rfl:=nE m8
 exact zH ⟨Z,_,Z,⟨cg,Z,cH,gW,d7,fq,bw⟩⟩
 intro cA m9
 refine cT Z cA (sR fL2 Z (oA Z Z (oA Z Z (eN (zR (zZ (zN ?_)))))))
 have q:=wAR m9
 obtain ⟨pe,oc,gN⟩:=q
 obtain rfl:=wCE dB dh (lY pe gN)
 refine zN (zZ (zN ?_))
 cases oc
 exact ⟨rfl,_,(wJS rfl rfl),cg,_,(bw.pick [] _ (by decide) rfl),rfl,rfl⟩
 rintro ⟨⟩ rj pF ⟨dL,im,eg,ib,ic,ap,lT⟩ l5
 have bV:=wCp dB dh l5
 try dsimp only at bV
 have gB:Hid (¬ ((↑(((↑p1.length:Int):Int) - 0).toNat:Int) < (↑p1.length:Int))):=zL (wAs)
 refine zK (sR fL4 Z (oM Z im (oM Z eg (oR Z (zf Z Z zV) (oR Z (zg Z Z Z) (eN (cF Z gB (ZU (zk (zk (ZM (zH (zK (sR fL1 Z (oA Z Z (eN (zd ?_)))))))))))))))))
 have q:=wCD bV
 obtain ⟨qp,dl⟩:=q
 have q:=wCC dl
 obtain ⟨dA,mc⟩:=q
 replace dA:=zL dA
 refine yK (fun aZ _ σ_ w_=>∃ (U_:PHeap),σ_ 10=jV (↑aZ:Int)/\σ_ 1=.slice av p1.length aS/\σ_ 2=.slice az p2.length aT/\σ_ 3=.pointer (some ⟨b2,0,none⟩)/\PHeap.Le dL U_/\sW w U U_ [.blk b2 36 B0] w_) mc ?_ ?_ ?_
 exact ⟨dL,Z,eg,ib,ic,(zM _),lT⟩
 rintro aZ ⟨⟩ qR rk pG dv ⟨dM,ej,eh,ie,ig,ft,lU⟩ fj l6
 try dsimp only at fj
 have dW:Hid ((↑aZ:Int) < (↑p1.length:Int)):=zL (wBR dv)
 replace dv:=zL dv
 have mh:Hid (w64 ((↑aZ:Int) + 1)=(↑(aZ + 1):Int)):=zL (by have h1:=dA.out;have h2:=dW.out;rw [wAU] <;> omega)
 refine zK (sR fL4 Z (oM Z ej (oM Z eh (oR Z (zf Z Z zV) (oR Z (zg Z Z Z) (eN (cT Z dW (kN (zK (zd (sR fL1 Z (oA Z Z (eN (zd (yq (fun fM σ_ w_=>∃ (U_:PHeap),σ_ 1=.slice av p1.length aS/\σ_ 2=.slice az p2.length aT/\σ_ 3=.pointer (some ⟨b2,0,none⟩)/\σ_ 10=jV (↑aZ:Int)/\σ_ 11=jV fM/\PHeap.Le dM U_/\sW w U U_ [.blk b2 36 B0] w_) fj ?_ ?_)))))))))))))))
 exact ⟨dM,eh,ie,ig,ej,Z,(zM _),lU⟩
 rintro fM qK qS fY ⟨bE,bI,dX,dY,bJ,cD,dC,bv⟩ ow eT
 refine zK (sR fL7 Z (oM Z cD (oM Z bI (oM Z bJ (bnK ow fun bZ bO mi=>?_)))))
 have io:=bS.le am
 have ip:=io.le ap
 have iq:=ip.le ft
 have en:=iq.le dC
 have q:=en.el (wAP bO)
 obtain ⟨gm,oH,qx,jM,cW,oh⟩:=q
 obtain ⟨fu,fD,rfl,pW⟩:=oh
 replace cW:Cl bE gm (oH + aZ * 1) [.slice fu bZ.length fD]:=cW
 refine oR Z (ZJ Z Z jM Z zV zX (wBa bO)) (oL Z (bv.ldC (f:=0) cW (v:=.slice fu bZ.length fD) Z Z zY Z) (oR Z (zf Z Z zB) (oR Z (zg Z Z Z) (eN (ifc mi ?_ ?_)))))
 intro cq mj
 refine cT Z cq (kN (zK (zd (sR (wTs (.fx 7 .nil .stop)) Z (oM Z bI (oM Z bJ ?_))))))
 have q:=en.el (wAP bO)
 obtain ⟨gp,oI,qy,jN,cX,oi⟩:=q
 obtain ⟨fw,fE,rfl,ir⟩:=oi
 replace cX:Cl bE gp (oI + aZ * 1) [.slice fw bZ.length fE]:=cX
 refine oR Z (ZJ Z Z jN Z zV zX (wBa bO)) (oL Z (bv.ldC (f:=0) cX (v:=.slice fw bZ.length fE) Z Z zY Z) (oM Z cD (bnK mj fun x143 cN ml=>?_)))
 have q:=ir.el (fun _=>rfl) (wAP cN)
 obtain ⟨pH,pY,jO,li⟩:=q
 refine oR Z (zz Z Z jO Z zB zD (wBG cN) (wBI cN)) (oL Z (bv.ldC (f:=0) li (v:=jV x143) Z Z zG Z) (bnK ml fun qE it mn=>zI 0 Z Z Z Z (zJ Z Z yR (zC Z (zC Z (zC Z zP))) Z) bv (fun hs=>wAe x143 (-100000000) 100000000 fY bE hs it) (.inr Z) ?_))
 rintro cd pk qr ga ox lF ⟨rfl,rfl⟩
 have eI:sW w U cd [.blk b2 36 B0] ga:=lF
 refine eN (ifc mn ?_ ?_)
 intro ct mp
 refine ZE (congrArg nJ ct.out) (sR fL2 Z (oA Z Z (oA Z Z (eN (zR (zZ (zN ?_)))))))
 have q:=wAR mp
 obtain ⟨oX,mq,gC⟩:=q
 obtain rfl:=eT oX gC
 refine zN (zZ (zZ (zN ?_)))
 have q:=wAR mq
 obtain ⟨oY,mr,gD⟩:=q
 obtain rfl:=wCE bV dl (l6 oY gD)
 refine zN (zZ (zN ?_))
 cases mr
 exact ⟨rfl,_,(wJS rfl rfl),cd,_,(eI.pick [] _ (by decide) rfl),rfl,rfl⟩
 intro ct ms
 refine zx (congrArg nJ (nK.2 ct.out)) (Ze (zt (zH (rR fL3 Z (oM Z cD (oR Z (zi Z Z Z) (oA Z Z (zo ?_))))))))
 obtain rfl:=nE ms
 exact zH ⟨Z,_,Z,⟨cd,bI,dX,dY,bJ,Z,(dC.trans ox),eI⟩⟩
 intro cq mu
 refine cF Z cq (ZU (zk ?_))
 have q:=wAR mu
 obtain ⟨o0,mw,gE⟩:=q
 obtain rfl:=eT o0 gE
 refine zk (ZM (zt (zH (rR fL3 Z (oM Z bJ (oR Z (ZT (zi Z Z Z) (congrArg (jV) mh.out)) (oA Z Z (zo ?_))))))))
 obtain rfl:=nE mw
 exact zH ⟨Z,_,Z,⟨bE,Z,bI,dX,dY,(ft.trans dC),bv⟩⟩
 rintro ⟨⟩ qT pt ⟨dH,ii,dZ,gO,gP,au,lG⟩ lV
 have bT:=wCp bV dl lV
 try dsimp only at bT
 have gx:Hid (¬ ((↑(((↑p1.length:Int):Int) - 0).toNat:Int) < (↑p1.length:Int))):=zL (wAs)
 refine zK (sR fL4 Z (oM Z ii (oM Z dZ (oR Z (zf Z Z zV) (oR Z (zg Z Z Z) (eN (cF Z gx (ZU (zk (zk (ZM (zH (zK (sR fL1 Z (oA Z Z (eN (zd ?_)))))))))))))))))
 have q:=wCD bT
 obtain ⟨qk,dg⟩:=q
 have q:=wCC dg
 obtain ⟨dw,l7⟩:=q
 replace dw:=zL dw
 refine yK (fun bB _ σ_ w_=>∃ (U_:PHeap),σ_ 12=jV (↑bB:Int)/\σ_ 1=.slice av p1.length aS/\σ_ 2=.slice az p2.length aT/\σ_ 3=.pointer (some ⟨b2,0,none⟩)/\PHeap.Le dH U_/\sW w U U_ [.blk b2 36 B0] w_) l7 ?_ ?_ ?_
 exact ⟨dH,Z,dZ,gO,gP,(zM _),lG⟩
 rintro bB ⟨⟩ qL qU gb dq ⟨fU,cL,gQ,cE,gR,fm,eJ⟩ fb lW
 try dsimp only at fb
 have dS:Hid ((↑bB:Int) < (↑p2.length:Int)):=zL (wBR dq)
 replace dq:=zL dq
 have md:Hid (w64 ((↑bB:Int) + 1)=(↑(bB + 1):Int)):=zL (by have h1:=dw.out;have h2:=dS.out;rw [wAU] <;> omega)
 refine zK (sR fL4 Z (oM Z cL (oM Z cE (oR Z (zf Z Z zB) (oR Z (zg Z Z Z) (eN (cT Z dS (kN (zK (zd (sR (wEf (.fx 4 .nil .stop)) Z (oM Z cE (oM Z cL (bnK fb fun fN eu mz=>?_))))))))))))))
 have iu:=dp.le am
 have iv:=iu.le ap
 have iw:=iv.le au
 have iy:=iw.le fm
 have q:=iy.el (fun _=>rfl) (wAP eu)
 obtain ⟨pI,pZ,jP,lj⟩:=q
 refine oR Z (ZJ Z Z jP Z zB zD (wBa eu)) (oL Z (eJ.ldC (f:=0) lj (v:=jV fN) Z Z zG Z) (bnK mz fun qF iz mA=>zI 0 Z Z Z Z (zJ Z Z yR (zC Z (zC Z (zC Z zP))) Z) eJ (fun hs=>wAe fN (-100000000) 100000000 gb fU hs iz) (.inr Z) ?_))
 rintro cf pm qt ge oy lH ⟨rfl,rfl⟩
 have eK:sW w U cf [.blk b2 36 B0] ge:=lH
 refine eN (ifc mA ?_ ?_)
 intro cw mB
 refine ZE (congrArg nJ cw.out) (sR fL2 Z (oA Z Z (oA Z Z (eN (zR (zZ (zN ?_)))))))
 have q:=wAR mB
 obtain ⟨o3,mC,gF⟩:=q
 obtain rfl:=wCE bT dg (lW o3 gF)
 refine zN (zZ (zN ?_))
 cases mC
 exact ⟨rfl,_,(wJS rfl rfl),cf,_,(eK.pick [] _ (by decide) rfl),rfl,rfl⟩
 intro cw mD
 refine zx (congrArg nJ (nK.2 cw.out)) (Ze (zt (zH (rR fL3 Z (oM Z cL (oR Z (ZT (zi Z Z Z) (congrArg (jV) md.out)) (oA Z Z (zo ?_))))))))
 obtain rfl:=nE mD
 exact zH ⟨Z,_,Z,⟨cf,Z,gQ,cE,gR,(fm.trans oy),eK⟩⟩
 rintro ⟨⟩ qV pu ⟨dI,ij,gS,d4,gT,aW,lI⟩ lX
 have bA:=wCp bT dg lX
 try dsimp only at bA
 have gy:Hid (¬ ((↑(((↑p2.length:Int):Int) - 0).toNat:Int) < (↑p2.length:Int))):=zL (wAs)
 refine zK (sR fL4 Z (oM Z ij (oM Z d4 (oR Z (zf Z Z zB) (oR Z (zg Z Z Z) (eN (cF Z gy (ZU (zk (zk (ZM (zH (zK (sR fL1 Z (oA Z Z (eN (zd ?_)))))))))))))))))
 have q:=wCD bA
 obtain ⟨qn,bR⟩:=q
 have q:=wCC bR
 obtain ⟨dy,l8⟩:=q
 replace dy:=zL dy
 refine yK (fun aV _ σ_ w_=>∃ (U_:PHeap),σ_ 13=jV (↑aV:Int)/\σ_ 1=.slice av p1.length aS/\σ_ 2=.slice az p2.length aT/\σ_ 3=.pointer (some ⟨b2,0,none⟩)/\PHeap.Le dI U_/\sW w U U_ [.blk b2 36 B0] w_) l8 ?_ ?_ ?_
 exact ⟨dI,Z,gS,d4,gT,(zM _),lI⟩
 rintro aV ⟨⟩ qM qW dN dr ⟨bF,bN,cG,gU,d5,bW,lJ⟩ fc eU
 try dsimp only at fc
 have dT:Hid ((↑aV:Int) < (↑p1.length:Int)):=zL (wBR dr)
 replace dr:=zL dr
 have me:Hid (w64 ((↑aV:Int) + 1)=(↑(aV + 1):Int)):=zL (by have h1:=dy.out;have h2:=dT.out;rw [wAU] <;> omega)
 refine zK (sR fL4 rfl (ZA rfl rfl rfl rfl rfl bN (ZA rfl rfl rfl rfl rfl cG (zm rfl rfl rfl rfl (fun _=>zf rfl rfl zV) (zm rfl rfl rfl rfl (fun _=>zg rfl rfl rfl) (eN (cT Z dT (kN (zK (zd (zK (zK (zy zu [3,3,3,1,3,1,3,1,3,3,1,3] fL12 (by kernel_rfl) ?_)))))))))))))
 have be:=lJ.drew
 generalize hw_W268:({ dN with drawn:=dN.drawn + 1 }:World)=py at be ⊢
 refine oM Z cG (oM Z bN (bnK fc fun bs bi mE=>?_))
 have iA:=bS.le am
 have iB:=iA.le ap
 have iC:=iB.le au
 have iD:=iC.le aW
 have ey:=iD.le bW
 have q:=ey.el (wAP bi)
 obtain ⟨gq,oK,qz,jQ,cY,oj⟩:=q
 obtain ⟨fy,fG,rfl,iE⟩:=oj
 replace cY:Cl bF gq (oK + aV * 1) [.slice fy bs.length fG]:=cY
 refine oR Z (ZJ Z Z jQ Z zV zX (wBa bi)) (oL Z (be.ldC (f:=0) cY (v:=.slice fy bs.length fG) Z Z zY Z) (bnK mE fun ph eA mF=>?_))
 have q:=iE.el (fun _=>rfl) (wAP eA)
 obtain ⟨pJ,p6,jR,lm⟩:=q
 refine oR Z (ZJ Z Z jR Z zB zD (wBa eA)) (oL Z (be.ldC (f:=0) lm (v:=jV ph) Z Z zG Z) (oR Z (zF Z d5 zU Z zX) (oL Z (be.ldB (j:=0) Z Z Z zY (v:=.slice bo p0.Starts.length bq) Z) (oM Z bN (bnK mF fun pj eC mG=>?_)))))
 have iF:=eQ.le am
 have iG:=iF.le ap
 have iH:=iG.le au
 have iI:=iH.le aW
 have iJ:=iI.le bW
 have q:=iJ.el (fun _=>rfl) (wAP eC)
 obtain ⟨pK,p7,jS,ln⟩:=q
 refine oR Z (ZJ Z Z jS Z zB zD (wBa eC)) (oL Z (be.ldC (f:=0) ln (v:=jV pj) Z Z zG Z) (oR Z (Zu Z Z Z) (eN (ifc mG ?_ ?_))))
 intro cx mH
 refine zx (Zh (fun h=>h cx.out)) (kN (sR fL1 Z (oA Z Z (eN (zd (yq (fun dE σ_ w_=>∃ (U_:PHeap),σ_ 1=.slice av p1.length aS/\σ_ 2=.slice az p2.length aT/\σ_ 3=.pointer (some ⟨b2,0,none⟩)/\σ_ 13=jV (↑aV:Int)/\σ_ 14=jV dE/\PHeap.Le bF U_/\sW w U U_ [.blk b2 36 B0] w_) mH ?_ ?_))))))
 exact ⟨bF,cG,gU,d5,bN,Z,(zM _),be⟩
 rintro dE qO qY dP ⟨bG,bK,d6,bt,bL,bh,bX,df⟩ ff eV
 refine zK (sR fL5 Z (oM Z bh (oR Z (zF Z bt zU Z ZX) (oL Z (df.ldB (j:=0) Z Z Z Za (v:=.slice a0 p0.Splits.length bb) Z) (oR Z (zf Z Z zw) (oR Z (zg Z Z Z) (eN ?_)))))))
 by_cases aX:dE < (↑p0.Splits.length:Int)
 have eX:=ff;rw [if_pos aX] at eX;replace aX:=zL aX
 refine cT Z aX (kN (zK (zd (zK (zy zu [3,3,3,1,3,3,3,1,3,3,3,1,3,3,1,3,3,1,3,3,3,1,3,1,3,3,3,1,2] (wTz (.fx 28 .nil .stop)) (by kernel_rfl) ?_)))))
 have aq:=df.drew
 generalize hw_W329:({ dP with drawn:=dP.drawn + 1 }:World)=gf at aq ⊢
 refine oM Z bK (oM Z bL ?_)
 have eD:=ey.le bX
 have q:=eD.el (wAP bi)
 obtain ⟨gt,oO,qA,jU,cZ,om⟩:=q
 obtain ⟨fz,fH,rfl,iK⟩:=om
 replace cZ:Cl bG gt (oO + aV * 1) [.slice fz bs.length fH]:=cZ
 refine oR Z (ZJ Z Z jU Z zV zX (wBa bi)) (oL Z (aq.ldC (f:=0) cZ (v:=.slice fz bs.length fH) Z Z zY Z) (oM Z bh (oR Z (zi Z Z Z) (bnK eX fun fO cO mI=>?_))))
 have q:=iK.el (fun _=>rfl) (wAP cO)
 obtain ⟨pL,p8,jW,lp⟩:=q
 refine oR Z (zz Z Z jW Z zB zD (wBG cO) (wBI cO)) (oL Z (aq.ldC (f:=0) lp (v:=jV fO) Z Z zG Z) (oM Z bK (oM Z bL ?_)))
 have q:=eD.el (wAP bi)
 obtain ⟨gu,oP,qB,jX,da,oq⟩:=q
 obtain ⟨fA,fJ,rfl,iL⟩:=oq
 replace da:Cl bG gu (oP + aV * 1) [.slice fA bs.length fJ]:=da
 refine oR Z (ZJ Z Z jX Z zV zX (wBa bi)) (oL Z (aq.ldC (f:=0) da (v:=.slice fA bs.length fJ) Z Z zY Z) (oM Z bh (bnK mI fun fP cP mJ=>?_)))
 have q:=iL.el (fun _=>rfl) (wAP cP)
 obtain ⟨pM,p9,jY,ls⟩:=q
 refine oR Z (zz Z Z jY Z zB zD (wBG cP) (wBI cP)) (oL Z (aq.ldC (f:=0) ls (v:=jV fP) Z Z zG Z) (oR Z (yg Z Z Z) (oR Z (zF Z bt zU Z ZX) (oL Z (aq.ldB (j:=0) Z Z Z Za (v:=.slice a0 p0.Splits.length bb) Z) (oM Z bh (bnK mJ fun b5 bj mK=>?_))))))
 have iM:=eR.le am
 have iN:=iM.le ap
 have iO:=iN.le au
 have iP:=iO.le aW
 have iQ:=iP.le bW
 have eE:=iQ.le bX
 have q:=eE.el (fun _=>rfl) (wAP bj)
 obtain ⟨pN,qa,jZ,lu⟩:=q
 refine oR Z (zz Z Z jZ Z zw ZS (wBG bj) (wBI bj)) (oR Z (zF Z Z ZN Z zD) (oL Z (aq.ldC (f:=0) lu (v:=jV b5.Lo) Z Z zG Z) (oR Z (zF Z bt zU Z ZX) (oL Z (aq.ldB (j:=0) Z Z Z Za (v:=.slice a0 p0.Splits.length bb) Z) (oM Z bh ?_)))))
 have q:=eE.el (fun _=>rfl) (wAP bj)
 obtain ⟨pO,qb,j0,lv⟩:=q
 refine oR Z (zz Z Z j0 Z zw ZS (wBG bj) (wBI bj)) (oR Z (zF Z Z ZN Z zD) (oL Z (aq.ldC (f:=1) lv (v:=jV b5.Hi) Z Z zG Z) (bnK mK fun qG iR mL=>zI 0 Z Z Z Z (zJ Z Z yR (zC Z (zC Z (zC Z zP))) Z) aq (fun hs=>wAe (w64 (fO - fP)) b5.Lo b5.Hi gf bG hs iR) (.inr Z) ?_)))
 rintro cj pn qu gg oz lL ⟨rfl,rfl⟩
 have eM:sW w U cj [.blk b2 36 B0] gg:=lL
 refine eN (ifc mL ?_ ?_)
 intro cy mM
 refine ZE (congrArg nJ cy.out) (sR fL2 Z (oA Z Z (oA Z Z (eN (zR (zZ (zN ?_)))))))
 have q:=wAR mM
 obtain ⟨o5,mN,gG⟩:=q
 obtain rfl:=eV o5 gG
 refine zN (zZ (zZ (zN ?_)))
 have q:=wAR mN
 obtain ⟨o6,mO,gH⟩:=q
 obtain rfl:=wCE bA bR (eU o6 gH)
 refine zN (zZ (zN ?_))
 cases mO
 exact ⟨rfl,_,(wJS rfl rfl),cj,_,(eM.pick [] _ (by decide) rfl),rfl,rfl⟩
 intro cy mP
 refine zx (congrArg nJ (nK.2 cy.out)) (Ze (zt (zH (rR fL3 Z (oM Z bh (oR Z (zi Z Z Z) (oA Z Z (zo ?_))))))))
 obtain rfl:=nE mP
 exact zH ⟨Z,_,Z,⟨cj,bK,d6,bt,bL,Z,(bX.trans oz),eM⟩⟩
 have eY:=ff;rw [if_neg aX] at eY;replace aX:=zL aX
 refine cF Z aX (ZU (zk ?_))
 have q:=wAR eY
 obtain ⟨o7,mQ,gI⟩:=q
 obtain rfl:=eV o7 gI
 refine zk (ZM (zt (zH (rR fL3 Z (oM Z bL (oR Z (ZT (zi Z Z Z) (congrArg (jV) me.out)) (oA Z Z (zo ?_))))))))
 obtain rfl:=nE mQ
 exact zH ⟨Z,_,Z,⟨bG,Z,bK,d6,bt,(bW.trans bX),df⟩⟩
 intro cx mR
 refine cT Z cx (sR fL2 Z (oA Z Z (oA Z Z (eN (zR (zN (zZ (zN ?_))))))))
 have q:=wAR mR
 obtain ⟨o8,mS,gJ⟩:=q
 obtain rfl:=wCE bA bR (eU o8 gJ)
 refine zN (zZ (zN ?_))
 cases mS
 exact ⟨rfl,_,(wJS rfl rfl),bF,_,(be.pick [] _ (by decide) rfl),rfl,rfl⟩
 rintro ⟨⟩ qZ pz ⟨dJ,ik,d8,gX,gZ,bn,lM⟩ lZ
 have bU:=wCp bA bR lZ
 try dsimp only at bU
 have gz:Hid (¬ ((↑(((↑p1.length:Int):Int) - 0).toNat:Int) < (↑p1.length:Int))):=zL (wAs)
 refine zK (sR fL4 Z (oM Z ik (oM Z d8 (oR Z (zf Z Z zV) (oR Z (zg Z Z Z) (eN (cF Z gz (ZU (zk (zk (ZM (zH (zK (sR fL1 Z (oA Z Z (eN (zd ?_)))))))))))))))))
 have q:=wCD bU
 obtain ⟨qo,dk⟩:=q
 have q:=wCC dk
 obtain ⟨dz,mb⟩:=q
 replace dz:=zL dz
 refine yK (fun bC _ σ_ w_=>∃ (U_:PHeap),σ_ 15=jV (↑bC:Int)/\σ_ 1=.slice av p1.length aS/\σ_ 2=.slice az p2.length aT/\σ_ 3=.pointer (some ⟨b2,0,none⟩)/\PHeap.Le dJ U_/\sW w U U_ [.blk b2 36 B0] w_) mb ?_ ?_ ?_
 exact ⟨dJ,Z,d8,gX,gZ,(zM _),lM⟩
 rintro bC ⟨⟩ qP rc dQ du ⟨fV,bu,g7,cI,cJ,dD,lN⟩ fg l3
 try dsimp only at fg
 have dV:Hid ((↑bC:Int) < (↑p2.length:Int)):=zL (wBR du)
 replace du:=zL du
 have mg:Hid (w64 ((↑bC:Int) + 1)=(↑(bC + 1):Int)):=zL (by have h1:=dz.out;have h2:=dV.out;rw [wAU] <;> omega)
 refine zK (sR fL4 rfl (ZA rfl rfl rfl rfl rfl bu (ZA rfl rfl rfl rfl rfl cI (zm rfl rfl rfl rfl (fun _=>zf rfl rfl zB) (zm rfl rfl rfl rfl (fun _=>zg rfl rfl rfl) (eN (cT Z dV (kN (zK (zd (zK (zy zu [3,3,3,1,3,1,3,3,3,3,1,3,1,3,3,3,3,1,2] (wTw (.fx 18 .nil .stop)) (by kernel_rfl) ?_))))))))))))
 have bf:=lN.drew
 generalize hw_W442:({ dQ with drawn:=dQ.drawn + 1 }:World)=gh at bf ⊢
 refine oM Z cI (oM Z bu (bnK fg fun fQ eF mT=>?_))
 have iT:=dp.le am
 have iU:=iT.le ap
 have iV:=iU.le au
 have iW:=iV.le aW
 have iX:=iW.le bn
 have iY:=iX.le dD
 have q:=iY.el (fun _=>rfl) (wAP eF)
 obtain ⟨pP,qc,j5,lw⟩:=q
 refine oR Z (ZJ Z Z j5 Z zB zD (wBa eF)) (oL Z (bf.ldC (f:=0) lw (v:=jV fQ) Z Z zG Z) (oR Z (zF Z cJ zU Z Zp) (oL Z (bf.ldB (j:=0) Z Z Z yC (v:=.slice ba p0.Clocks.length bd) Z) (oM Z bu (bnK mT fun b9 bP mU=>?_)))))
 have iZ:=dm.le am
 have i4:=iZ.le ap
 have i6:=i4.le au
 have i8:=i6.le aW
 have i9:=i8.le bn
 have eH:=i9.le dD
 have q:=eH.el (fun _=>rfl) (wAP bP)
 obtain ⟨pQ,qd,j6,lx⟩:=q
 refine oR Z (ZJ Z Z j6 Z Zb yZ (wBa bP)) (oR Z (zF Z Z yH Z ZS) (oR Z (zF Z Z ZN Z zD) (oL Z (bf.ldC (f:=0) lx (v:=jV b9.Offset.Lo) Z Z zG Z) (oR Z (zF Z cJ zU Z Zp) (oL Z (bf.ldB (j:=0) Z Z Z yC (v:=.slice ba p0.Clocks.length bd) Z) (oM Z bu ?_))))))
 have q:=eH.el (fun _=>rfl) (wAP bP)
 obtain ⟨pR,qe,j7,ly⟩:=q
 refine oR Z (ZJ Z Z j7 Z Zb yZ (wBa bP)) (oR Z (zF Z Z yH Z ZS) (oR Z (zF Z Z ZN Z zD) (oL Z (bf.ldC (f:=1) ly (v:=jV b9.Offset.Hi) Z Z zG Z) (bnK mU fun qH jb mW=>zI 0 Z Z Z Z (zJ Z Z yR (zC Z (zC Z (zC Z zP))) Z) bf (fun hs=>wAe fQ b9.Offset.Lo b9.Offset.Hi gh fV hs jb) (.inr Z) ?_))))
 rintro cm po qv gi oB lO ⟨rfl,rfl⟩
 have eO:sW w U cm [.blk b2 36 B0] gi:=lO
 refine eN (ifc mW ?_ ?_)
 intro cz mX
 refine ZE (congrArg nJ cz.out) (sR fL2 Z (oA Z Z (oA Z Z (eN (zR (zZ (zN ?_)))))))
 have q:=wAR mX
 obtain ⟨o9,mY,gK⟩:=q
 obtain rfl:=wCE bU dk (l3 o9 gK)
 refine zN (zZ (zN ?_))
 cases mY
 exact ⟨rfl,_,(wJS rfl rfl),cm,_,(eO.pick [] _ (by decide) rfl),rfl,rfl⟩
 intro cz mZ
 refine zx (congrArg nJ (nK.2 cz.out)) (Ze (zt (zH (rR fL3 Z (oM Z bu (oR Z (ZT (zi Z Z Z) (congrArg (jV) mg.out)) (oA Z Z (zo ?_))))))))
 obtain rfl:=nE mZ
 exact zH ⟨Z,_,Z,⟨cm,Z,g7,cI,cJ,(dD.trans oB),eO⟩⟩
 rintro ⟨⟩ re pC ⟨dK,il,g8,d9,g9,bY,lP⟩ l4
 have eZ:=wCp bU dk l4
 try dsimp only at eZ
 have gA:Hid (¬ ((↑(((↑p2.length:Int):Int) - 0).toNat:Int) < (↑p2.length:Int))):=zL (wAs)
 refine zK (sR fL4 Z (oM Z il (oM Z d9 (oR Z (zf Z Z zB) (oR Z (zg Z Z Z) (eN (cF Z gA (ZU (zk (zk (ZM (zH (zK (sR fL1 Z (oA Z Z (eN (zd (yq (fun dF σ_ w_=>∃ (U_:PHeap),σ_ 1=.slice av p1.length aS/\σ_ 2=.slice az p2.length aT/\σ_ 3=.pointer (some ⟨b2,0,none⟩)/\σ_ 16=jV dF/\PHeap.Le dK U_/\sW w U U_ [.blk b2 36 B0] w_) eZ ?_ ?_))))))))))))))))))
 exact ⟨dK,g8,d9,g9,Z,(zM _),lP⟩
 rintro dF qQ ri pD ⟨bH,ec,ef,bM,cK,bD,bz⟩ fh eW
 refine zK (sR fL5 Z (oM Z cK (oR Z (zF Z bM zU Z yL) (oL Z (bz.ldB (j:=0) Z Z Z yd (v:=.slice bp p0.Readings.length br) Z) (oR Z (zf Z Z Zw) (oR Z (zg Z Z Z) (eN ?_)))))))
 by_cases aY:dF < (↑p0.Readings.length:Int)
 have e8:=fh;rw [if_pos aY] at e8;replace aY:=zL aY
 refine cT Z aY (kN (zK (zd (sR (wHz (.fx 5 (.fx 6 .nil .stop) .stop)) Z (oR Z (zF Z bM zU Z yL) (oL Z (bz.ldB (j:=0) Z Z Z yd (v:=.slice bp p0.Readings.length br) Z) (oM Z cK (bnK e8 fun ak cQ m0=>?_))))))))
 have jd:=eS.le am
 have je:=jd.le ap
 have jf:=je.le au
 have jg:=jf.le aW
 have jh:=jg.le bn
 have ji:=jh.le bY
 have jj:=ji.le bD
 have q:=jj.el (fun _=>rfl) (wAP cQ)
 obtain ⟨pS,qf,j9,lz⟩:=q
 refine oR Z (zz Z Z j9 Z Zw yM (wBG cQ) (wBI cQ)) (oL Z (bz.ldCA (f:=0) lz Z Z Tryz.isAgg117 yM (us:=[jV ak.Skier,jV ak.Mat,jV ak.Clock,jV ak.Time]) Z Z) (zS (cs:=[jV 0,jV 0,jV 0,jV 0]) Z Z Z Z Z Tryz.zeroValue117 Z bz ?_))
 intro pE dR lQ
 let B1:List Value:=[jV ak.Skier,jV ak.Mat,jV ak.Clock,jV ak.Time]
 refine zW (j:=0) (vs:=B1) Z Z Z Z lQ Z Z Z Z yM (zA Z) Z Z Z ?_
 intro cp lR
 have bQ:sW w U bH [.blk dR 117 B1,.blk b2 36 B0] cp:=lR
 refine eN (sR fL8 Z (oR Z (zF Z bM zU Z Zp) (oL Z (bQ.ldB (j:=1) Z Z Z yC (v:=.slice ba p0.Clocks.length bd) Z) (oR Z (zF Z Z ZY Z zD) (oL Z (bQ.ldB (j:=0) Z Z Z zG (v:=jV ak.Clock) Z) (bnK m0 fun dG cR m4=>?_))))))
 have jk:=dm.le am
 have jl:=jk.le ap
 have jm:=jl.le au
 have jo:=jm.le aW
 have jp:=jo.le bn
 have jq:=jp.le bY
 have jr:=jq.le bD
 have q:=jr.el (fun _=>rfl) (wAP cR)
 obtain ⟨pT,qh,k9,lA⟩:=q
 refine zm rfl rfl rfl rfl (fun _=>zz rfl rfl k9 rfl Zb yZ (wBG cR) (wBI cR)) (zm rfl rfl rfl rfl (fun _=>zF rfl rfl yH rfl zD) (ZI rfl rfl rfl rfl (bQ.ldC (f:=2) lA (v:=jV dG.Error) rfl rfl zG rfl) rfl (yk rfl rfl rfl rfl rfl rfl (eN (zK (zy zu [3,1,3,3,1,3,1,3,1,3,1,3,3,3,1,3,1,3,3,3,3,2] (wTx (.fx 21 .nil .stop)) (by kernel_rfl) ?_))))))
 have aU:=bQ.drew
 generalize hw_W557:({ cp with drawn:=cp.drawn + 1 }:World)=gj at aU ⊢
 refine oR Z (zF Z Z ZY Z zD) (oL Z (aU.ldB (j:=0) Z Z Z zG (v:=jV ak.Time) Z) (oM Z ec (oR Z (zF Z Z ZY Z zD) (oL Z (aU.ldB (j:=0) Z Z Z zG (v:=jV ak.Skier) Z) (bnK m4 fun fR cS m5=>?_)))))
 have jt:=bS.le am
 have ju:=jt.le ap
 have jv:=ju.le au
 have jw:=jv.le aW
 have jx:=jw.le bn
 have jy:=jx.le bY
 have jz:=jy.le bD
 have q:=jz.el (wAP cS)
 obtain ⟨gw,oW,qD,lf,de,ou⟩:=q
 obtain ⟨fC,fL,rfl,jA⟩:=ou
 replace de:Cl bH gw (oW + ak.Skier.toNat * 1) [.slice fC fR.length fL]:=de
 refine oR Z (zz Z Z lf Z zV zX (wBG cS) (wBI cS)) (oL Z (aU.ldC (f:=0) de (v:=.slice fC fR.length fL) Z Z zY Z) (oR Z (zF Z Z ZY Z zD) (oL Z (aU.ldB (j:=0) Z Z Z zG (v:=jV ak.Mat) Z) (bnK m5 fun fS cU m6=>?_))))
 have q:=jA.el (fun _=>rfl) (wAP cU)
 obtain ⟨pU,qi,lg,lB⟩:=q
 refine oR Z (zz Z Z lg Z zB zD (wBG cU) (wBI cU)) (oL Z (aU.ldC (f:=0) lB (v:=jV fS) Z Z zG Z) (oR Z (yg Z Z Z) (oM Z ef (oR Z (zF Z Z ZY Z zD) (oL Z (aU.ldB (j:=0) Z Z Z zG (v:=jV ak.Clock) Z) (bnK m6 fun fT cV m7=>?_))))))
 have jB:=dp.le am
 have jC:=jB.le ap
 have jD:=jC.le au
 have jE:=jD.le aW
 have jG:=jE.le bn
 have jH:=jG.le bY
 have jJ:=jH.le bD
 have q:=jJ.el (fun _=>rfl) (wAP cV)
 obtain ⟨pV,qj,lh,lD⟩:=q
 refine oR Z (zz Z Z lh Z zB zD (wBG cV) (wBI cV)) (oL Z (aU.ldC (f:=0) lD (v:=jV fT) Z Z zG Z) (oR Z (yg Z Z Z) (oM Z Z (oR Z (Runs.negw Z Z) (oM Z Z (bnK m7 fun qJ jK n5=>zI 0 Z Z Z Z (zJ Z Z yR (zC Z (zC Z (zC Z zP))) Z) aU (fun hs=>wAe (w64 ((w64 (ak.Time - fS)) - fT)) (w64 (-dG.Error)) dG.Error gj bH hs jK) (.inr Z) ?_))))))
 rintro cn pp qw gk oG lS ⟨rfl,rfl⟩
 have eP:sW w U cn [.blk dR 117 B1,.blk b2 36 B0] gk:=lS
 refine eN (ifc n5 ?_ ?_)
 intro cC n6
 refine ZE (congrArg nJ cC.out) (sR fL2 Z (oA Z Z (oA Z Z (eN (zR (zZ (zN ?_)))))))
 have q:=wAR n6
 obtain ⟨pf,n7,gL⟩:=q
 obtain rfl:=eW pf gL
 refine zN (zZ (zN ?_))
 cases n7
 exact ⟨rfl,_,(wJS rfl rfl),cn,_,(eP.pick [] _ (by decide) rfl),rfl,rfl⟩
 intro cC n8
 refine zx (congrArg nJ (nK.2 cC.out)) (Ze (zt (zH (rR fL3 Z (oM Z cK (oR Z (zi Z Z Z) (oA Z Z (zo ?_))))))))
 obtain rfl:=nE n8
 exact zH ⟨rfl,_,rfl,⟨cn,ec,ef,bM,rfl,(bD.trans oG),(eP.pick [1] _ (by decide) rfl)⟩⟩
 have e9:=fh;rw [if_neg aY] at e9;replace aY:=zL aY
 refine cF Z aY (ZU (zk ?_))
 have q:=wAR e9
 obtain ⟨pg,n9,gM⟩:=q
 obtain rfl:=eW pg gM
 refine zk (ZM (zH (sR fL2 Z (oA Z Z (oA Z Z (eN (zR ?_)))))))
 cases n9
 exact ⟨rfl,_,(wJS rfl rfl),bH,_,(bz.pick [] _ (by decide) rfl),rfl,rfl⟩
 intro cu oa
 refine cT Z cu (sR fL2 Z (oA Z Z (oA Z Z (eN (zR (zN ?_))))))
 cases oa
 exact ⟨rfl,_,(wJS rfl rfl),U8,_,(bk.pick [] _ (by decide) rfl),rfl,rfl⟩
 intro aj od
 refine oT Z aj (oT Z aj (oT Z aj (oT Z aj (oT Z aj (oT Z aj (oR Z (zn Z (Zk aj.out) Z) (eN (ZE Z (sR fL2 Z (oA Z Z (oA Z Z (eN (zR (zN ?_))))))))))))))
 cases od
 exact ⟨rfl,_,(wJS rfl rfl),U8,_,(bk.pick [] _ (by decide) rfl),rfl,rfl⟩
 intro cr oe
 refine cT Z cr (sR fL3 Z (oM Z Z (oA Z Z (oA Z Z (eN (zR (zN ?_)))))))
 cases oe
 exact ⟨rfl,_,(wJS rfl rfl),U8,_,(bk.pick [] _ (by decide) rfl),rfl,rfl⟩
end Go.Proofs.YtlnfbjphfoipaaaGreat
namespace Go.Proofs.YtlnfbjphfoipaaaGreat
open Go.KL
set_option maxHeartbeats 4000000
theorem wHs (p0 p1:Int) (w:World) (U:PHeap) (hS:St0 w U []) {r:Int × Int} (hm:wDR p0 p1=some r):Gv Tryz.prog 132 [.int .u64 p0,.int .u64 p1] w (wCs w [] U (fun U_ L_ v=>v=.tuple #[.int .u64 r.1,.int .u64 r.2]/\L_=[])):=by
 unfold wDR at hm
 split at hm
 rename_i h
 cases hm
 obtain ⟨x,rfl⟩:=nL h.1
 obtain ⟨y,rfl⟩:=nL h.2.2.1
 refine (Go.Proofs.Tryz.bits_Mul x y (by omega) (by omega) w).mono ?_
 rintro e w' ⟨rfl,rfl⟩
 refine ⟨_,Z,U,[],hS,?_,Z⟩
 simp
 cases hm
theorem wAg (p0:List Int) (aX:Option Addr) (aY:Nat) (p1:Int) (w:World) (U:PHeap) (hS:St0 w U []) (bX:Sl U 1 aX aY p0.length (hH KL.encI p0)) {r:(List Int)} (hm:wAx p0 p1=some r):Gv Tryz.prog 122 [.slice aX p0.length aY,jV p1] w (wCs w [] U (fun U_ L_ v=>∃ (A0:Option Addr) (c0:Nat),v=.slice A0 r.length c0/\L_=[.row A0 c0 3 1 (hH KL.encI r)])):=by
 unfold wAx at hm
 refine Gv.of Tryz.func122 Z Tryz.ntmps122 Tryz.results122 Z (sR fL1 Z (oA Z Z (eN (zK (sR fL2 Z (oM Z Z (oR Z (zg Z Z Z) (eN ?_))))))))
 by_cases c1:p1 < 0
 have bm:=hm;rw [if_pos c1] at bm;replace c1:=zL c1
 refine cT Z c1 (rR gBp Z ?_)
 cases bm
 have bp:=hm;rw [if_neg c1] at bp;replace c1:=zL c1
 refine cF Z c1 (kN (sR (wHz (.fx 5 (wUH (.nil)) .stop)) Z (oM Z Z (oR Z (zf Z Z zB) (oR Z (Runs.cv64 Z Z Tryz.runUnderlying3 Tryz.runUnderlying207 Z Z) (oM Z Z (oR Z (Runs.cv64 Z Z Tryz.runUnderlying3 Tryz.runUnderlying207 Z Z) ?_)))))))
 have q:=bnd bp
 obtain ⟨⟨x4,x5⟩,h6,bq⟩:=q
 try dsimp only at bq
 refine zI 0 Z Z Z Z (zJ Z Z Tryz.call132 (zC Z (zC Z zP)) Z) hS (fun hs=>wHs (wPO (↑p0.length:Int)) (wPO p1) w U hs h6) (.inr Z) ?_
 rintro U8 L9 cH bA cw bR ⟨rfl,rfl⟩
 have bf:sW w U U8 [] bA:=bR
 refine oM Z Z (oR Z (ZB Z Z (v:=.int .u64 x4) Z) (oR Z (ZB Z Z (v:=.int .u64 x5) Z) (oA Z Z (oA Z Z (eN (zK (bnK bq fun bE bu cg=>yY (fun σ_ w_=>∃ (U_:PHeap),σ_ 0=.slice aX p0.length aY/\σ_ 6=.int .u64 x5/\σ_ 26=.bool bE/\PHeap.Le U8 U_/\sW w U U_ [] w_) ?_ ?_)))))))
 refine rR fL6 Z (oM Z Z (oR Z (yN Z Z Z) (oM Z Z ?_)))
 by_cases ae:0 < x4
 have bn:=bu;rw [if_pos ae] at bn;replace ae:=zL ae
 refine oT Z ae (oT Z ae (oR Z (zn Z (Zk ae.out) Z) (zo ?_)))
 cases bn
 exact zH ⟨Z,⟨U8,Z,Z,Z,(zM _),bf⟩⟩
 have bo:=bu;rw [if_neg ae] at bo;replace ae:=zL ae
 refine ZA Z Z Z (wF Z ae) Z Z (rU Z (wF Z ae) (yN Z Z Z) (oR Z (zq Z (Zh ae.out) Z) (zo ?_)))
 obtain rfl:=nE bo
 exact zH ⟨Z,⟨U8,Z,Z,Z,(zM _),bf⟩⟩
 rintro cJ cC ⟨aq,bG,bH,bd,cx,bS⟩
 refine ifc cg ?_ ?_
 intro aT cj
 refine ZE (bd.trans (congrArg nJ aT.out)) (rR gBp Z ?_)
 cases cj
 intro aT cm
 refine zx (bd.trans (congrArg nJ (nK.2 aT.out))) (kN (sR gCd Z (oM Z bH (oR Z (Runs.cvw Z Z Tryz.runUnderlying207 Tryz.runUnderlying3 Z Z) (bnK cm fun aa bI cn=>OKS.makeSlice (enc:=KL.encI) (z:=(0:Int)) (v:=jV 0) Z Z Z Z Z (wCO zB) wOi Z Z Z Z Z Z bI bS ?_)))))
 intro bB ab bT
 have bg:sW w U aq [.row (some ⟨ab,0,none⟩) aa.length 3 1 (hH KL.encI aa)] bB:=bT
 refine oA Z Z (eN (sR gCd Z (oM Z Z (oM Z bG ?_))))
 have bJ:=bX.le cw
 have bK:=bJ.le cx
 refine bnK cn fun aZ bL cp=>OKS.copyM (j:=0) (f:=KL.encI) (m:=aa) (ys:=p0) (z:=aZ) (a:=0) (n:=aa.length) rfl rfl rfl rfl rfl rfl zB zD bg rfl (fun _=>rfl) (fun _=>rfl) rfl bL rfl (by simp) (.inr (by simp)) rfl (bg.srcS bK) rfl ?_
 intro bC bU bj
 have bV:sW w U aq [.row (some ⟨ab,0,none⟩) aa.length 3 1 (hH KL.encI aZ)] bC:=bU
 refine oA Z Z (eN (zK (zd (yq (fun (ah,x59) σ_ w_=>∃ (U_:PHeap),σ_ 7=.slice (some ⟨ab,0,none⟩) ah.length aa.length/\σ_ 8=jV x59/\PHeap.Le aq U_/\sW w U U_ [.row (some ⟨ab,0,none⟩) aa.length 3 1 (hH KL.encI ah)] w_/\ah.length=aa.length) cp ?_ ?_))))
 exact ⟨aq,(Eq.trans (b:=(.slice (some ⟨ab,0,none⟩) aa.length aa.length:Value)) (c:=(.slice (some ⟨ab,0,none⟩) aZ.length aa.length:Value)) rfl (by rw [bj])),rfl,(zM _),bV,bj⟩
 rintro ⟨ah,x59⟩ cI cK ba ⟨aS,am,av,cy,bh,bN⟩ aW cb
 try dsimp only at aW
 refine zK (sR fL4 Z (oM Z av (oM Z am (oR Z (zf Z Z zB) (oR Z (zg Z Z Z) (eN ?_))))))
 by_cases aj:x59 < (↑ah.length:Int)
 have br:=aW;rw [if_pos aj] at br;replace aj:=zL aj
 refine cT Z aj (kN (zd (zy zu [3,3,3,3,3,3,3,0,3,3] (wTs (.fx 7 (.fl 8 (.fl 9 .nil)) .stop)) (by kernel_rfl) ?_)))
 have ap:=bh.drew
 generalize hw_W76:({ ba with drawn:=ba.drawn + 1 }:World)=cD at ap ⊢
 refine oM Z av (oM Z am (oM Z av (bnK br fun bz bO cq=>?_)))
 have q:=wNF bO
 obtain ⟨bY,b5,aU,cE,aV⟩:=q
 have bs:=ap.rowCap (j:=0) rfl (by decide) (wAJ (f:=KL.encI) (sz:=1) (fun _=>rfl) ah)
 refine zm (v:=.slice (if aa.length=(x59:Int).toNat then (some ⟨ab,0,none⟩) else Option.map (fun q:Addr=>q.add ((x59:Int).toNat * 1)) ((some ⟨ab,0,none⟩):Option Addr)) bz.length (aa.length - (x59:Int).toNat)) rfl rfl rfl rfl (fun _=>ZT (Runs.slc (sz:=1) (a:=x59) (b:=(↑(ah.length):Int)) rfl rfl (.inl ⟨_,rfl,rfl⟩) (.inr ⟨rfl,rfl⟩) zB zD bY b5 aU bs) (by rw [aV])) (ZA rfl rfl rfl rfl rfl am (ZA rfl rfl rfl rfl rfl av (bnK cq fun x86 be cr=>?_)))
 have q:=wNF be
 obtain ⟨bZ,b9,cd,cG,cu⟩:=q
 have bt:=ap.rowCap (j:=0) rfl (by decide) (wAJ (f:=KL.encI) (sz:=1) (fun _=>rfl) ah)
 refine zm (v:=.slice (if aa.length=(0:Int).toNat then (some ⟨ab,0,none⟩) else Option.map (fun q:Addr=>q.add ((0:Int).toNat * 1)) ((some ⟨ab,0,none⟩):Option Addr)) x86.length (aa.length - (0:Int).toNat)) rfl rfl rfl rfl (fun _=>ZT (Runs.slc (sz:=1) (a:=0) (b:=x59) rfl rfl (.inr ⟨rfl,rfl⟩) (.inl ⟨_,rfl,rfl⟩) zB zD bZ b9 cd bt) (by rw [cu])) (bnK cr fun x95 bP ct=>OKS.copyM (j:=0) (f:=KL.encI) (m:=ah) (ys:=x86) (z:=x95) (a:=x59) (n:=bz.length) rfl rfl rfl rfl rfl rfl zB zD ap rfl (fun _=>rfl) (fun _=>rfl) rfl bP rfl (by have:=aV;have:=aU;omega) (cutA rfl (by have:=aV;have:=aU;have:=bs;omega)) rfl (ap.srcCut (f:=KL.encI) (j:=0) rfl (fun _=>rfl) rfl be bt) rfl ?_)
 intro bD bW bi
 have bQ:sW w U aS [.row (some ⟨ab,0,none⟩) aa.length 3 1 (hH KL.encI x95)] bD:=bW
 refine oR Z (zi Z Z Z) (oA Z Z (zo (zt ?_)))
 obtain rfl:=nE ct
 exact zH ⟨rfl,_,rfl,⟨aS,(Eq.trans (b:=(.slice (some ⟨ab,0,none⟩) ah.length aa.length:Value)) (c:=(.slice (some ⟨ab,0,none⟩) x95.length aa.length:Value)) am (by rw [bi])),rfl,cy,bQ,(bi.trans bN)⟩⟩
 have bk:=aW;rw [if_neg aj] at bk;replace aj:=zL aj
 refine cF Z aj (ZU (zk ?_))
 have q:=wAR bk
 obtain ⟨cz,cf,bF⟩:=q
 obtain rfl:=cb cz bF
 refine zk (ZM (zH (sR fL2 Z (oM Z am (oA Z Z (eN (zR ?_)))))))
 have hE:=nE cf;first | subst r | cases hE
 exact ⟨Z,_,(ZF Z),aS,_,bh,(some ⟨ab,0,none⟩),aa.length,Z,Z⟩
theorem wGO (p0:wBT) (aj:Nat) (dH:Option Addr) (dL:Nat) (dI:Option Addr) (dM:Nat) (dJ:Option Addr) (dN:Nat) (dK:Option Addr) (dO:Nat) (aa:Nat) (ae:Array MapEntry) (ah:Nat) (br:Option Addr) (bs:Nat) (p1:Int) (p2:Bool) (w:World) (U:PHeap) (hS:St0 w U [.blk aj 139 [.slice dH p0.Race.Starts.length dL,.slice dI p0.Race.Splits.length dM,.slice dJ p0.Race.Clocks.length dN,.slice dK p0.Race.Readings.length dO,.map (some aa),.slice br p0.edges.length bs],.obj aa (.map ae ah)]) (AE:Sl U 1 dH dL p0.Race.Starts.length (hH KL.encI p0.Race.Starts)) (AG:Sl U 2 dI dM p0.Race.Splits.length (hH wAB p0.Race.Splits)) (AI:Sl U 3 dJ dN p0.Race.Clocks.length (hH wAD p0.Race.Clocks)) (AJ:Sl U 4 dK dO p0.Race.Readings.length (hH wAC p0.Race.Readings)) (cR:MpR ae wBf wBo p0.number) (vY:Sl U 7 br bs p0.edges.length (hH wAS p0.edges)) {r:wDG × Int × Bool} (hm:wBg p0 p1 p2=some r):Gv Tryz.prog 74 [.pointer (some ⟨aj,0,none⟩),jV p1,.bool p2] w (wCs w [.blk aj 139 [.slice dH p0.Race.Starts.length dL,.slice dI p0.Race.Splits.length dM,.slice dJ p0.Race.Clocks.length dN,.slice dK p0.Race.Readings.length dO,.map (some aa),.slice br p0.edges.length bs],.obj aa (.map ae ah)] U (fun U_ L_ v=>∃ (gh:Option Addr) (iJ:Nat) (gi:Option Addr) (iK:Nat),v=.tuple #[.agg #[.slice gh r.1.far.length iJ,.slice gi r.1.by_.length iK],jV r.2.1,.bool r.2.2]/\L_=[.row gh iJ 3 1 (hH KL.encI r.1.far),.row gi iK 3 1 (hH KL.encI r.1.by_),.blk aj 139 [.slice dH p0.Race.Starts.length dL,.slice dI p0.Race.Splits.length dM,.slice dJ p0.Race.Clocks.length dN,.slice dK p0.Race.Readings.length dO,.map (some aa),.slice br p0.edges.length bs],.obj aa (.map ae ah)])):=by
 unfold wBg at hm
 refine Gv.of Tryz.func74 Z Tryz.ntmps74 Tryz.results74 Z (sR gBu Z ?_)
 let B0:List Value:=[.slice none 0 0,.slice none 0 0]
 refine zS (cs:=B0) Z Z Z Z Z Zv Z hS ?_
 intro W3 b4 vm
 refine oA Z Z (oA Z Z (eN ?_))
 have q:=bnd hm
 obtain ⟨⟨l9,bz⟩,w7,mc⟩:=q
 try dsimp only at mc
 let B1:Res:=.blk aj 139 [.slice dH p0.Race.Starts.length dL,.slice dI p0.Race.Splits.length dM,.slice dJ p0.Race.Clocks.length dN,.slice dK p0.Race.Readings.length dO,.map (some aa),.slice br p0.edges.length bs]
 refine yY (fun σ_ w_=>∃ (U_:PHeap) (b8:Nat) (au:Option Addr) (av:Nat) (az:Option Addr) (aS:Nat),σ_ 0=.pointer (some ⟨aj,0,none⟩)/\σ_ 1=jV p1/\σ_ 2=.bool p2/\σ_ 6=.pointer (some ⟨b4,0,none⟩)/\σ_ 9=.pointer (some ⟨b8,0,none⟩)/\PHeap.Le U U_/\SW w [B1,.obj aa (.map ae ah)] U U_ [.blk b4 133 B0,B1,.obj aa (.map ae ah),.blk b8 133 [.slice au l9.length av,.slice az bz.length aS],.row au av 3 1 (hH KL.encI l9),.row az aS 3 1 (hH KL.encI bz)] w_) ?_ ?_
 refine bnK w7 fun aT eK wX=>bnK wX fun x51 eL wY=>zy zu [2,3,3,3,1,1,2,2,3,3,3,1,1,2,3,2,0] (fC1_5 (wUI (.fx 0 (.fx 6 (.fl 12 (.fx 7 gCj (.fx 15 gCg .stop))) (.fx 7 gCs (.fx 15 gCt .stop))) (.fx 7 (.fx 0 gCs (.fx 15 gCo .stop)) (.fx 15 (.fx 0 gCt (.fx 7 gCo .stop)) .stop))))) (by kernel_rfl) ?_
 have cg:=vm.drew
 generalize hw_W74:({ W3 with drawn:=W3.drawn + 1 }:World)=y6 at cg ⊢
 refine ZC (s:=.nil) (M:=fun σ_ w_=>∃ (U_:PHeap) (ec:Nat) (cn:Option Addr) (cE:Nat) (cp:Option Addr) (cG:Nat) (eR:Option Addr) (fg:Nat) (eS:Option Addr) (fh:Nat),σ_ 0=.pointer (some ⟨aj,0,none⟩)/\σ_ 1=jV p1/\σ_ 2=.bool p2/\σ_ 6=.pointer (some ⟨b4,0,none⟩)/\σ_ 9=.pointer (some ⟨ec,0,none⟩)/\σ_ 16=.slice eR ([1125899906842624].length) fg/\σ_ 17=.pointer (some ⟨aj,0,none⟩)/\σ_ 18=.pointer (some ⟨aj,0,none⟩)/\σ_ 19=.pointer (some ⟨aj,4,none⟩)/\σ_ 20=.map (some aa)/\σ_ 21=jV (↑(p0.number.length):Int)/\σ_ 22=.slice cn aT.length cE/\σ_ 23=.slice eS ([-1].length) fh/\σ_ 24=.pointer (some ⟨aj,0,none⟩)/\σ_ 25=.pointer (some ⟨aj,0,none⟩)/\σ_ 26=.pointer (some ⟨aj,4,none⟩)/\σ_ 27=.map (some aa)/\σ_ 28=jV (↑(p0.number.length):Int)/\σ_ 29=.slice cp x51.length cG/\σ_ 30=.agg #[.slice cn aT.length cE,.slice cp x51.length cG]/\PHeap.Le U U_/\SW w [B1,.obj aa (.map ae ah)] U U_ [.blk b4 133 B0,B1,.obj aa (.map ae ah),.blk ec 133 [.slice cn aT.length cE,.slice cp x51.length cG],.row cn cE 3 1 (hH KL.encI aT),.row cp cG 3 1 (hH KL.encI x51)] w_/\Sl U_ 1 eR fg [1125899906842624].length (hH KL.encI [1125899906842624])/\Sl U_ 1 eS fh [-1].length (hH KL.encI [-1])) ?_ fun mr=>?_
 rintro Bj yw ⟨mV,ec,cn,cE,cp,cG,eR,fg,eS,fh,pY,pZ,p6,p7,p8,Ah,Ai,Aj,Ak,Al,Am,An,Ao,Ap,Aq,Ar,As,Au,Av,Aw,xj,vk,AA,AD⟩
 refine zo ?_
 cases wY
 exact zH ⟨Z,⟨mV,ec,cn,cE,cp,cG,pY,pZ,p6,p7,p8,xj,vk⟩⟩
 refine ZC (s:=.fx 16 .nil .stop) (M:=fun σ_ w_=>∃ (U_:PHeap) (dl:Nat) (dQ:Option Addr) (eg:Nat) (bM:Option Addr) (bW:Nat) (dR:Option Addr) (eh:Nat) (bN:Option Addr) (bX:Nat),σ_ 0=.pointer (some ⟨aj,0,none⟩)/\σ_ 1=jV p1/\σ_ 2=.bool p2/\σ_ 6=.pointer (some ⟨b4,0,none⟩)/\σ_ 9=.pointer (some ⟨dl,0,none⟩)/\σ_ 16=.slice dQ ([1125899906842624].length) eg/\σ_ 17=.pointer (some ⟨aj,0,none⟩)/\σ_ 18=.pointer (some ⟨aj,0,none⟩)/\σ_ 19=.pointer (some ⟨aj,4,none⟩)/\σ_ 20=.map (some aa)/\σ_ 21=jV (↑(p0.number.length):Int)/\σ_ 22=.slice bM aT.length bW/\σ_ 23=.slice dR ([-1].length) eh/\σ_ 24=.pointer (some ⟨aj,0,none⟩)/\σ_ 25=.pointer (some ⟨aj,0,none⟩)/\σ_ 26=.pointer (some ⟨aj,4,none⟩)/\σ_ 27=.map (some aa)/\σ_ 28=jV (↑(p0.number.length):Int)/\σ_ 29=.slice bN x51.length bX/\σ_ 30=.agg #[.slice bM aT.length bW,.slice bN x51.length bX]/\PHeap.Le U U_/\SW w [B1,.obj aa (.map ae ah)] U U_ [.blk b4 133 B0,B1,.obj aa (.map ae ah),.blk dl 133 B0,.row bM bW 3 1 (hH KL.encI aT),.row bN bX 3 1 (hH KL.encI x51)] w_/\Sl U_ 1 dQ eg [1125899906842624].length (hH KL.encI [1125899906842624])/\Sl U_ 1 dR eh [-1].length (hH KL.encI [-1])) ?_ fun w8=>?_
 rintro Bk yy ⟨gN,dl,dQ,eg,bM,bW,dR,eh,bN,bX,p9,qa,qb,qc,jE,qd,qe,qf,qh,qi,qj,qk,qm,qn,qo,qp,qq,qr,qt,jG,xk,vl,tz,tA⟩
 let B2:List Value:=[.slice bM aT.length bW,.slice bN x51.length bX]
 refine zW (j:=3) (vs:=B2) Z Z Z Z vl Z jE jG Z yb (zA Z) Z Z Z ?_
 intro n9 vn
 have vo:SW w [B1,.obj aa (.map ae ah)] U gN [.blk b4 133 B0,B1,.obj aa (.map ae ah),.blk dl 133 B2,.row bM bW 3 1 (hH KL.encI aT),.row bN bX 3 1 (hH KL.encI x51)] n9:=vn
 exact mr _ _ ⟨gN,dl,bM,bW,bN,bX,dQ,eg,dR,eh,p9,qa,qb,qc,jE,qd,qe,qf,qh,qi,qj,qk,qm,qn,qo,qp,qq,qr,qt,jG,xk,vo,tz,tA⟩
 refine ZC (s:=gBq) (M:=fun σ_ w_=>∃ (U_:PHeap) (dm:Nat) (dS:Option Addr) (ej:Nat) (bO:Option Addr) (bY:Nat) (dT:Option Addr) (en:Nat) (bP:Option Addr) (bZ:Nat),σ_ 0=.pointer (some ⟨aj,0,none⟩)/\σ_ 1=jV p1/\σ_ 2=.bool p2/\σ_ 6=.pointer (some ⟨b4,0,none⟩)/\σ_ 9=.pointer (some ⟨dm,0,none⟩)/\σ_ 16=.slice dS ([1125899906842624].length) ej/\σ_ 17=.pointer (some ⟨aj,0,none⟩)/\σ_ 18=.pointer (some ⟨aj,0,none⟩)/\σ_ 19=.pointer (some ⟨aj,4,none⟩)/\σ_ 20=.map (some aa)/\σ_ 21=jV (↑(p0.number.length):Int)/\σ_ 22=.slice bO aT.length bY/\σ_ 23=.slice dT ([-1].length) en/\σ_ 24=.pointer (some ⟨aj,0,none⟩)/\σ_ 25=.pointer (some ⟨aj,0,none⟩)/\σ_ 26=.pointer (some ⟨aj,4,none⟩)/\σ_ 27=.map (some aa)/\σ_ 28=jV (↑(p0.number.length):Int)/\σ_ 29=.slice bP x51.length bZ/\PHeap.Le U U_/\SW w [B1,.obj aa (.map ae ah)] U U_ [.blk b4 133 B0,B1,.obj aa (.map ae ah),.blk dm 133 B0,.row bO bY 3 1 (hH KL.encI aT),.row bP bZ 3 1 (hH KL.encI x51)] w_/\Sl U_ 1 dS ej [1125899906842624].length (hH KL.encI [1125899906842624])/\Sl U_ 1 dT en [-1].length (hH KL.encI [-1])) ?_ fun ms=>?_
 rintro Bl yz ⟨gO,dm,dS,ej,bO,bY,dT,en,bP,bZ,qu,qv,qw,qx,jH,qy,qz,qA,qB,qC,qD,jJ,qE,qF,qG,qH,qI,qJ,jK,xl,vp,tB,tC⟩
 let B3:List Value:=[.slice bO aT.length bY,.slice bP x51.length bZ]
 refine oR Z (ZP (pv:=[(0,.slice bO aT.length bY),(1,.slice bP x51.length bZ)]) (z:=B0) (cs:=B3) Z (wAI jJ (wAI jK wAY)) Zv wJs Z Z) (zW (j:=3) (vs:=B3) Z Z Z Z vp Z jH Z Z yb (zA Z) Z Z Z ?_)
 intro oa vq
 have vr:SW w [B1,.obj aa (.map ae ah)] U gO [.blk b4 133 B0,B1,.obj aa (.map ae ah),.blk dm 133 B3,.row bO bY 3 1 (hH KL.encI aT),.row bP bZ 3 1 (hH KL.encI x51)] oa:=vq
 exact mr _ _ ⟨gO,dm,bO,bY,bP,bZ,dS,ej,dT,en,qu,qv,qw,qx,jH,qy,qz,qA,qB,qC,qD,jJ,qE,qF,qG,qH,qI,qJ,jK,Z,xl,vr,tB,tC⟩
 refine ZC (s:=gBy) (M:=fun σ_ w_=>∃ (U_:PHeap) (cy:Nat) (dU:Option Addr) (eu:Nat) (cU:Option Addr) (dr:Nat) (cV:Option Addr) (dt:Nat),σ_ 0=.pointer (some ⟨aj,0,none⟩)/\σ_ 1=jV p1/\σ_ 2=.bool p2/\σ_ 6=.pointer (some ⟨b4,0,none⟩)/\σ_ 9=.pointer (some ⟨cy,0,none⟩)/\σ_ 16=.slice dU ([1125899906842624].length) eu/\σ_ 17=.pointer (some ⟨aj,0,none⟩)/\σ_ 18=.pointer (some ⟨aj,0,none⟩)/\σ_ 19=.pointer (some ⟨aj,4,none⟩)/\σ_ 20=.map (some aa)/\σ_ 21=jV (↑(p0.number.length):Int)/\σ_ 22=.slice cU aT.length dr/\σ_ 23=.slice cV ([-1].length) dt/\σ_ 24=.pointer (some ⟨aj,0,none⟩)/\σ_ 25=.pointer (some ⟨aj,0,none⟩)/\σ_ 26=.pointer (some ⟨aj,4,none⟩)/\σ_ 27=.map (some aa)/\σ_ 28=jV (↑(p0.number.length):Int)/\PHeap.Le U U_/\SW w [B1,.obj aa (.map ae ah)] U U_ [.blk b4 133 B0,B1,.obj aa (.map ae ah),.blk cy 133 B0,.row cU dr 3 1 (hH KL.encI aT),.row cV dt 3 1 (hH KL.encI [-1])] w_/\Sl U_ 1 dU eu [1125899906842624].length (hH KL.encI [1125899906842624])) ?_ fun eO=>?_
 rintro Bm iu ⟨xI,cy,dU,eu,cU,dr,cV,dt,qK,qL,qM,qN,qO,qP,qQ,qR,qS,qT,qU,qV,jL,qW,qX,qY,qZ,jM,xm,vt,tD⟩
 have q:=vt.freezeR (k:=5) (n:=[-1].length) rfl (wAJ (f:=KL.encI) (sz:=1) (fun _=>rfl) [-1]) (by decide)
 obtain ⟨gP,mF,mg,vu⟩:=q
 let B4:Res:=.row cU dr 3 1 (hH KL.encI aT)
 have vv:SW w [B1,.obj aa (.map ae ah)] U gP [.blk b4 133 B0,B1,.obj aa (.map ae ah),.blk cy 133 B0,B4] iu:=vu
 refine zI 0 Z Z Z Z (zJ Z Z yo (zC jL (zC jM zP)) Z) vv (fun hs=>wAg [-1] cV dt (↑(p0.number.length):Int) iu gP hs mg eL) (.inr Z) ?_
 rintro gQ xE AU oc ge vw ⟨gp,iR,rfl,rfl⟩
 have vx:SW w [B1,.obj aa (.map ae ah)] U gQ [.row gp iR 3 1 (hH KL.encI x51),.blk b4 133 B0,B1,.obj aa (.map ae ah),.blk cy 133 B0,B4] oc:=vw
 have tE:=tD.le mF
 have tF:=tE.le ge
 have tG:=mg.le ge
 exact ms _ _ ⟨gQ,cy,dU,eu,cU,dr,cV,dt,gp,iR,qK,qL,qM,qN,qO,qP,qQ,qR,qS,qT,qU,qV,jL,qW,qX,qY,qZ,jM,rfl,((xm.trans mF).trans ge),(vx.pick [1,2,3,4,5,0] _ (by decide) rfl),tF,tG⟩
 refine ZC (s:=gBx) (M:=fun σ_ w_=>∃ (U_:PHeap) (dV:Option Addr) (ey:Nat) (cq:Option Addr) (cH:Nat) (dW:Option Addr) (eA:Nat) (cr:Option Addr) (cI:Nat),σ_ 0=.pointer (some ⟨aj,0,none⟩)/\σ_ 1=jV p1/\σ_ 2=.bool p2/\σ_ 6=.pointer (some ⟨b4,0,none⟩)/\σ_ 16=.slice dV ([1125899906842624].length) ey/\σ_ 17=.pointer (some ⟨aj,0,none⟩)/\σ_ 18=.pointer (some ⟨aj,0,none⟩)/\σ_ 19=.pointer (some ⟨aj,4,none⟩)/\σ_ 20=.map (some aa)/\σ_ 21=jV (↑(p0.number.length):Int)/\σ_ 22=.slice cq aT.length cH/\σ_ 23=.slice dW ([-1].length) eA/\σ_ 24=.pointer (some ⟨aj,0,none⟩)/\σ_ 25=.pointer (some ⟨aj,0,none⟩)/\σ_ 26=.pointer (some ⟨aj,4,none⟩)/\σ_ 27=.map (some aa)/\σ_ 28=jV (↑(p0.number.length):Int)/\σ_ 29=.slice cr x51.length cI/\PHeap.Le U U_/\SW w [B1,.obj aa (.map ae ah)] U U_ [.blk b4 133 B0,B1,.obj aa (.map ae ah),.row cq cH 3 1 (hH KL.encI aT),.row cr cI 3 1 (hH KL.encI x51)] w_/\Sl U_ 1 dV ey [1125899906842624].length (hH KL.encI [1125899906842624])/\Sl U_ 1 dW eA [-1].length (hH KL.encI [-1])) ?_ fun mu=>?_
 rintro Bn y4 ⟨mW,dV,ey,cq,cH,dW,eA,cr,cI,rc,re,ri,rj,rk,rn,ro,rp,rq,rx,jN,ry,rA,rC,rD,rE,rF,jO,xn,vy,tH,tI⟩
 refine oR Z (ZP (pv:=[(0,.slice cq aT.length cH),(1,.slice cr x51.length cI)]) (z:=B0) (cs:=[.slice cq aT.length cH,.slice cr x51.length cI]) Z (wAI jN (wAI jO wAY)) Zv wJs Z Z) (zS (cs:=B0) Z Z Z Z Z Zv Z vy ?_)
 intro y5 ou vz
 exact w8 _ _ ⟨mW,ou,dV,ey,cq,cH,dW,eA,cr,cI,rc,re,ri,rj,rfl,rk,rn,ro,rp,rq,rx,jN,ry,rA,rC,rD,rE,rF,jO,rfl,xn,(vz.pick [1,2,3,0,4,5] _ (by decide) rfl),tH,tI⟩
 refine ZC (s:=.fl 12 gBy) (M:=fun σ_ w_=>∃ (U_:PHeap) (cz:Nat) (dX:Option Addr) (eC:Nat) (cW:Option Addr) (du:Nat) (cX:Option Addr) (dv:Nat),σ_ 0=.pointer (some ⟨aj,0,none⟩)/\σ_ 1=jV p1/\σ_ 2=.bool p2/\σ_ 6=.pointer (some ⟨b4,0,none⟩)/\σ_ 9=.pointer (some ⟨cz,0,none⟩)/\σ_ 16=.slice dX ([1125899906842624].length) eC/\σ_ 17=.pointer (some ⟨aj,0,none⟩)/\σ_ 18=.pointer (some ⟨aj,0,none⟩)/\σ_ 19=.pointer (some ⟨aj,4,none⟩)/\σ_ 20=.map (some aa)/\σ_ 21=jV (↑(p0.number.length):Int)/\σ_ 22=.slice cW aT.length du/\σ_ 23=.slice cX ([-1].length) dv/\σ_ 24=.pointer (some ⟨aj,0,none⟩)/\σ_ 25=.pointer (some ⟨aj,0,none⟩)/\σ_ 26=.pointer (some ⟨aj,4,none⟩)/\σ_ 27=.map (some aa)/\PHeap.Le U U_/\SW w [B1,.obj aa (.map ae ah)] U U_ [.blk b4 133 B0,B1,.obj aa (.map ae ah),.blk cz 133 B0,.row cW du 3 1 (hH KL.encI aT),.row cX dv 3 1 (hH KL.encI [-1])] w_/\Sl U_ 1 dX eC [1125899906842624].length (hH KL.encI [1125899906842624])) ?_ fun w9=>?_
 rintro Bo iv ⟨xJ,cz,dX,eC,cW,du,cX,dv,rG,rH,rI,rJ,rK,rL,rM,rN,rO,rP,rQ,rS,jP,rT,rV,rW,jQ,xo,lX,tJ⟩
 refine oL Z (lX.lenM (j:=2) (mk:=wBf) (mv:=wBo) Z Z jQ (wCO ZR) cR) ?_
 have q:=lX.freezeR (k:=5) (n:=[-1].length) rfl (wAJ (f:=KL.encI) (sz:=1) (fun _=>rfl) [-1]) (by decide)
 obtain ⟨gR,mG,mh,vA⟩:=q
 let B5:Res:=.row cW du 3 1 (hH KL.encI aT)
 have vB:SW w [B1,.obj aa (.map ae ah)] U gR [.blk b4 133 B0,B1,.obj aa (.map ae ah),.blk cz 133 B0,B5] iv:=vA
 refine zI 0 Z Z Z Z (zJ Z Z yo (zC jP (zC Z zP)) Z) vB (fun hs=>wAg [-1] cX dv (↑(p0.number.length):Int) iv gR hs mh eL) (.inr Z) ?_
 rintro gS xF AW od gf vC ⟨gq,iT,rfl,rfl⟩
 have vD:SW w [B1,.obj aa (.map ae ah)] U gS [.row gq iT 3 1 (hH KL.encI x51),.blk b4 133 B0,B1,.obj aa (.map ae ah),.blk cz 133 B0,B5] od:=vC
 have tK:=tJ.le mG
 have tL:=tK.le gf
 have tM:=mh.le gf
 exact ms _ _ ⟨gS,cz,dX,eC,cW,du,cX,dv,gq,iT,rG,rH,rI,rJ,rK,rL,rM,rN,rO,rP,rQ,rS,jP,rT,rV,rW,jQ,rfl,rfl,((xo.trans mG).trans gf),(vD.pick [1,2,3,4,5,0] _ (by decide) rfl),tL,tM⟩
 refine ZC (s:=.fl 12 gCg) (M:=fun σ_ w_=>∃ (U_:PHeap) (dp:Nat) (dY:Option Addr) (eD:Nat) (cY:Option Addr) (dw:Nat),σ_ 0=.pointer (some ⟨aj,0,none⟩)/\σ_ 1=jV p1/\σ_ 2=.bool p2/\σ_ 6=.pointer (some ⟨b4,0,none⟩)/\σ_ 9=.pointer (some ⟨dp,0,none⟩)/\σ_ 16=.slice dY ([1125899906842624].length) eD/\σ_ 17=.pointer (some ⟨aj,0,none⟩)/\σ_ 18=.pointer (some ⟨aj,0,none⟩)/\σ_ 19=.pointer (some ⟨aj,4,none⟩)/\σ_ 20=.map (some aa)/\σ_ 21=jV (↑(p0.number.length):Int)/\σ_ 22=.slice cY aT.length dw/\σ_ 24=.pointer (some ⟨aj,0,none⟩)/\σ_ 25=.pointer (some ⟨aj,0,none⟩)/\σ_ 26=.pointer (some ⟨aj,4,none⟩)/\σ_ 27=.map (some aa)/\PHeap.Le U U_/\SW w [B1,.obj aa (.map ae ah)] U U_ [.blk b4 133 B0,B1,.obj aa (.map ae ah),.blk dp 133 B0,.row cY dw 3 1 (hH KL.encI aT)] w_/\Sl U_ 1 dY eD [1125899906842624].length (hH KL.encI [1125899906842624])) ?_ fun xa=>?_
 rintro Bp y7 ⟨gT,dp,dY,eD,cY,dw,rX,rY,rZ,r0,r6,r7,r8,r9,sb,sc,sd,se,sf,sg,sh,jR,xp,lY,tO⟩
 refine oL Z (lY.lenM (j:=2) (mk:=wBf) (mv:=wBo) Z Z jR (wCO ZR) cR) (Zg (pv:=[(0,jV (-1))]) (zs:=[jV 0]) (cs:=[jV (-1)]) Z Z Z Z Z (wAI Z wAY) zB zD Zj Z Z Z Z Z lY ?_)
 intro oe iH vE
 have vG:SW w [B1,.obj aa (.map ae ah)] U gT [.row (some ⟨iH,0,none⟩) 1 3 1 (hH KL.encI [-1]),.blk b4 133 B0,B1,.obj aa (.map ae ah),.blk dp 133 B0,.row cY dw 3 1 (hH KL.encI aT)] oe:=vE
 exact eO _ _ ⟨gT,dp,dY,eD,cY,dw,(some ⟨iH,0,none⟩),1,rX,rY,rZ,r0,r6,r7,r8,r9,sb,sc,sd,se,rfl,sf,sg,sh,jR,rfl,xp,(vG.pick [1,2,3,4,5,0] _ (by decide) rfl),tO⟩
 refine ZC (s:=gCk) (M:=fun σ_ w_=>∃ (U_:PHeap) (cA:Nat) (cZ:Option Addr) (dx:Nat) (da:Option Addr) (dy:Nat),σ_ 0=.pointer (some ⟨aj,0,none⟩)/\σ_ 1=jV p1/\σ_ 2=.bool p2/\σ_ 6=.pointer (some ⟨b4,0,none⟩)/\σ_ 9=.pointer (some ⟨cA,0,none⟩)/\σ_ 16=.slice cZ ([1125899906842624].length) dx/\σ_ 17=.pointer (some ⟨aj,0,none⟩)/\σ_ 18=.pointer (some ⟨aj,0,none⟩)/\σ_ 19=.pointer (some ⟨aj,4,none⟩)/\σ_ 20=.map (some aa)/\σ_ 21=jV (↑(p0.number.length):Int)/\σ_ 23=.slice da ([-1].length) dy/\σ_ 24=.pointer (some ⟨aj,0,none⟩)/\σ_ 25=.pointer (some ⟨aj,0,none⟩)/\σ_ 26=.pointer (some ⟨aj,4,none⟩)/\σ_ 27=.map (some aa)/\PHeap.Le U U_/\SW w [B1,.obj aa (.map ae ah)] U U_ [.blk b4 133 B0,B1,.obj aa (.map ae ah),.blk cA 133 B0,.row cZ dx 3 1 (hH KL.encI [1125899906842624]),.row da dy 3 1 (hH KL.encI [-1])] w_) ?_ fun fV=>?_
 rintro Bq iw ⟨xK,cA,cZ,dx,da,dy,sj,sk,sm,sn,sq,jS,ss,su,sv,sw,jU,sA,sB,sC,sD,sE,xq,vH⟩
 have q:=vH.freezeR (k:=4) (n:=[1125899906842624].length) rfl (wAJ (f:=KL.encI) (sz:=1) (fun _=>rfl) [1125899906842624]) (by decide)
 obtain ⟨gU,xr,mi,vJ⟩:=q
 let B6:Res:=.row da dy 3 1 (hH KL.encI [-1])
 have vK:SW w [B1,.obj aa (.map ae ah)] U gU [.blk b4 133 B0,B1,.obj aa (.map ae ah),.blk cA 133 B0,B6] iw:=vJ
 refine zI 0 Z Z Z Z (zJ Z Z yo (zC jS (zC jU zP)) Z) vK (fun hs=>wAg [1125899906842624] cZ dx (↑(p0.number.length):Int) iw gU hs mi eK) (.inr Z) ?_
 rintro gW xG AX og mH vL ⟨gt,iU,rfl,rfl⟩
 have vM:SW w [B1,.obj aa (.map ae ah)] U gW [.row gt iU 3 1 (hH KL.encI aT),.blk b4 133 B0,B1,.obj aa (.map ae ah),.blk cA 133 B0,B6] og:=vL
 have tP:=mi.le mH
 exact w9 _ _ ⟨gW,cA,cZ,dx,gt,iU,da,dy,sj,sk,sm,sn,sq,jS,ss,su,sv,sw,jU,rfl,sA,sB,sC,sD,sE,((xq.trans xr).trans mH),(vM.pick [1,2,3,4,0,5] _ (by decide) rfl),tP⟩
 refine ZC (s:=.fl 12 gCj) (M:=fun σ_ w_=>∃ (U_:PHeap) (db:Option Addr) (dz:Nat) (ct:Option Addr) (cJ:Nat) (cu:Option Addr) (cK:Nat),σ_ 0=.pointer (some ⟨aj,0,none⟩)/\σ_ 1=jV p1/\σ_ 2=.bool p2/\σ_ 6=.pointer (some ⟨b4,0,none⟩)/\σ_ 16=.slice db ([1125899906842624].length) dz/\σ_ 17=.pointer (some ⟨aj,0,none⟩)/\σ_ 18=.pointer (some ⟨aj,0,none⟩)/\σ_ 19=.pointer (some ⟨aj,4,none⟩)/\σ_ 20=.map (some aa)/\σ_ 21=jV (↑(p0.number.length):Int)/\σ_ 22=.slice ct aT.length cJ/\σ_ 23=.slice cu ([-1].length) cK/\σ_ 24=.pointer (some ⟨aj,0,none⟩)/\σ_ 25=.pointer (some ⟨aj,0,none⟩)/\σ_ 26=.pointer (some ⟨aj,4,none⟩)/\σ_ 27=.map (some aa)/\PHeap.Le U U_/\SW w [B1,.obj aa (.map ae ah)] U U_ [.blk b4 133 B0,B1,.obj aa (.map ae ah),.row ct cJ 3 1 (hH KL.encI aT),.row cu cK 3 1 (hH KL.encI [-1])] w_/\Sl U_ 1 db dz [1125899906842624].length (hH KL.encI [1125899906842624])) ?_ fun xb=>?_
 rintro Br iy ⟨mX,db,dz,ct,cJ,cu,cK,jW,jX,jY,jZ,j0,j5,j6,j7,j8,j9,k9,fy,lf,lg,lh,fz,mI,fL,lE⟩
 refine oL Z (fL.lenM (j:=2) (mk:=wBf) (mv:=wBo) Z Z fz (wCO ZR) cR) (zl ?_ ?_)
 have q:=fL.freezeR (k:=4) (n:=[-1].length) rfl (wAJ (f:=KL.encI) (sz:=1) (fun _=>rfl) [-1]) (by decide)
 obtain ⟨gX,mJ,mj,vN⟩:=q
 let B7:Res:=.row ct cJ 3 1 (hH KL.encI aT)
 have vO:SW w [B1,.obj aa (.map ae ah)] U gX [.blk b4 133 B0,B1,.obj aa (.map ae ah),B7] iy:=vN
 refine zI 0 Z Z Z Z (zJ Z Z yo (zC fy (zC Z zP)) Z) vO (fun hs=>wAg [-1] cu cK (↑(p0.number.length):Int) iy gX hs mj eL) (.inr Z) ?_
 rintro gZ xH AY oh gg vP ⟨gu,iV,rfl,rfl⟩
 have vQ:SW w [B1,.obj aa (.map ae ah)] U gZ [.row gu iV 3 1 (hH KL.encI x51),.blk b4 133 B0,B1,.obj aa (.map ae ah),B7] oh:=vP
 have tQ:=lE.le mJ
 have tR:=tQ.le gg
 have tS:=mj.le gg
 exact mu _ _ ⟨gZ,db,dz,ct,cJ,cu,cK,gu,iV,jW,jX,jY,jZ,j0,j5,j6,j7,j8,j9,k9,fy,lf,lg,lh,fz,rfl,rfl,((mI.trans mJ).trans gg),(vQ.pick [1,2,3,4,0] _ (by decide) rfl),tR,tS⟩
 refine zS (cs:=B0) Z Z Z Z Z Zv Z fL ?_
 intro y8 ow vR
 exact eO _ _ ⟨mX,ow,db,dz,ct,cJ,cu,cK,jW,jX,jY,jZ,rfl,j0,j5,j6,j7,j8,j9,k9,fy,lf,lg,lh,fz,rfl,mI,(vR.pick [1,2,3,0,4,5] _ (by decide) rfl),lE⟩
 refine ZC (s:=gCo) (M:=fun σ_ w_=>∃ (U_:PHeap) (dq:Nat) (de:Option Addr) (dA:Nat),σ_ 0=.pointer (some ⟨aj,0,none⟩)/\σ_ 1=jV p1/\σ_ 2=.bool p2/\σ_ 6=.pointer (some ⟨b4,0,none⟩)/\σ_ 9=.pointer (some ⟨dq,0,none⟩)/\σ_ 17=.pointer (some ⟨aj,0,none⟩)/\σ_ 18=.pointer (some ⟨aj,0,none⟩)/\σ_ 19=.pointer (some ⟨aj,4,none⟩)/\σ_ 20=.map (some aa)/\σ_ 21=jV (↑(p0.number.length):Int)/\σ_ 23=.slice de ([-1].length) dA/\σ_ 24=.pointer (some ⟨aj,0,none⟩)/\σ_ 25=.pointer (some ⟨aj,0,none⟩)/\σ_ 26=.pointer (some ⟨aj,4,none⟩)/\σ_ 27=.map (some aa)/\PHeap.Le U U_/\SW w [B1,.obj aa (.map ae ah)] U U_ [.blk b4 133 B0,B1,.obj aa (.map ae ah),.blk dq 133 B0,.row de dA 3 1 (hH KL.encI [-1])] w_) ?_ fun mw=>?_
 rintro Bs y9 ⟨g7,dq,de,dA,sF,sG,sH,sI,sJ,sK,sL,sM,sN,sP,sQ,sS,sU,sV,sX,xt,vS⟩
 refine Zg (pv:=[(0,jV 1125899906842624)]) (zs:=[jV 0]) (cs:=[jV 1125899906842624]) Z Z Z Z Z (wAI Z wAY) zB zD Zj Z Z Z Z Z vS ?_
 intro oi iI vU
 have vV:SW w [B1,.obj aa (.map ae ah)] U g7 [.row (some ⟨iI,0,none⟩) 1 3 1 (hH KL.encI [1125899906842624]),.blk b4 133 B0,B1,.obj aa (.map ae ah),.blk dq 133 B0,.row de dA 3 1 (hH KL.encI [-1])] oi:=vU
 exact fV _ _ ⟨g7,dq,(some ⟨iI,0,none⟩),1,de,dA,sF,sG,sH,sI,sJ,rfl,sK,sL,sM,sN,sP,sQ,sS,sU,sV,sX,xt,(vV.pick [1,2,3,4,0,5] _ (by decide) rfl)⟩
 refine ZC (s:=gCt) (M:=fun σ_ w_=>∃ (U_:PHeap) (bJ:Nat) (bQ:Option Addr) (b5:Nat),σ_ 0=.pointer (some ⟨aj,0,none⟩)/\σ_ 1=jV p1/\σ_ 2=.bool p2/\σ_ 6=.pointer (some ⟨b4,0,none⟩)/\σ_ 9=.pointer (some ⟨bJ,0,none⟩)/\σ_ 16=.slice bQ ([1125899906842624].length) b5/\σ_ 17=.pointer (some ⟨aj,0,none⟩)/\σ_ 18=.pointer (some ⟨aj,0,none⟩)/\σ_ 19=.pointer (some ⟨aj,4,none⟩)/\σ_ 20=.map (some aa)/\σ_ 21=jV (↑(p0.number.length):Int)/\σ_ 24=.pointer (some ⟨aj,0,none⟩)/\σ_ 25=.pointer (some ⟨aj,0,none⟩)/\σ_ 26=.pointer (some ⟨aj,4,none⟩)/\σ_ 27=.map (some aa)/\PHeap.Le U U_/\SW w [B1,.obj aa (.map ae ah)] U U_ [.blk b4 133 B0,B1,.obj aa (.map ae ah),.blk bJ 133 B0,.row bQ b5 3 1 (hH KL.encI [1125899906842624])] w_) ?_ fun my=>?_
 rintro Bt iz ⟨g8,bJ,bQ,b5,li,lj,lm,ln,lp,fA,ls,lu,lv,lw,fB,lx,ly,lz,lA,mK,lZ⟩
 refine zl ?_ ?_
 have q:=lZ.freezeR (k:=4) (n:=[1125899906842624].length) rfl (wAJ (f:=KL.encI) (sz:=1) (fun _=>rfl) [1125899906842624]) (by decide)
 obtain ⟨g9,xu,ml,vW⟩:=q
 have vX:SW w [B1,.obj aa (.map ae ah)] U g9 [.blk b4 133 B0,B1,.obj aa (.map ae ah),.blk bJ 133 B0] iz:=vW
 refine zI 0 Z Z Z Z (zJ Z Z yo (zC fA (zC fB zP)) Z) vX (fun hs=>wAg [1125899906842624] bQ b5 (↑(p0.number.length):Int) iz g9 hs ml eK) (.inr Z) ?_
 rintro gD xA AP mY mz tV ⟨gj,iL,rfl,rfl⟩
 have tW:SW w [B1,.obj aa (.map ae ah)] U gD [.row gj iL 3 1 (hH KL.encI aT),.blk b4 133 B0,B1,.obj aa (.map ae ah),.blk bJ 133 B0] mY:=tV
 have s6:=ml.le mz
 exact xa _ _ ⟨gD,bJ,bQ,b5,gj,iL,li,lj,lm,ln,lp,fA,ls,lu,lv,lw,fB,rfl,lx,ly,lz,lA,((mK.trans xu).trans mz),(tW.pick [1,2,3,4,0] _ (by decide) rfl),s6⟩
 refine Zg (pv:=[(0,jV (-1))]) (zs:=[jV 0]) (cs:=[jV (-1)]) Z Z Z Z Z (wAI Z wAY) zB zD Zj Z Z Z Z Z lZ ?_
 intro mZ iA tX
 have tY:SW w [B1,.obj aa (.map ae ah)] U g8 [.row (some ⟨iA,0,none⟩) 1 3 1 (hH KL.encI [-1]),.blk b4 133 B0,B1,.obj aa (.map ae ah),.blk bJ 133 B0,.row bQ b5 3 1 (hH KL.encI [1125899906842624])] mZ:=tX
 exact fV _ _ ⟨g8,bJ,bQ,b5,(some ⟨iA,0,none⟩),1,li,lj,lm,ln,lp,fA,ls,lu,lv,lw,fB,rfl,lx,ly,lz,lA,mK,(tY.pick [1,2,3,4,5,0] _ (by decide) rfl)⟩
 refine ZC (s:=gCs) (M:=fun σ_ w_=>∃ (U_:PHeap) (cj:Option Addr) (cC:Nat) (cm:Option Addr) (cD:Nat),σ_ 0=.pointer (some ⟨aj,0,none⟩)/\σ_ 1=jV p1/\σ_ 2=.bool p2/\σ_ 6=.pointer (some ⟨b4,0,none⟩)/\σ_ 16=.slice cj ([1125899906842624].length) cC/\σ_ 17=.pointer (some ⟨aj,0,none⟩)/\σ_ 18=.pointer (some ⟨aj,0,none⟩)/\σ_ 19=.pointer (some ⟨aj,4,none⟩)/\σ_ 20=.map (some aa)/\σ_ 21=jV (↑(p0.number.length):Int)/\σ_ 23=.slice cm ([-1].length) cD/\σ_ 24=.pointer (some ⟨aj,0,none⟩)/\σ_ 25=.pointer (some ⟨aj,0,none⟩)/\σ_ 26=.pointer (some ⟨aj,4,none⟩)/\σ_ 27=.map (some aa)/\PHeap.Le U U_/\SW w [B1,.obj aa (.map ae ah)] U U_ [.blk b4 133 B0,B1,.obj aa (.map ae ah),.row cj cC 3 1 (hH KL.encI [1125899906842624]),.row cm cD 3 1 (hH KL.encI [-1])] w_) ?_ fun mq=>?_
 rintro A8 ib ⟨mR,cj,cC,cm,cD,iW,iX,iY,iZ,fj,i4,i6,i8,i9,fm,ja,jb,jc,jd,je,mA,lL⟩
 refine zl ?_ ?_
 have q:=lL.freezeR (k:=3) (n:=[1125899906842624].length) rfl (wAJ (f:=KL.encI) (sz:=1) (fun _=>rfl) [1125899906842624]) (by decide)
 obtain ⟨gE,xc,me,tZ⟩:=q
 let B8:Res:=.row cm cD 3 1 (hH KL.encI [-1])
 have t7:SW w [B1,.obj aa (.map ae ah)] U gE [.blk b4 133 B0,B1,.obj aa (.map ae ah),B8] ib:=tZ
 refine zI 0 Z Z Z Z (zJ Z Z yo (zC fj (zC fm zP)) Z) t7 (fun hs=>wAg [1125899906842624] cj cC (↑(p0.number.length):Int) ib gE hs me eK) (.inr Z) ?_
 rintro gF xB AQ m0 mB t8 ⟨gk,iM,rfl,rfl⟩
 have t9:SW w [B1,.obj aa (.map ae ah)] U gF [.row gk iM 3 1 (hH KL.encI aT),.blk b4 133 B0,B1,.obj aa (.map ae ah),B8] m0:=t8
 have s7:=me.le mB
 exact xb _ _ ⟨gF,cj,cC,gk,iM,cm,cD,iW,iX,iY,iZ,fj,i4,i6,i8,i9,fm,rfl,ja,jb,jc,jd,je,((mA.trans xc).trans mB),(t9.pick [1,2,3,0,4] _ (by decide) rfl),s7⟩
 refine zS (cs:=B0) Z Z Z Z Z Zv Z lL ?_
 intro xL oj ua
 exact fV _ _ ⟨mR,oj,cj,cC,cm,cD,iW,iX,iY,iZ,rfl,fj,i4,i6,i8,i9,fm,ja,jb,jc,jd,je,mA,(ua.pick [1,2,3,0,4,5] _ (by decide) rfl)⟩
 refine oM Z Z (oR Z (yE Z Z) (oR Z (zF Z Z ZK Z yP) (oL Z (cg.ldB (j:=1) Z Z Z yX (v:=.map (some aa)) Z) (oL Z (cg.lenM (j:=2) (mk:=wBf) (mv:=wBo) Z Z Z (wCO ZR) cR) (oM Z Z (oR Z (yE Z Z) (oR Z (zF Z Z ZK Z yP) (oL Z (cg.ldB (j:=1) Z Z Z yX (v:=.map (some aa)) Z) (zl ?_ ?_)))))))))
 refine Zg (pv:=[(0,jV 1125899906842624)]) (zs:=[jV 0]) (cs:=[jV 1125899906842624]) Z Z Z Z Z (wAI Z wAY) zB zD Zj Z Z Z Z Z cg ?_
 intro eX bV ub
 let B9:Res:=.row (some ⟨bV,0,none⟩) 1 3 1 (hH KL.encI [1125899906842624])
 have fD:SW w [B1,.obj aa (.map ae ah)] U U [B9,.blk b4 133 B0,B1,.obj aa (.map ae ah)] eX:=ub
 refine zl ?_ ?_
 have q:=fD.freezeR (k:=0) (n:=[1125899906842624].length) rfl (wAJ (f:=KL.encI) (sz:=1) (fun _=>rfl) [1125899906842624]) (by decide)
 obtain ⟨gG,fZ,eM,ud⟩:=q
 have ue:SW w [B1,.obj aa (.map ae ah)] U gG [.blk b4 133 B0,B1,.obj aa (.map ae ah)] eX:=ud
 refine zI 0 Z Z Z Z (zJ Z Z yo (zC Z (zC Z zP)) Z) ue (fun hs=>wAg [1125899906842624] (some ⟨bV,0,none⟩) 1 (↑(p0.number.length):Int) eX gG hs eM eK) (.inr Z) ?_
 rintro dk xC AS m4 cS uf ⟨dP,ef,rfl,rfl⟩
 let df:Res:=.row dP ef 3 1 (hH KL.encI aT)
 have fE:SW w [B1,.obj aa (.map ae ah)] U dk [df,.blk b4 133 B0,B1,.obj aa (.map ae ah)] m4:=uf
 refine oL Z (fE.lenM (j:=3) (mk:=wBf) (mv:=wBo) Z Z Z (wCO ZR) cR) (zl ?_ ?_)
 refine Zg (pv:=[(0,jV (-1))]) (zs:=[jV 0]) (cs:=[jV (-1)]) Z Z Z Z Z (wAI Z wAY) zB zD Zj Z Z Z Z Z fE ?_
 intro eY d8 ug
 have lM:SW w [B1,.obj aa (.map ae ah)] U dk [.row (some ⟨d8,0,none⟩) 1 3 1 (hH KL.encI [-1]),df,.blk b4 133 B0,B1,.obj aa (.map ae ah)] eY:=ug
 refine zl ?_ ?_
 have q:=lM.freezeR (k:=0) (n:=[-1].length) rfl (wAJ (f:=KL.encI) (sz:=1) (fun _=>rfl) [-1]) (by decide)
 obtain ⟨gH,mC,mf,uh⟩:=q
 have ui:SW w [B1,.obj aa (.map ae ah)] U gH [df,.blk b4 133 B0,B1,.obj aa (.map ae ah)] eY:=uh
 refine zI 0 Z Z Z Z (zJ Z Z yo (zC Z (zC Z zP)) Z) ui (fun hs=>wAg [-1] (some ⟨d8,0,none⟩) 1 (↑(p0.number.length):Int) eY gH hs mf eL) (.inr Z) ?_
 rintro gI xD AT m5 ga uj ⟨gm,iN,rfl,rfl⟩
 have uk:SW w [B1,.obj aa (.map ae ah)] U gI [.row gm iN 3 1 (hH KL.encI x51),df,.blk b4 133 B0,B1,.obj aa (.map ae ah)] m5:=uj
 have s8:=eM.le cS
 have s9:=s8.le mC
 have tc:=s9.le ga
 have td:=mf.le ga
 exact mu _ _ ⟨gI,(some ⟨bV,0,none⟩),1,dP,ef,(some ⟨d8,0,none⟩),1,gm,iN,rfl,rfl,rfl,rfl,rfl,rfl,rfl,rfl,rfl,rfl,rfl,rfl,rfl,rfl,rfl,rfl,rfl,rfl,(((fZ.trans cS).trans mC).trans ga),(uk.pick [2,3,4,1,0] _ (by decide) rfl),tc,td⟩
 refine zS (cs:=B0) Z Z Z Z Z Zv Z lM ?_
 intro xM om ul
 have te:=eM.le cS
 exact eO _ _ ⟨dk,om,(some ⟨bV,0,none⟩),1,dP,ef,(some ⟨d8,0,none⟩),1,rfl,rfl,rfl,rfl,rfl,rfl,rfl,rfl,rfl,rfl,rfl,rfl,rfl,rfl,rfl,rfl,rfl,rfl,(fZ.trans cS),(ul.pick [3,4,5,0,2,1] _ (by decide) rfl),te⟩
 refine zS (cs:=B0) Z Z Z Z Z Zv Z fE ?_
 intro xN iB um
 refine Zg (pv:=[(0,jV (-1))]) (zs:=[jV 0]) (cs:=[jV (-1)]) Z Z Z Z Z (wAI Z wAY) zB zD Zj Z Z Z Z Z um ?_
 intro m6 iC uo
 have uq:SW w [B1,.obj aa (.map ae ah)] U dk [.row (some ⟨iC,0,none⟩) 1 3 1 (hH KL.encI [-1]),.blk iB 133 B0,df,.blk b4 133 B0,B1,.obj aa (.map ae ah)] m6:=uo
 have tf:=eM.le cS
 exact eO _ _ ⟨dk,iB,(some ⟨bV,0,none⟩),1,dP,ef,(some ⟨iC,0,none⟩),1,rfl,rfl,rfl,rfl,rfl,rfl,rfl,rfl,rfl,rfl,rfl,rfl,rfl,rfl,rfl,rfl,rfl,rfl,(fZ.trans cS),(uq.pick [3,4,5,1,2,0] _ (by decide) rfl),tf⟩
 refine zl ?_ ?_
 refine Zg (pv:=[(0,jV (-1))]) (zs:=[jV 0]) (cs:=[jV (-1)]) Z Z Z Z Z (wAI Z wAY) zB zD Zj Z Z Z Z Z fD ?_
 intro m7 iD ur
 have uu:SW w [B1,.obj aa (.map ae ah)] U U [.row (some ⟨iD,0,none⟩) 1 3 1 (hH KL.encI [-1]),B9,.blk b4 133 B0,B1,.obj aa (.map ae ah)] m7:=ur
 exact mq _ _ ⟨U,(some ⟨bV,0,none⟩),1,(some ⟨iD,0,none⟩),1,rfl,rfl,rfl,rfl,rfl,rfl,rfl,rfl,rfl,rfl,rfl,rfl,rfl,rfl,rfl,(zM _),(uu.pick [2,3,4,1,0] _ (by decide) rfl)⟩
 refine zS (cs:=B0) Z Z Z Z Z Zv Z fD ?_
 intro xO oq uv
 exact my _ _ ⟨U,oq,(some ⟨bV,0,none⟩),1,rfl,rfl,rfl,rfl,rfl,rfl,rfl,rfl,rfl,rfl,rfl,rfl,rfl,rfl,rfl,(zM _),(uv.pick [2,3,4,0,1] _ (by decide) rfl)⟩
 refine zl ?_ ?_
 refine Zg (pv:=[(0,jV (-1))]) (zs:=[jV 0]) (cs:=[jV (-1)]) Z Z Z Z Z (wAI Z wAY) zB zD Zj Z Z Z Z Z cg ?_
 intro m8 e8 uw
 let gv:Res:=.row (some ⟨e8,0,none⟩) 1 3 1 (hH KL.encI [-1])
 have lN:SW w [B1,.obj aa (.map ae ah)] U U [gv,.blk b4 133 B0,B1,.obj aa (.map ae ah)] m8:=uw
 refine zl ?_ ?_
 refine Zg (pv:=[(0,jV 1125899906842624)]) (zs:=[jV 0]) (cs:=[jV 1125899906842624]) Z Z Z Z Z (wAI Z wAY) zB zD Zj Z Z Z Z Z lN ?_
 intro m9 iE ux
 have uy:SW w [B1,.obj aa (.map ae ah)] U U [.row (some ⟨iE,0,none⟩) 1 3 1 (hH KL.encI [1125899906842624]),gv,.blk b4 133 B0,B1,.obj aa (.map ae ah)] m9:=ux
 exact mq _ _ ⟨U,(some ⟨iE,0,none⟩),1,(some ⟨e8,0,none⟩),1,rfl,rfl,rfl,rfl,rfl,rfl,rfl,rfl,rfl,rfl,rfl,rfl,rfl,rfl,rfl,(zM _),(uy.pick [2,3,4,0,1] _ (by decide) rfl)⟩
 refine zS (cs:=B0) Z Z Z Z Z Zv Z lN ?_
 intro xP ot uz
 exact mw _ _ ⟨U,ot,(some ⟨e8,0,none⟩),1,rfl,rfl,rfl,rfl,rfl,rfl,rfl,rfl,rfl,rfl,rfl,rfl,rfl,rfl,rfl,(zM _),(uz.pick [2,3,4,0,1] _ (by decide) rfl)⟩
 refine zS (cs:=B0) Z Z Z Z Z Zv Z cg ?_
 intro xR d9 lO
 refine zl ?_ ?_
 refine Zg (pv:=[(0,jV 1125899906842624)]) (zs:=[jV 0]) (cs:=[jV 1125899906842624]) Z Z Z Z Z (wAI Z wAY) zB zD Zj Z Z Z Z Z lO ?_
 intro n5 iF uA
 have uB:SW w [B1,.obj aa (.map ae ah)] U U [.row (some ⟨iF,0,none⟩) 1 3 1 (hH KL.encI [1125899906842624]),.blk d9 133 B0,.blk b4 133 B0,B1,.obj aa (.map ae ah)] n5:=uA
 exact my _ _ ⟨U,d9,(some ⟨iF,0,none⟩),1,rfl,rfl,rfl,rfl,rfl,rfl,rfl,rfl,rfl,rfl,rfl,rfl,rfl,rfl,rfl,(zM _),(uB.pick [2,3,4,1,0] _ (by decide) rfl)⟩
 refine Zg (pv:=[(0,jV (-1))]) (zs:=[jV 0]) (cs:=[jV (-1)]) Z Z Z Z Z (wAI Z wAY) zB zD Zj Z Z Z Z Z lO ?_
 intro n6 iG uC
 have uD:SW w [B1,.obj aa (.map ae ah)] U U [.row (some ⟨iG,0,none⟩) 1 3 1 (hH KL.encI [-1]),.blk d9 133 B0,.blk b4 133 B0,B1,.obj aa (.map ae ah)] n6:=uC
 exact mw _ _ ⟨U,d9,(some ⟨iG,0,none⟩),1,rfl,rfl,rfl,rfl,rfl,rfl,rfl,rfl,rfl,rfl,rfl,rfl,rfl,rfl,rfl,(zM _),(uD.pick [2,3,4,1,0] _ (by decide) rfl)⟩
 rintro A9 xS ⟨gJ,b8,au,av,az,aS,oG,oH,oI,oK,jf,xd,lP⟩
 refine zK (sR fL4 Z (oR Z (zF Z jf ZW Z zX) (oL Z (lP.ldB (j:=3) Z Z Z zY (v:=.slice au l9.length av) Z) (oR Z (zf Z Z zB) (oM Z Z (eN (zd (bnK mc fun A5 v5 fU=>?_))))))))
 have q:=wCl v5
 obtain ⟨fR,v7⟩:=q
 replace fR:=zL fR
 let bR:Res:=.row az aS 3 1 (hH KL.encI bz)
 refine CK.forN' (fun bv bd σ_ w_=>∃ (U_:PHeap),σ_ 34=jV (↑bv:Int)/\σ_ 0=.pointer (some ⟨aj,0,none⟩)/\σ_ 1=jV p1/\σ_ 2=.bool p2/\σ_ 6=.pointer (some ⟨b4,0,none⟩)/\σ_ 9=.pointer (some ⟨b8,0,none⟩)/\σ_ 33=jV (↑l9.length:Int)/\PHeap.Le gJ U_/\SW w [B1,.obj aa (.map ae ah)] U U_ [.blk b4 133 B0,B1,.obj aa (.map ae ah),.row au av 3 1 (hH KL.encI bd),bR,.blk b8 133 [.slice au bd.length av,.slice az bz.length aS]] w_/\bd.length=l9.length) v7 ?_ ?_ ?_
 exact ⟨gJ,rfl,oG,oH,oI,oK,jf,rfl,(zM _),(lP.pick [0,1,2,4,5,3] _ (by decide) rfl),rfl⟩
 rintro bv bd AZ Ba xT fO ⟨bU,dF,fq,dB,ft,fu,dC,eE,gb,cf,fC⟩ mn
 have iO:Hid ((↑bv:Int) < (↑l9.length:Int)):=zL (wBR fO)
 replace fO:=zL fO
 have fN:Hid (w64 ((↑bv:Int) + 1)=(↑(bv + 1):Int)):=zL (by have h1:=fR.out;have h2:=iO.out;rw [wAU] <;> omega)
 refine sR fL1 Z (oR Z (zg Z dF eE) (eN (zK (cT Z iO (kN (zK (zd (sR fL2 Z (oM Z dF (oA Z Z (eN (sR fL7 Z (oM Z dB (oR Z (zg Z Z Z) (oM Z Z ?_)))))))))))))))
 by_cases bf:p1 < 0
 have l3:=mn;rw [if_pos bf] at l3;replace bf:=zL bf
 refine oT Z bf (oT Z bf (oT Z bf (oR Z (zn Z (Zk bf.out) Z) (eN (ZE Z (rR (wEf (.fx 4 .nil .stop)) Z (oR Z (zF Z dC ZW Z zX) (oL Z (cf.ldB (j:=5) Z Z Z zY (v:=.slice au bd.length av) Z) (oM Z Z (bnK l3 fun _ eI wz=>?_))))))))))
 obtain ⟨z0,lF⟩:=cf.rowSome (j:=3) rfl (by rw [wAJ (f:=KL.encI) (sz:=1) (fun _=>rfl) bd];have hz:=wAQ eI;omega)
 refine oR Z (ZJ Z Z lF Z zB zD (wAQ eI)) ?_
 have wb:=wBJ (xs:=bd) (wAQ eI)
 refine yl (j:=3) (vs:=[jV 0]) (cs':=hH KL.encI (nI bd bv 0)) rfl rfl rfl rfl cf rfl lF rfl rfl rfl zD (by rw [wAJ (f:=KL.encI) (sz:=1) (fun _=>rfl)];have hz:=wAQ eI;show _ + 1 <= _;first | omega | (simp only [nG];omega) | (simp only [nD,nA,nB];omega)) rfl (wDM (sz:=1) (fo:=0) (fun _=>rfl) _ _ _ _ wb (by first | omega | (simp only [nG];omega) | (simp only [nD,nA,nB];omega)) (zA rfl) rfl) rfl ?_
 intro ic uE
 let eT:Res:=.row au av 3 1 (hH KL.encI (nI bd bv 0))
 have uF:SW w [B1,.obj aa (.map ae ah)] U bU [.blk b4 133 B0,B1,.obj aa (.map ae ah),eT,bR,.blk b8 133 [.slice au bd.length av,.slice az bz.length aS]] ic:=uE
 have uG:SW w [B1,.obj aa (.map ae ah)] U bU [.blk b4 133 B0,B1,.obj aa (.map ae ah),eT,bR,.blk b8 133 [.slice au ((nI bd bv 0).length) av,.slice az bz.length aS]] ic:=by simpa only [B0,B1,bR,eT,nH] using uF
 refine zo (zt (zH (rR fL2 Z (oR Z (ZT (zi Z dF Z) (congrArg (jV) fN.out)) (oM Z Z (zo ?_))))))
 cases wz
 exact zH ⟨Z,⟨bU,Z,fq,dB,ft,fu,dC,eE,gb,uG,(nH.trans fC)⟩⟩
 have l4:=mn;rw [if_neg bf] at l4;replace bf:=zL bf
 refine ZA Z Z Z (wF Z bf) Z Z (ZA Z Z Z (wF Z bf) Z dB (rU Z (wF Z bf) (Runs.eql Z Z Z) (oR Z (zq Z (Zh bf.out) Z) (eN (ifc l4 ?_ ?_)))))
 intro e9 wA
 refine cT Z e9 (rR (wEf (.fx 4 .nil .stop)) Z (oR Z (zF Z dC ZW Z zX) (oL Z (cf.ldB (j:=5) Z Z Z zY (v:=.slice au bd.length av) Z) (oM Z Z (bnK wA fun _ eJ wB=>?_)))))
 obtain ⟨z4,lG⟩:=cf.rowSome (j:=3) rfl (by rw [wAJ (f:=KL.encI) (sz:=1) (fun _=>rfl) bd];have hz:=wAQ eJ;omega)
 refine oR Z (ZJ Z Z lG Z zB zD (wAQ eJ)) ?_
 have wc:=wBJ (xs:=bd) (wAQ eJ)
 refine yl (j:=3) (vs:=[jV 0]) (cs':=hH KL.encI (nI bd bv 0)) rfl rfl rfl rfl cf rfl lG rfl rfl rfl zD (by rw [wAJ (f:=KL.encI) (sz:=1) (fun _=>rfl)];have hz:=wAQ eJ;show _ + 1 <= _;first | omega | (simp only [nG];omega) | (simp only [nD,nA,nB];omega)) rfl (wDM (sz:=1) (fo:=0) (fun _=>rfl) _ _ _ _ wc (by first | omega | (simp only [nG];omega) | (simp only [nD,nA,nB];omega)) (zA rfl) rfl) rfl ?_
 intro ie uH
 let eU:Res:=.row au av 3 1 (hH KL.encI (nI bd bv 0))
 have uI:SW w [B1,.obj aa (.map ae ah)] U bU [.blk b4 133 B0,B1,.obj aa (.map ae ah),eU,bR,.blk b8 133 [.slice au bd.length av,.slice az bz.length aS]] ie:=uH
 have uJ:SW w [B1,.obj aa (.map ae ah)] U bU [.blk b4 133 B0,B1,.obj aa (.map ae ah),eU,bR,.blk b8 133 [.slice au ((nI bd bv 0).length) av,.slice az bz.length aS]] ie:=by simpa only [B0,B1,bR,eU,nH] using uI
 refine zo (zt (zH (rR fL2 Z (oR Z (ZT (zi Z dF Z) (congrArg (jV) fN.out)) (oM Z Z (zo ?_))))))
 cases wB
 exact zH ⟨Z,⟨bU,Z,fq,dB,ft,fu,dC,eE,gb,uJ,(nH.trans fC)⟩⟩
 intro e9 wC
 refine cF Z e9 (Ze (zt (zH (rR fL2 Z (oR Z (ZT (zi Z dF Z) (congrArg (jV) fN.out)) (oM Z Z (zo ?_)))))))
 cases wC
 exact zH ⟨Z,⟨bU,Z,fq,dB,ft,fu,dC,eE,gb,cf,fC⟩⟩
 rintro Bb xU ⟨gK,sY,jg,Ac,oO,oP,oU,oW,xe,fG,tg⟩
 have ox:Hid (¬ ((↑(((↑l9.length:Int):Int) - 0).toNat:Int) < (↑l9.length:Int))):=zL (wAs)
 refine sR fL1 Z (oR Z (zg Z sY oW) (eN (zK (cF Z ox (ZU (zk (zk (ZM (zH (sR fL1 Z (oA Z Z (eN (zK (sR fL7 Z (oM Z jg (oR Z (yE Z Z) (oR Z (zF Z Z ZK Z yP) (oL Z (fG.ldB (j:=1) Z Z Z yX (v:=.map (some aa)) Z) (oL Z (fG.lenM (j:=2) (mk:=wBf) (mv:=wBo) Z Z Z (wCO ZR) cR) (oR Z (zi Z Z Z) (oM Z Z (eN (zd ?_)))))))))))))))))))))))
 have q:=wCD fU
 obtain ⟨AN,fM⟩:=q
 have q:=wCC fM
 obtain ⟨fS,v8⟩:=q
 replace fS:=zL fS
 refine yK (fun bw (eP,eQ,mL) σ_ w_=>∃ (U_:PHeap),σ_ 55=jV (↑bw:Int)/\σ_ 0=.pointer (some ⟨aj,0,none⟩)/\σ_ 2=.bool p2/\σ_ 6=.pointer (some ⟨b4,0,none⟩)/\σ_ 9=.pointer (some ⟨b8,0,none⟩)/\σ_ 11=jV mL/\σ_ 54=jV (w64 ((↑(p0.number.length):Int) + 1))/\PHeap.Le gK U_/\SW w [B1,.obj aa (.map ae ah)] U U_ [.blk b4 133 B0,B1,.obj aa (.map ae ah),.row au av 3 1 (hH KL.encI eP),.row az aS 3 1 (hH KL.encI eQ),.blk b8 133 [.slice au eP.length av,.slice az eQ.length aS]] w_/\eP.length=l9.length/\eQ.length=bz.length) v8 ?_ ?_ ?_
 exact ⟨gK,Z,jg,oO,oP,oU,Z,Z,(zM _),fG,tg,Z⟩
 rintro bw ⟨eP,eQ,mL⟩ A3 Bc xV fP ⟨gL,lB,jh,oX,oY,o0,Ad,ji,mD,lQ,th,tj⟩ mo vZ
 try dsimp only at mo
 have iP:Hid ((↑bw:Int) < (w64 ((↑(p0.number.length):Int) + 1))):=zL (wBR fP)
 replace fP:=zL fP
 have wx:Hid (w64 ((↑bw:Int) + 1)=(↑(bw + 1):Int)):=zL (by have h1:=fS.out;have h2:=iP.out;rw [wAU] <;> omega)
 refine sR fL1 Z (oR Z (zg Z lB ji) (eN (zK (cT Z iP (kN (zK (zd (sR fL1 Z (oA Z Z (eN (zK (sR fL6 Z (oM Z jh (oR Z (yE Z Z) (oR Z (zF Z Z ZK Z yf) (oL Z (lQ.ldB (j:=1) Z Z Z Tryz.isAgg137 (v:=.slice br p0.edges.length bs) Z) (oR Z (zf Z Z Tryz.runUnderlying137) (oM Z Z (eN (zd ?_))))))))))))))))))))
 have q:=bnd mo
 obtain ⟨⟨mN,mO,A6⟩,v9,l5⟩:=q
 try dsimp only at l5
 have q:=wCl v9
 obtain ⟨fT,wa⟩:=q
 replace fT:=zL fT
 refine CK.forN' (fun a0 (aq,aW,mM) σ_ w_=>∃ (U_:PHeap),σ_ 62=jV (↑a0:Int)/\σ_ 0=.pointer (some ⟨aj,0,none⟩)/\σ_ 2=.bool p2/\σ_ 6=.pointer (some ⟨b4,0,none⟩)/\σ_ 9=.pointer (some ⟨b8,0,none⟩)/\σ_ 11=jV mM/\σ_ 54=jV (w64 ((↑(p0.number.length):Int) + 1))/\σ_ 55=jV (↑bw:Int)/\σ_ 60=.slice br p0.edges.length bs/\σ_ 61=jV (↑p0.edges.length:Int)/\PHeap.Le gL U_/\SW w [B1,.obj aa (.map ae ah)] U U_ [.blk b4 133 B0,B1,.obj aa (.map ae ah),.row au av 3 1 (hH KL.encI aq),.row az aS 3 1 (hH KL.encI aW),.blk b8 133 [.slice au aq.length av,.slice az aW.length aS]] w_/\aq.length=l9.length/\aW.length=bz.length) wa ?_ ?_ ?_
 exact ⟨gL,Z,jh,oX,oY,o0,Z,ji,lB,Z,Z,(zM _),lQ,th,tj⟩
 rintro a0 ⟨aq,aW,mM⟩ A4 Bd xW fQ ⟨aY,bG,cL,b9,cM,bo,eF,cN,cO,cb,cd,mE,lR,cP,cQ⟩ mp
 try dsimp only at mp
 have iQ:Hid ((↑a0:Int) < (↑p0.edges.length:Int)):=zL (wBR fQ)
 replace fQ:=zL fQ
 have wy:Hid (w64 ((↑a0:Int) + 1)=(↑(a0 + 1):Int)):=zL (by have h1:=fT.out;have h2:=iQ.out;rw [wAU] <;> omega)
 refine sR fL1 Z (oR Z (zg Z bG cd) (eN (zK (cT Z iQ (kN ?_)))))
 have q:=bnd mp
 obtain ⟨⟨fW,fY,xx⟩,wZ,l6⟩:=q
 try dsimp only at l6
 refine yY (fun σ_ w_=>∃ (U_:PHeap),σ_ 0=.pointer (some ⟨aj,0,none⟩)/\σ_ 2=.bool p2/\σ_ 6=.pointer (some ⟨b4,0,none⟩)/\σ_ 9=.pointer (some ⟨b8,0,none⟩)/\σ_ 11=jV xx/\σ_ 54=jV (w64 ((↑(p0.number.length):Int) + 1))/\σ_ 55=jV (↑bw:Int)/\σ_ 60=.slice br p0.edges.length bs/\σ_ 61=jV (↑p0.edges.length:Int)/\σ_ 62=jV (↑a0:Int)/\PHeap.Le aY U_/\SW w [B1,.obj aa (.map ae ah)] U U_ [.blk b4 133 B0,B1,.obj aa (.map ae ah),.row au av 3 1 (hH KL.encI fW),.row az aS 3 1 (hH KL.encI fY),.blk b8 133 [.slice au fW.length av,.slice az fY.length aS]] w_/\fW.length=l9.length/\fY.length=bz.length) ?_ ?_
 refine zd (sR (wFK (.fx 3 (.fl 4 (.fx 5 .nil .stop)) .stop)) Z (oM Z bG (bnK wZ fun ap lD wD=>?_)))
 have tl:=vY.le xd
 have tm:=tl.le xe
 have tn:=tm.le mD
 have tp:=tn.le mE
 have q:=tp.el (fun _=>rfl) (wAP lD)
 obtain ⟨z5,AM,tT,tU⟩:=q
 refine oR Z (ZJ Z cb tT bG Tryz.runUnderlying137 Tryz.sizeOf184 (wBa lD)) (oL Z (lR.ldCA (f:=0) tU Z Z Tryz.isAgg184 Tryz.sizeOf184 (us:=[jV ap.step.Kind,jV ap.step.Skier,jV ap.step.Index,.bool ap.step.Up,jV ap.from_,jV ap.to_,jV ap.count]) Z Z) (zS (cs:=[jV 0,jV 0,jV 0,.bool false,jV 0,jV 0,jV 0]) Z Z Z Z Z Tryz.zeroValue184 Z lR ?_))
 intro xX bb uK
 refine oA Z Z ?_
 let aX:List Value:=[jV ap.step.Kind,jV ap.step.Skier,jV ap.step.Index,.bool ap.step.Up,jV ap.from_,jV ap.to_,jV ap.count]
 refine zW (j:=0) (vs:=aX) Z Z Z Z uK Z Z Z Z Tryz.sizeOf184 (zA Z) Z Z Z ?_
 intro eZ uL
 let bi:Res:=.row az aS 3 1 (hH KL.encI aW)
 let bF:Res:=.blk b8 133 [.slice au aq.length av,.slice az aW.length aS]
 have uM:SW w [B1,.obj aa (.map ae ah)] U aY [.blk bb 184 aX,.blk b4 133 B0,B1,.obj aa (.map ae ah),.row au av 3 1 (hH KL.encI aq),bi,bF] eZ:=uL
 refine eN (zK (zy zu [3,1,3,1,3,3] fL6 (by kernel_rfl) ?_))
 have dG:=uM.drew
 generalize hw_W1431:({ eZ with drawn:=eZ.drawn + 1 }:World)=d7 at dG ⊢
 refine oR Z (zF Z Z yc Z zD) (oL Z (dG.ldB (j:=0) Z Z Z zG (v:=jV ap.from_) Z) (oR Z (zF Z Z yc Z zD) (oL Z (dG.ldB (j:=0) Z Z Z zG (v:=jV ap.to_) Z) (oA Z Z (oA Z Z (eN (zK (sR fL1 Z (oM Z b9 (eN (ifc wD ?_ ?_)))))))))))
 intro fb wE
 refine ZE (congrArg nJ fb.out) (rR fL4 rfl (ZA rfl rfl rfl rfl rfl rfl (ZA rfl rfl rfl rfl rfl rfl (yk rfl rfl rfl rfl rfl rfl (yk rfl rfl rfl rfl rfl rfl (eN (zK (zy zu [3,1,3,3,1,3,3,3,1,3,3,1,3,1,3,3,1,3,3,1,3,3] fL22 (by kernel_rfl) ?_))))))))
 have bp:=dG.drew
 generalize hw_W1435:({ d7 with drawn:=d7.drawn + 1 }:World)=ig at bp ⊢
 refine oR Z (zF Z bo ZW Z zX) (oL Z (bp.ldB (j:=6) Z Z Z zY (v:=.slice au aq.length av) Z) (oM Z Z (bnK wE fun _ bB wG=>?_)))
 obtain ⟨z6,bt⟩:=bp.rowSome (j:=4) rfl (by rw [wAJ (f:=KL.encI) (sz:=1) (fun _=>rfl) aq];have hz:=wAQ bB;omega)
 refine oR Z (zz Z Z bt Z zB zD (wCn bB) (wCo bB)) ?_
 have wd:=wBJ (xs:=aq) (wAQ bB)
 refine ZI rfl rfl rfl rfl (bp.ldR (j:=4) rfl bt rfl rfl zG (wAV (sz:=1) (fun _=>rfl) _ _ 0 _ wd (by first | omega | rfl | simp) rfl)) rfl (zm rfl rfl rfl rfl (fun _=>zg rfl rfl rfl) (ZA rfl rfl rfl rfl rfl rfl (ifc wG ?_ ?_)))
 intro aU wH
 refine rU Z (wT Z aU) (zF Z bo ZW Z zX) (ZI Z Z Z (wT Z aU) (bp.ldB (j:=6) Z Z Z zY (v:=.slice au aq.length av) Z) Z (ZA Z Z Z (wT Z aU) Z Z (rU Z (wT Z aU) (zz Z Z bt Z zB zD (wCn bB) (wCo bB)) ?_)))
 have we:=wBJ (xs:=aq) (wAQ bB)
 refine ZI rfl rfl rfl (zO rfl rfl (Zk aU.out)) (bp.ldR (j:=4) rfl bt rfl rfl zG (wAV (sz:=1) (fun _=>rfl) _ _ 0 _ we (by first | omega | rfl | simp) rfl)) rfl (zm rfl rfl rfl (zO rfl rfl (Zk aU.out)) (fun _=>zF rfl rfl yc rfl zD) (ZI rfl rfl rfl (zO rfl rfl (Zk aU.out)) (bp.ldB (j:=0) rfl rfl rfl zG (v:=jV ap.count) rfl) rfl (zm rfl rfl rfl (zO rfl rfl (Zk aU.out)) (fun _=>zi rfl rfl rfl) (zm rfl rfl rfl (zO rfl rfl (Zk aU.out)) (fun _=>zF rfl bo ZW rfl zX) (ZI rfl rfl rfl (zO rfl rfl (Zk aU.out)) (bp.ldB (j:=6) rfl rfl rfl zY (v:=.slice au aq.length av) rfl) rfl (ZA rfl rfl rfl (zO rfl rfl (Zk aU.out)) rfl rfl (bnK wH fun _ bH wI=>zm rfl rfl rfl (zO rfl rfl (Zk aU.out)) (fun _=>zz rfl rfl bt rfl zB zD (wCn bH) (wCo bH)) ?_)))))))
 have wg:=wBJ (xs:=aq) (wAQ bH)
 refine ZI rfl rfl rfl (zO rfl rfl (Zk aU.out)) (bp.ldR (j:=4) rfl bt rfl rfl zG (wAV (sz:=1) (fun _=>rfl) _ _ 0 _ wg (by first | omega | rfl | simp) rfl)) rfl (zm rfl rfl rfl (zO rfl rfl (Zk aU.out)) (fun _=>zg rfl rfl rfl) (zm rfl rfl rfl rfl (fun _=>zn rfl (Zk aU.out) rfl) (eN (ifc wI ?_ ?_))))
 intro fc wJ
 refine cT Z fc ?_
 have q:=bnd wJ
 obtain ⟨⟨⟩,w5,l7⟩:=q
 try dsimp only at l7
 let bj:Res:=.row au av 3 1 (hH KL.encI (nI aq ap.from_.toNat (w64 ((gd aq ap.to_.toNat) + ap.count))))
 let dg:Res:=.blk b8 133 [.slice au ((nI aq ap.from_.toNat (w64 ((gd aq ap.to_.toNat) + ap.count))).length) av,.slice az ((nI aW ap.from_.toNat (↑a0:Int)).length) aS]
 let bS:Res:=.row az aS 3 1 (hH KL.encI (nI aW ap.from_.toNat (↑a0:Int)))
 refine yY (fun σ_ w_=>∃ (U_:PHeap),σ_ 0=.pointer (some ⟨aj,0,none⟩)/\σ_ 2=.bool p2/\σ_ 6=.pointer (some ⟨b4,0,none⟩)/\σ_ 9=.pointer (some ⟨b8,0,none⟩)/\σ_ 15=jV ap.from_/\σ_ 54=jV (w64 ((↑(p0.number.length):Int) + 1))/\σ_ 55=jV (↑bw:Int)/\σ_ 60=.slice br p0.edges.length bs/\σ_ 61=jV (↑p0.edges.length:Int)/\σ_ 62=jV (↑a0:Int)/\PHeap.Le aY U_/\SW w [B1,.obj aa (.map ae ah)] U U_ [.blk bb 184 aX,.blk b4 133 B0,B1,.obj aa (.map ae ah),bj,bS,dg] w_) ?_ ?_
 refine yi fun bm bg=>?_
 have jj:bm 0=.pointer (some ⟨aj,0,none⟩):=(bg 0).trans cL
 have jk:bm 2=.bool p2:=(bg 2).trans b9
 have jl:bm 6=.pointer (some ⟨b4,0,none⟩):=(bg 6).trans cM
 have dD:bm 9=.pointer (some ⟨b8,0,none⟩):=(bg 9).trans bo
 have o3:bm 12=jV (↑a0:Int):=(bg 12).trans rfl
 have o5:bm 13=.pointer (some ⟨bb,0,none⟩):=(bg 13).trans rfl
 have o6:bm 14=jV ap.to_:=(bg 14).trans rfl
 have eG:bm 15=jV ap.from_:=(bg 15).trans rfl
 have jm:bm 54=jV (w64 ((↑(p0.number.length):Int) + 1)):=(bg 54).trans cN
 have jo:bm 55=jV (↑bw:Int):=(bg 55).trans cO
 have jp:bm 60=.slice br p0.edges.length bs:=(bg 60).trans cb
 have jq:bm 61=jV (↑p0.edges.length:Int):=(bg 61).trans cd
 have jr:bm 62=jV (↑a0:Int):=(bg 62).trans bG
 clear bg
 refine bnK w5 fun _ bC l8=>zy zu [3,1,3,3,2,3,3,1,3,3,1,3,1,3,3,3,0,3,0] (wEf (wQh gCl)) (by kernel_rfl) ?_
 have bK:=bp.drew
 generalize hw_W1484:({ ig with drawn:=ig.drawn + 1 }:World)=xY at bK ⊢
 refine oR Z (zF Z dD ZW Z zX) (oL Z (bK.ldB (j:=6) Z Z Z zY (v:=.slice au aq.length av) Z) (oM Z eG (oR Z (zF Z dD ZW Z zX) (oM Z eG (oR Z (zF Z dD ZW Z zX) (oL Z (bK.ldB (j:=6) Z Z Z zY (v:=.slice au aq.length av) Z) (oM Z o6 (oR Z (zz Z Z bt Z zB zD (wCn bB) (wCo bB)) ?_))))))))
 have wh:=wBJ (xs:=aq) (wAQ bB)
 refine ZI rfl rfl rfl rfl (bK.ldR (j:=4) rfl bt rfl rfl zG (wAV (sz:=1) (fun _=>rfl) _ _ 0 _ wh (by first | omega | rfl | simp) rfl)) rfl (zm rfl rfl rfl rfl (fun _=>zF rfl o5 yc rfl zD) (ZI rfl rfl rfl rfl (bK.ldB (j:=0) rfl rfl rfl zG (v:=jV ap.count) rfl) rfl (zm rfl rfl rfl rfl (fun _=>zi rfl rfl rfl) (ZA rfl rfl rfl rfl rfl o3 (zm rfl rfl rfl rfl (fun _=>zz rfl rfl bt rfl zB zD (wCn bH) (wCo bH)) (zl ?_ ?_))))))
 refine ZQ Z Z Z Z (bK.ldB (j:=6) Z Z Z zY (v:=.slice az aW.length aS) Z) ?_
 have wi:=wBJ (xs:=aq) (wAQ bH)
 refine yl (j:=4) (vs:=[jV (w64 ((gd aq ap.to_.toNat) + ap.count))]) (cs':=hH KL.encI (nI aq ap.from_.toNat (w64 ((gd aq ap.to_.toNat) + ap.count)))) rfl rfl rfl rfl bK rfl bt rfl rfl rfl zD (by rw [wAJ (f:=KL.encI) (sz:=1) (fun _=>rfl)];have hz:=wAQ bH;show _ + 1 <= _;first | omega | (simp only [nG];omega) | (simp only [nD,nA,nB];omega)) rfl (wDM (sz:=1) (fo:=0) (fun _=>rfl) _ _ _ _ wi (by first | omega | (simp only [nG];omega) | (simp only [nD,nA,nB];omega)) (zA rfl) rfl) rfl ?_
 intro ii uN
 have uO:SW w [B1,.obj aa (.map ae ah)] U aY [.blk bb 184 aX,.blk b4 133 B0,B1,.obj aa (.map ae ah),bj,bi,bF] ii:=uN
 let dZ:Res:=.blk b8 133 [.slice au ((nI aq ap.from_.toNat (w64 ((gd aq ap.to_.toNat) + ap.count))).length) av,.slice az aW.length aS]
 have lS:SW w [B1,.obj aa (.map ae ah)] U aY [.blk bb 184 aX,.blk b4 133 B0,B1,.obj aa (.map ae ah),bj,bi,dZ] ii:=by simpa only [B0,B1,aX,bi,bF,bj,dZ,nH] using uO
 obtain ⟨z7,lH⟩:=lS.rowSome (j:=5) rfl (by rw [wAJ (f:=KL.encI) (sz:=1) (fun _=>rfl) aW];have hz:=wAQ bC;omega)
 refine oR Z (zz Z Z lH Z zB zD (wCn bC) (wCo bC)) ?_
 have wj:=wBJ (xs:=aW) (wAQ bC)
 refine yl (j:=5) (vs:=[jV (↑a0:Int)]) (cs':=hH KL.encI (nI aW ap.from_.toNat (↑a0:Int))) rfl rfl rfl rfl lS rfl lH rfl rfl rfl zD (by rw [wAJ (f:=KL.encI) (sz:=1) (fun _=>rfl)];have hz:=wAQ bC;show _ + 1 <= _;first | omega | (simp only [nG];omega) | (simp only [nD,nA,nB];omega)) rfl (wDM (sz:=1) (fo:=0) (fun _=>rfl) _ _ _ _ wj (by first | omega | (simp only [nG];omega) | (simp only [nD,nA,nB];omega)) (zA rfl) rfl) rfl ?_
 intro ij uP
 have uQ:SW w [B1,.obj aa (.map ae ah)] U aY [.blk bb 184 aX,.blk b4 133 B0,B1,.obj aa (.map ae ah),bj,bS,dZ] ij:=uP
 have uR:SW w [B1,.obj aa (.map ae ah)] U aY [.blk bb 184 aX,.blk b4 133 B0,B1,.obj aa (.map ae ah),bj,bS,dg] ij:=by simpa only [B0,B1,aX,bj,dg,bS,dZ,nH] using uQ
 refine zo ?_
 cases l8
 exact zH ⟨Z,⟨aY,jj,jk,jl,dD,eG,jm,jo,jp,jq,jr,(zM _),uR⟩⟩
 have wk:=wBJ (xs:=aq) (wAQ bH)
 refine yl (j:=4) (vs:=[jV (w64 ((gd aq ap.to_.toNat) + ap.count))]) (cs':=hH KL.encI (nI aq ap.from_.toNat (w64 ((gd aq ap.to_.toNat) + ap.count)))) rfl rfl rfl rfl bK rfl bt rfl rfl rfl zD (by rw [wAJ (f:=KL.encI) (sz:=1) (fun _=>rfl)];have hz:=wAQ bH;show _ + 1 <= _;first | omega | (simp only [nG];omega) | (simp only [nD,nA,nB];omega)) rfl (wDM (sz:=1) (fo:=0) (fun _=>rfl) _ _ _ _ wk (by first | omega | (simp only [nG];omega) | (simp only [nD,nA,nB];omega)) (zA rfl) rfl) rfl ?_
 intro ik uS
 have uT:SW w [B1,.obj aa (.map ae ah)] U aY [.blk bb 184 aX,.blk b4 133 B0,B1,.obj aa (.map ae ah),bj,bi,bF] ik:=uS
 let d4:Res:=.blk b8 133 [.slice au ((nI aq ap.from_.toNat (w64 ((gd aq ap.to_.toNat) + ap.count))).length) av,.slice az aW.length aS]
 have fH:SW w [B1,.obj aa (.map ae ah)] U aY [.blk bb 184 aX,.blk b4 133 B0,B1,.obj aa (.map ae ah),bj,bi,d4] ik:=by simpa only [B0,B1,aX,bi,bF,bj,d4,nH] using uT
 refine ZQ Z Z Z Z (fH.ldB (j:=6) Z Z Z zY (v:=.slice az aW.length aS) Z) ?_
 obtain ⟨z8,lI⟩:=fH.rowSome (j:=5) rfl (by rw [wAJ (f:=KL.encI) (sz:=1) (fun _=>rfl) aW];have hz:=wAQ bC;omega)
 refine oR Z (zz Z Z lI Z zB zD (wCn bC) (wCo bC)) ?_
 have wl:=wBJ (xs:=aW) (wAQ bC)
 refine yl (j:=5) (vs:=[jV (↑a0:Int)]) (cs':=hH KL.encI (nI aW ap.from_.toNat (↑a0:Int))) rfl rfl rfl rfl fH rfl lI rfl rfl rfl zD (by rw [wAJ (f:=KL.encI) (sz:=1) (fun _=>rfl)];have hz:=wAQ bC;show _ + 1 <= _;first | omega | (simp only [nG];omega) | (simp only [nD,nA,nB];omega)) rfl (wDM (sz:=1) (fo:=0) (fun _=>rfl) _ _ _ _ wl (by first | omega | (simp only [nG];omega) | (simp only [nD,nA,nB];omega)) (zA rfl) rfl) rfl ?_
 intro il uU
 have uV:SW w [B1,.obj aa (.map ae ah)] U aY [.blk bb 184 aX,.blk b4 133 B0,B1,.obj aa (.map ae ah),bj,bS,d4] il:=uU
 have uW:SW w [B1,.obj aa (.map ae ah)] U aY [.blk bb 184 aX,.blk b4 133 B0,B1,.obj aa (.map ae ah),bj,bS,dg] il:=by simpa only [B0,B1,aX,bj,dg,bS,d4,nH] using uV
 refine zo ?_
 cases l8
 exact zH ⟨Z,⟨aY,jj,jk,jl,dD,eG,jm,jo,jp,jq,jr,(zM _),uW⟩⟩
 rintro Be xZ ⟨mS,o7,o8,o9,pe,pf,pg,ph,pj,pk,pm,xf,uX⟩
 refine rR fL2 Z (oM Z pf (oA Z Z (zo (zt ?_))))
 cases l7
 exact zH ⟨rfl,⟨mS,o7,o8,o9,pe,rfl,pg,ph,pj,pk,pm,xf,(uX.pick [1,2,3,4,5,6] _ (by decide) rfl),(nH.trans cP),(nH.trans cQ)⟩⟩
 intro fc wK
 refine cF Z fc (Ze (zt ?_))
 cases wK
 exact zH ⟨rfl,⟨aY,cL,b9,cM,bo,eF,cN,cO,cb,cd,bG,(zM _),(bp.pick [1,2,3,4,5,6] _ (by decide) rfl),cP,cQ⟩⟩
 intro aU wL
 refine oF Z aU (oF Z aU (oF Z aU (oF Z aU (oF Z aU (oF Z aU (oF Z aU (oF Z aU (oF Z aU (oF Z aU (oF Z aU (oF Z aU (oF Z aU (oF Z aU (oR Z (zq Z (Zh aU.out) Z) (eN (zx Z (Ze (zt ?_))))))))))))))))))
 cases wL
 exact zH ⟨rfl,⟨aY,cL,b9,cM,bo,eF,cN,cO,cb,cd,bG,(zM _),(bp.pick [1,2,3,4,5,6] _ (by decide) rfl),cP,cQ⟩⟩
 intro fb wM
 refine zx (congrArg nJ (nK.2 fb.out)) (kN (zK (zy zu [3,1,3,3,1,3,3,3,1,3,3,1,3,1,3,3,1,3,3,1,3,3] fL22 (by kernel_rfl) ?_)))
 have bq:=dG.drew
 generalize hw_W1538:({ d7 with drawn:=d7.drawn + 1 }:World)=im at bq ⊢
 refine oR Z (zF Z bo ZW Z zX) (oL Z (bq.ldB (j:=6) Z Z Z zY (v:=.slice au aq.length av) Z) (oM Z Z (bnK wM fun _ bD wN=>?_)))
 obtain ⟨z9,bu⟩:=bq.rowSome (j:=4) rfl (by rw [wAJ (f:=KL.encI) (sz:=1) (fun _=>rfl) aq];have hz:=wAQ bD;omega)
 refine oR Z (zz Z Z bu Z zB zD (wCn bD) (wCo bD)) ?_
 have wn:=wBJ (xs:=aq) (wAQ bD)
 refine ZI rfl rfl rfl rfl (bq.ldR (j:=4) rfl bu rfl rfl zG (wAV (sz:=1) (fun _=>rfl) _ _ 0 _ wn (by first | omega | rfl | simp) rfl)) rfl (zm rfl rfl rfl rfl (fun _=>zg rfl rfl rfl) (ZA rfl rfl rfl rfl rfl rfl (ifc wN ?_ ?_)))
 intro aV wO
 refine rU Z (wT Z aV) (zF Z bo ZW Z zX) (ZI Z Z Z (wT Z aV) (bq.ldB (j:=6) Z Z Z zY (v:=.slice au aq.length av) Z) Z (ZA Z Z Z (wT Z aV) Z Z (rU Z (wT Z aV) (zz Z Z bu Z zB zD (wCn bD) (wCo bD)) ?_)))
 have wo:=wBJ (xs:=aq) (wAQ bD)
 refine ZI rfl rfl rfl (zO rfl rfl (Zk aV.out)) (bq.ldR (j:=4) rfl bu rfl rfl zG (wAV (sz:=1) (fun _=>rfl) _ _ 0 _ wo (by first | omega | rfl | simp) rfl)) rfl (zm rfl rfl rfl (zO rfl rfl (Zk aV.out)) (fun _=>zF rfl rfl yc rfl zD) (ZI rfl rfl rfl (zO rfl rfl (Zk aV.out)) (bq.ldB (j:=0) rfl rfl rfl zG (v:=jV ap.count) rfl) rfl (zm rfl rfl rfl (zO rfl rfl (Zk aV.out)) (fun _=>zi rfl rfl rfl) (zm rfl rfl rfl (zO rfl rfl (Zk aV.out)) (fun _=>zF rfl bo ZW rfl zX) (ZI rfl rfl rfl (zO rfl rfl (Zk aV.out)) (bq.ldB (j:=6) rfl rfl rfl zY (v:=.slice au aq.length av) rfl) rfl (ZA rfl rfl rfl (zO rfl rfl (Zk aV.out)) rfl rfl (bnK wO fun _ bI wP=>zm rfl rfl rfl (zO rfl rfl (Zk aV.out)) (fun _=>zz rfl rfl bu rfl zB zD (wCn bI) (wCo bI)) ?_)))))))
 have wp:=wBJ (xs:=aq) (wAQ bI)
 refine ZI rfl rfl rfl (zO rfl rfl (Zk aV.out)) (bq.ldR (j:=4) rfl bu rfl rfl zG (wAV (sz:=1) (fun _=>rfl) _ _ 0 _ wp (by first | omega | rfl | simp) rfl)) rfl (zm rfl rfl rfl (zO rfl rfl (Zk aV.out)) (fun _=>zg rfl rfl rfl) (zm rfl rfl rfl rfl (fun _=>zn rfl (Zk aV.out) rfl) (eN (ifc wP ?_ ?_))))
 intro fd wQ
 refine cT Z fd ?_
 have q:=bnd wQ
 obtain ⟨⟨⟩,w6,ma⟩:=q
 try dsimp only at ma
 let bk:Res:=.row au av 3 1 (hH KL.encI (nI aq ap.to_.toNat (w64 ((gd aq ap.from_.toNat) + ap.count))))
 let dh:Res:=.blk b8 133 [.slice au ((nI aq ap.to_.toNat (w64 ((gd aq ap.from_.toNat) + ap.count))).length) av,.slice az ((nI aW ap.to_.toNat (↑a0:Int)).length) aS]
 let bT:Res:=.row az aS 3 1 (hH KL.encI (nI aW ap.to_.toNat (↑a0:Int)))
 refine yY (fun σ_ w_=>∃ (U_:PHeap),σ_ 0=.pointer (some ⟨aj,0,none⟩)/\σ_ 2=.bool p2/\σ_ 6=.pointer (some ⟨b4,0,none⟩)/\σ_ 9=.pointer (some ⟨b8,0,none⟩)/\σ_ 15=jV ap.to_/\σ_ 54=jV (w64 ((↑(p0.number.length):Int) + 1))/\σ_ 55=jV (↑bw:Int)/\σ_ 60=.slice br p0.edges.length bs/\σ_ 61=jV (↑p0.edges.length:Int)/\σ_ 62=jV (↑a0:Int)/\PHeap.Le aY U_/\SW w [B1,.obj aa (.map ae ah)] U U_ [.blk bb 184 aX,.blk b4 133 B0,B1,.obj aa (.map ae ah),bk,bT,dh] w_) ?_ ?_
 refine yi fun bn bh=>?_
 have jt:bn 0=.pointer (some ⟨aj,0,none⟩):=(bh 0).trans cL
 have ju:bn 2=.bool p2:=(bh 2).trans b9
 have jv:bn 6=.pointer (some ⟨b4,0,none⟩):=(bh 6).trans cM
 have dE:bn 9=.pointer (some ⟨b8,0,none⟩):=(bh 9).trans bo
 have pn:bn 12=jV (↑a0:Int):=(bh 12).trans rfl
 have po:bn 13=.pointer (some ⟨bb,0,none⟩):=(bh 13).trans rfl
 have pp:bn 14=jV ap.from_:=(bh 14).trans rfl
 have eH:bn 15=jV ap.to_:=(bh 15).trans rfl
 have jw:bn 54=jV (w64 ((↑(p0.number.length):Int) + 1)):=(bh 54).trans cN
 have jx:bn 55=jV (↑bw:Int):=(bh 55).trans cO
 have jy:bn 60=.slice br p0.edges.length bs:=(bh 60).trans cb
 have jz:bn 61=jV (↑p0.edges.length:Int):=(bh 61).trans cd
 have jA:bn 62=jV (↑a0:Int):=(bh 62).trans bG
 clear bh
 refine bnK w6 fun _ bE mb=>zy zu [3,1,3,3,2,3,3,1,3,3,1,3,1,3,3,3,0,3,0] (wEf (wQh gCl)) (by kernel_rfl) ?_
 have bL:=bq.drew
 generalize hw_W1587:({ im with drawn:=im.drawn + 1 }:World)=x8 at bL ⊢
 refine oR Z (zF Z dE ZW Z zX) (oL Z (bL.ldB (j:=6) Z Z Z zY (v:=.slice au aq.length av) Z) (oM Z eH (oR Z (zF Z dE ZW Z zX) (oM Z eH (oR Z (zF Z dE ZW Z zX) (oL Z (bL.ldB (j:=6) Z Z Z zY (v:=.slice au aq.length av) Z) (oM Z pp (oR Z (zz Z Z bu Z zB zD (wCn bD) (wCo bD)) ?_))))))))
 have wq:=wBJ (xs:=aq) (wAQ bD)
 refine ZI rfl rfl rfl rfl (bL.ldR (j:=4) rfl bu rfl rfl zG (wAV (sz:=1) (fun _=>rfl) _ _ 0 _ wq (by first | omega | rfl | simp) rfl)) rfl (zm rfl rfl rfl rfl (fun _=>zF rfl po yc rfl zD) (ZI rfl rfl rfl rfl (bL.ldB (j:=0) rfl rfl rfl zG (v:=jV ap.count) rfl) rfl (zm rfl rfl rfl rfl (fun _=>zi rfl rfl rfl) (ZA rfl rfl rfl rfl rfl pn (zm rfl rfl rfl rfl (fun _=>zz rfl rfl bu rfl zB zD (wCn bI) (wCo bI)) (zl ?_ ?_))))))
 refine ZQ Z Z Z Z (bL.ldB (j:=6) Z Z Z zY (v:=.slice az aW.length aS) Z) ?_
 have wt:=wBJ (xs:=aq) (wAQ bI)
 refine yl (j:=4) (vs:=[jV (w64 ((gd aq ap.from_.toNat) + ap.count))]) (cs':=hH KL.encI (nI aq ap.to_.toNat (w64 ((gd aq ap.from_.toNat) + ap.count)))) rfl rfl rfl rfl bL rfl bu rfl rfl rfl zD (by rw [wAJ (f:=KL.encI) (sz:=1) (fun _=>rfl)];have hz:=wAQ bI;show _ + 1 <= _;first | omega | (simp only [nG];omega) | (simp only [nD,nA,nB];omega)) rfl (wDM (sz:=1) (fo:=0) (fun _=>rfl) _ _ _ _ wt (by first | omega | (simp only [nG];omega) | (simp only [nD,nA,nB];omega)) (zA rfl) rfl) rfl ?_
 intro io uY
 have uZ:SW w [B1,.obj aa (.map ae ah)] U aY [.blk bb 184 aX,.blk b4 133 B0,B1,.obj aa (.map ae ah),bk,bi,bF] io:=uY
 let d5:Res:=.blk b8 133 [.slice au ((nI aq ap.to_.toNat (w64 ((gd aq ap.from_.toNat) + ap.count))).length) av,.slice az aW.length aS]
 have lT:SW w [B1,.obj aa (.map ae ah)] U aY [.blk bb 184 aX,.blk b4 133 B0,B1,.obj aa (.map ae ah),bk,bi,d5] io:=by simpa only [B0,B1,aX,bi,bF,bk,d5,nH] using uZ
 obtain ⟨Aa,lJ⟩:=lT.rowSome (j:=5) rfl (by rw [wAJ (f:=KL.encI) (sz:=1) (fun _=>rfl) aW];have hz:=wAQ bE;omega)
 refine oR Z (zz Z Z lJ Z zB zD (wCn bE) (wCo bE)) ?_
 have wu:=wBJ (xs:=aW) (wAQ bE)
 refine yl (j:=5) (vs:=[jV (↑a0:Int)]) (cs':=hH KL.encI (nI aW ap.to_.toNat (↑a0:Int))) rfl rfl rfl rfl lT rfl lJ rfl rfl rfl zD (by rw [wAJ (f:=KL.encI) (sz:=1) (fun _=>rfl)];have hz:=wAQ bE;show _ + 1 <= _;first | omega | (simp only [nG];omega) | (simp only [nD,nA,nB];omega)) rfl (wDM (sz:=1) (fo:=0) (fun _=>rfl) _ _ _ _ wu (by first | omega | (simp only [nG];omega) | (simp only [nD,nA,nB];omega)) (zA rfl) rfl) rfl ?_
 intro ip u0
 have u7:SW w [B1,.obj aa (.map ae ah)] U aY [.blk bb 184 aX,.blk b4 133 B0,B1,.obj aa (.map ae ah),bk,bT,d5] ip:=u0
 have u9:SW w [B1,.obj aa (.map ae ah)] U aY [.blk bb 184 aX,.blk b4 133 B0,B1,.obj aa (.map ae ah),bk,bT,dh] ip:=by simpa only [B0,B1,aX,bk,dh,bT,d5,nH] using u7
 refine zo ?_
 cases mb
 exact zH ⟨Z,⟨aY,jt,ju,jv,dE,eH,jw,jx,jy,jz,jA,(zM _),u9⟩⟩
 have wv:=wBJ (xs:=aq) (wAQ bI)
 refine yl (j:=4) (vs:=[jV (w64 ((gd aq ap.from_.toNat) + ap.count))]) (cs':=hH KL.encI (nI aq ap.to_.toNat (w64 ((gd aq ap.from_.toNat) + ap.count)))) rfl rfl rfl rfl bL rfl bu rfl rfl rfl zD (by rw [wAJ (f:=KL.encI) (sz:=1) (fun _=>rfl)];have hz:=wAQ bI;show _ + 1 <= _;first | omega | (simp only [nG];omega) | (simp only [nD,nA,nB];omega)) rfl (wDM (sz:=1) (fo:=0) (fun _=>rfl) _ _ _ _ wv (by first | omega | (simp only [nG];omega) | (simp only [nD,nA,nB];omega)) (zA rfl) rfl) rfl ?_
 intro iq va
 have vb:SW w [B1,.obj aa (.map ae ah)] U aY [.blk bb 184 aX,.blk b4 133 B0,B1,.obj aa (.map ae ah),bk,bi,bF] iq:=va
 let d6:Res:=.blk b8 133 [.slice au ((nI aq ap.to_.toNat (w64 ((gd aq ap.from_.toNat) + ap.count))).length) av,.slice az aW.length aS]
 have fJ:SW w [B1,.obj aa (.map ae ah)] U aY [.blk bb 184 aX,.blk b4 133 B0,B1,.obj aa (.map ae ah),bk,bi,d6] iq:=by simpa only [B0,B1,aX,bi,bF,bk,d6,nH] using vb
 refine ZQ Z Z Z Z (fJ.ldB (j:=6) Z Z Z zY (v:=.slice az aW.length aS) Z) ?_
 obtain ⟨Ab,lK⟩:=fJ.rowSome (j:=5) rfl (by rw [wAJ (f:=KL.encI) (sz:=1) (fun _=>rfl) aW];have hz:=wAQ bE;omega)
 refine oR Z (zz Z Z lK Z zB zD (wCn bE) (wCo bE)) ?_
 have ww:=wBJ (xs:=aW) (wAQ bE)
 refine yl (j:=5) (vs:=[jV (↑a0:Int)]) (cs':=hH KL.encI (nI aW ap.to_.toNat (↑a0:Int))) rfl rfl rfl rfl fJ rfl lK rfl rfl rfl zD (by rw [wAJ (f:=KL.encI) (sz:=1) (fun _=>rfl)];have hz:=wAQ bE;show _ + 1 <= _;first | omega | (simp only [nG];omega) | (simp only [nD,nA,nB];omega)) rfl (wDM (sz:=1) (fo:=0) (fun _=>rfl) _ _ _ _ ww (by first | omega | (simp only [nG];omega) | (simp only [nD,nA,nB];omega)) (zA rfl) rfl) rfl ?_
 intro ir vc
 have vd:SW w [B1,.obj aa (.map ae ah)] U aY [.blk bb 184 aX,.blk b4 133 B0,B1,.obj aa (.map ae ah),bk,bT,d6] ir:=vc
 have ve:SW w [B1,.obj aa (.map ae ah)] U aY [.blk bb 184 aX,.blk b4 133 B0,B1,.obj aa (.map ae ah),bk,bT,dh] ir:=by simpa only [B0,B1,aX,bk,dh,bT,d6,nH] using vd
 refine zo ?_
 cases mb
 exact zH ⟨Z,⟨aY,jt,ju,jv,dE,eH,jw,jx,jy,jz,jA,(zM _),ve⟩⟩
 rintro Bf yr ⟨mT,pq,pt,pu,py,pz,pB,pC,pD,pE,pF,xg,vg⟩
 refine rR fL2 Z (oM Z pz (oA Z Z (zo (zt ?_))))
 cases ma
 exact zH ⟨rfl,⟨mT,pq,pt,pu,py,rfl,pB,pC,pD,pE,pF,xg,(vg.pick [1,2,3,4,5,6] _ (by decide) rfl),(nH.trans cP),(nH.trans cQ)⟩⟩
 intro fd wR
 refine cF Z fd (Ze (zt ?_))
 cases wR
 exact zH ⟨rfl,⟨aY,cL,b9,cM,bo,eF,cN,cO,cb,cd,bG,(zM _),(bq.pick [1,2,3,4,5,6] _ (by decide) rfl),cP,cQ⟩⟩
 intro aV wS
 refine oF Z aV (oF Z aV (oF Z aV (oF Z aV (oF Z aV (oF Z aV (oF Z aV (oF Z aV (oF Z aV (oF Z aV (oF Z aV (oF Z aV (oF Z aV (oF Z aV (oR Z (zq Z (Zh aV.out) Z) (eN (zx Z (Ze (zt ?_))))))))))))))))))
 cases wS
 exact zH ⟨rfl,⟨aY,cL,b9,cM,bo,eF,cN,cO,cb,cd,bG,(zM _),(bq.pick [1,2,3,4,5,6] _ (by decide) rfl),cP,cQ⟩⟩
 rintro Bg yt ⟨mU,pG,pH,pI,pJ,pK,pL,pM,pN,pO,pP,xh,vh,tq,tu⟩
 refine rR fL2 Z (oR Z (ZT (zi Z pP Z) (congrArg (jV) wy.out)) (oM Z Z (zo ?_)))
 cases l6
 exact zH ⟨Z,⟨mU,Z,pG,pH,pI,pJ,pK,pL,pM,pN,pO,(mE.trans xh),vh,tq,tu⟩⟩
 rintro Bh yu ⟨eW,sZ,pQ,pR,fw,jB,jC,pS,pT,Ae,pU,xi,fK,tv,tw⟩
 have oy:Hid (¬ ((↑(((↑p0.edges.length:Int):Int) - 0).toNat:Int) < (↑p0.edges.length:Int))):=zL (wAs)
 refine sR fL1 Z (oR Z (zg Z sZ pU) (eN (zK (cF Z oy (ZU (zk (zk (ZM (zH (sR fL2 Z (oM Z jC (oR Z (zg Z Z Z) (eN (ifc l5 ?_ ?_))))))))))))))
 intro ff wU
 refine cT Z ff (sR gCc Z ?_)
 let cw:List Value:=[.slice au mN.length av,.slice az mO.length aS]
 refine oL Z (fK.ldBA (j:=5) Z Z jB Tryz.isAgg133 yb (vs:=cw) Z Z) (zW (j:=0) (vs:=cw) Z Z Z Z fK Z fw Z Z yb (zA Z) Z Z Z ?_)
 intro n7 vi
 have lU:SW w [B1,.obj aa (.map ae ah)] U eW [.blk b4 133 cw,B1,.obj aa (.map ae ah),.row au av 3 1 (hH KL.encI mN),.row az aS 3 1 (hH KL.encI mO),.blk b8 133 cw] n7:=vi
 refine oA Z Z (oA Z Z (eN (zR (zZ (zN ?_)))))
 have q:=wAR wU
 obtain ⟨xw,wV,oB⟩:=q
 obtain rfl:=wCE fU fM (vZ xw oB)
 refine zN (zZ (zN ?_))
 cases wV
 exact ⟨rfl,_,(wDL (rs:=[.cell 6 133,.tmp 7,.tmp 8]) (vs:=[.agg cw.toArray,jV 0,.bool true]) ⟨⟨_,fw,(wCF Tryz.isAgg133 yb (lU.blkAt (k:=0) rfl) (vs:=cw) rfl rfl)⟩,⟨rfl,⟨rfl,trivial⟩⟩⟩ rfl),eW,_,(lU.pick [3,4,1,2] _ (by decide) rfl),au,av,az,aS,rfl,rfl⟩
 intro ff wW
 refine cF Z ff (Ze (zt (zH (rR fL2 Z (oR Z (ZT (zi Z pT Z) (congrArg (jV) wx.out)) (oM Z Z (zo ?_)))))))
 obtain rfl:=nE wW
 exact zH ⟨Z,_,Z,⟨eW,Z,pQ,pR,fw,jB,jC,pS,(mD.trans xi),fK,tv,tw⟩⟩
 rintro ⟨mP,mQ,xz⟩ Bi yv ⟨gM,s5,Af,Ag,jD,pV,pW,pX,AL,lV,Ay,Az⟩ v4
 have md:=wCp fU fM v4
 try dsimp only at md
 have oz:Hid (¬ ((↑((w64 ((↑(p0.number.length):Int) + 1):Int) - 0).toNat:Int) < (w64 ((↑(p0.number.length):Int) + 1)))):=zL (wAs)
 refine sR fL1 Z (oR Z (zg Z s5 pX) (eN (zK (cF Z oz (ZU (zk (zk (ZM (zH (sR (.fl 0 (.fl 1 (.fx 2 (.fl 3 (.fl 4 .nil)) .stop))) Z ?_))))))))))
 let cx:List Value:=[.slice au mP.length av,.slice az mQ.length aS]
 refine oL Z (lV.ldBA (j:=5) Z Z pV Tryz.isAgg133 yb (vs:=cx) Z Z) (oM Z pW (zW (j:=0) (vs:=cx) Z Z Z Z lV Z jD Z Z yb (zA Z) Z Z Z ?_))
 intro n8 vj
 have lW:SW w [B1,.obj aa (.map ae ah)] U gM [.blk b4 133 cx,B1,.obj aa (.map ae ah),.row au av 3 1 (hH KL.encI mP),.row az aS 3 1 (hH KL.encI mQ),.blk b8 133 cx] n8:=vj
 refine oA Z Z (oA Z Z (eN (zR ?_)))
 cases md
 exact ⟨rfl,_,(wDL (rs:=[.cell 6 133,.tmp 7,.tmp 8]) (vs:=[.agg cx.toArray,jV xz,.bool false]) ⟨⟨_,jD,(wCF Tryz.isAgg133 yb (lW.blkAt (k:=0) rfl) (vs:=cx) rfl rfl)⟩,⟨rfl,⟨rfl,trivial⟩⟩⟩ rfl),gM,_,(lW.pick [3,4,1,2] _ (by decide) rfl),au,av,az,aS,rfl,rfl⟩
end Go.Proofs.YtlnfbjphfoipaaaGreat
