import Derived.Test.YtabadkdjndnliaaGreatS7
import Derived.Test.YtabadkdjndnliaaGreatS6
import Derived.Test.YtabadkdjndnliaaGreatS8
import Derived.Test.YtabadkdjndnliaaGreatS9
import Derived.Test.YtabadkdjndnliaaGreatS10
set_option linter.all false
open List renaming flatMap->nA
open Option.some renaming inj->nD
open Go.Value renaming bool->nE
open Bool renaming eq_false_iff->nG
namespace Go.Proofs.YtabadkdjndnliaaGreat
open Go.KL
def gAo:Sch:=.fx 0 (.fl 1 .nil) .stop
def gAp:Sch:=.fx 6 (.fx 7 .nil .stop) .stop
def gAq:Sch:=.fx 5 gAp .stop
def gAr:Sch:=.fx 4 gAp .stop
def gAs:Sch:=.fx 3 gAp .stop
def gAt:Sch:=.fx 1 gAs .stop
def gAu:Sch:=.fx 3 gAq (.fx 5 gAs .stop)
def gAv:Sch:=.fx 3 gAr (.fx 4 gAs .stop)
set_option maxHeartbeats 4000000
theorem wFT (p0:wAD) (a8:Option Addr) (bd:Nat) (bb:Option Addr) (be:Nat) (w:World) (U:PHeap) (hS:St0 w U []) (bo:Sl U 1 a8 bd p0.Rules.Classes.length (nA KL.encI p0.Rules.Classes)) (bp:SlR U wFL bb be p0.Teams) {r:Bool} (hm:wCb p0=some r):Gv Tryz.prog 3 [.agg #[.slice a8 p0.Rules.Classes.length bd,jV p0.Rules.Each,jV p0.Rules.Laps,jV p0.Rules.Spare,jV p0.Rules.Loop,jV p0.Rules.Unused,jV p0.Start,.slice bb p0.Teams.length be]] w (wBp w [] U (fun U_ L_ v=>v=.bool r/\L_=[])):=by
 unfold wCb at hm
 refine Gv.of Tryz.func3 Z Tryz.ntmps3 Tryz.results3 Z (sR gAo Z ?_)
 let B0:List Value:=[.slice a8 p0.Rules.Classes.length bd,jV p0.Rules.Each,jV p0.Rules.Laps,jV p0.Rules.Spare,jV p0.Rules.Loop,jV p0.Rules.Unused,jV p0.Start,.slice bb p0.Teams.length be]
 refine ZX (cs:=B0) rfl rfl rfl rfl rfl rfl (by rfl) hS ?_
 intro W1 b2 jH
 refine oA Z Z (eN (zG (sR (.fl 0 (.fx 1 .nil .stop)) Z (oL Z (jH.ldBA (j:=0) Z Z Z yK Zf (vs:=B0) Z Z) (bnK hm fun x5 h6 tb=>zP 0 Z Z Z Z (zQ Z Z Tryz.call12 (zH Z zZ) Z) jH (fun hs=>wHM p0 a8 bd bb be W1 U hs bo bp h6) (.inr Z) ?_)))))
 rintro U8 L9 uL dU aw rt ⟨rfl,rfl⟩
 have jF:sW w U U8 [.blk b2 27 B0] dU:=rt
 refine eN (ifc tb ?_ ?_)
 intro fN s6
 refine ZA (congrArg nE fN.out) (sR gAo Z (bnK s6 fun u7 qh s7=>zP 0 Z Z Z Z (zQ Z Z Tryz.call13 zZ Z) jF (fun hs=>wEx dU U8 hs qh) (.inr Z) ?_))
 rintro g6 tW uX lJ uI rG ⟨rfl,rfl⟩
 have rH:sW w U g6 [.blk b2 27 B0] lJ:=rG
 refine oA Z Z (eN (zS (zK ?_)))
 have hE:=nD s7;first | subst r | cases hE
 exact ⟨rfl,_,(zw rfl),g6,_,(rH.pick [] _ (by decide) rfl),rfl,rfl⟩
 intro fN ta
 refine zn (congrArg nE (nG.2 fN.out)) (kN ?_)
 have q:=bnd ta
 obtain ⟨⟨br,cz,cA,cB,cC,cD,cE,bI,bs,dB,dC,dD,dE,dF,dG,co⟩,tp,jT⟩:=q
 try dsimp only at jT
 refine CK.cut (fun σ_ w_=>∃ (U_:PHeap) (am:Nat) (bt:Option Addr) (bw:Nat) (bj:Option Addr) (bn:Nat) (eD:List Value) (ao:Nat) (bu:Option Addr) (bx:Nat) (bv:Option Addr) (bz:Nat) (eI:List Value),σ_ 1=.pointer (some ⟨b2,0,none⟩)/\σ_ 3=.pointer (some ⟨am,0,none⟩)/\σ_ 4=.pointer (some ⟨ao,0,none⟩)/\PHeap.Le U8 U_/\sW w U U_ [.blk b2 27 B0,.blk am 27 [.slice bt br.length bw,jV cz,jV cA,jV cB,jV cC,jV cD,jV cE,.slice bj bI.length bn],.row bt bw 3 1 (nA KL.encI br),.row bj bn 73 3 eD,.blk ao 34 [.slice bu bs.length bx,jV dB,jV dC,jV dD,jV dE,jV dF,jV dG,.slice bv co.length bz],.row bu bx 3 1 (nA KL.encI bs),.row bv bz 205 3 eI] w_/\RlL U_ wFL bI eD/\RlL U_ wGH co eI) ?_ ?_
 refine bnK tp fun af eQ s8=>bnK s8 fun ag eS s9=>ZY ZQ [1,2,1,2,2,2,0,0] (.fl 0 (.fl 2 (.fx 1 (.fx 3 (.fx 4 gAq (.fx 5 gAr .stop)) (.fx 4 gAu (.fx 5 gAv .stop))) (.fx 4 (.fx 1 gAu (.fx 5 gAt .stop)) (.fx 5 (.fx 1 gAv (.fx 4 gAt .stop)) .stop))))) (by kernel_rfl) ?_
 have cm:=jF.drew
 generalize hw_W194:({ dU with drawn:=dU.drawn + 1 }:World)=lI at cm ⊢
 refine ye (s:=.nil) (M:=fun σ_ w_=>∃ (U_:PHeap) (dW:Nat) (cH:Option Addr) (df:Nat) (cI:Option Addr) (dg:Nat) (eG:List Value) (dX:Nat) (cJ:Option Addr) (dh:Nat) (cK:Option Addr) (di:Nat) (eH:List Value),σ_ 1=.pointer (some ⟨b2,0,none⟩)/\σ_ 3=.pointer (some ⟨dW,0,none⟩)/\σ_ 4=.pointer (some ⟨dX,0,none⟩)/\σ_ 18=.agg B0.toArray/\σ_ 19=.agg #[.slice cH af.Rules.Classes.length df,jV af.Rules.Each,jV af.Rules.Laps,jV af.Rules.Spare,jV af.Rules.Loop,jV af.Rules.Unused,jV af.Start,.slice cI af.Teams.length dg]/\σ_ 20=.agg B0.toArray/\σ_ 21=.agg #[.slice cJ ag.Rules.Classes.length dh,jV ag.Rules.Each,jV ag.Rules.Laps,jV ag.Rules.Spare,jV ag.Rules.Loop,jV ag.Rules.Unused,jV ag.Start,.slice cK ag.Teams.length di]/\PHeap.Le U8 U_/\sW w U U_ [.blk b2 27 B0,.blk dW 27 [.slice cH af.Rules.Classes.length df,jV af.Rules.Each,jV af.Rules.Laps,jV af.Rules.Spare,jV af.Rules.Loop,jV af.Rules.Unused,jV af.Start,.slice cI af.Teams.length dg],.row cH df 3 1 (nA KL.encI af.Rules.Classes),.row cI dg 73 3 eG,.blk dX 34 [.slice cJ ag.Rules.Classes.length dh,jV ag.Rules.Each,jV ag.Rules.Laps,jV ag.Rules.Spare,jV ag.Rules.Loop,jV ag.Rules.Unused,jV ag.Start,.slice cK ag.Teams.length di],.row cJ dh 3 1 (nA KL.encI ag.Rules.Classes),.row cK di 205 3 eH] w_/\RlL U_ wFL af.Teams eG/\RlL U_ wGH ag.Teams eH) ?_ fun tq=>?_
 rintro vg uh ⟨lq,dW,cH,df,cI,dg,eG,dX,cJ,dh,cK,di,eH,mz,mA,mB,uC,uD,uE,uF,tz,rI,qi,qj⟩
 refine zg ?_
 cases s9
 exact zF ⟨Z,⟨lq,dW,cH,df,cI,dg,eG,dX,cJ,dh,cK,di,eH,mz,mA,mB,tz,rI,qi,qj⟩⟩
 let B1:List Value:=[.slice none 0 0,jV 0,jV 0,jV 0,jV 0,jV 0,jV 0,.slice none 0 0]
 refine ye (s:=.fx 7 .nil .stop) (M:=fun σ_ w_=>∃ (U_:PHeap) (cU:Nat) (bA:Option Addr) (bD:Nat) (bC:Option Addr) (bE:Nat) (dt:List Value) (cV:Nat) (bL:Option Addr) (bW:Nat) (bM:Option Addr) (bX:Nat) (du:List Value),σ_ 1=.pointer (some ⟨b2,0,none⟩)/\σ_ 3=.pointer (some ⟨cU,0,none⟩)/\σ_ 4=.pointer (some ⟨cV,0,none⟩)/\σ_ 18=.agg B0.toArray/\σ_ 19=.agg #[.slice bA af.Rules.Classes.length bD,jV af.Rules.Each,jV af.Rules.Laps,jV af.Rules.Spare,jV af.Rules.Loop,jV af.Rules.Unused,jV af.Start,.slice bC af.Teams.length bE]/\σ_ 20=.agg B0.toArray/\σ_ 21=.agg #[.slice bL ag.Rules.Classes.length bW,jV ag.Rules.Each,jV ag.Rules.Laps,jV ag.Rules.Spare,jV ag.Rules.Loop,jV ag.Rules.Unused,jV ag.Start,.slice bM ag.Teams.length bX]/\PHeap.Le U8 U_/\sW w U U_ [.blk b2 27 B0,.blk cU 27 [.slice bA af.Rules.Classes.length bD,jV af.Rules.Each,jV af.Rules.Laps,jV af.Rules.Spare,jV af.Rules.Loop,jV af.Rules.Unused,jV af.Start,.slice bC af.Teams.length bE],.row bA bD 3 1 (nA KL.encI af.Rules.Classes),.row bC bE 73 3 dt,.blk cV 34 B1,.row bL bW 3 1 (nA KL.encI ag.Rules.Classes),.row bM bX 205 3 du] w_/\RlL U_ wFL af.Teams dt/\RlL U_ wGH ag.Teams du) ?_ fun tr=>?_
 rintro vh ui ⟨g7,cU,bA,bD,bC,bE,dt,cV,bL,bW,bM,bX,du,mC,mD,iV,mE,mF,mG,iW,tA,rJ,qk,ql⟩
 let B2:List Value:=[.slice bL ag.Rules.Classes.length bW,jV ag.Rules.Each,jV ag.Rules.Laps,jV ag.Rules.Spare,jV ag.Rules.Loop,jV ag.Rules.Unused,jV ag.Start,.slice bM ag.Teams.length bX]
 refine ZK (j:=4) (vs:=B2) Z Z Z Z rJ Z iV iW Z yO (zJ Z) Z Z Z ?_
 intro lK rK
 have rL:sW w U g7 [.blk b2 27 B0,.blk cU 27 [.slice bA af.Rules.Classes.length bD,jV af.Rules.Each,jV af.Rules.Laps,jV af.Rules.Spare,jV af.Rules.Loop,jV af.Rules.Unused,jV af.Start,.slice bC af.Teams.length bE],.row bA bD 3 1 (nA KL.encI af.Rules.Classes),.row bC bE 73 3 dt,.blk cV 34 B2,.row bL bW 3 1 (nA KL.encI ag.Rules.Classes),.row bM bX 205 3 du] lK:=rK
 exact tq _ _ ⟨g7,cU,bA,bD,bC,bE,dt,cV,bL,bW,bM,bX,du,mC,mD,iV,mE,mF,mG,iW,tA,rL,qk,ql⟩
 refine ye (s:=gAp) (M:=fun σ_ w_=>∃ (U_:PHeap) (cW:Nat) (cX:Nat) (bN:Option Addr) (bY:Nat) (bO:Option Addr) (bZ:Nat) (dv:List Value) (cL:Option Addr) (dm:Nat) (cM:Option Addr) (dn:Nat) (dw:List Value),σ_ 1=.pointer (some ⟨b2,0,none⟩)/\σ_ 3=.pointer (some ⟨cW,0,none⟩)/\σ_ 4=.pointer (some ⟨cX,0,none⟩)/\σ_ 18=.agg B0.toArray/\σ_ 19=.agg #[.slice bN af.Rules.Classes.length bY,jV af.Rules.Each,jV af.Rules.Laps,jV af.Rules.Spare,jV af.Rules.Loop,jV af.Rules.Unused,jV af.Start,.slice bO af.Teams.length bZ]/\σ_ 20=.agg B0.toArray/\σ_ 21=.agg #[.slice cL ag.Rules.Classes.length dm,jV ag.Rules.Each,jV ag.Rules.Laps,jV ag.Rules.Spare,jV ag.Rules.Loop,jV ag.Rules.Unused,jV ag.Start,.slice cM ag.Teams.length dn]/\PHeap.Le U8 U_/\sW w U U_ [.blk b2 27 B0,.blk cW 27 B1,.blk cX 34 B1,.row bN bY 3 1 (nA KL.encI af.Rules.Classes),.row bO bZ 73 3 dv,.row cL dm 3 1 (nA KL.encI ag.Rules.Classes),.row cM dn 205 3 dw] w_/\RlL U_ wFL af.Teams dv/\RlL U_ wGH ag.Teams dw) ?_ fun gq=>?_
 rintro vi uj ⟨g8,cW,cX,bN,bY,bO,bZ,dv,cL,dm,cM,dn,dw,mH,iX,mI,mJ,iY,mK,mL,tB,rM,qn,qo⟩
 let B3:List Value:=[.slice bN af.Rules.Classes.length bY,jV af.Rules.Each,jV af.Rules.Laps,jV af.Rules.Spare,jV af.Rules.Loop,jV af.Rules.Unused,jV af.Start,.slice bO af.Teams.length bZ]
 refine ZK (j:=1) (vs:=B3) Z Z Z Z rM Z iX iY Z Zf (zJ Z) Z Z Z ?_
 intro lL rN
 have rP:sW w U g8 [.blk b2 27 B0,.blk cW 27 B3,.blk cX 34 B1,.row bN bY 3 1 (nA KL.encI af.Rules.Classes),.row bO bZ 73 3 dv,.row cL dm 3 1 (nA KL.encI ag.Rules.Classes),.row cM dn 205 3 dw] lL:=rN
 exact tr _ _ ⟨g8,cW,bN,bY,bO,bZ,dv,cX,cL,dm,cM,dn,dw,mH,iX,mI,mJ,iY,mK,mL,tB,(rP.pick [0,1,3,4,2,5,6] _ (by decide) rfl),qn,qo⟩
 refine ye (s:=gAs) (M:=fun σ_ w_=>∃ (U_:PHeap) (cY:Nat) (cZ:Nat) (cN:Option Addr) (dp:Nat) (cO:Option Addr) (dq:Nat) (dx:List Value),σ_ 1=.pointer (some ⟨b2,0,none⟩)/\σ_ 3=.pointer (some ⟨cY,0,none⟩)/\σ_ 4=.pointer (some ⟨cZ,0,none⟩)/\σ_ 18=.agg B0.toArray/\σ_ 19=.agg #[.slice cN af.Rules.Classes.length dp,jV af.Rules.Each,jV af.Rules.Laps,jV af.Rules.Spare,jV af.Rules.Loop,jV af.Rules.Unused,jV af.Start,.slice cO af.Teams.length dq]/\σ_ 20=.agg B0.toArray/\PHeap.Le U8 U_/\sW w U U_ [.blk b2 27 B0,.blk cY 27 B1,.blk cZ 34 B1,.row cN dp 3 1 (nA KL.encI af.Rules.Classes),.row cO dq 73 3 dx] w_/\RlL U_ wFL af.Teams dx) ?_ fun gr=>?_
 rintro vj lM ⟨ls,cY,cZ,cN,dp,cO,dq,dx,mM,mN,mO,mP,mQ,iZ,gu,rQ,qp⟩
 have qq:=bo.le aw
 have qr:=qq.le gu
 have qs:=bp.le aw
 have qt:=qs.le gu
 refine zP 0 Z Z Z Z (zQ Z Z Tryz.call15 (zH iZ zZ) Z) rQ (fun hs=>wDs p0 a8 bd bb be lM ls hs qr qt eS) (.inr Z) ?_
 rintro g9 tX uY lN j9 rS ⟨gC,iz,gD,iA,iB,rfl,rfl,qu⟩
 have rT:sW w U g9 [.row gC iz 3 1 (nA KL.encI ag.Rules.Classes),.row gD iA 205 3 iB,.blk b2 27 B0,.blk cY 27 B1,.blk cZ 34 B1,.row cN dp 3 1 (nA KL.encI af.Rules.Classes),.row cO dq 73 3 dx] lN:=rS
 have qv:=qp.le j9
 exact gq _ _ ⟨g9,cY,cZ,cN,dp,cO,dq,dx,gC,iz,gD,iA,iB,mM,mN,mO,mP,mQ,iZ,rfl,(gu.trans j9),(rT.pick [2,3,4,5,6,0,1] _ (by decide) rfl),qv,qu⟩
 refine ye (s:=gAr) (M:=fun σ_ w_=>∃ (U_:PHeap) (dY:Nat) (dJ:Option Addr) (d8:Nat) (dK:Option Addr) (d9:Nat) (eJ:List Value) (dL:Option Addr) (eh:Nat) (dM:Option Addr) (ep:Nat) (eK:List Value),σ_ 1=.pointer (some ⟨b2,0,none⟩)/\σ_ 4=.pointer (some ⟨dY,0,none⟩)/\σ_ 18=.agg B0.toArray/\σ_ 19=.agg #[.slice dJ af.Rules.Classes.length d8,jV af.Rules.Each,jV af.Rules.Laps,jV af.Rules.Spare,jV af.Rules.Loop,jV af.Rules.Unused,jV af.Start,.slice dK af.Teams.length d9]/\σ_ 20=.agg B0.toArray/\σ_ 21=.agg #[.slice dL ag.Rules.Classes.length eh,jV ag.Rules.Each,jV ag.Rules.Laps,jV ag.Rules.Spare,jV ag.Rules.Loop,jV ag.Rules.Unused,jV ag.Start,.slice dM ag.Teams.length ep]/\PHeap.Le U8 U_/\sW w U U_ [.blk b2 27 B0,.blk dY 34 B1,.row dJ d8 3 1 (nA KL.encI af.Rules.Classes),.row dK d9 73 3 eJ,.row dL eh 3 1 (nA KL.encI ag.Rules.Classes),.row dM ep 205 3 eK] w_/\RlL U_ wFL af.Teams eJ/\RlL U_ wGH ag.Teams eK) ?_ fun jZ=>?_
 rintro vk uk ⟨lu,dY,dJ,d8,dK,d9,eJ,dL,eh,dM,ep,eK,mR,mS,mT,mU,mV,mW,tC,rV,qw,qx⟩
 refine ZB (cs:=B1) Z Z Z Z Z yZ Z rV ?_
 intro ul l3 rW
 exact gq _ _ ⟨lu,l3,dY,dJ,d8,dK,d9,eJ,dL,eh,dM,ep,eK,mR,rfl,mS,mT,mU,mV,mW,tC,(rW.pick [1,0,2,3,4,5,6] _ (by decide) rfl),qw,qx⟩
 refine ye (s:=gAq) (M:=fun σ_ w_=>∃ (U_:PHeap) (dZ:Nat) (dN:Option Addr) (eu:Nat) (dO:Option Addr) (eA:Nat) (eM:List Value) (dP:Option Addr) (eB:Nat) (dQ:Option Addr) (eC:Nat) (eP:List Value),σ_ 1=.pointer (some ⟨b2,0,none⟩)/\σ_ 3=.pointer (some ⟨dZ,0,none⟩)/\σ_ 18=.agg B0.toArray/\σ_ 19=.agg #[.slice dN af.Rules.Classes.length eu,jV af.Rules.Each,jV af.Rules.Laps,jV af.Rules.Spare,jV af.Rules.Loop,jV af.Rules.Unused,jV af.Start,.slice dO af.Teams.length eA]/\σ_ 20=.agg B0.toArray/\σ_ 21=.agg #[.slice dP ag.Rules.Classes.length eB,jV ag.Rules.Each,jV ag.Rules.Laps,jV ag.Rules.Spare,jV ag.Rules.Loop,jV ag.Rules.Unused,jV ag.Start,.slice dQ ag.Teams.length eC]/\PHeap.Le U8 U_/\sW w U U_ [.blk b2 27 B0,.blk dZ 27 B1,.row dN eu 3 1 (nA KL.encI af.Rules.Classes),.row dO eA 73 3 eM,.row dP eB 3 1 (nA KL.encI ag.Rules.Classes),.row dQ eC 205 3 eP] w_/\RlL U_ wFL af.Teams eM/\RlL U_ wGH ag.Teams eP) ?_ fun j4=>?_
 rintro vl um ⟨lv,dZ,dN,eu,dO,eA,eM,dP,eB,dQ,eC,eP,mX,mY,mZ,m3,m4,m5,tD,rX,qy,qz⟩
 refine ZB (cs:=B1) Z Z Z Z Z yk Z rX ?_
 intro uo l4 rY
 exact gq _ _ ⟨lv,dZ,l4,dN,eu,dO,eA,eM,dP,eB,dQ,eC,eP,mX,mY,rfl,mZ,m3,m4,m5,tD,(rY.pick [1,2,0,3,4,5,6] _ (by decide) rfl),qy,qz⟩
 refine ye (s:=gAt) (M:=fun σ_ w_=>∃ (U_:PHeap) (c9:Nat) (dd:Nat),σ_ 1=.pointer (some ⟨b2,0,none⟩)/\σ_ 3=.pointer (some ⟨c9,0,none⟩)/\σ_ 4=.pointer (some ⟨dd,0,none⟩)/\σ_ 18=.agg B0.toArray/\σ_ 20=.agg B0.toArray/\PHeap.Le U8 U_/\sW w U U_ [.blk b2 27 B0,.blk c9 27 B1,.blk dd 34 B1] w_) ?_ fun j5=>?_
 rintro vm lO ⟨lw,c9,dd,m6,m7,m8,i2,m9,gv,rZ⟩
 have qA:=bo.le aw
 have qC:=qA.le gv
 have qD:=bp.le aw
 have qE:=qD.le gv
 refine zP 0 Z Z Z Z (zQ Z Z Tryz.call14 (zH i2 zZ) Z) rZ (fun hs=>wDH p0 a8 bd bb be lO lw hs qC qE eQ) (.inr Z) ?_
 rintro ib tY uZ lP tE r0 ⟨gE,iC,gG,iD,iE,rfl,rfl,qF⟩
 have r6:sW w U ib [.row gE iC 3 1 (nA KL.encI af.Rules.Classes),.row gG iD 73 3 iE,.blk b2 27 B0,.blk c9 27 B1,.blk dd 34 B1] lP:=r0
 exact gr _ _ ⟨ib,c9,dd,gE,iC,gG,iD,iE,m6,m7,m8,i2,rfl,m9,(gv.trans tE),(r6.pick [2,3,4,0,1] _ (by decide) rfl),qF⟩
 refine ye (s:=gAv) (M:=fun σ_ w_=>∃ (U_:PHeap) (bU:Nat) (bP:Option Addr) (b4:Nat) (bQ:Option Addr) (ca:Nat) (ci:List Value),σ_ 1=.pointer (some ⟨b2,0,none⟩)/\σ_ 4=.pointer (some ⟨bU,0,none⟩)/\σ_ 18=.agg B0.toArray/\σ_ 19=.agg #[.slice bP af.Rules.Classes.length b4,jV af.Rules.Each,jV af.Rules.Laps,jV af.Rules.Spare,jV af.Rules.Loop,jV af.Rules.Unused,jV af.Start,.slice bQ af.Teams.length ca]/\σ_ 20=.agg B0.toArray/\PHeap.Le U8 U_/\sW w U U_ [.blk b2 27 B0,.blk bU 34 B1,.row bP b4 3 1 (nA KL.encI af.Rules.Classes),.row bQ ca 73 3 ci] w_/\RlL U_ wFL af.Teams ci) ?_ fun j6=>?_
 rintro vn lQ ⟨ic,bU,bP,b4,bQ,ca,ci,i4,i6,i7,i8,fT,fc,jI,jm⟩
 refine yU ?_ ?_
 have qG:=bo.le aw
 have qH:=qG.le fc
 have qI:=bp.le aw
 have qJ:=qI.le fc
 refine zP 0 Z Z Z Z (zQ Z Z Tryz.call15 (zH fT zZ) Z) jI (fun hs=>wDs p0 a8 bd bb be lQ ic hs qH qJ eS) (.inr Z) ?_
 rintro ie tZ u0 lR k6 r7 ⟨gH,iF,gI,iG,iH,rfl,rfl,qK⟩
 have r8:sW w U ie [.row gH iF 3 1 (nA KL.encI ag.Rules.Classes),.row gI iG 205 3 iH,.blk b2 27 B0,.blk bU 34 B1,.row bP b4 3 1 (nA KL.encI af.Rules.Classes),.row bQ ca 73 3 ci] lR:=r7
 have qL:=jm.le k6
 exact jZ _ _ ⟨ie,bU,bP,b4,bQ,ca,ci,gH,iF,gI,iG,iH,i4,i6,i7,i8,fT,rfl,(fc.trans k6),(r8.pick [2,3,4,5,0,1] _ (by decide) rfl),qL,qK⟩
 refine ZB (cs:=B1) Z Z Z Z Z yZ Z jI ?_
 intro uq l5 r9
 exact gr _ _ ⟨ic,l5,bU,bP,b4,bQ,ca,ci,i4,rfl,i6,i7,i8,fT,fc,(r9.pick [1,0,2,3,4] _ (by decide) rfl),jm⟩
 refine ye (s:=gAu) (M:=fun σ_ w_=>∃ (U_:PHeap) (bV:Nat) (bR:Option Addr) (cc:Nat) (bS:Option Addr) (cd:Nat) (cj:List Value),σ_ 1=.pointer (some ⟨b2,0,none⟩)/\σ_ 3=.pointer (some ⟨bV,0,none⟩)/\σ_ 18=.agg B0.toArray/\σ_ 19=.agg #[.slice bR af.Rules.Classes.length cc,jV af.Rules.Each,jV af.Rules.Laps,jV af.Rules.Spare,jV af.Rules.Loop,jV af.Rules.Unused,jV af.Start,.slice bS af.Teams.length cd]/\σ_ 20=.agg B0.toArray/\PHeap.Le U8 U_/\sW w U U_ [.blk b2 27 B0,.blk bV 27 B1,.row bR cc 3 1 (nA KL.encI af.Rules.Classes),.row bS cd 73 3 cj] w_/\RlL U_ wFL af.Teams cj) ?_ fun j7=>?_
 rintro vo lS ⟨ig,bV,bR,cc,bS,cd,cj,i9,ja,jb,jc,fU,fd,jJ,jo⟩
 refine yU ?_ ?_
 have qM:=bo.le aw
 have qN:=qM.le fd
 have qO:=bp.le aw
 have qP:=qO.le fd
 refine zP 0 Z Z Z Z (zQ Z Z Tryz.call15 (zH fU zZ) Z) jJ (fun hs=>wDs p0 a8 bd bb be lS ig hs qN qP eS) (.inr Z) ?_
 rintro ii t2 u1 lT k8 sa ⟨gJ,iI,gK,iJ,iK,rfl,rfl,qQ⟩
 have sb:sW w U ii [.row gJ iI 3 1 (nA KL.encI ag.Rules.Classes),.row gK iJ 205 3 iK,.blk b2 27 B0,.blk bV 27 B1,.row bR cc 3 1 (nA KL.encI af.Rules.Classes),.row bS cd 73 3 cj] lT:=sa
 have qR:=jo.le k8
 exact j4 _ _ ⟨ii,bV,bR,cc,bS,cd,cj,gJ,iI,gK,iJ,iK,i9,ja,jb,jc,fU,rfl,(fd.trans k8),(sb.pick [2,3,4,5,0,1] _ (by decide) rfl),qR,qQ⟩
 refine ZB (cs:=B1) Z Z Z Z Z yk Z jJ ?_
 intro ur l6 sc
 exact gr _ _ ⟨ig,bV,l6,bR,cc,bS,cd,cj,i9,ja,rfl,jb,jc,fU,fd,(sc.pick [1,2,0,3,4] _ (by decide) rfl),jo⟩
 refine oL Z (cm.ldBA (j:=0) Z Z Z yK Zf (vs:=B0) Z Z) (oL Z (cm.ldBA (j:=0) Z Z Z yK Zf (vs:=B0) Z Z) (yU ?_ ?_))
 have jp:=bo.le aw
 have jq:=bp.le aw
 refine zP 0 Z Z Z Z (zQ Z Z Tryz.call14 (zH Z zZ) Z) cm (fun hs=>wDH p0 a8 bd bb be lI U8 hs jp jq eQ) (.inr Z) ?_
 rintro dT t6 u2 ip cy sd ⟨cP,dr,bT,cg,ch,rfl,rfl,eV⟩
 let B4:Res:=.row cP dr 3 1 (nA KL.encI af.Rules.Classes)
 have gb:sW w U dT [B4,.row bT cg 73 3 ch,.blk b2 27 B0] ip:=sd
 refine yU ?_ ?_
 have qS:=jp.le cy
 have qT:=jq.le cy
 refine zP 0 Z Z Z Z (zQ Z Z Tryz.call15 (zH Z zZ) Z) gb (fun hs=>wDs p0 a8 bd bb be ip dT hs qS qT eS) (.inr Z) ?_
 rintro fw t7 u3 lU fe se ⟨fk,fO,fm,fP,fQ,rfl,rfl,jr⟩
 have jK:sW w U fw [.row fk fO 3 1 (nA KL.encI ag.Rules.Classes),.row fm fP 205 3 fQ,B4,.row bT cg 73 3 ch,.blk b2 27 B0] lU:=se
 refine yU ?_ ?_
 refine ZB (cs:=B1) Z Z Z Z Z yZ Z jK ?_
 intro ut l7 sf
 have n3:=eV.le fe
 exact j4 _ _ ⟨fw,l7,cP,dr,bT,cg,ch,fk,fO,fm,fP,fQ,rfl,rfl,rfl,rfl,rfl,rfl,(cy.trans fe),(sf.pick [5,0,3,4,1,2] _ (by decide) rfl),n3,jr⟩
 refine ZB (cs:=B1) Z Z Z Z Z yk Z jK ?_
 intro ua lV qU
 have n4:=eV.le fe
 exact jZ _ _ ⟨fw,lV,cP,dr,bT,cg,ch,fk,fO,fm,fP,fQ,rfl,rfl,rfl,rfl,rfl,rfl,(cy.trans fe),(qU.pick [5,0,3,4,1,2] _ (by decide) rfl),n4,jr⟩
 refine yU ?_ ?_
 refine ZB (cs:=B1) Z Z Z Z Z yZ Z gb ?_
 intro ub lW qV
 exact j7 _ _ ⟨dT,lW,cP,dr,bT,cg,ch,rfl,rfl,rfl,rfl,rfl,cy,(qV.pick [3,0,1,2] _ (by decide) rfl),eV⟩
 refine ZB (cs:=B1) Z Z Z Z Z yk Z gb ?_
 intro uc lY qW
 exact j6 _ _ ⟨dT,lY,cP,dr,bT,cg,ch,rfl,rfl,rfl,rfl,rfl,cy,(qW.pick [3,0,1,2] _ (by decide) rfl),eV⟩
 refine yU ?_ ?_
 refine ZB (cs:=B1) Z Z Z Z Z yZ Z cm ?_
 intro ly fB jx
 refine yU ?_ ?_
 have n5:=bo.le aw
 have n7:=bp.le aw
 refine zP 0 Z Z Z Z (zQ Z Z Tryz.call14 (zH Z zZ) Z) jx (fun hs=>wDH p0 a8 bd bb be ly U8 hs n5 n7 eQ) (.inr Z) ?_
 rintro gO tL uM lz tt qX ⟨gx,iq,gy,ir,it,rfl,rfl,n8⟩
 have qY:sW w U gO [.row gx iq 3 1 (nA KL.encI af.Rules.Classes),.row gy ir 73 3 it,.blk fB 27 B1,.blk b2 27 B0] lz:=qX
 exact j7 _ _ ⟨gO,fB,gx,iq,gy,ir,it,rfl,rfl,rfl,rfl,rfl,tt,(qY.pick [3,2,0,1] _ (by decide) rfl),n8⟩
 refine ZB (cs:=B1) Z Z Z Z Z yk Z jx ?_
 intro ud lZ qZ
 exact j5 _ _ ⟨U8,fB,lZ,rfl,rfl,rfl,rfl,rfl,(zN _),(qZ.pick [2,1,0] _ (by decide) rfl)⟩
 refine ZB (cs:=B1) Z Z Z Z Z yk Z cm ?_
 intro lA fC jy
 refine yU ?_ ?_
 have n9:=bo.le aw
 have od:=bp.le aw
 refine zP 0 Z Z Z Z (zQ Z Z Tryz.call14 (zH Z zZ) Z) jy (fun hs=>wDH p0 a8 bd bb be lA U8 hs n9 od eQ) (.inr Z) ?_
 rintro gP tM uN lB tu q0 ⟨gz,iu,gA,iv,iw,rfl,rfl,oe⟩
 have q5:sW w U gP [.row gz iu 3 1 (nA KL.encI af.Rules.Classes),.row gA iv 73 3 iw,.blk fC 34 B1,.blk b2 27 B0] lB:=q0
 exact j6 _ _ ⟨gP,fC,gz,iu,gA,iv,iw,rfl,rfl,rfl,rfl,rfl,tu,(q5.pick [3,2,0,1] _ (by decide) rfl),oe⟩
 refine ZB (cs:=B1) Z Z Z Z Z yZ Z jy ?_
 intro ue l0 q6
 exact j5 _ _ ⟨U8,l0,fC,rfl,rfl,rfl,rfl,rfl,(zN _),(q6.pick [2,0,1] _ (by decide) rfl)⟩
 rintro vb fy ⟨t8,am,bt,bw,bj,bn,eD,ao,bu,bx,bv,bz,eI,me,iL,iM,j8,jz,og,oh⟩
 refine sR (.fl 0 (.fx 1 (wFp (.nil)) .stop)) Z ?_
 let B5:List Value:=[.slice bt br.length bw,jV cz,jV cA,jV cB,jV cC,jV cD,jV cE,.slice bj bI.length bn]
 refine oL Z (jz.ldBA (j:=1) Z Z iL yK Zf (vs:=B5) Z Z) ?_
 have q:=jz.freezeR (k:=2) (n:=br.length) rfl (wAC (f:=KL.encI) (sz:=1) (fun _=>rfl) br) (by decide)
 obtain ⟨lg,eW,tc,q7⟩:=q
 let B6:List Value:=[.slice bu bs.length bx,jV dB,jV dC,jV dD,jV dE,jV dF,jV dG,.slice bv co.length bz]
 let B7:Res:=.row bu bx 3 1 (nA KL.encI bs)
 let B8:Res:=.row bv bz 205 3 eI
 have q8:sW w U lg [.blk b2 27 B0,.blk am 27 B5,.row bj bn 73 3 eD,.blk ao 34 B6,B7,B8] fy:=q7
 have oj:=og.le eW
 have q:=q8.freezeRR (R:=wFL) (k:=2) rfl oj rfl (by decide)
 obtain ⟨gQ,eX,jU,q9⟩:=q
 have rd:sW w U gQ [.blk b2 27 B0,.blk am 27 B5,.blk ao 34 B6,B7,B8] fy:=q9
 have jd:=tc.le eX
 have q:=bnd jT
 obtain ⟨⟨av,tH⟩,om,jL⟩:=q
 try dsimp only at jL
 refine zP 0 Z Z Z Z (zQ Z Z Tryz.call16 (zH Z zZ) Z) rd (fun hs=>wLm (⟨(⟨br,cz,cA,cB,cC,cD⟩:wAE),cE,bI⟩:wAD) bt bw bj bn fy gQ hs jd jU om) (.inr Z) ?_
 rintro lh tN uO dV dy re ⟨ff,fD,rfl,rfl⟩
 let B9:Res:=.row ff fD 45 4 (nA wAb av)
 have jA:sW w U lh [B9,.blk b2 27 B0,.blk am 27 B5,.blk ao 34 B6,B7,B8] dV:=re
 refine oM Z Z (oR Z (ZF Z Z (v:=.slice ff av.length fD) Z) (oR Z (ZF Z Z (v:=jV tH) Z) (oA Z Z (oA Z Z (eN (sR (.fl 0 (.fx 1 (wFp (.nil)) .stop)) Z (oL Z (jA.ldBA (j:=3) Z Z iM yg yO (vs:=B6) Z Z) ?_)))))))
 have q:=jA.freezeR (k:=4) (n:=bs.length) rfl (wAC (f:=KL.encI) (sz:=1) (fun _=>rfl) bs) (by decide)
 obtain ⟨li,dz,tf,rf⟩:=q
 have rg:sW w U li [B9,.blk b2 27 B0,.blk am 27 B5,.blk ao 34 B6,B8] dV:=rf
 have oq:=oh.le eW
 have ot:=oq.le eX
 have ou:=ot.le dy
 have ov:=ou.le dz
 have q:=rg.freezeRR (R:=wGH) (k:=4) rfl ov rfl (by decide)
 obtain ⟨gR,dA,jW,rh⟩:=q
 have ri:sW w U gR [B9,.blk b2 27 B0,.blk am 27 B5,.blk ao 34 B6] dV:=rh
 have je:=tf.le dA
 have q:=bnd jL
 obtain ⟨⟨bh,tI⟩,ow,jM⟩:=q
 try dsimp only at jM
 refine zP 0 Z Z Z Z (zQ Z Z Tryz.call17 (zH Z zZ) Z) ri (fun hs=>wHo (⟨(⟨bs,dB,dC,dD,dE,dF⟩:wAu),dG,co⟩:wAT) bu bx bv bz dV gR hs je jW ow) (.inr Z) ?_
 rintro cR tO uP lC cp rj ⟨fg,fE,rfl,rfl⟩
 let bm:Res:=.row fg fE 44 4 (nA wAI bh)
 have f5:sW w U cR [bm,B9,.blk b2 27 B0,.blk am 27 B5,.blk ao 34 B6] lC:=rj
 refine oM Z Z (oR Z (ZF Z Z (v:=.slice fg bh.length fE) Z) (oR Z (ZF Z Z (v:=jV tI) Z) (oA Z Z (oA Z Z (eN (zG (sR wNh Z (oM Z Z (oM Z Z (oR Z (ZU Z Z Z) (oM Z Z (ifc jM ?_ ?_))))))))))))
 intro az sB
 refine zh Z Z Z (zL Z Z (zo (fun h=>h az.out))) Z Z (zf Z Z Z (zL Z Z (zo (fun h=>h az.out))) (fun _=>zW Z Z YJ) (zh Z Z Z (zL Z Z (zo (fun h=>h az.out))) Z Z (zf Z Z Z (zL Z Z (zo (fun h=>h az.out))) (fun _=>zW Z Z Zs) (zf Z Z Z (zL Z Z (zo (fun h=>h az.out))) (fun _=>ZU Z Z Z) (oR Z (za Z (zo (fun h=>h az.out)) Z) (eN (ifc sB ?_ ?_)))))))
 intro fG gj
 refine zn (zo (fun h=>h fG.out)) (kN (zG (sR fL3 Z (oM Z Z (oR Z (zW Z Z YJ) (oM Z Z (eN (zR ?_))))))))
 have q:=wBQ gj
 obtain ⟨uJ,gc⟩:=q
 have q:=wBP gc
 obtain ⟨gh,sm⟩:=q
 replace gh:=zI gh
 refine yF (fun aq _ σ_ w_=>∃ (U_:PHeap),σ_ 44=jV (↑aq:Int)/\σ_ 1=.pointer (some ⟨b2,0,none⟩)/\σ_ 3=.pointer (some ⟨am,0,none⟩)/\σ_ 4=.pointer (some ⟨ao,0,none⟩)/\σ_ 5=.slice ff av.length fD/\σ_ 7=.slice fg bh.length fE/\σ_ 43=jV (↑av.length:Int)/\PHeap.Le cR U_/\sW w U U_ [.blk b2 27 B0,.blk am 27 B5,.blk ao 34 B6,B9,bm] w_) sm ?_ ?_ ?_
 exact ⟨cR,rfl,me,iL,iM,rfl,rfl,rfl,(zN _),(f5.pick [2,3,4,1,0] _ (by decide) rfl)⟩
 rintro aq ⟨⟩ u9 vc ij gf ⟨gS,fV,mg,mh,mi,iN,iO,iP,tv,rk⟩ jX sg
 try dsimp only at jX
 have ix:Hid ((↑aq:Int) < (↑av.length:Int)):=zI (wAo gf)
 replace gf:=zI gf
 have sw:Hid (w64 ((↑aq:Int) + 1)=(↑(aq + 1):Int)):=zI (by have h1:=gh.out;have h2:=ix.out;rw [wAQ] <;> omega)
 refine sR fL1 rfl (zf rfl rfl rfl rfl (fun _=>zV rfl fV iP) (eN (zG (cT Z ix (kN (zG (zR (sR fL2 rfl (zh rfl rfl rfl rfl rfl fV (yw rfl rfl rfl rfl rfl rfl (eN (zG (ZY ZQ [3,3,3,1,3,3,3,1,3] fL9 (by kernel_rfl) ?_)))))))))))))
 have bF:=rk.drew
 generalize hw_W1218:({ ij with drawn:=ij.drawn + 1 }:World)=uf at bF ⊢
 refine oM Z iN (oM Z Z (bnK jX fun _ fY sC=>?_))
 obtain ⟨uu,jt⟩:=bF.rowSome (j:=3) rfl (by rw [wAC (f:=wAb) (sz:=4) (fun _=>rfl) av];have hz:=wAY fY;omega)
 refine oR Z (ZC Z Z jt Z YJ YX (wAY fY)) ?_
 have sr:=wBO (xs:=av) (wAY fY)
 refine zy rfl rfl rfl rfl (bF.ldRA (j:=3) rfl jt rfl rfl Tryz.isAgg45 YX (vs:=[jV ((gd av aq).Bib),jV ((gd av aq).Done),jV ((gd av aq).Time),jV ((gd av aq).By)]) (wEi (sz:=4) (fun _=>rfl) _ _ _ sr (by first | omega | rfl | simp) rfl) rfl) rfl (zh rfl rfl rfl rfl rfl iO (zh rfl rfl rfl rfl rfl rfl (bnK sC fun _ fZ sD=>?_)))
 obtain ⟨uv,ju⟩:=bF.rowSome (j:=4) rfl (by rw [wAC (f:=wAI) (sz:=4) (fun _=>rfl) bh];have hz:=wAY fZ;omega)
 refine oR Z (ZC Z Z ju Z Zs yr (wAY fZ)) ?_
 have ss:=wBO (xs:=bh) (wAY fZ)
 refine zy rfl rfl rfl rfl (bF.ldRA (j:=4) rfl ju rfl rfl Tryz.isAgg44 yr (vs:=[jV ((gd bh aq).Bib),jV ((gd bh aq).Done),jV ((gd bh aq).Time),jV ((gd bh aq).By)]) (wEi (sz:=4) (fun _=>rfl) _ _ _ ss (by first | omega | rfl | simp) rfl) rfl) rfl (zf rfl rfl rfl rfl (fun _=>zz (Runs.neS (enc:=wAI) (a:=(⟨(gd av aq).Bib,(gd av aq).Done,(gd av aq).Time,(gd av aq).By⟩:wAf)) (b:=(gd bh aq)) rfl rfl rfl eqT44 eqG44) (congrArg nE (decide_not).symm)) (eN (ifc sD ?_ ?_)))
 intro fH sE
 refine zn (zo (fun h=>h fH.out)) (ZO (zd (zF (rR fL2 Z (oR Z (zz (zY Z fV Z) (congrArg (jV) sw.out)) (oM Z Z (zg ?_)))))))
 have q:=nD sE
 obtain rfl:=q
 exact zF ⟨Z,_,Z,⟨gS,Z,mg,mh,mi,iN,iO,iP,tv,bF⟩⟩
 intro fH sF
 refine cT Z fH (sR fL1 Z (oA Z Z (eN (zS (zU (zK ?_))))))
 have q:=wAM sF
 obtain ⟨tF,sG,mc⟩:=q
 have q:=wBI gj gc (sg tF mc)
 obtain rfl:=q
 refine zK (zU (zK ?_))
 have hE:=nD sG;first | subst r | cases hE
 exact ⟨rfl,_,(zw rfl),gS,_,(bF.pick [] _ (by decide) rfl),rfl,rfl⟩
 rintro ⟨⟩ vd lD ⟨lj,n1,mj,fR,iQ,uy,uz,ml,cr,jB⟩ sh
 have jN:=wCg gj gc sh
 try dsimp only at jN
 have l8:Hid (¬ ((↑(((↑av.length:Int):Int) - 0).toNat:Int) < (↑av.length:Int))):=zI (wAc)
 refine sR fL1 Z (oR Z (zV Z n1 ml) (eN (zG (cF Z l8 (ZD (zb (zb (zr (zF (sR (.fl 0 (.fx 1 (wFp (.nil)) .stop)) Z (oL Z (jB.ldBA (j:=1) Z Z fR yK Zf (vs:=B5) Z Z) ?_)))))))))))
 have ox:=jd.le dy
 have oy:=ox.le dz
 have oz:=oy.le dA
 have oB:=oz.le cp
 have jf:=oB.le cr
 have oC:=jU.le dy
 have oD:=oC.le dz
 have oE:=oD.le dA
 have oG:=oE.le cp
 have jg:=oG.le cr
 have q:=bnd jN
 obtain ⟨⟨gw,tJ⟩,oH,jO⟩:=q
 try dsimp only at jO
 refine zP 0 Z Z Z Z (zQ Z Z Tryz.call18 (zH Z zZ) Z) jB (fun hs=>wHH (⟨(⟨br,cz,cA,cB,cC,cD⟩:wAE),cE,bI⟩:wAD) bt bw bj bn lD lj hs jf jg oH) (.inr Z) ?_
 rintro lk tP uQ fz ct rn ⟨fh,fI,jh,rfl,rfl⟩
 have ro:sW w U lk [.row fh fI 22 1 (nA wGw jh),inn 3 1 KL.encI jh gw,.blk b2 27 B0,.blk am 27 B5,.blk ao 34 B6,B9,bm] fz:=rn
 have q:=St.freezeN (R:=wDe) ro (fun _ _ _ _ h=>⟨_,_,rfl,h⟩) (fun _=>rfl) (by decide) rfl
 obtain ⟨gT,cu,th,rp⟩:=q
 have jC:sW w U gT [.blk b2 27 B0,.blk am 27 B5,.blk ao 34 B6,B9,bm] fz:=rp
 refine oM Z Z (oR Z (ZF Z Z (v:=.slice fh gw.length fI) Z) (oR Z (ZF Z Z (v:=jV tJ) Z) (oA Z Z (oA Z Z (eN (sR (.fl 0 (.fx 1 (wFp (.nil)) .stop)) Z (oL Z (jC.ldBA (j:=2) Z Z iQ yg yO (vs:=B6) Z Z) ?_)))))))
 have oI:=je.le cp
 have oJ:=oI.le cr
 have oK:=oJ.le ct
 have ji:=oK.le cu
 have oO:=jW.le cp
 have oP:=oO.le cr
 have oQ:=oP.le ct
 have jj:=oQ.le cu
 have q:=bnd jO
 obtain ⟨⟨k9,tK⟩,oS,jP⟩:=q
 try dsimp only at jP
 refine zP 0 Z Z Z Z (zQ Z Z Tryz.call19 (zH Z zZ) Z) jC (fun hs=>wGn (⟨(⟨bs,dB,dC,dD,dE,dF⟩:wAu),dG,co⟩:wAT) bu bx bv bz fz gT hs ji jj oS) (.inr Z) ?_
 rintro gU tQ uR fA bJ rq ⟨fj,fJ,ma,rfl,rfl,oU⟩
 have jD:sW w U gU [.row fj fJ 22 1 ma,.blk b2 27 B0,.blk am 27 B5,.blk ao 34 B6,B9,bm] fA:=rq
 refine oM Z Z (oR Z (ZF Z Z (v:=.slice fj k9.length fJ) Z) (oR Z (ZF Z Z (v:=jV tK) Z) (oA Z Z (oA Z Z (eN (zG (sR (wIo (.fx 6 (.fl 7 (.fl 8 .nil)) .stop)) Z (oM Z Z (oM Z Z (oR Z (ZU Z Z Z) (oM Z Z (ifc jP ?_ ?_))))))))))))
 intro bg sH
 refine zh Z Z Z (zL Z Z (zo (fun h=>h bg.out))) Z Z (zh Z Z Z (zL Z Z (zo (fun h=>h bg.out))) Z Z ?_)
 have q:=jD.freezeRR (R:=wDe) (k:=0) rfl oU rfl (by decide)
 obtain ⟨gV,bK,tj,ru⟩:=q
 have rv:sW w U gV [.blk b2 27 B0,.blk am 27 B5,.blk ao 34 B6,B9,bm] fA:=ru
 have oV:=th.le bJ
 have oW:=oV.le bK
 refine bnK sH fun u4 oX sI=>zP 0 Z Z Z (zL Z Z (zo (fun h=>h bg.out))) (zQ Z Z Tryz.call20 (zH Z (zH Z zZ)) Z) rv (fun hs=>wDi gw fh fI k9 fj fJ fA gV hs oW tj oX) (.inr Z) ?_
 rintro ft tR uS ik cw rx ⟨rfl,rfl⟩
 have f7:sW w U ft [.blk b2 27 B0,.blk am 27 B5,.blk ao 34 B6,B9,bm] ik:=rx
 refine zf Z Z Z (zL Z Z (zo (fun h=>h bg.out))) (fun _=>Za Z Z) (oR Z (za Z (zo (fun h=>h bg.out)) Z) (eN (ifc sI ?_ ?_)))
 intro fK sJ
 refine zn (nC fK.out) (kN (sR (.fl 0 (.fx 1 (wFp (.nil)) .stop)) Z (oL Z (f7.ldBA (j:=1) Z Z fR yK Zf (vs:=B5) Z Z) ?_)))
 have oY:=jf.le ct
 have oZ:=oY.le cu
 have o0:=oZ.le bJ
 have o3:=o0.le bK
 have jk:=o3.le cw
 have o5:=jg.le ct
 have o6:=o5.le cu
 have o7:=o6.le bJ
 have o8:=o7.le bK
 have jl:=o8.le cw
 have q:=bnd sJ
 obtain ⟨⟨ax,lb⟩,o9,jQ⟩:=q
 try dsimp only at jQ
 refine zP 0 Z Z Z Z (zQ Z Z Tryz.call21 (zH Z zZ) Z) f7 (fun hs=>wGj (⟨(⟨br,cz,cA,cB,cC,cD⟩:wAE),cE,bI⟩:wAD) bt bw bj bn ik ft hs jk jl o9) (.inr Z) ?_
 rintro gW tS uT il cx ry ⟨dH,d6,rfl,rfl⟩
 let cQ:Res:=.row dH d6 59 3 (nA wAJ ax)
 have jE:sW w U gW [cQ,.blk b2 27 B0,.blk am 27 B5,.blk ao 34 B6,B9,bm] il:=ry
 refine oM Z Z (oR Z (ZF Z Z (v:=.slice dH ax.length d6) Z) (oR Z (ZF Z Z (v:=jV lb) Z) (oA Z Z (oA Z Z (eN (sR (.fl 0 (.fx 1 (wFp (.nil)) .stop)) Z (oL Z (jE.ldBA (j:=3) Z Z iQ yg yO (vs:=B6) Z Z) ?_)))))))
 have pa:=ji.le bJ
 have pb:=pa.le bK
 have pd:=pb.le cw
 have pe:=pd.le cx
 have pg:=jj.le bJ
 have ph:=pg.le bK
 have pi:=ph.le cw
 have pj:=pi.le cx
 have q:=bnd jQ
 obtain ⟨⟨bi,lc⟩,pm,jR⟩:=q
 try dsimp only at jR
 refine zP 0 Z Z Z Z (zQ Z Z Tryz.call22 (zH Z zZ) Z) jE (fun hs=>wGY (⟨(⟨bs,dB,dC,dD,dE,dF⟩:wAu),dG,co⟩:wAT) bu bx bv bz il gW hs pe pj pm) (.inr Z) ?_
 rintro cS tT uU lE eY rz ⟨dI,d7,rfl,rfl⟩
 let dR:Res:=.row dI d7 58 3 (nA wAV bi)
 have f8:sW w U cS [dR,cQ,.blk b2 27 B0,.blk am 27 B5,.blk ao 34 B6,B9,bm] lE:=rz
 refine oM Z Z (oR Z (ZF Z Z (v:=.slice dI bi.length d7) Z) (oR Z (ZF Z Z (v:=jV lc) Z) (oA Z Z (oA Z Z (eN (zG (zG (yu fun cG bH=>?_))))))))
 have mm:cG 1=.pointer (some ⟨b2,0,none⟩):=(bH 1).trans mj
 have mn:cG 3=.pointer (some ⟨am,0,none⟩):=(bH 3).trans fR
 have mp:cG 6=jV lb:=(bH 6).trans rfl
 have mq:cG 8=jV lc:=(bH 8).trans rfl
 have fS:cG 12=.slice dH ax.length d6:=(bH 12).trans rfl
 have iR:cG 13=.slice dI bi.length d7:=(bH 13).trans rfl
 clear bH
 refine rR wNh Z (oM Z mp (oM Z mq (oR Z (ZU Z Z Z) (oM Z Z (ifc jR ?_ ?_)))))
 intro a7 sK
 refine zh Z Z Z (zL Z Z (zo (fun h=>h a7.out))) Z fS (zf Z Z Z (zL Z Z (zo (fun h=>h a7.out))) (fun _=>zW Z Z Zo) (zh Z Z Z (zL Z Z (zo (fun h=>h a7.out))) Z iR (zf Z Z Z (zL Z Z (zo (fun h=>h a7.out))) (fun _=>zW Z Z Tryz.runUnderlying54) (zf Z Z Z (zL Z Z (zo (fun h=>h a7.out))) (fun _=>ZU Z Z Z) (oR Z (za Z (zo (fun h=>h a7.out)) Z) (eN (ifc sK ?_ ?_)))))))
 intro fL gm
 refine zn (zo (fun h=>h fL.out)) (kN (zG (sR fL3 Z (oM Z fS (oR Z (zW Z Z Zo) (oM Z Z (eN (zR ?_))))))))
 have q:=wBQ gm
 obtain ⟨uK,ge⟩:=q
 have q:=wBP ge
 obtain ⟨gi,sq⟩:=q
 replace gi:=zI gi
 refine yF (fun ay _ σ_ w_=>∃ (U_:PHeap),σ_ 98=jV (↑ay:Int)/\σ_ 1=.pointer (some ⟨b2,0,none⟩)/\σ_ 3=.pointer (some ⟨am,0,none⟩)/\σ_ 12=.slice dH ax.length d6/\σ_ 13=.slice dI bi.length d7/\σ_ 97=jV (↑ax.length:Int)/\PHeap.Le cS U_/\sW w U U_ [.blk b2 27 B0,.blk am 27 B5,.blk ao 34 B6,cQ,dR] w_) sq ?_ ?_ ?_
 exact ⟨cS,rfl,mm,mn,fS,iR,rfl,(zN _),(f8.pick [2,3,4,1,0] _ (by decide) rfl)⟩
 rintro ay ⟨⟩ va ve im gg ⟨gY,fW,mr,ms,iS,iT,iU,tw,rC⟩ jY sj
 try dsimp only at jY
 have iy:Hid ((↑ay:Int) < (↑ax.length:Int)):=zI (wAo gg)
 replace gg:=zI gg
 have sA:Hid (w64 ((↑ay:Int) + 1)=(↑(ay + 1):Int)):=zI (by have h1:=gi.out;have h2:=iy.out;rw [wAQ] <;> omega)
 refine sR fL1 rfl (zf rfl rfl rfl rfl (fun _=>zV rfl fW iU) (eN (zG (cT Z iy (kN (zG (zR (sR fL2 rfl (zh rfl rfl rfl rfl rfl fW (yw rfl rfl rfl rfl rfl rfl (eN (zG (ZY ZQ [3,3,3,1,3,3,3,1,3] fL9 (by kernel_rfl) ?_)))))))))))))
 have bG:=rC.drew
 generalize hw_W1409:({ im with drawn:=im.drawn + 1 }:World)=ug at bG ⊢
 refine oM Z iS (oM Z Z (bnK jY fun _ f0 sL=>?_))
 obtain ⟨uw,jv⟩:=bG.rowSome (j:=3) rfl (by rw [wAC (f:=wAJ) (sz:=3) (fun _=>rfl) ax];have hz:=wAY f0;omega)
 refine oR Z (ZC Z Z jv Z Zo ya (wAY f0)) ?_
 have su:=wBO (xs:=ax) (wAY f0)
 refine zy rfl rfl rfl rfl (bG.ldRA (j:=3) rfl jv rfl rfl Tryz.isAgg59 ya (vs:=[jV ((gd ax ay).Bib),jV ((gd ax ay).Place),jV ((gd ax ay).Time)]) (wEi (sz:=3) (fun _=>rfl) _ _ _ su (by first | omega | rfl | simp) rfl) rfl) rfl (zh rfl rfl rfl rfl rfl iT (zh rfl rfl rfl rfl rfl rfl (bnK sL fun _ f4 sM=>?_)))
 obtain ⟨ux,jw⟩:=bG.rowSome (j:=4) rfl (by rw [wAC (f:=wAV) (sz:=3) (fun _=>rfl) bi];have hz:=wAY f4;omega)
 refine oR Z (ZC Z Z jw Z Tryz.runUnderlying54 YZ (wAY f4)) ?_
 have sv:=wBO (xs:=bi) (wAY f4)
 refine zy rfl rfl rfl rfl (bG.ldRA (j:=4) rfl jw rfl rfl Tryz.isAgg58 YZ (vs:=[jV ((gd bi ay).Bib),jV ((gd bi ay).Place),jV ((gd bi ay).Time)]) (wEi (sz:=3) (fun _=>rfl) _ _ _ sv (by first | omega | rfl | simp) rfl) rfl) rfl (zf rfl rfl rfl rfl (fun _=>zz (Runs.neS (enc:=wAV) (a:=(⟨(gd ax ay).Bib,(gd ax ay).Place,(gd ax ay).Time⟩:wAR)) (b:=(gd bi ay)) rfl rfl rfl eqT58 eqG58) (congrArg nE (decide_not).symm)) (eN (ifc sM ?_ ?_)))
 intro fM sN
 refine zn (zo (fun h=>h fM.out)) (ZO (zd (zF (rR fL2 Z (oR Z (zz (zY Z fW Z) (congrArg (jV) sA.out)) (oM Z Z (zg ?_)))))))
 have q:=nD sN
 obtain rfl:=q
 exact zF ⟨Z,_,Z,⟨gY,Z,mr,ms,iS,iT,iU,tw,bG⟩⟩
 intro fM sO
 refine cT Z fM (sR fL1 Z (oA Z Z (eN (zS (zU (zK ?_))))))
 have q:=wAM sO
 obtain ⟨tG,sP,md⟩:=q
 have q:=wBI gm ge (sj tG md)
 obtain rfl:=q
 refine zK (zU (zK ?_))
 have hE:=nD sP;first | subst r | cases hE
 exact ⟨rfl,_,(zw rfl),gY,_,(bG.pick [] _ (by decide) rfl),rfl,rfl⟩
 rintro ⟨⟩ vf lG ⟨lm,n2,mw,mx,uA,uB,my,eZ,f9⟩ sl
 have jS:=wCg gm ge sl
 try dsimp only at jS
 have mb:Hid (¬ ((↑(((↑ax.length:Int):Int) - 0).toNat:Int) < (↑ax.length:Int))):=zI (wAc)
 refine sR fL1 Z (oR Z (zV Z n2 my) (eN (zG (cF Z mb (ZD (zb (zb (zr (zF (sR (.fl 0 (.fl 1 (.fx 2 (.fl 3 (.fx 4 (.fl 5 (.fl 6 .nil)) .stop)) .stop))) Z (oL Z (f9.ldBA (j:=1) Z Z mx yK Zf (vs:=B5) Z Z) (oL Z (f9.ldBA (j:=0) Z Z mw yK Zf (vs:=B0) Z Z) ?_))))))))))))
 have pn:=jk.le cx
 have pp:=pn.le eY
 have pq:=pp.le eZ
 have pt:=jl.le cx
 have pu:=pt.le eY
 have py:=pu.le eZ
 have pz:=bo.le aw
 have pC:=pz.le j8
 have pD:=pC.le eW
 have pE:=pD.le eX
 have pF:=pE.le dy
 have pG:=pF.le dz
 have pH:=pG.le dA
 have pI:=pH.le cp
 have pJ:=pI.le cr
 have pK:=pJ.le ct
 have pL:=pK.le cu
 have pM:=pL.le bJ
 have pN:=pM.le bK
 have pO:=pN.le cw
 have pP:=pO.le cx
 have pQ:=pP.le eY
 have pR:=pQ.le eZ
 have pS:=bp.le aw
 have pT:=pS.le j8
 have pU:=pT.le eW
 have pV:=pU.le eX
 have pW:=pV.le dy
 have pX:=pW.le dz
 have pY:=pX.le dA
 have pZ:=pY.le cp
 have p6:=pZ.le cr
 have p7:=p6.le ct
 have p8:=p7.le cu
 have p9:=p8.le bJ
 have qa:=p9.le bK
 have qb:=qa.le cw
 have qc:=qb.le cx
 have qd:=qc.le eY
 have qe:=qd.le eZ
 refine bnK jS fun u5 qf sQ=>zP 0 Z Z Z Z (zQ Z Z Tryz.call23 (zH Z (zH Z zZ)) Z) f9 (fun hs=>wHT (⟨(⟨br,cz,cA,cB,cC,cD⟩:wAE),cE,bI⟩:wAD) bt bw bj bn p0 a8 bd bb be lG lm hs pq py pR qe qf) (.inr Z) ?_
 rintro fu tU uV io uG rD ⟨rfl,rfl⟩
 have jG:sW w U fu [.blk b2 27 B0,.blk am 27 B5,.blk ao 34 B6,cQ,dR] io:=rD
 refine oM Z Z (ifc sQ ?_ ?_)
 intro de sS
 refine bnK sS fun u6 qg sT=>zP 0 Z Z Z (zL Z Z (congrArg nE de.out)) (zQ Z Z Tryz.call13 zZ Z) jG (fun hs=>wEx io fu hs qg) (.inr Z) ?_
 rintro gZ tV uW lH uH rE ⟨rfl,rfl⟩
 have rF:sW w U gZ [.blk b2 27 B0,.blk am 27 B5,.blk ao 34 B6,cQ,dR] lH:=rE
 refine oR Z (zX Z (congrArg nE de.out) Z) (oA Z Z (eN (zS ?_)))
 have hE:=nD sT;first | subst r | cases hE
 exact ⟨rfl,_,(zw rfl),gZ,_,(rF.pick [] _ (by decide) rfl),rfl,rfl⟩
 intro de sU
 refine ZI Z Z Z (zO Z Z (congrArg nE (nG.2 de.out)) Z) (oR Z (za Z (congrArg nE (nG.2 de.out)) Z) (oA Z Z (eN (zS ?_))))
 have hE:=nD sU;first | subst r | cases hE
 exact ⟨rfl,_,(zw rfl),fu,_,(jG.pick [] _ (by decide) rfl),rfl,rfl⟩
 intro fL sV
 refine cT Z fL (sR fL1 Z (oA Z Z (eN (zS (zK ?_)))))
 have hE:=nD sV;first | subst r | cases hE
 exact ⟨rfl,_,(zw rfl),cS,_,(f8.pick [] _ (by decide) rfl),rfl,rfl⟩
 intro a7 sY
 refine oT Z a7 (oT Z a7 (oT Z a7 (oT Z a7 (oT Z a7 (oR Z (zX Z (Zl a7.out) Z) (eN (ZA Z (sR fL1 Z (oA Z Z (eN (zS (zK ?_))))))))))))
 have hE:=nD sY;first | subst r | cases hE
 exact ⟨rfl,_,(zw rfl),cS,_,(f8.pick [] _ (by decide) rfl),rfl,rfl⟩
 intro fK sZ
 refine ZA (nF (fK.out)) (sR fL1 Z (oA Z Z (eN (zS (zK ?_)))))
 have hE:=nD sZ;first | subst r | cases hE
 exact ⟨rfl,_,(zw rfl),ft,_,(f7.pick [] _ (by decide) rfl),rfl,rfl⟩
 intro bg s3
 refine oT Z bg (oT Z bg (ZI Z Z Z (zO Z Z (Zl bg.out) Z) (oT Z bg (oR Z (zX Z (Zl bg.out) Z) (eN (ZA Z (sR fL1 Z (oA Z Z (eN (zS (zK ?_)))))))))))
 have hE:=nD s3;first | subst r | cases hE
 exact ⟨rfl,_,(zw rfl),gU,_,(jD.pick [] _ (by decide) rfl),rfl,rfl⟩
 intro fG s4
 refine cT Z fG (sR fL1 Z (oA Z Z (eN (zS (zK ?_)))))
 have hE:=nD s4;first | subst r | cases hE
 exact ⟨rfl,_,(zw rfl),cR,_,(f5.pick [] _ (by decide) rfl),rfl,rfl⟩
 intro az s5
 refine oT Z az (oT Z az (oT Z az (oT Z az (oT Z az (oR Z (zX Z (Zl az.out) Z) (eN (ZA Z (sR fL1 Z (oA Z Z (eN (zS (zK ?_))))))))))))
 have hE:=nD s5;first | subst r | cases hE
 exact ⟨rfl,_,(zw rfl),cR,_,(f5.pick [] _ (by decide) rfl),rfl,rfl⟩
end Go.Proofs.YtabadkdjndnliaaGreat
