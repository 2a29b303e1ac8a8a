import Derived.Test.YtlnfbjphfoipaaaQ7
import Derived.Test.YtlnfbjphfoipaaaQ6
set_option linter.all false
open List renaming flatMap->hD,getElem_cons_succ->hH,getElem_cons_zero->hJ,getElem_toArray->nA,length_set->nD,set->nE
open Int renaming toNat_natCast->nB,eq_ofNat_of_zero_le->nI
open Option.some renaming inj->nH
open Go.Value renaming bool->nJ
open Bool renaming eq_false_iff->nL
namespace Go.Proofs.Ytlnfbjphfoipaaa
open Go.KL
def gCa:Sch:=.fx 1 (.fl 2 .nil) .stop
def gCb:Sch:=.fx 2 (.fx 3 .nil .stop) .stop
def gCc:Sch:=.fx 6 (.fx 7 .nil .stop) .stop
def gCd:Sch:=.fx 8 (.fx 9 .nil .stop) .stop
def gCe:Sch:=.fl 7 (.fx 9 .nil .stop)
def gCf:Sch:=.fx 4 (.fl 5 .nil) .stop
def gCg:Sch:=.fx 7 (.fx 8 .nil .stop) .stop
def gCh:Sch:=.fx 6 (.fx 8 .nil .stop) .stop
def gCi:Sch:=.fx 0 (.fx 1 .nil .stop) .stop
def gCj:Sch:=.fx 1 (.fx 2 .nil .stop) .stop
def gCk:Sch:=.fx 2 (.fl 3 .nil) .stop
def gCl:Sch:=.fl 14 (.fx 16 .nil .stop)
def gCm:Sch:=.fl 17 (.fx 18 .nil .stop)
def gCn:Sch:=.fx 6 gCe .stop
def gCo:Sch:=.fx 4 gCe .stop
def gCp:Sch:=.fx 1 (.fl 2 (.fl 3 .nil)) .stop
def gCq:Sch:=.fx 3 gCf .stop
def gCr:Sch:=.fl 22 (.fl 23 (.fx 24 .nil .stop))
def gCs:Sch:=.fx 0 (.fl 1 (.fl 2 .nil)) .stop
def gCt:Sch:=.fx 7 (.fl 8 (.fl 9 .nil)) .stop
def gCu:Sch:=.fl 14 (.fx 15 (.fx 16 .nil .stop) .stop)
def gCv:Sch:=.fx 13 gCl .stop
def gCw:Sch:=.fx 3 (.fl 4 (.fl 5 .nil)) .stop
def gCx:Sch:=.fx 13 (.fl 14 (.fl 15 .nil)) .stop
def gCy:Sch:=.fl 7 (.fx 2 gCd .stop)
def gCz:Sch:=.fl 4 (.fl 5 gCh)
def gDa:Sch:=.fx 0 (.fl 5 gCh) .stop
def gDb:Sch:=.fx 21 gCr .stop
def gDc:Sch:=.fl 0 gCp
def gDd:Sch:=.fl 0 (.fl 1 gCk)
def gDe:Sch:=.fx 7 gCv .stop
def gDf:Sch:=.fx 12 gCx .stop
def gDg:Sch:=.fx 6 (.fl 7 gCd) (.fx 8 gCn .stop)
def gDh:Sch:=.fx 4 (.fl 7 gCd) (.fx 8 gCo .stop)
def gDi:Sch:=.fx 0 (.fx 1 (.fx 2 (.fx 3 (.fl 4 .nil) .stop) .stop) .stop) .stop
def gDj:Sch:=.fl 5 (.fx 6 gCg (.fx 7 gCh .stop))
def gDk:Sch:=.fx 3 gCz .stop
def gDl:Sch:=.fx 13 gCu (.fx 15 gCv .stop)
def gDm:Sch:=.fx 6 (.fl 12 gCv) .stop
def gDn:Sch:=.fx 4 (.fx 16 gCm .stop) (.fx 16 (.fx 4 gCm .stop) .stop)
def gDo:Sch:=.fx 2 gDk .stop
def gDp:Sch:=.fx 1 gDk .stop
def gDq:Sch:=.fx 0 gDm .stop
def gDr:Sch:=.fl 1 (.fl 2 (.fx 0 (.fl 3 (.fx 4 (.fx 5 .nil .stop) .stop)) (.fx 4 (.fx 0 (.fl 3 (.fx 5 .nil .stop)) .stop) .stop)))
def gDs:Sch:=.fl 0 (.fl 2 (.fx 1 gCq (.fx 3 (.fx 1 gCf .stop) .stop)))
def gDt:Sch:=.fx 3 (.fl 4 gDj) (.fx 7 gDk .stop)
def gDu:Sch:=.fl 4 (.fx 0 gDj (.fx 7 gDa .stop))
def gDv:Sch:=.fx 0 gDk (.fx 3 (.fl 4 gDa) .stop)
def gDw:Sch:=.fx 6 (.fl 12 gDl) (.fx 15 gDm .stop)
def gDx:Sch:=.fx 6 (.fl 12 gDe) (.fx 7 gDm .stop)
def gDy:Sch:=.fl 0 (.fl 2 (.fx 1 (.fx 3 (.fx 4 (.fx 5 (.fl 6 .nil) .stop) .stop) .stop) .stop))
def gDz:Sch:=.fx 2 gDt (.fx 7 gDo .stop)
def gEa:Sch:=.fx 1 gDt (.fx 7 gDp .stop)
def gEb:Sch:=.fx 1 gDo (.fx 2 gDp .stop)
def gEc:Sch:=.fx 0 gDo (.fx 2 gDv .stop)
def gEd:Sch:=.fx 0 gDp (.fx 1 gDv .stop)
def gEe:Sch:=.fx 0 gDt (.fx 3 gDu (.fx 7 gDv .stop))
set_option maxHeartbeats 4000000
theorem wFz (p0:wAE) (aj:Option Addr) (an:Nat) (ak:Option Addr) (ao:Nat) (am:Option Addr) (ap:Nat) (ah:Option Addr) (ai:Nat) (p1:wAK) (w:World) (U:PHeap) (hS:St0 w U []) (bg:Sl U 1 aj an p0.Starts.length (hD KL.encI p0.Starts)) (bh:Sl U 2 ak ao p0.Splits.length (hD wAC p0.Splits)) (bi:Sl U 3 am ap p0.Clocks.length (hD wAA p0.Clocks)) (bj:Sl U 4 ah ai p0.Readings.length (hD wAB p0.Readings)) {r:Bool} (hm:wDh p0 p1=some r):Gv Try.prog 117 [.agg #[.slice aj p0.Starts.length an,.slice ak p0.Splits.length ao,.slice am p0.Clocks.length ap,.slice ah p0.Readings.length ai],.agg #[jV p1.Kind,jV p1.Skier,jV p1.Index,.bool p1.Up]] w (wBw w [] U (fun U_ L_ v=>v=.bool r/\L_=[])):=by
 unfold wDh at hm
 refine Gv.of Try.func117 Z Try.ntmps117 Try.results117 Z (sR (.fx 0 gCa .stop) Z ?_)
 let B0:List Value:=[.slice aj p0.Starts.length an,.slice ak p0.Splits.length ao,.slice am p0.Clocks.length ap,.slice ah p0.Readings.length ai]
 refine zy (cs:=B0) rfl rfl rfl rfl rfl rfl (by rfl) hS ?_
 intro W1 b2 bc
 let B1:List Value:=[jV p1.Kind,jV p1.Skier,jV p1.Index,.bool p1.Up]
 refine zy (cs:=B1) rfl rfl rfl rfl rfl rfl (by rfl) bc ?_
 intro W5 b6 ag
 refine oA Z Z (eN (sR (wKg (.fx 10 (.fl 11 (.fl 12 .nil)) .stop)) Z (oR Z (zE Z Z zl Z zC) (oL Z (ag.ldB (j:=0) Z Z Z zG (v:=jV p1.Skier) Z) (oR Z (yO Z Z Z) (oM Z Z ?_))))))
 by_cases c9:p1.Skier=0
 have aw:=hm;rw [if_pos c9] at aw;replace c9:=zO c9
 refine rU Z (wT Z c9) (zE Z Z zl Z zC) (ZF Z Z Z (wT Z c9) (ag.ldB (j:=0) Z Z Z zG (v:=jV p1.Index) Z) Z (rU Z (wT Z c9) (zE Z Z zI Z ZO) (ZF Z Z Z (wT Z c9) (ag.ldB (j:=1) Z Z Z Zs (v:=.slice ah p0.Readings.length ai) Z) Z (rU Z (wT Z c9) (zx Z Z ZN) (rU Z (wT Z c9) (yP Z Z Z) (bnK aw fun bn a9 bd=>zF 0 Z Z Z (wT Z c9) (zD Z Z yR (zB Z (zB Z (zB Z zJ))) Z) ag (fun hs=>wBb p1.Index 0 (w64 ((↑p0.Readings.length:Int) - 1)) W5 U hs a9) (.inr Z) ?_))))))
 rintro av be bm ay bk ba ⟨rfl,rfl⟩
 have bb:sW w U av [.blk b6 78 B1,.blk b2 28 B0] ay:=ba
 refine oR Z (zN Z (Zi c9.out) Z) (oA Z Z (eN (zR ?_)))
 have hE:=nH bd;first | subst r | cases hE
 exact ⟨rfl,_,(ZL rfl),av,_,(bb.pick [] _ (by decide) rfl),rfl,rfl⟩
 have ax:=hm;rw [if_neg c9] at ax;replace c9:=zO c9
 refine oF Z c9 (oF Z c9 (oF Z c9 (oF Z c9 (oF Z c9 (oF Z c9 (ZC Z Z Z (zV Z Z (ZD c9.out) Z) (oR Z (zg Z (ZD c9.out) Z) (oA Z Z (eN (zR ?_))))))))))
 have hE:=nH ax;first | subst r | cases hE
 exact ⟨rfl,_,(ZL rfl),U,_,(ag.pick [] _ (by decide) rfl),rfl,rfl⟩
theorem wGA (p0:wAE) (br:Option Addr) (bu:Nat) (bs:Option Addr) (bv:Nat) (bt:Option Addr) (bw:Nat) (a9:Option Addr) (ba:Nat) (p1:wAK) (w:World) (U:PHeap) (hS:St0 w U []) (gF:Sl U 1 br bu p0.Starts.length (hD KL.encI p0.Starts)) (gG:Sl U 2 bs bv p0.Splits.length (hD wAC p0.Splits)) (gH:Sl U 3 bt bw p0.Clocks.length (hD wAA p0.Clocks)) (fA:Sl U 4 a9 ba p0.Readings.length (hD wAB p0.Readings)) {r:wAL × wAL} (hm:wDA p0 p1=some r):Gv Try.prog 118 [.agg #[.slice br p0.Starts.length bu,.slice bs p0.Splits.length bv,.slice bt p0.Clocks.length bw,.slice a9 p0.Readings.length ba],.agg #[jV p1.Kind,jV p1.Skier,jV p1.Index,.bool p1.Up]] w (wBw w [] U (fun U_ L_ v=>v=.tuple #[.agg #[jV r.1.skier,jV r.1.mat],.agg #[jV r.2.skier,jV r.2.mat]]/\L_=[])):=by
 unfold wDA at hm
 refine Gv.of Try.func118 Z Try.ntmps118 Try.results118 Z (sR (.fx 0 (.fx 1 gCb .stop) .stop) Z ?_)
 let B0:List Value:=[.slice br p0.Starts.length bu,.slice bs p0.Splits.length bv,.slice bt p0.Clocks.length bw,.slice a9 p0.Readings.length ba]
 refine zy (cs:=B0) rfl rfl rfl rfl rfl rfl (by rfl) hS ?_
 intro W1 b2 fd
 let B1:List Value:=[jV p1.Kind,jV p1.Skier,jV p1.Index,.bool p1.Up]
 refine zy (cs:=B1) rfl rfl rfl rfl rfl rfl (by rfl) fd ?_
 intro W5 b6 fz
 let B2:List Value:=[jV 0,jV 0]
 refine zQ (cs:=B2) Z Z Z Z Z zb Z fz ?_
 intro W9 ag ew
 refine zQ (cs:=B2) Z Z Z Z Z zb Z ew ?_
 intro f7 ah az
 refine eN (sR (wHG gCc) Z (oR Z (zE Z Z zI Z ZO) (oL Z (az.ldB (j:=3) Z Z Z Zs (v:=.slice a9 p0.Readings.length ba) Z) (oR Z (zE Z Z zl Z zC) (oL Z (az.ldB (j:=2) Z Z Z zG (v:=jV p1.Index) Z) (bnK hm fun ae bn fC=>?_))))))
 have q:=fA.el (fun _=>rfl) (wAb bn)
 obtain ⟨gu,gJ,er,eu⟩:=q
 refine oR Z (Zd Z Z er Z ZN ZW (wCG bn) (wCM bn)) (oL Z (az.ldCA (f:=0) eu Z Z yj ZW (us:=[jV ae.Skier,jV ae.Mat,jV ae.Clock,jV ae.Time]) Z Z) (zQ (cs:=[jV 0,jV 0,jV 0,jV 0]) Z Z Z Z Z ZX Z az ?_))
 intro gg ac eX
 let B3:List Value:=[jV ae.Skier,jV ae.Mat,jV ae.Clock,jV ae.Time]
 refine zU (j:=0) (vs:=B3) Z Z Z Z eX Z Z Z Z ZW (zA Z) Z Z Z ?_
 intro be fc
 have ff:sW w U U [.blk ac 39 B3,.blk ah 104 B2,.blk ag 104 B2,.blk b6 78 B1,.blk b2 28 B0] be:=fc
 refine eN ?_
 have q:=bnd fC
 obtain ⟨⟨fT,fU⟩,fE,cr⟩:=q
 try dsimp only at cr
 let B4:List Value:=[jV ae.Skier,jV ae.Mat]
 let B5:List Value:=[jV fT,jV fU]
 refine yS (fun σ_ w_=>∃ (U_:PHeap),σ_ 4=.pointer (some ⟨ag,0,none⟩)/\σ_ 5=.pointer (some ⟨ah,0,none⟩)/\PHeap.Le U U_/\sW w U U_ [.blk ac 39 B3,.blk ah 104 B4,.blk ag 104 B5,.blk b6 78 B1,.blk b2 28 B0] w_) ?_ ?_
 refine bnK fE fun cG ay fD=>zt zu [3,1,2,3,2,3,2,3,0,0] (.fl 0 (.fl 1 (.fl 3 (.fl 5 (.fx 2 (.fx 4 gDg (.fx 6 gDh (.fx 8 (.fx 4 gCn (.fx 6 gCo .stop)) .stop))) (.fx 4 (.fx 2 gDg (.fx 6 gCy .stop)) (.fx 6 (.fx 2 gDh (.fx 4 gCy .stop)) .stop))))))) (by kernel_rfl) ?_
 have au:=ff.drew
 generalize hw_W54:({ be with drawn:=be.drawn + 1 }:World)=bf at au ⊢
 let B6:List Value:=[jV cG.skier,jV cG.mat]
 refine ZR (s:=.nil) (M:=fun σ_ w_=>∃ (U_:PHeap),σ_ 4=.pointer (some ⟨ag,0,none⟩)/\σ_ 5=.pointer (some ⟨ah,0,none⟩)/\σ_ 6=.pointer (some ⟨ac,0,none⟩)/\σ_ 13=.pointer (some ⟨ac,2,none⟩)/\σ_ 14=jV ae.Clock/\σ_ 15=.agg B6.toArray/\σ_ 16=.pointer (some ⟨ac,0,none⟩)/\σ_ 17=jV ae.Skier/\σ_ 18=.pointer (some ⟨ac,1,none⟩)/\σ_ 19=jV ae.Mat/\σ_ 20=.agg B4.toArray/\PHeap.Le U U_/\sW w U U_ [.blk ac 39 B3,.blk ah 104 B4,.blk ag 104 B6,.blk b6 78 B1,.blk b2 28 B0] w_) ?_ fun ct=>?_
 rintro gP f8 ⟨cH,cZ,c6,gv,gw,gx,gy,gz,gA,gC,gD,gE,fH,ey⟩
 refine zh ?_
 cases fD
 exact zL ⟨Z,⟨cH,cZ,c6,fH,ey⟩⟩
 refine ZR (s:=.fx 9 .nil .stop) (M:=fun σ_ w_=>∃ (U_:PHeap),σ_ 4=.pointer (some ⟨ag,0,none⟩)/\σ_ 5=.pointer (some ⟨ah,0,none⟩)/\σ_ 6=.pointer (some ⟨ac,0,none⟩)/\σ_ 13=.pointer (some ⟨ac,2,none⟩)/\σ_ 14=jV ae.Clock/\σ_ 15=.agg B6.toArray/\σ_ 16=.pointer (some ⟨ac,0,none⟩)/\σ_ 17=jV ae.Skier/\σ_ 18=.pointer (some ⟨ac,1,none⟩)/\σ_ 19=jV ae.Mat/\σ_ 20=.agg B4.toArray/\PHeap.Le U U_/\sW w U U_ [.blk ac 39 B3,.blk ah 104 B2,.blk ag 104 B6,.blk b6 78 B1,.blk b2 28 B0] w_) ?_ fun cu=>?_
 rintro gQ f9 ⟨bx,da,bF,db,dd,de,df,dg,dh,di,dk,bG,fI,eA⟩
 refine zU (j:=1) (vs:=B4) Z Z Z Z eA Z bF bG Z zH (zA Z) Z Z Z ?_
 intro cM eD
 have eE:sW w U bx [.blk ac 39 B3,.blk ah 104 B4,.blk ag 104 B6,.blk b6 78 B1,.blk b2 28 B0] cM:=eD
 exact ct _ _ ⟨bx,da,bF,db,dd,de,df,dg,dh,di,dk,bG,fI,eE⟩
 refine ZR (s:=gCd) (M:=fun σ_ w_=>∃ (U_:PHeap),σ_ 4=.pointer (some ⟨ag,0,none⟩)/\σ_ 5=.pointer (some ⟨ah,0,none⟩)/\σ_ 6=.pointer (some ⟨ac,0,none⟩)/\σ_ 13=.pointer (some ⟨ac,2,none⟩)/\σ_ 14=jV ae.Clock/\σ_ 15=.agg B6.toArray/\σ_ 16=.pointer (some ⟨ac,0,none⟩)/\σ_ 17=jV ae.Skier/\σ_ 18=.pointer (some ⟨ac,1,none⟩)/\σ_ 19=jV ae.Mat/\σ_ 20=.agg B4.toArray/\PHeap.Le U U_/\sW w U U_ [.blk ac 39 B3,.blk ah 104 B2,.blk ag 104 B2,.blk b6 78 B1,.blk b2 28 B0] w_) ?_ fun fG=>?_
 rintro gR ga ⟨bz,bH,dl,dm,dp,dq,bI,dr,dt,du,dv,dw,fJ,eF⟩
 refine zU (j:=2) (vs:=B6) Z Z Z Z eF Z bH bI Z zH (zA Z) Z Z Z ?_
 intro cN eG
 have eH:sW w U bz [.blk ac 39 B3,.blk ah 104 B2,.blk ag 104 B6,.blk b6 78 B1,.blk b2 28 B0] cN:=eG
 exact cu _ _ ⟨bz,bH,dl,dm,dp,dq,bI,dr,dt,du,dv,dw,fJ,eH⟩
 refine ZR (s:=gCe) (M:=fun σ_ w_=>∃ (U_:PHeap),σ_ 4=.pointer (some ⟨ag,0,none⟩)/\σ_ 5=.pointer (some ⟨ah,0,none⟩)/\σ_ 6=.pointer (some ⟨ac,0,none⟩)/\σ_ 13=.pointer (some ⟨ac,2,none⟩)/\σ_ 14=jV ae.Clock/\σ_ 15=.agg B6.toArray/\σ_ 16=.pointer (some ⟨ac,0,none⟩)/\σ_ 17=jV ae.Skier/\σ_ 18=.pointer (some ⟨ac,1,none⟩)/\σ_ 19=jV ae.Mat/\PHeap.Le U U_/\sW w U U_ [.blk ac 39 B3,.blk ah 104 B2,.blk ag 104 B6,.blk b6 78 B1,.blk b2 28 B0] w_) ?_ fun cw=>?_
 rintro gS gb ⟨bA,dx,bJ,dy,dz,dA,dB,dC,bL,dD,bM,fK,eI⟩
 refine oR Z (zk (pv:=[(0,jV ae.Skier),(1,jV ae.Mat)]) (z:=B2) (cs:=B4) Z (wAH bL (wAH bM wAO)) zb wBO Z Z) (zU (j:=1) (vs:=B4) Z Z Z Z eI Z bJ Z Z zH (zA Z) Z Z Z ?_)
 intro cO eJ
 have eO:sW w U bA [.blk ac 39 B3,.blk ah 104 B4,.blk ag 104 B6,.blk b6 78 B1,.blk b2 28 B0] cO:=eJ
 exact ct _ _ ⟨bA,dx,bJ,dy,dz,dA,dB,dC,bL,dD,bM,Z,fK,eO⟩
 refine ZR (s:=gCo) (M:=fun σ_ w_=>∃ (U_:PHeap),σ_ 4=.pointer (some ⟨ag,0,none⟩)/\σ_ 5=.pointer (some ⟨ah,0,none⟩)/\σ_ 6=.pointer (some ⟨ac,0,none⟩)/\σ_ 13=.pointer (some ⟨ac,2,none⟩)/\σ_ 14=jV ae.Clock/\σ_ 15=.agg B6.toArray/\σ_ 16=.pointer (some ⟨ac,0,none⟩)/\σ_ 18=.pointer (some ⟨ac,1,none⟩)/\σ_ 19=jV ae.Mat/\PHeap.Le U U_/\sW w U U_ [.blk ac 39 B3,.blk ah 104 B2,.blk ag 104 B6,.blk b6 78 B1,.blk b2 28 B0] w_) ?_ fun cx=>?_
 rintro gT ge ⟨cI,dE,dH,dI,dJ,dK,dL,bN,dM,dN,fM,co⟩
 exact ZQ Z Z Z Z (co.ldB (j:=0) Z Z bN zG (v:=jV ae.Skier) Z) (cw _ _ ⟨cI,dE,dH,dI,dJ,dK,dL,bN,Z,dM,dN,fM,co⟩)
 refine ZR (s:=gCn) (M:=fun σ_ w_=>∃ (U_:PHeap),σ_ 4=.pointer (some ⟨ag,0,none⟩)/\σ_ 5=.pointer (some ⟨ah,0,none⟩)/\σ_ 6=.pointer (some ⟨ac,0,none⟩)/\σ_ 13=.pointer (some ⟨ac,2,none⟩)/\σ_ 14=jV ae.Clock/\σ_ 15=.agg B6.toArray/\σ_ 16=.pointer (some ⟨ac,0,none⟩)/\σ_ 17=jV ae.Skier/\σ_ 18=.pointer (some ⟨ac,1,none⟩)/\PHeap.Le U U_/\sW w U U_ [.blk ac 39 B3,.blk ah 104 B2,.blk ag 104 B6,.blk b6 78 B1,.blk b2 28 B0] w_) ?_ fun cy=>?_
 rintro gU gf ⟨cJ,dO,dP,dQ,dR,dS,dT,dU,dV,bO,fN,cp⟩
 exact ZQ Z Z Z Z (cp.ldB (j:=0) Z Z bO zG (v:=jV ae.Mat) Z) (cw _ _ ⟨cJ,dO,dP,dQ,dR,dS,dT,dU,dV,bO,Z,fN,cp⟩)
 refine ZR (s:=.fl 7 gCd) (M:=fun σ_ w_=>∃ (U_:PHeap),σ_ 4=.pointer (some ⟨ag,0,none⟩)/\σ_ 5=.pointer (some ⟨ah,0,none⟩)/\σ_ 6=.pointer (some ⟨ac,0,none⟩)/\σ_ 13=.pointer (some ⟨ac,2,none⟩)/\σ_ 14=jV ae.Clock/\σ_ 15=.agg B6.toArray/\σ_ 16=.pointer (some ⟨ac,0,none⟩)/\σ_ 17=jV ae.Skier/\σ_ 18=.pointer (some ⟨ac,1,none⟩)/\σ_ 19=jV ae.Mat/\PHeap.Le U U_/\sW w U U_ [.blk ac 39 B3,.blk ah 104 B2,.blk ag 104 B2,.blk b6 78 B1,.blk b2 28 B0] w_) ?_ fun cz=>?_
 rintro gX gh ⟨bB,bQ,dW,dX,dY,dZ,bR,d7,bS,d9,bT,fO,eU⟩
 refine oR Z (zk (pv:=[(0,jV ae.Skier),(1,jV ae.Mat)]) (z:=B2) (cs:=B4) Z (wAH bS (wAH bT wAO)) zb wBO Z Z) (zU (j:=2) (vs:=B6) Z Z Z Z eU Z bQ bR Z zH (zA Z) Z Z Z ?_)
 intro cP eV
 have eY:sW w U bB [.blk ac 39 B3,.blk ah 104 B2,.blk ag 104 B6,.blk b6 78 B1,.blk b2 28 B0] cP:=eV
 exact cu _ _ ⟨bB,bQ,dW,dX,dY,dZ,bR,d7,bS,d9,bT,Z,fO,eY⟩
 refine ZR (s:=gCy) (M:=fun σ_ w_=>∃ (U_:PHeap),σ_ 4=.pointer (some ⟨ag,0,none⟩)/\σ_ 5=.pointer (some ⟨ah,0,none⟩)/\σ_ 6=.pointer (some ⟨ac,0,none⟩)/\σ_ 13=.pointer (some ⟨ac,2,none⟩)/\σ_ 14=jV ae.Clock/\σ_ 16=.pointer (some ⟨ac,0,none⟩)/\σ_ 17=jV ae.Skier/\σ_ 18=.pointer (some ⟨ac,1,none⟩)/\σ_ 19=jV ae.Mat/\PHeap.Le U U_/\sW w U U_ [.blk ac 39 B3,.blk ah 104 B2,.blk ag 104 B2,.blk b6 78 B1,.blk b2 28 B0] w_) ?_ fun cA=>?_
 rintro gY cQ ⟨cK,ef,eg,eh,ej,bU,ek,bV,en,bW,fP,eZ⟩
 refine oR Z (zk (pv:=[(0,jV ae.Skier),(1,jV ae.Mat)]) (z:=B2) (cs:=B4) Z (wAH bV (wAH bW wAO)) zb wBO Z Z) (zF 0 Z Z Z Z (zD Z Z Try.call82 (zB bU zJ) Z) eZ (fun hs=>wCb ae.Clock cQ cK hs ay) (.inr Z) ?_)
 rintro bC fV gK cR fQ e0 ⟨rfl,rfl⟩
 have fb:sW w U bC [.blk ac 39 B3,.blk ah 104 B2,.blk ag 104 B2,.blk b6 78 B1,.blk b2 28 B0] cR:=e0
 exact fG _ _ ⟨bC,ef,eg,eh,ej,bU,Z,ek,bV,en,bW,Z,(fP.trans fQ),fb⟩
 refine ZR (s:=gDh) (M:=fun σ_ w_=>∃ (U_:PHeap),σ_ 4=.pointer (some ⟨ag,0,none⟩)/\σ_ 5=.pointer (some ⟨ah,0,none⟩)/\σ_ 6=.pointer (some ⟨ac,0,none⟩)/\σ_ 13=.pointer (some ⟨ac,2,none⟩)/\σ_ 14=jV ae.Clock/\σ_ 15=.agg B6.toArray/\σ_ 16=.pointer (some ⟨ac,0,none⟩)/\σ_ 18=.pointer (some ⟨ac,1,none⟩)/\σ_ 19=jV ae.Mat/\PHeap.Le U U_/\sW w U U_ [.blk ac 39 B3,.blk ah 104 B2,.blk ag 104 B2,.blk b6 78 B1,.blk b2 28 B0] w_) ?_ fun cB=>?_
 rintro gZ gi ⟨bc,bg,bX,bY,bZ,ca,bh,bi,cb,cc,cD,bo⟩
 refine zm ?_ ?_
 exact ZQ Z Z Z Z (bo.ldB (j:=0) Z Z bi zG (v:=jV ae.Skier) Z) (cz _ _ ⟨bc,bg,bX,bY,bZ,ca,bh,bi,Z,cb,cc,cD,bo⟩)
 refine zU (j:=2) (vs:=B6) Z Z Z Z bo Z bg bh Z zH (zA Z) Z Z Z ?_
 intro cS fg
 have fh:sW w U bc [.blk ac 39 B3,.blk ah 104 B2,.blk ag 104 B6,.blk b6 78 B1,.blk b2 28 B0] cS:=fg
 exact cx _ _ ⟨bc,bg,bX,bY,bZ,ca,bh,bi,cb,cc,cD,fh⟩
 refine ZR (s:=gDg) (M:=fun σ_ w_=>∃ (U_:PHeap),σ_ 4=.pointer (some ⟨ag,0,none⟩)/\σ_ 5=.pointer (some ⟨ah,0,none⟩)/\σ_ 6=.pointer (some ⟨ac,0,none⟩)/\σ_ 13=.pointer (some ⟨ac,2,none⟩)/\σ_ 14=jV ae.Clock/\σ_ 15=.agg B6.toArray/\σ_ 16=.pointer (some ⟨ac,0,none⟩)/\σ_ 17=jV ae.Skier/\σ_ 18=.pointer (some ⟨ac,1,none⟩)/\PHeap.Le U U_/\sW w U U_ [.blk ac 39 B3,.blk ah 104 B2,.blk ag 104 B2,.blk b6 78 B1,.blk b2 28 B0] w_) ?_ fun cC=>?_
 rintro g6 gj ⟨bd,bj,cd,cf,cg,ci,bk,cm,cn,bm,cE,bp⟩
 refine zm ?_ ?_
 exact ZQ Z Z Z Z (bp.ldB (j:=0) Z Z bm zG (v:=jV ae.Mat) Z) (cz _ _ ⟨bd,bj,cd,cf,cg,ci,bk,cm,cn,bm,Z,cE,bp⟩)
 refine zU (j:=2) (vs:=B6) Z Z Z Z bp Z bj bk Z zH (zA Z) Z Z Z ?_
 intro cU fj
 have fk:sW w U bd [.blk ac 39 B3,.blk ah 104 B2,.blk ag 104 B6,.blk b6 78 B1,.blk b2 28 B0] cU:=fj
 exact cy _ _ ⟨bd,bj,cd,cf,cg,ci,bk,cm,cn,bm,cE,fk⟩
 refine oR Z (zE Z Z ZJ Z zC) (oL Z (au.ldB (j:=0) Z Z Z zG (v:=jV ae.Clock) Z) (oR Z (zE Z Z ZJ Z zC) (oR Z (zE Z Z ZJ Z zC) (zm ?_ ?_))))
 refine zF 0 Z Z Z Z (zD Z Z Try.call82 (zB Z zJ) Z) au (fun hs=>wCb ae.Clock bf U hs ay) (.inr Z) ?_
 rintro aw fY gM cV a8 fm ⟨rfl,rfl⟩
 have ax:sW w U aw [.blk ac 39 B3,.blk ah 104 B2,.blk ag 104 B2,.blk b6 78 B1,.blk b2 28 B0] cV:=fm
 refine zm ?_ ?_
 exact ZQ Z Z Z Z (ax.ldB (j:=0) Z Z Z zG (v:=jV ae.Skier) Z) (cC _ _ ⟨aw,Z,Z,Z,Z,Z,Z,Z,Z,Z,a8,ax⟩)
 refine zm ?_ ?_
 exact ZQ Z Z Z Z (ax.ldB (j:=0) Z Z Z zG (v:=jV ae.Mat) Z) (cB _ _ ⟨aw,Z,Z,Z,Z,Z,Z,Z,Z,Z,a8,ax⟩)
 refine zU (j:=2) (vs:=B6) Z Z Z Z ax Z Z Z Z zH (zA Z) Z Z Z ?_
 intro cW fq
 have a7:sW w U aw [.blk ac 39 B3,.blk ah 104 B2,.blk ag 104 B6,.blk b6 78 B1,.blk b2 28 B0] cW:=fq
 refine zm ?_ ?_
 exact ZQ Z Z Z Z (a7.ldB (j:=0) Z Z Z zG (v:=jV ae.Skier) Z) (cy _ _ ⟨aw,Z,Z,Z,Z,Z,Z,Z,Z,Z,a8,a7⟩)
 exact ZQ Z Z Z Z (a7.ldB (j:=0) Z Z Z zG (v:=jV ae.Mat) Z) (cx _ _ ⟨aw,Z,Z,Z,Z,Z,Z,Z,Z,Z,a8,a7⟩)
 refine zm ?_ ?_
 refine ZQ Z Z Z Z (au.ldB (j:=0) Z Z Z zG (v:=jV ae.Skier) Z) (zm ?_ ?_)
 refine zF 0 Z Z Z Z (zD Z Z Try.call82 (zB Z zJ) Z) au (fun hs=>wCb ae.Clock bf U hs ay) (.inr Z) ?_
 rintro bD fZ gN cX fR ft ⟨rfl,rfl⟩
 have fu:sW w U bD [.blk ac 39 B3,.blk ah 104 B2,.blk ag 104 B2,.blk b6 78 B1,.blk b2 28 B0] cX:=ft
 exact cC _ _ ⟨bD,Z,Z,Z,Z,Z,Z,Z,Z,Z,fR,fu⟩
 exact ZQ Z Z Z Z (au.ldB (j:=0) Z Z Z zG (v:=jV ae.Mat) Z) (cA _ _ ⟨U,Z,Z,Z,Z,Z,Z,Z,Z,Z,(zP _),au⟩)
 refine ZQ Z Z Z Z (au.ldB (j:=0) Z Z Z zG (v:=jV ae.Mat) Z) (zm ?_ ?_)
 refine zF 0 Z Z Z Z (zD Z Z Try.call82 (zB Z zJ) Z) au (fun hs=>wCb ae.Clock bf U hs ay) (.inr Z) ?_
 rintro bE f4 gO cY fS fw ⟨rfl,rfl⟩
 have fy:sW w U bE [.blk ac 39 B3,.blk ah 104 B2,.blk ag 104 B2,.blk b6 78 B1,.blk b2 28 B0] cY:=fw
 exact cB _ _ ⟨bE,Z,Z,Z,Z,Z,Z,Z,Z,Z,fS,fy⟩
 exact ZQ Z Z Z Z (au.ldB (j:=0) Z Z Z zG (v:=jV ae.Skier) Z) (cA _ _ ⟨U,Z,Z,Z,Z,Z,Z,Z,Z,Z,(zP _),au⟩)
 rintro g7 gm ⟨cL,eo,ep,gI,bq⟩
 refine zR ?_
 cases cr
 exact ⟨rfl,_,(wDg (rs:=[.cell 4 104,.cell 5 104]) (vs:=[.agg B5.toArray,.agg B4.toArray]) ⟨⟨_,eo,(wAw zj zH (bq.blkAt (k:=2) rfl) (vs:=B5) rfl rfl)⟩,⟨⟨_,ep,(wAw zj zH (bq.blkAt (k:=1) rfl) (vs:=B4) rfl rfl)⟩,trivial⟩⟩ rfl),cL,_,(bq.pick [] _ (by decide) rfl),rfl,rfl⟩
theorem wGB (p0:wAE) (aq:Option Addr) (av:Nat) (au:Option Addr) (aw:Nat) (ai:Option Addr) (aj:Nat) (am:Option Addr) (an:Nat) (p1:wAK) (w:World) (U:PHeap) (hS:St0 w U []) (bx:Sl U 1 aq av p0.Starts.length (hD KL.encI p0.Starts)) (bz:Sl U 2 au aw p0.Splits.length (hD wAC p0.Splits)) (a7:Sl U 3 ai aj p0.Clocks.length (hD wAA p0.Clocks)) (bn:Sl U 4 am an p0.Readings.length (hD wAB p0.Readings)) {r:Int × Int} (hm:wDB p0 p1=some r):Gv Try.prog 119 [.agg #[.slice aq p0.Starts.length av,.slice au p0.Splits.length aw,.slice ai p0.Clocks.length aj,.slice am p0.Readings.length an],.agg #[jV p1.Kind,jV p1.Skier,jV p1.Index,.bool p1.Up]] w (wBw w [] U (fun U_ L_ v=>v=.tuple #[jV r.1,jV r.2]/\L_=[])):=by
 unfold wDB at hm
 refine Gv.of Try.func119 Z Try.ntmps119 Try.results119 Z (sR (.fx 0 gCp .stop) Z ?_)
 let B0:List Value:=[.slice aq p0.Starts.length av,.slice au p0.Splits.length aw,.slice ai p0.Clocks.length aj,.slice am p0.Readings.length an]
 refine zy (cs:=B0) rfl rfl rfl rfl rfl rfl (by rfl) hS ?_
 intro W1 b2 bm
 let B1:List Value:=[jV p1.Kind,jV p1.Skier,jV p1.Index,.bool p1.Up]
 refine zy (cs:=B1) rfl rfl rfl rfl rfl rfl (by rfl) bm ?_
 intro W5 b6 ak
 refine oA Z Z (oA Z Z (eN (sR (wHG gCc) Z (oR Z (zE Z Z zI Z ZO) (oL Z (ak.ldB (j:=1) Z Z Z Zs (v:=.slice am p0.Readings.length an) Z) (oR Z (zE Z Z zl Z zC) (oL Z (ak.ldB (j:=0) Z Z Z zG (v:=jV p1.Index) Z) (bnK hm fun x9 ap bo=>?_))))))))
 have q:=bn.el (fun _=>rfl) (wAb ap)
 obtain ⟨bu,bA,bc,bf⟩:=q
 refine oR Z (Zd Z Z bc Z ZN ZW (wCG ap) (wCM ap)) (oL Z (ak.ldCA (f:=0) bf Z Z yj ZW (us:=[jV x9.Skier,jV x9.Mat,jV x9.Clock,jV x9.Time]) Z Z) (zQ (cs:=[jV 0,jV 0,jV 0,jV 0]) Z Z Z Z Z ZX Z ak ?_))
 intro br a9 bi
 let B2:List Value:=[jV x9.Skier,jV x9.Mat,jV x9.Clock,jV x9.Time]
 refine zU (j:=0) (vs:=B2) Z Z Z Z bi Z Z Z Z ZW (zA Z) Z Z Z ?_
 intro ao bj
 have bk:sW w U U [.blk a9 39 B2,.blk b6 78 B1,.blk b2 28 B0] ao:=bj
 refine eN (zM (zt zu [3,1,3,1,3,1,3,3,1,3,3,1,3,1,3,3,1,3,1,3,3,3] fL22 (by kernel_rfl) ?_))
 have af:=bk.drew
 generalize hw_W24:({ ao with drawn:=ao.drawn + 1 }:World)=bs at af ⊢
 refine oR Z (zE Z Z ZJ Z zC) (oL Z (af.ldB (j:=0) Z Z Z zG (v:=jV x9.Time) Z) (oR Z (zE Z Z zI Z Zl) (oL Z (af.ldB (j:=2) Z Z Z yD (v:=.slice ai p0.Clocks.length aj) Z) (oR Z (zE Z Z ZJ Z zC) (oL Z (af.ldB (j:=0) Z Z Z zG (v:=jV x9.Clock) Z) (bnK bo fun a8 ah bp=>?_))))))
 have q:=a7.el (fun _=>rfl) (wAb ah)
 obtain ⟨bv,bB,bd,bg⟩:=q
 refine oR Z (Zd Z Z bd Z ZS yA (wCG ah) (wCM ah)) (oR Z (zE Z Z Zc Z zC) (oL Z (af.ldC (f:=2) bg (v:=jV a8.Error) Z Z zG Z) (oR Z (za Z Z Z) (oR Z (zE Z Z zI Z Zl) (oL Z (af.ldB (j:=2) Z Z Z yD (v:=.slice ai p0.Clocks.length aj) Z) (oR Z (zE Z Z ZJ Z zC) (oL Z (af.ldB (j:=0) Z Z Z zG (v:=jV x9.Clock) Z) ?_)))))))
 have q:=a7.el (fun _=>rfl) (wAb ah)
 obtain ⟨bw,bC,be,bh⟩:=q
 refine oR Z (Zd Z Z be Z ZS yA (wCG ah) (wCM ah)) (oR Z (zE Z Z Zc Z zC) (oL Z (af.ldC (f:=2) bh (v:=jV a8.Error) Z Z zG Z) (oR Z (zE Z Z ZJ Z zC) (oL Z (af.ldB (j:=0) Z Z Z zG (v:=jV x9.Time) Z) (oR Z (yP Z Z Z) (oA Z Z (oA Z Z (eN (zR ?_)))))))))
 cases bp
 exact ⟨rfl,_,(wDf rfl rfl),U,_,(af.pick [] _ (by decide) rfl),rfl,rfl⟩
theorem wAv  (w:World) (U:PHeap) (hS:St0 w U [])  {r:Unit} (hm:wBG =some r):Gv Try.prog 103 [] w (wBw w [] U (fun U_ L_ v=>v=.agg #[.func (.func 108) #[] #[],.func (.func 109) #[] #[],.func (.func 110) #[] #[],.func (.func 111) #[] #[],.func (.func 112) #[] #[],.func (.func 113) #[] #[],.func (.func 114) #[] #[],.func (.func 115) #[] #[],.func (.func 116) #[] #[],.func (.func 117) #[] #[],.func (.func 118) #[] #[],.func (.func 119) #[] #[]]/\L_=[])):=by
 unfold wBG at hm
 refine Gv.of Try.func103 Z Try.ntmps103 Try.results103 Z (sR (.fx 0 .nil .stop) Z ?_)
 let B0:List Value:=[.nilFunc,.nilFunc,.nilFunc,.nilFunc,.nilFunc,.nilFunc,.nilFunc,.nilFunc,.nilFunc,.nilFunc,.nilFunc,.nilFunc]
 refine zQ (cs:=B0) Z Z Z Z Z Try.zeroValue170 Z hS ?_
 intro W1 b2 ao
 refine eN (sR (wFk (.fx 5 .nil .stop)) Z ?_)
 let B1:List Value:=[.nilFunc,.nilFunc,.nilFunc]
 let B2:List Value:=[.func (.func 108) #[] #[],.func (.func 109) #[] #[],.func (.func 110) #[] #[]]
 refine oR Z (zk (pv:=[(0,.func (.func 108) #[] #[]),(1,.func (.func 109) #[] #[]),(2,.func (.func 110) #[] #[])]) (z:=B1) (cs:=B2) Z (wAH Z (wAH Z (wAH Z wAO))) yE wFH Z Z) ?_
 let B3:List Value:=[.func (.func 111) #[] #[],.func (.func 112) #[] #[],.func (.func 113) #[] #[]]
 refine oR Z (zk (pv:=[(0,.func (.func 111) #[] #[]),(1,.func (.func 112) #[] #[]),(2,.func (.func 113) #[] #[])]) (z:=B1) (cs:=B3) Z (wAH Z (wAH Z (wAH Z wAO))) yE wFH Z Z) ?_
 let B4:List Value:=[.func (.func 114) #[] #[],.func (.func 115) #[] #[],.func (.func 116) #[] #[]]
 refine oR Z (zk (pv:=[(0,.func (.func 114) #[] #[]),(1,.func (.func 115) #[] #[]),(2,.func (.func 116) #[] #[])]) (z:=B1) (cs:=B4) Z (wAH Z (wAH Z (wAH Z wAO))) yE wFH Z Z) ?_
 let B5:List Value:=[.func (.func 117) #[] #[],.func (.func 118) #[] #[],.func (.func 119) #[] #[]]
 refine oR Z (zk (pv:=[(0,.func (.func 117) #[] #[]),(1,.func (.func 118) #[] #[]),(2,.func (.func 119) #[] #[])]) (z:=B1) (cs:=B5) Z (wAH Z (wAH Z (wAH Z wAO))) yE wFH Z Z) ?_
 let B6:List Value:=[.func (.func 108) #[] #[],.func (.func 109) #[] #[],.func (.func 110) #[] #[],.func (.func 111) #[] #[],.func (.func 112) #[] #[],.func (.func 113) #[] #[],.func (.func 114) #[] #[],.func (.func 115) #[] #[],.func (.func 116) #[] #[],.func (.func 117) #[] #[],.func (.func 118) #[] #[],.func (.func 119) #[] #[]]
 refine oR Z (Runs.buildA (pv:=[(0,.agg B2.toArray),(1,.agg B3.toArray),(2,.agg B4.toArray),(3,.agg B5.toArray)]) (z:=B0) (cs:=B6) Z (wAH Z (wAH Z (wAH Z (wAH Z wAO)))) Try.zeroValue170 Zp ZU Z Z) (zU (j:=0) (vs:=B6) Z Z Z Z ao Z Z Z Z Try.sizeOf170 (zA Z) Z Z Z ?_)
 intro W5 ap
 have ak:sW w U U [.blk b2 170 B6] W5:=ap
 refine eN (zR ?_)
 cases hm
 exact ⟨rfl,_,(wFv (v:=.agg B6.toArray) ⟨⟨_,rfl,(wAw Try.isAgg170 Try.sizeOf170 (ak.blkAt (k:=0) rfl) (vs:=B6) rfl rfl)⟩,trivial⟩),U,_,(ak.pick [] _ (by decide) rfl),rfl,rfl⟩
theorem wBW (p0:wAE) (bv:Option Addr) (bA:Nat) (bw:Option Addr) (bB:Nat) (bx:Option Addr) (bC:Nat) (bz:Option Addr) (bD:Nat) (p1:wAK) (w:World) (U:PHeap) (hS:St0 w U []) (cJ:Sl U 1 bv bA p0.Starts.length (hD KL.encI p0.Starts)) (cK:Sl U 2 bw bB p0.Splits.length (hD wAC p0.Splits)) (cL:Sl U 3 bx bC p0.Clocks.length (hD wAA p0.Clocks)) (cM:Sl U 4 bz bD p0.Readings.length (hD wAB p0.Readings)) {r:wAL × wAL × Int} (hm:wBH p0 p1=some r):Gv Try.prog 70 [.agg #[.slice bv p0.Starts.length bA,.slice bw p0.Splits.length bB,.slice bx p0.Clocks.length bC,.slice bz p0.Readings.length bD],.agg #[jV p1.Kind,jV p1.Skier,jV p1.Index,.bool p1.Up]] w (wBw w [] U (fun U_ L_ v=>v=.tuple #[.agg #[jV r.1.skier,jV r.1.mat],.agg #[jV r.2.1.skier,jV r.2.1.mat],jV r.2.2]/\L_=[])):=by
 unfold wBH at hm
 refine Gv.of Try.func70 Z Try.ntmps70 Try.results70 Z ?_
 by_cases c1:p1.Kind=0
 have f4:=hm;rw [if_pos c1] at f4
 refine sR gDi Z ?_
 let B0:List Value:=[.slice bv p0.Starts.length bA,.slice bw p0.Splits.length bB,.slice bx p0.Clocks.length bC,.slice bz p0.Readings.length bD]
 refine zy (cs:=B0) rfl rfl rfl rfl rfl rfl (by rfl) hS ?_
 intro W6 b7 mT
 let B1:List Value:=[jV p1.Kind,jV p1.Skier,jV p1.Index,.bool p1.Up]
 refine zy (cs:=B1) rfl rfl rfl rfl rfl rfl (by rfl) mT ?_
 intro oB be jH
 let B2:List Value:=[jV 0,jV 0]
 refine zQ (cs:=B2) Z Z Z Z Z zb Z jH ?_
 intro oH az jS
 refine zQ (cs:=B2) Z Z Z Z Z zb Z jS ?_
 intro eg a9 j1
 refine oA Z Z (eN ?_)
 have q:=bnd f4
 obtain ⟨⟨⟩,m6,fP⟩:=q
 try dsimp only at fP
 let B3:List Value:=[.func (.func 108) #[] #[],.func (.func 109) #[] #[],.func (.func 110) #[] #[]]
 refine yS (fun σ_ w_=>∃ (U_:PHeap) (bF:Nat),σ_ 2=.pointer (some ⟨b7,0,none⟩)/\σ_ 3=.pointer (some ⟨be,0,none⟩)/\σ_ 4=.pointer (some ⟨az,0,none⟩)/\σ_ 5=.pointer (some ⟨a9,0,none⟩)/\σ_ 7=.pointer (some ⟨bF,0,none⟩)/\PHeap.Le U U_/\sW w U U_ [.blk a9 104 B2,.blk az 104 B2,.blk be 78 B1,.blk b7 28 B0,.blk bF 169 B3] w_) ?_ ?_
 have q:=bnd m6
 obtain ⟨⟨⟩,fd,dU⟩:=q
 try dsimp only at dU
 refine zt zu [2,3,1,3,2,0] gDr (by kernel_rfl) ?_
 have cC:=j1.drew
 generalize hw_W45:({ eg with drawn:=eg.drawn + 1 }:World)=im at cC ⊢
 refine oR Z (zE Z Z zl Z yM) (oL Z (cC.ldB (j:=2) Z Z Z yU (v:=jV p1.Kind) Z) (zm ?_ ?_))
 refine zF 0 Z Z Z Z (zD Z Z yV zJ Z) cC (fun hs=>wAv im U hs fd) (.inr Z) ?_
 rintro dl om pQ iv n6 l7 ⟨rfl,rfl⟩
 have l8:sW w U dl [.blk a9 104 B2,.blk az 104 B2,.blk be 78 B1,.blk b7 28 B0] iv:=l7
 refine zc rfl rfl rfl rfl (fun _=>(yi (i:=0) rfl rfl (congrArg (jV) c1) Zp ZU (by decide) (by decide) (wCh yY ZU rfl))) (zQ (cs:=[.nilFunc,.nilFunc,.nilFunc]) rfl rfl rfl rfl rfl yE rfl l8 ?_)
 intro pe ey mi
 refine zU (j:=0) (vs:=B3) Z Z Z Z mi Z Z Z Z ZU (zA Z) Z Z Z ?_
 intro iE mp
 have mu:sW w U dl [.blk ey 169 B3,.blk a9 104 B2,.blk az 104 B2,.blk be 78 B1,.blk b7 28 B0] iE:=mp
 refine zh ?_
 cases dU
 exact zL ⟨rfl,⟨dl,ey,rfl,rfl,rfl,rfl,rfl,n6,(mu.pick [1,2,3,4,0] _ (by decide) rfl)⟩⟩
 refine zQ (cs:=[.nilFunc,.nilFunc,.nilFunc]) Z Z Z Z Z yE Z cC ?_
 intro iJ dz mH
 refine zF 0 Z Z Z Z (zD Z Z yV zJ Z) mH (fun hs=>wAv iJ U hs fd) (.inr Z) ?_
 rintro dq ov pW iS n9 mP ⟨rfl,rfl⟩
 have mQ:sW w U dq [.blk dz 169 [.nilFunc,.nilFunc,.nilFunc],.blk a9 104 B2,.blk az 104 B2,.blk be 78 B1,.blk b7 28 B0] iS:=mP
 refine zc rfl rfl rfl rfl (fun _=>(yi (i:=0) rfl rfl (congrArg (jV) c1) Zp ZU (by decide) (by decide) (wCh yY ZU rfl))) (zU (j:=0) (vs:=B3) rfl rfl rfl rfl mQ rfl rfl rfl rfl ZU (zA rfl) rfl rfl rfl ?_)
 intro iT mR
 have mS:sW w U dq [.blk dz 169 B3,.blk a9 104 B2,.blk az 104 B2,.blk be 78 B1,.blk b7 28 B0] iT:=mR
 refine zh ?_
 cases dU
 exact zL ⟨rfl,⟨dq,dz,rfl,rfl,rfl,rfl,rfl,n9,(mS.pick [1,2,3,4,0] _ (by decide) rfl)⟩⟩
 rintro qa iU ⟨gD,bF,eV,dJ,bV,bR,eX,cV,cI⟩
 refine sR (wDo (.fx 4 (wKh gCd) .stop)) Z (oR Z (zE Z eX Zv Z Try.sizeOf166) (oL Z (cI.ldB (j:=4) Z Z Z Try.isAgg166 (v:=.func (.func 109) #[] #[]) Z) (oL Z (cI.ldBA (j:=3) Z Z eV zf zY (vs:=B0) Z Z) (oL Z (cI.ldBA (j:=2) Z Z dJ Zz Zh (vs:=B1) Z Z) ?_))))
 have fz:=cJ.le cV
 have fA:=cK.le cV
 have fC:=cL.le cV
 have fD:=cM.le cV
 have q:=bnd fP
 obtain ⟨⟨db,dd⟩,jA,gb⟩:=q
 try dsimp only at gb
 refine zF 0 Z Z Z Z (zD Z Z Try.call109 (zB Z (zB Z zJ)) Z) cI (fun hs=>wGP p0 bv bA bw bB bx bC bz bD p1 iU gD hs fz fA fC fD jA) (.inr Z) ?_
 rintro cr oy pY iV cN jB ⟨rfl,rfl⟩
 have jC:sW w U cr [.blk a9 104 B2,.blk az 104 B2,.blk be 78 B1,.blk b7 28 B0,.blk bF 169 B3] iV:=jB
 refine oM Z Z (oR Z (zT Z Z (v:=.agg #[jV db.skier,jV db.mat]) Z) (oR Z (zT Z Z (v:=.agg #[jV dd.skier,jV dd.mat]) Z) ?_))
 let B4:List Value:=[jV db.skier,jV db.mat]
 refine zU (j:=1) (vs:=B4) Z Z Z Z jC Z bV Z Z zH (zA Z) Z Z Z ?_
 intro gE jD
 have jE:sW w U cr [.blk a9 104 B2,.blk az 104 B4,.blk be 78 B1,.blk b7 28 B0,.blk bF 169 B3] gE:=jD
 let B5:List Value:=[jV dd.skier,jV dd.mat]
 refine zU (j:=0) (vs:=B5) Z Z Z Z jE Z bR Z Z zH (zA Z) Z Z Z ?_
 intro d9 jG
 have cu:sW w U cr [.blk a9 104 B5,.blk az 104 B4,.blk be 78 B1,.blk b7 28 B0,.blk bF 169 B3] d9:=jG
 refine eN (sR (wDo (.fx 4 (wHq (.nil)) .stop)) Z (oR Z (zE Z eX Zv Z Try.sizeOf167) (oL Z (cu.ldB (j:=4) Z Z Z Try.isAgg167 (v:=.func (.func 110) #[] #[]) Z) (oL Z (cu.ldBA (j:=3) Z Z eV zf zY (vs:=B0) Z Z) (oL Z (cu.ldBA (j:=2) Z Z dJ Zz Zh (vs:=B1) Z Z) ?_)))))
 have jb:=fz.le cN
 have jc:=fA.le cN
 have jd:=fC.le cN
 have je:=fD.le cN
 have q:=bnd gb
 obtain ⟨⟨dX,gi⟩,jf,fJ⟩:=q
 try dsimp only at fJ
 refine zF 0 Z Z Z Z (zD Z Z Try.call110 (zB Z (zB Z zJ)) Z) cu (fun hs=>wGQ p0 bv bA bw bB bx bC bz bD p1 d9 cr hs jb jc jd je jf) (.inr Z) ?_
 rintro bI oa pH dr pq jJ ⟨rfl,rfl⟩
 have ca:sW w U bI [.blk a9 104 B5,.blk az 104 B4,.blk be 78 B1,.blk b7 28 B0,.blk bF 169 B3] dr:=jJ
 refine oM Z Z (oR Z (zT Z Z (v:=jV dX) Z) (oR Z (zT Z Z (v:=jV gi) Z) (oA Z Z (oA Z Z (eN (zM (sR fL3 Z (oR Z (zE Z dJ zl Z Try.sizeOf4) (oL Z (ca.ldB (j:=2) Z Z Z Try.isAgg4 (v:=.bool p1.Up) Z) (oR Z (Zg Z Z) (eN (ifc fJ ?_ ?_))))))))))))
 intro dA mU
 refine ZE (nC dA.out) (kN ?_)
 have q:=bnd mU
 obtain ⟨⟨⟩,ge,fK⟩:=q
 try dsimp only at fK
 refine yS (fun σ_ w_=>∃ (U_:PHeap),σ_ 4=.pointer (some ⟨az,0,none⟩)/\σ_ 5=.pointer (some ⟨a9,0,none⟩)/\σ_ 6=jV dX/\PHeap.Le bI U_/\sW w U U_ [.blk a9 104 B5,.blk az 104 B4,.blk be 78 B1,.blk b7 28 B0,.blk bF 169 B3] w_) ?_ ?_
 refine zt zu [1,2,3,0,0,3] gDs (by kernel_rfl) ?_
 have cb:=ca.drew
 generalize hw_W136:({ dr with drawn:=dr.drawn + 1 }:World)=oG at cb ⊢
 refine oL Z (cb.ldBA (j:=1) Z Z bV zj zH (vs:=B4) Z Z) (oM Z Z (zm ?_ ?_))
 refine ZQ Z Z Z Z (cb.ldBA (j:=0) Z Z bR zj zH (vs:=B5) Z Z) (zU (j:=1) (vs:=B4) Z Z Z Z cb Z bV Z Z zH (zA Z) Z Z Z ?_)
 intro gF jK
 have jL:sW w U bI [.blk a9 104 B5,.blk az 104 B4,.blk be 78 B1,.blk b7 28 B0,.blk bF 169 B3] gF:=jK
 refine zU (j:=0) (vs:=B5) Z Z Z Z jL Z bR Z Z zH (zA Z) Z Z Z ?_
 intro gG jM
 have jN:sW w U bI [.blk a9 104 B5,.blk az 104 B4,.blk be 78 B1,.blk b7 28 B0,.blk bF 169 B3] gG:=jM
 refine oA Z Z (zh ?_)
 cases ge
 exact zL ⟨Z,⟨bI,bV,bR,Z,(zP _),jN⟩⟩
 refine zU (j:=1) (vs:=B4) Z Z Z Z cb Z bV Z Z zH (zA Z) Z Z Z ?_
 intro gH jO
 have fE:sW w U bI [.blk a9 104 B5,.blk az 104 B4,.blk be 78 B1,.blk b7 28 B0,.blk bF 169 B3] gH:=jO
 refine ZQ Z Z Z Z (fE.ldBA (j:=0) Z Z bR zj zH (vs:=B5) Z Z) (zU (j:=0) (vs:=B5) Z Z Z Z fE Z bR Z Z zH (zA Z) Z Z Z ?_)
 intro gI jP
 have jQ:sW w U bI [.blk a9 104 B5,.blk az 104 B4,.blk be 78 B1,.blk b7 28 B0,.blk bF 169 B3] gI:=jP
 refine oA Z Z (zh ?_)
 cases ge
 exact zL ⟨Z,⟨bI,bV,bR,Z,(zP _),jQ⟩⟩
 rintro pZ oI ⟨gq,iX,iY,iZ,pu,dK⟩
 refine zR ?_
 cases fK
 exact ⟨rfl,_,(wDg (rs:=[.cell 4 104,.cell 5 104,.tmp 6]) (vs:=[.agg B4.toArray,.agg B5.toArray,jV dX]) ⟨⟨_,iX,(wAw zj zH (dK.blkAt (k:=1) rfl) (vs:=B4) rfl rfl)⟩,⟨⟨_,iY,(wAw zj zH (dK.blkAt (k:=0) rfl) (vs:=B5) rfl rfl)⟩,⟨iZ,trivial⟩⟩⟩ rfl),gq,_,(dK.pick [] _ (by decide) rfl),rfl,rfl⟩
 intro dA mV
 refine ZI (nF (dA.out)) (sR (wDF gCq) Z (oL Z (ca.ldBA (j:=0) Z Z bR zj zH (vs:=B5) Z Z) (oL Z (ca.ldBA (j:=1) Z Z bV zj zH (vs:=B4) Z Z) (oM Z Z (zU (j:=1) (vs:=B5) Z Z Z Z ca Z bV Z Z zH (zA Z) Z Z Z ?_)))))
 intro gJ jR
 have jU:sW w U bI [.blk a9 104 B5,.blk az 104 B5,.blk be 78 B1,.blk b7 28 B0,.blk bF 169 B3] gJ:=jR
 refine zU (j:=0) (vs:=B4) Z Z Z Z jU Z bR Z Z zH (zA Z) Z Z Z ?_
 intro gK jW
 have dL:sW w U bI [.blk a9 104 B4,.blk az 104 B5,.blk be 78 B1,.blk b7 28 B0,.blk bF 169 B3] gK:=jW
 refine oA Z Z (eN (zR (zW ?_)))
 cases mV
 exact ⟨rfl,_,(wDg (rs:=[.cell 4 104,.cell 5 104,.tmp 6]) (vs:=[.agg B5.toArray,.agg B4.toArray,jV gi]) ⟨⟨_,bV,(wAw zj zH (dL.blkAt (k:=1) rfl) (vs:=B5) rfl rfl)⟩,⟨⟨_,bR,(wAw zj zH (dL.blkAt (k:=0) rfl) (vs:=B4) rfl rfl)⟩,⟨rfl,trivial⟩⟩⟩ rfl),bI,_,(dL.pick [] _ (by decide) rfl),rfl,rfl⟩
 by_cases c2:p1.Kind=1
 have fM:=hm;rw [if_neg c1,if_pos c2] at fM
 refine sR gDi Z ?_
 let B6:List Value:=[.slice bv p0.Starts.length bA,.slice bw p0.Splits.length bB,.slice bx p0.Clocks.length bC,.slice bz p0.Readings.length bD]
 refine zy (cs:=B6) rfl rfl rfl rfl rfl rfl (by rfl) hS ?_
 intro oK bf jX
 let B7:List Value:=[jV p1.Kind,jV p1.Skier,jV p1.Index,.bool p1.Up]
 refine zy (cs:=B7) rfl rfl rfl rfl rfl rfl (by rfl) jX ?_
 intro oO bg jY
 let B8:List Value:=[jV 0,jV 0]
 refine zQ (cs:=B8) Z Z Z Z Z zb Z jY ?_
 intro oP a7 jZ
 refine zQ (cs:=B8) Z Z Z Z Z zb Z jZ ?_
 intro ef a8 j0
 refine oA Z Z (eN ?_)
 have q:=bnd fM
 obtain ⟨⟨⟩,m5,fN⟩:=q
 try dsimp only at fN
 let B9:List Value:=[.func (.func 111) #[] #[],.func (.func 112) #[] #[],.func (.func 113) #[] #[]]
 refine yS (fun σ_ w_=>∃ (U_:PHeap) (bE:Nat),σ_ 2=.pointer (some ⟨bf,0,none⟩)/\σ_ 3=.pointer (some ⟨bg,0,none⟩)/\σ_ 4=.pointer (some ⟨a7,0,none⟩)/\σ_ 5=.pointer (some ⟨a8,0,none⟩)/\σ_ 7=.pointer (some ⟨bE,0,none⟩)/\PHeap.Le U U_/\sW w U U_ [.blk a8 104 B8,.blk a7 104 B8,.blk bg 78 B7,.blk bf 28 B6,.blk bE 169 B9] w_) ?_ ?_
 have q:=bnd m5
 obtain ⟨⟨⟩,eY,dS⟩:=q
 try dsimp only at dS
 refine zt zu [2,3,1,3,2,0] gDr (by kernel_rfl) ?_
 have cw:=j0.drew
 generalize hw_W204:({ ef with drawn:=ef.drawn + 1 }:World)=gM at cw ⊢
 refine oR Z (zE Z Z zl Z yM) (oL Z (cw.ldB (j:=2) Z Z Z yU (v:=jV p1.Kind) Z) (zm ?_ ?_))
 refine zF 0 Z Z Z Z (zD Z Z yV zJ Z) cw (fun hs=>wAv gM U hs eY) (.inr Z) ?_
 rintro dg oc pI gN m9 j2 ⟨rfl,rfl⟩
 have j3:sW w U dg [.blk a8 104 B8,.blk a7 104 B8,.blk bg 78 B7,.blk bf 28 B6] gN:=j2
 refine zc rfl rfl rfl rfl (fun _=>(yi (i:=1) rfl rfl (congrArg (jV) c2) Zp ZU (by decide) (by decide) (wCh yY ZU rfl))) (zQ (cs:=[.nilFunc,.nilFunc,.nilFunc]) rfl rfl rfl rfl rfl yE rfl j3 ?_)
 intro oU er j4
 refine zU (j:=0) (vs:=B9) Z Z Z Z j4 Z Z Z Z ZU (zA Z) Z Z Z ?_
 intro gO j5
 have j6:sW w U dg [.blk er 169 B9,.blk a8 104 B8,.blk a7 104 B8,.blk bg 78 B7,.blk bf 28 B6] gO:=j5
 refine zh ?_
 cases dS
 exact zL ⟨rfl,⟨dg,er,rfl,rfl,rfl,rfl,rfl,m9,(j6.pick [1,2,3,4,0] _ (by decide) rfl)⟩⟩
 refine zQ (cs:=[.nilFunc,.nilFunc,.nilFunc]) Z Z Z Z Z yE Z cw ?_
 intro gP dw j7
 refine zF 0 Z Z Z Z (zD Z Z yV zJ Z) j7 (fun hs=>wAv gP U hs eY) (.inr Z) ?_
 rintro dh od pJ gQ n3 j8 ⟨rfl,rfl⟩
 have j9:sW w U dh [.blk dw 169 [.nilFunc,.nilFunc,.nilFunc],.blk a8 104 B8,.blk a7 104 B8,.blk bg 78 B7,.blk bf 28 B6] gQ:=j8
 refine zc rfl rfl rfl rfl (fun _=>(yi (i:=1) rfl rfl (congrArg (jV) c2) Zp ZU (by decide) (by decide) (wCh yY ZU rfl))) (zU (j:=0) (vs:=B9) rfl rfl rfl rfl j9 rfl rfl rfl rfl ZU (zA rfl) rfl rfl rfl ?_)
 intro gR k3
 have k5:sW w U dh [.blk dw 169 B9,.blk a8 104 B8,.blk a7 104 B8,.blk bg 78 B7,.blk bf 28 B6] gR:=k3
 refine zh ?_
 cases dS
 exact zL ⟨rfl,⟨dh,dw,rfl,rfl,rfl,rfl,rfl,n3,(k5.pick [1,2,3,4,0] _ (by decide) rfl)⟩⟩
 rintro p4 gS ⟨gu,bE,eG,dE,bS,bN,eH,cO,cx⟩
 refine sR (wDo (.fx 4 (wKh gCd) .stop)) Z (oR Z (zE Z eH Zv Z Try.sizeOf166) (oL Z (cx.ldB (j:=4) Z Z Z Try.isAgg166 (v:=.func (.func 112) #[] #[]) Z) (oL Z (cx.ldBA (j:=3) Z Z eG zf zY (vs:=B6) Z Z) (oL Z (cx.ldBA (j:=2) Z Z dE Zz Zh (vs:=B7) Z Z) ?_))))
 have eZ:=cJ.le cO
 have e0:=cK.le cO
 have fb:=cL.le cO
 have fc:=cM.le cO
 have q:=bnd fN
 obtain ⟨⟨cW,cX⟩,jg,fO⟩:=q
 try dsimp only at fO
 refine zF 0 Z Z Z Z (zD Z Z Try.call112 (zB Z (zB Z zJ)) Z) cx (fun hs=>wGS p0 bv bA bw bB bx bC bz bD p1 gS gu hs eZ e0 fb fc jg) (.inr Z) ?_
 rintro cn oe pK gT cP k6 ⟨rfl,rfl⟩
 have k7:sW w U cn [.blk a8 104 B8,.blk a7 104 B8,.blk bg 78 B7,.blk bf 28 B6,.blk bE 169 B9] gT:=k6
 refine oM Z Z (oR Z (zT Z Z (v:=.agg #[jV cW.skier,jV cW.mat]) Z) (oR Z (zT Z Z (v:=.agg #[jV cX.skier,jV cX.mat]) Z) ?_))
 let am:List Value:=[jV cW.skier,jV cW.mat]
 refine zU (j:=1) (vs:=am) Z Z Z Z k7 Z bS Z Z zH (zA Z) Z Z Z ?_
 intro gU k8
 have k9:sW w U cn [.blk a8 104 B8,.blk a7 104 am,.blk bg 78 B7,.blk bf 28 B6,.blk bE 169 B9] gU:=k8
 let af:List Value:=[jV cX.skier,jV cX.mat]
 refine zU (j:=0) (vs:=af) Z Z Z Z k9 Z bN Z Z zH (zA Z) Z Z Z ?_
 intro eh lb
 have cy:sW w U cn [.blk a8 104 af,.blk a7 104 am,.blk bg 78 B7,.blk bf 28 B6,.blk bE 169 B9] eh:=lb
 refine eN (sR (wDo (.fx 4 (wHq (.nil)) .stop)) Z (oR Z (zE Z eH Zv Z Try.sizeOf167) (oL Z (cy.ldB (j:=4) Z Z Z Try.isAgg167 (v:=.func (.func 113) #[] #[]) Z) (oL Z (cy.ldBA (j:=3) Z Z eG zf zY (vs:=B6) Z Z) (oL Z (cy.ldBA (j:=2) Z Z dE Zz Zh (vs:=B7) Z Z) ?_)))))
 have jh:=eZ.le cP
 have ji:=e0.le cP
 have jj:=fb.le cP
 have jk:=fc.le cP
 have q:=bnd fO
 obtain ⟨⟨dY,gj⟩,jl,fQ⟩:=q
 try dsimp only at fQ
 refine zF 0 Z Z Z Z (zD Z Z Try.call113 (zB Z (zB Z zJ)) Z) cy (fun hs=>wGT p0 bv bA bw bB bx bC bz bD p1 eh cn hs jh ji jj jk jl) (.inr Z) ?_
 rintro bJ og pL dt py lc ⟨rfl,rfl⟩
 have cc:sW w U bJ [.blk a8 104 af,.blk a7 104 am,.blk bg 78 B7,.blk bf 28 B6,.blk bE 169 B9] dt:=lc
 refine oM Z Z (oR Z (zT Z Z (v:=jV dY) Z) (oR Z (zT Z Z (v:=jV gj) Z) (oA Z Z (oA Z Z (eN (zM (sR fL3 Z (oR Z (zE Z dE zl Z Try.sizeOf4) (oL Z (cc.ldB (j:=2) Z Z Z Try.isAgg4 (v:=.bool p1.Up) Z) (oR Z (Zg Z Z) (eN (ifc fQ ?_ ?_))))))))))))
 intro dB mW
 refine ZE (nC dB.out) (kN ?_)
 have q:=bnd mW
 obtain ⟨⟨⟩,gf,fR⟩:=q
 try dsimp only at fR
 refine yS (fun σ_ w_=>∃ (U_:PHeap),σ_ 4=.pointer (some ⟨a7,0,none⟩)/\σ_ 5=.pointer (some ⟨a8,0,none⟩)/\σ_ 6=jV dY/\PHeap.Le bJ U_/\sW w U U_ [.blk a8 104 af,.blk a7 104 am,.blk bg 78 B7,.blk bf 28 B6,.blk bE 169 B9] w_) ?_ ?_
 refine zt zu [1,2,3,0,0,3] gDs (by kernel_rfl) ?_
 have cd:=cc.drew
 generalize hw_W295:({ dt with drawn:=dt.drawn + 1 }:World)=oW at cd ⊢
 refine oL Z (cd.ldBA (j:=1) Z Z bS zj zH (vs:=am) Z Z) (oM Z Z (zm ?_ ?_))
 refine ZQ Z Z Z Z (cd.ldBA (j:=0) Z Z bN zj zH (vs:=af) Z Z) (zU (j:=1) (vs:=am) Z Z Z Z cd Z bS Z Z zH (zA Z) Z Z Z ?_)
 intro gX lf
 have lg:sW w U bJ [.blk a8 104 af,.blk a7 104 am,.blk bg 78 B7,.blk bf 28 B6,.blk bE 169 B9] gX:=lf
 refine zU (j:=0) (vs:=af) Z Z Z Z lg Z bN Z Z zH (zA Z) Z Z Z ?_
 intro gY lh
 have lj:sW w U bJ [.blk a8 104 af,.blk a7 104 am,.blk bg 78 B7,.blk bf 28 B6,.blk bE 169 B9] gY:=lh
 refine oA Z Z (zh ?_)
 cases gf
 exact zL ⟨Z,⟨bJ,bS,bN,Z,(zP _),lj⟩⟩
 refine zU (j:=1) (vs:=am) Z Z Z Z cd Z bS Z Z zH (zA Z) Z Z Z ?_
 intro gZ lk
 have fG:sW w U bJ [.blk a8 104 af,.blk a7 104 am,.blk bg 78 B7,.blk bf 28 B6,.blk bE 169 B9] gZ:=lk
 refine ZQ Z Z Z Z (fG.ldBA (j:=0) Z Z bN zj zH (vs:=af) Z Z) (zU (j:=0) (vs:=af) Z Z Z Z fG Z bN Z Z zH (zA Z) Z Z Z ?_)
 intro g6 ll
 have lm:sW w U bJ [.blk a8 104 af,.blk a7 104 am,.blk bg 78 B7,.blk bf 28 B6,.blk bE 169 B9] g6:=ll
 refine oA Z Z (zh ?_)
 cases gf
 exact zL ⟨Z,⟨bJ,bS,bN,Z,(zP _),lm⟩⟩
 rintro p5 oX ⟨gv,i2,i3,i4,pz,dM⟩
 refine zR ?_
 cases fR
 exact ⟨rfl,_,(wDg (rs:=[.cell 4 104,.cell 5 104,.tmp 6]) (vs:=[.agg am.toArray,.agg af.toArray,jV dY]) ⟨⟨_,i2,(wAw zj zH (dM.blkAt (k:=1) rfl) (vs:=am) rfl rfl)⟩,⟨⟨_,i3,(wAw zj zH (dM.blkAt (k:=0) rfl) (vs:=af) rfl rfl)⟩,⟨i4,trivial⟩⟩⟩ rfl),gv,_,(dM.pick [] _ (by decide) rfl),rfl,rfl⟩
 intro dB mX
 refine ZI (nF (dB.out)) (sR (wDF gCq) Z (oL Z (cc.ldBA (j:=0) Z Z bN zj zH (vs:=af) Z Z) (oL Z (cc.ldBA (j:=1) Z Z bS zj zH (vs:=am) Z Z) (oM Z Z (zU (j:=1) (vs:=af) Z Z Z Z cc Z bS Z Z zH (zA Z) Z Z Z ?_)))))
 intro g7 ln
 have lp:sW w U bJ [.blk a8 104 af,.blk a7 104 af,.blk bg 78 B7,.blk bf 28 B6,.blk bE 169 B9] g7:=ln
 refine zU (j:=0) (vs:=am) Z Z Z Z lp Z bN Z Z zH (zA Z) Z Z Z ?_
 intro g8 lq
 have dN:sW w U bJ [.blk a8 104 am,.blk a7 104 af,.blk bg 78 B7,.blk bf 28 B6,.blk bE 169 B9] g8:=lq
 refine oA Z Z (eN (zR (zW ?_)))
 cases mX
 exact ⟨rfl,_,(wDg (rs:=[.cell 4 104,.cell 5 104,.tmp 6]) (vs:=[.agg af.toArray,.agg am.toArray,jV gj]) ⟨⟨_,bS,(wAw zj zH (dN.blkAt (k:=1) rfl) (vs:=af) rfl rfl)⟩,⟨⟨_,bN,(wAw zj zH (dN.blkAt (k:=0) rfl) (vs:=am) rfl rfl)⟩,⟨rfl,trivial⟩⟩⟩ rfl),bJ,_,(dN.pick [] _ (by decide) rfl),rfl,rfl⟩
 by_cases c3:p1.Kind=2
 have fS:=hm;rw [if_neg c1,if_neg c2,if_pos c3] at fS
 refine sR gDi Z ?_
 let an:List Value:=[.slice bv p0.Starts.length bA,.slice bw p0.Splits.length bB,.slice bx p0.Clocks.length bC,.slice bz p0.Readings.length bD]
 refine zy (cs:=an) rfl rfl rfl rfl rfl rfl (by rfl) hS ?_
 intro oY bh ls
 let ao:List Value:=[jV p1.Kind,jV p1.Skier,jV p1.Index,.bool p1.Up]
 refine zy (cs:=ao) rfl rfl rfl rfl rfl rfl (by rfl) ls ?_
 intro o0 bi lu
 let br:List Value:=[jV 0,jV 0]
 refine zQ (cs:=br) Z Z Z Z Z zb Z lu ?_
 intro o3 ba lv
 refine zQ (cs:=br) Z Z Z Z Z zb Z lv ?_
 intro ej bb lw
 refine oA Z Z (eN ?_)
 have q:=bnd fS
 obtain ⟨⟨⟩,m7,fT⟩:=q
 try dsimp only at fT
 let bn:List Value:=[.func (.func 114) #[] #[],.func (.func 115) #[] #[],.func (.func 116) #[] #[]]
 refine yS (fun σ_ w_=>∃ (U_:PHeap) (bG:Nat),σ_ 2=.pointer (some ⟨bh,0,none⟩)/\σ_ 3=.pointer (some ⟨bi,0,none⟩)/\σ_ 4=.pointer (some ⟨ba,0,none⟩)/\σ_ 5=.pointer (some ⟨bb,0,none⟩)/\σ_ 7=.pointer (some ⟨bG,0,none⟩)/\PHeap.Le U U_/\sW w U U_ [.blk bb 104 br,.blk ba 104 br,.blk bi 78 ao,.blk bh 28 an,.blk bG 169 bn] w_) ?_ ?_
 have q:=bnd m7
 obtain ⟨⟨⟩,ff,dT⟩:=q
 try dsimp only at dT
 refine zt zu [2,3,1,3,2,0] gDr (by kernel_rfl) ?_
 have cz:=lw.drew
 generalize hw_W363:({ ej with drawn:=ej.drawn + 1 }:World)=g9 at cz ⊢
 refine oR Z (zE Z Z zl Z yM) (oL Z (cz.ldB (j:=2) Z Z Z yU (v:=jV p1.Kind) Z) (zm ?_ ?_))
 refine zF 0 Z Z Z Z (zD Z Z yV zJ Z) cz (fun hs=>wAv g9 U hs ff) (.inr Z) ?_
 rintro di oh pM ib n4 lx ⟨rfl,rfl⟩
 have ly:sW w U di [.blk bb 104 br,.blk ba 104 br,.blk bi 78 ao,.blk bh 28 an] ib:=lx
 refine zc rfl rfl rfl rfl (fun _=>(yi (i:=2) rfl rfl (congrArg (jV) c3) Zp ZU (by decide) (by decide) (wCh yY ZU rfl))) (zQ (cs:=[.nilFunc,.nilFunc,.nilFunc]) rfl rfl rfl rfl rfl yE rfl ly ?_)
 intro o5 eu lz
 refine zU (j:=0) (vs:=bn) Z Z Z Z lz Z Z Z Z ZU (zA Z) Z Z Z ?_
 intro ic lA
 have lB:sW w U di [.blk eu 169 bn,.blk bb 104 br,.blk ba 104 br,.blk bi 78 ao,.blk bh 28 an] ic:=lA
 refine zh ?_
 cases dT
 exact zL ⟨rfl,⟨di,eu,rfl,rfl,rfl,rfl,rfl,n4,(lB.pick [1,2,3,4,0] _ (by decide) rfl)⟩⟩
 refine zQ (cs:=[.nilFunc,.nilFunc,.nilFunc]) Z Z Z Z Z yE Z cz ?_
 intro ie dx lD
 refine zF 0 Z Z Z Z (zD Z Z yV zJ Z) lD (fun hs=>wAv ie U hs ff) (.inr Z) ?_
 rintro dk oi pN ig n5 lE ⟨rfl,rfl⟩
 have lF:sW w U dk [.blk dx 169 [.nilFunc,.nilFunc,.nilFunc],.blk bb 104 br,.blk ba 104 br,.blk bi 78 ao,.blk bh 28 an] ig:=lE
 refine zc rfl rfl rfl rfl (fun _=>(yi (i:=2) rfl rfl (congrArg (jV) c3) Zp ZU (by decide) (by decide) (wCh yY ZU rfl))) (zU (j:=0) (vs:=bn) rfl rfl rfl rfl lF rfl rfl rfl rfl ZU (zA rfl) rfl rfl rfl ?_)
 intro ii lG
 have lH:sW w U dk [.blk dx 169 bn,.blk bb 104 br,.blk ba 104 br,.blk bi 78 ao,.blk bh 28 an] ii:=lG
 refine zh ?_
 cases dT
 exact zL ⟨rfl,⟨dk,dx,rfl,rfl,rfl,rfl,rfl,n5,(lH.pick [1,2,3,4,0] _ (by decide) rfl)⟩⟩
 rintro p6 ij ⟨gw,bG,eI,dH,bT,bO,eJ,cQ,cA⟩
 refine sR (wDo (.fx 4 (wKh gCd) .stop)) Z (oR Z (zE Z eJ Zv Z Try.sizeOf166) (oL Z (cA.ldB (j:=4) Z Z Z Try.isAgg166 (v:=.func (.func 115) #[] #[]) Z) (oL Z (cA.ldBA (j:=3) Z Z eI zf zY (vs:=an) Z Z) (oL Z (cA.ldBA (j:=2) Z Z dH Zz Zh (vs:=ao) Z Z) ?_))))
 have fg:=cJ.le cQ
 have fh:=cK.le cQ
 have fj:=cL.le cQ
 have fk:=cM.le cQ
 have q:=bnd fT
 obtain ⟨⟨cY,cZ⟩,jm,fU⟩:=q
 try dsimp only at fU
 refine zF 0 Z Z Z Z (zD Z Z Try.call115 (zB Z (zB Z zJ)) Z) cA (fun hs=>wGV p0 bv bA bw bB bx bC bz bD p1 ij gw hs fg fh fj fk jm) (.inr Z) ?_
 rintro co oj pO ik cR lI ⟨rfl,rfl⟩
 have lJ:sW w U co [.blk bb 104 br,.blk ba 104 br,.blk bi 78 ao,.blk bh 28 an,.blk bG 169 bn] ik:=lI
 refine oM Z Z (oR Z (zT Z Z (v:=.agg #[jV cY.skier,jV cY.mat]) Z) (oR Z (zT Z Z (v:=.agg #[jV cZ.skier,jV cZ.mat]) Z) ?_))
 let ap:List Value:=[jV cY.skier,jV cY.mat]
 refine zU (j:=1) (vs:=ap) Z Z Z Z lJ Z bT Z Z zH (zA Z) Z Z Z ?_
 intro il lK
 have lL:sW w U co [.blk bb 104 br,.blk ba 104 ap,.blk bi 78 ao,.blk bh 28 an,.blk bG 169 bn] il:=lK
 let ag:List Value:=[jV cZ.skier,jV cZ.mat]
 refine zU (j:=0) (vs:=ag) Z Z Z Z lL Z bO Z Z zH (zA Z) Z Z Z ?_
 intro ek lM
 have cB:sW w U co [.blk bb 104 ag,.blk ba 104 ap,.blk bi 78 ao,.blk bh 28 an,.blk bG 169 bn] ek:=lM
 refine eN (sR (wDo (.fx 4 (wHq (.nil)) .stop)) Z (oR Z (zE Z eJ Zv Z Try.sizeOf167) (oL Z (cB.ldB (j:=4) Z Z Z Try.isAgg167 (v:=.func (.func 116) #[] #[]) Z) (oL Z (cB.ldBA (j:=3) Z Z eI zf zY (vs:=an) Z Z) (oL Z (cB.ldBA (j:=2) Z Z dH Zz Zh (vs:=ao) Z Z) ?_)))))
 have jo:=fg.le cR
 have jp:=fh.le cR
 have jq:=fj.le cR
 have jr:=fk.le cR
 have q:=bnd fU
 obtain ⟨⟨dZ,gm⟩,jt,fV⟩:=q
 try dsimp only at fV
 refine zF 0 Z Z Z Z (zD Z Z Try.call116 (zB Z (zB Z zJ)) Z) cB (fun hs=>wGW p0 bv bA bw bB bx bC bz bD p1 ek co hs jo jp jq jr jt) (.inr Z) ?_
 rintro bL ol pP du pB lN ⟨rfl,rfl⟩
 have cf:sW w U bL [.blk bb 104 ag,.blk ba 104 ap,.blk bi 78 ao,.blk bh 28 an,.blk bG 169 bn] du:=lN
 refine oM Z Z (oR Z (zT Z Z (v:=jV dZ) Z) (oR Z (zT Z Z (v:=jV gm) Z) (oA Z Z (oA Z Z (eN (zM (sR fL3 Z (oR Z (zE Z dH zl Z Try.sizeOf4) (oL Z (cf.ldB (j:=2) Z Z Z Try.isAgg4 (v:=.bool p1.Up) Z) (oR Z (Zg Z Z) (eN (ifc fV ?_ ?_))))))))))))
 intro dC mY
 refine ZE (nC dC.out) (kN ?_)
 have q:=bnd mY
 obtain ⟨⟨⟩,gg,fY⟩:=q
 try dsimp only at fY
 refine yS (fun σ_ w_=>∃ (U_:PHeap),σ_ 4=.pointer (some ⟨ba,0,none⟩)/\σ_ 5=.pointer (some ⟨bb,0,none⟩)/\σ_ 6=jV dZ/\PHeap.Le bL U_/\sW w U U_ [.blk bb 104 ag,.blk ba 104 ap,.blk bi 78 ao,.blk bh 28 an,.blk bG 169 bn] w_) ?_ ?_
 refine zt zu [1,2,3,0,0,3] gDs (by kernel_rfl) ?_
 have cg:=cf.drew
 generalize hw_W454:({ du with drawn:=du.drawn + 1 }:World)=o6 at cg ⊢
 refine oL Z (cg.ldBA (j:=1) Z Z bT zj zH (vs:=ap) Z Z) (oM Z Z (zm ?_ ?_))
 refine ZQ Z Z Z Z (cg.ldBA (j:=0) Z Z bO zj zH (vs:=ag) Z Z) (zU (j:=1) (vs:=ap) Z Z Z Z cg Z bT Z Z zH (zA Z) Z Z Z ?_)
 intro io lO
 have lP:sW w U bL [.blk bb 104 ag,.blk ba 104 ap,.blk bi 78 ao,.blk bh 28 an,.blk bG 169 bn] io:=lO
 refine zU (j:=0) (vs:=ag) Z Z Z Z lP Z bO Z Z zH (zA Z) Z Z Z ?_
 intro ip lQ
 have lR:sW w U bL [.blk bb 104 ag,.blk ba 104 ap,.blk bi 78 ao,.blk bh 28 an,.blk bG 169 bn] ip:=lQ
 refine oA Z Z (zh ?_)
 cases gg
 exact zL ⟨Z,⟨bL,bT,bO,Z,(zP _),lR⟩⟩
 refine zU (j:=1) (vs:=ap) Z Z Z Z cg Z bT Z Z zH (zA Z) Z Z Z ?_
 intro iq lS
 have fH:sW w U bL [.blk bb 104 ag,.blk ba 104 ap,.blk bi 78 ao,.blk bh 28 an,.blk bG 169 bn] iq:=lS
 refine ZQ Z Z Z Z (fH.ldBA (j:=0) Z Z bO zj zH (vs:=ag) Z Z) (zU (j:=0) (vs:=ag) Z Z Z Z fH Z bO Z Z zH (zA Z) Z Z Z ?_)
 intro ir lT
 have lU:sW w U bL [.blk bb 104 ag,.blk ba 104 ap,.blk bi 78 ao,.blk bh 28 an,.blk bG 169 bn] ir:=lT
 refine oA Z Z (zh ?_)
 cases gg
 exact zL ⟨Z,⟨bL,bT,bO,Z,(zP _),lU⟩⟩
 rintro p7 o7 ⟨gx,i5,i6,i7,pC,dO⟩
 refine zR ?_
 cases fY
 exact ⟨rfl,_,(wDg (rs:=[.cell 4 104,.cell 5 104,.tmp 6]) (vs:=[.agg ap.toArray,.agg ag.toArray,jV dZ]) ⟨⟨_,i5,(wAw zj zH (dO.blkAt (k:=1) rfl) (vs:=ap) rfl rfl)⟩,⟨⟨_,i6,(wAw zj zH (dO.blkAt (k:=0) rfl) (vs:=ag) rfl rfl)⟩,⟨i7,trivial⟩⟩⟩ rfl),gx,_,(dO.pick [] _ (by decide) rfl),rfl,rfl⟩
 intro dC mZ
 refine ZI (nF (dC.out)) (sR (wDF gCq) Z (oL Z (cf.ldBA (j:=0) Z Z bO zj zH (vs:=ag) Z Z) (oL Z (cf.ldBA (j:=1) Z Z bT zj zH (vs:=ap) Z Z) (oM Z Z (zU (j:=1) (vs:=ag) Z Z Z Z cf Z bT Z Z zH (zA Z) Z Z Z ?_)))))
 intro it lV
 have lW:sW w U bL [.blk bb 104 ag,.blk ba 104 ag,.blk bi 78 ao,.blk bh 28 an,.blk bG 169 bn] it:=lV
 refine zU (j:=0) (vs:=ap) Z Z Z Z lW Z bO Z Z zH (zA Z) Z Z Z ?_
 intro iu lX
 have dP:sW w U bL [.blk bb 104 ap,.blk ba 104 ag,.blk bi 78 ao,.blk bh 28 an,.blk bG 169 bn] iu:=lX
 refine oA Z Z (eN (zR (zW ?_)))
 cases mZ
 exact ⟨rfl,_,(wDg (rs:=[.cell 4 104,.cell 5 104,.tmp 6]) (vs:=[.agg ag.toArray,.agg ap.toArray,jV gm]) ⟨⟨_,bT,(wAw zj zH (dP.blkAt (k:=1) rfl) (vs:=ag) rfl rfl)⟩,⟨⟨_,bO,(wAw zj zH (dP.blkAt (k:=0) rfl) (vs:=ap) rfl rfl)⟩,⟨rfl,trivial⟩⟩⟩ rfl),bL,_,(dP.pick [] _ (by decide) rfl),rfl,rfl⟩
 by_cases c4:p1.Kind=3
 have fZ:=hm;rw [if_neg c1,if_neg c2,if_neg c3,if_pos c4] at fZ
 refine sR gDi Z ?_
 let aq:List Value:=[.slice bv p0.Starts.length bA,.slice bw p0.Splits.length bB,.slice bx p0.Clocks.length bC,.slice bz p0.Readings.length bD]
 refine zy (cs:=aq) rfl rfl rfl rfl rfl rfl (by rfl) hS ?_
 intro o8 bj lY
 let au:List Value:=[jV p1.Kind,jV p1.Skier,jV p1.Index,.bool p1.Up]
 refine zy (cs:=au) rfl rfl rfl rfl rfl rfl (by rfl) lY ?_
 intro o9 bk lZ
 let bt:List Value:=[jV 0,jV 0]
 refine zQ (cs:=bt) Z Z Z Z Z zb Z lZ ?_
 intro pd bc l5
 refine zQ (cs:=bt) Z Z Z Z Z zb Z l5 ?_
 intro en bd l6
 refine oA Z Z (eN ?_)
 have q:=bnd fZ
 obtain ⟨⟨⟩,m8,f5⟩:=q
 try dsimp only at f5
 let bo:List Value:=[.func (.func 117) #[] #[],.func (.func 118) #[] #[],.func (.func 119) #[] #[]]
 refine yS (fun σ_ w_=>∃ (U_:PHeap) (bH:Nat),σ_ 2=.pointer (some ⟨bj,0,none⟩)/\σ_ 3=.pointer (some ⟨bk,0,none⟩)/\σ_ 4=.pointer (some ⟨bc,0,none⟩)/\σ_ 5=.pointer (some ⟨bd,0,none⟩)/\σ_ 7=.pointer (some ⟨bH,0,none⟩)/\PHeap.Le U U_/\sW w U U_ [.blk bd 104 bt,.blk bc 104 bt,.blk bk 78 au,.blk bj 28 aq,.blk bH 169 bo] w_) ?_ ?_
 have q:=bnd m8
 obtain ⟨⟨⟩,fm,dV⟩:=q
 try dsimp only at dV
 refine zt zu [2,3,1,3,2,0] gDr (by kernel_rfl) ?_
 have cD:=l6.drew
 generalize hw_W522:({ en with drawn:=en.drawn + 1 }:World)=iw at cD ⊢
 refine oR Z (zE Z Z zl Z yM) (oL Z (cD.ldB (j:=2) Z Z Z yU (v:=jV p1.Kind) Z) (zm ?_ ?_))
 refine zF 0 Z Z Z Z (zD Z Z yV zJ Z) cD (fun hs=>wAv iw U hs fm) (.inr Z) ?_
 rintro dm oo pR iy n7 ma ⟨rfl,rfl⟩
 have mb:sW w U dm [.blk bd 104 bt,.blk bc 104 bt,.blk bk 78 au,.blk bj 28 aq] iy:=ma
 refine zc rfl rfl rfl rfl (fun _=>(yi (i:=3) rfl rfl (congrArg (jV) c4) Zp ZU (by decide) (by decide) (wCh yY ZU rfl))) (zQ (cs:=[.nilFunc,.nilFunc,.nilFunc]) rfl rfl rfl rfl rfl yE rfl mb ?_)
 intro pf ew mc
 refine zU (j:=0) (vs:=bo) Z Z Z Z mc Z Z Z Z ZU (zA Z) Z Z Z ?_
 intro iz md
 have me:sW w U dm [.blk ew 169 bo,.blk bd 104 bt,.blk bc 104 bt,.blk bk 78 au,.blk bj 28 aq] iz:=md
 refine zh ?_
 cases dV
 exact zL ⟨rfl,⟨dm,ew,rfl,rfl,rfl,rfl,rfl,n7,(me.pick [1,2,3,4,0] _ (by decide) rfl)⟩⟩
 refine zQ (cs:=[.nilFunc,.nilFunc,.nilFunc]) Z Z Z Z Z yE Z cD ?_
 intro iA dy mf
 refine zF 0 Z Z Z Z (zD Z Z yV zJ Z) mf (fun hs=>wAv iA U hs fm) (.inr Z) ?_
 rintro dp oq pS iB n8 mg ⟨rfl,rfl⟩
 have mh:sW w U dp [.blk dy 169 [.nilFunc,.nilFunc,.nilFunc],.blk bd 104 bt,.blk bc 104 bt,.blk bk 78 au,.blk bj 28 aq] iB:=mg
 refine zc rfl rfl rfl rfl (fun _=>(yi (i:=3) rfl rfl (congrArg (jV) c4) Zp ZU (by decide) (by decide) (wCh yY ZU rfl))) (zU (j:=0) (vs:=bo) rfl rfl rfl rfl mh rfl rfl rfl rfl ZU (zA rfl) rfl rfl rfl ?_)
 intro iC mj
 have mm:sW w U dp [.blk dy 169 bo,.blk bd 104 bt,.blk bc 104 bt,.blk bk 78 au,.blk bj 28 aq] iC:=mj
 refine zh ?_
 cases dV
 exact zL ⟨rfl,⟨dp,dy,rfl,rfl,rfl,rfl,rfl,n8,(mm.pick [1,2,3,4,0] _ (by decide) rfl)⟩⟩
 rintro p8 iD ⟨gy,bH,eO,dI,bU,bQ,eU,cS,cE⟩
 refine sR (wDo (.fx 4 (wKh gCd) .stop)) Z (oR Z (zE Z eU Zv Z Try.sizeOf166) (oL Z (cE.ldB (j:=4) Z Z Z Try.isAgg166 (v:=.func (.func 118) #[] #[]) Z) (oL Z (cE.ldBA (j:=3) Z Z eO zf zY (vs:=aq) Z Z) (oL Z (cE.ldBA (j:=2) Z Z dI Zz Zh (vs:=au) Z Z) ?_))))
 have fq:=cJ.le cS
 have ft:=cK.le cS
 have fu:=cL.le cS
 have fw:=cM.le cS
 have q:=bnd f5
 obtain ⟨⟨c6,da⟩,ju,f7⟩:=q
 try dsimp only at f7
 refine zF 0 Z Z Z Z (zD Z Z Try.call118 (zB Z (zB Z zJ)) Z) cE (fun hs=>wGA p0 bv bA bw bB bx bC bz bD p1 iD gy hs fq ft fu fw ju) (.inr Z) ?_
 rintro cp ot pT iF cU mn ⟨rfl,rfl⟩
 have mo:sW w U cp [.blk bd 104 bt,.blk bc 104 bt,.blk bk 78 au,.blk bj 28 aq,.blk bH 169 bo] iF:=mn
 refine oM Z Z (oR Z (zT Z Z (v:=.agg #[jV c6.skier,jV c6.mat]) Z) (oR Z (zT Z Z (v:=.agg #[jV da.skier,jV da.mat]) Z) ?_))
 let av:List Value:=[jV c6.skier,jV c6.mat]
 refine zU (j:=1) (vs:=av) Z Z Z Z mo Z bU Z Z zH (zA Z) Z Z Z ?_
 intro iG mq
 have mr:sW w U cp [.blk bd 104 bt,.blk bc 104 av,.blk bk 78 au,.blk bj 28 aq,.blk bH 169 bo] iG:=mq
 let ah:List Value:=[jV da.skier,jV da.mat]
 refine zU (j:=0) (vs:=ah) Z Z Z Z mr Z bQ Z Z zH (zA Z) Z Z Z ?_
 intro eo ms
 have cG:sW w U cp [.blk bd 104 ah,.blk bc 104 av,.blk bk 78 au,.blk bj 28 aq,.blk bH 169 bo] eo:=ms
 refine eN (sR (wDo (.fx 4 (wHq (.nil)) .stop)) Z (oR Z (zE Z eU Zv Z Try.sizeOf167) (oL Z (cG.ldB (j:=4) Z Z Z Try.isAgg167 (v:=.func (.func 119) #[] #[]) Z) (oL Z (cG.ldBA (j:=3) Z Z eO zf zY (vs:=aq) Z Z) (oL Z (cG.ldBA (j:=2) Z Z dI Zz Zh (vs:=au) Z Z) ?_)))))
 have jv:=fq.le cU
 have jw:=ft.le cU
 have jx:=fu.le cU
 have jy:=fw.le cU
 have q:=bnd f7
 obtain ⟨⟨d7,gp⟩,jz,f8⟩:=q
 try dsimp only at f8
 refine zF 0 Z Z Z Z (zD Z Z Try.call119 (zB Z (zB Z zJ)) Z) cG (fun hs=>wGB p0 bv bA bw bB bx bC bz bD p1 eo cp hs jv jw jx jy jz) (.inr Z) ?_
 rintro bM ou pU dv pD mw ⟨rfl,rfl⟩
 have ci:sW w U bM [.blk bd 104 ah,.blk bc 104 av,.blk bk 78 au,.blk bj 28 aq,.blk bH 169 bo] dv:=mw
 refine oM Z Z (oR Z (zT Z Z (v:=jV d7) Z) (oR Z (zT Z Z (v:=jV gp) Z) (oA Z Z (oA Z Z (eN (zM (sR fL3 Z (oR Z (zE Z dI zl Z Try.sizeOf4) (oL Z (ci.ldB (j:=2) Z Z Z Try.isAgg4 (v:=.bool p1.Up) Z) (oR Z (Zg Z Z) (eN (ifc f8 ?_ ?_))))))))))))
 intro dD m3
 refine ZE (nC dD.out) (kN ?_)
 have q:=bnd m3
 obtain ⟨⟨⟩,gh,f9⟩:=q
 try dsimp only at f9
 refine yS (fun σ_ w_=>∃ (U_:PHeap),σ_ 4=.pointer (some ⟨bc,0,none⟩)/\σ_ 5=.pointer (some ⟨bd,0,none⟩)/\σ_ 6=jV d7/\PHeap.Le bM U_/\sW w U U_ [.blk bd 104 ah,.blk bc 104 av,.blk bk 78 au,.blk bj 28 aq,.blk bH 169 bo] w_) ?_ ?_
 refine zt zu [1,2,3,0,0,3] gDs (by kernel_rfl) ?_
 have cm:=ci.drew
 generalize hw_W613:({ dv with drawn:=dv.drawn + 1 }:World)=ph at cm ⊢
 refine oL Z (cm.ldBA (j:=1) Z Z bU zj zH (vs:=av) Z Z) (oM Z Z (zm ?_ ?_))
 refine ZQ Z Z Z Z (cm.ldBA (j:=0) Z Z bQ zj zH (vs:=ah) Z Z) (zU (j:=1) (vs:=av) Z Z Z Z cm Z bU Z Z zH (zA Z) Z Z Z ?_)
 intro iH mx
 have my:sW w U bM [.blk bd 104 ah,.blk bc 104 av,.blk bk 78 au,.blk bj 28 aq,.blk bH 169 bo] iH:=mx
 refine zU (j:=0) (vs:=ah) Z Z Z Z my Z bQ Z Z zH (zA Z) Z Z Z ?_
 intro iI mz
 have mA:sW w U bM [.blk bd 104 ah,.blk bc 104 av,.blk bk 78 au,.blk bj 28 aq,.blk bH 169 bo] iI:=mz
 refine oA Z Z (zh ?_)
 cases gh
 exact zL ⟨Z,⟨bM,bU,bQ,Z,(zP _),mA⟩⟩
 refine zU (j:=1) (vs:=av) Z Z Z Z cm Z bU Z Z zH (zA Z) Z Z Z ?_
 intro iK mB
 have fI:sW w U bM [.blk bd 104 ah,.blk bc 104 av,.blk bk 78 au,.blk bj 28 aq,.blk bH 169 bo] iK:=mB
 refine ZQ Z Z Z Z (fI.ldBA (j:=0) Z Z bQ zj zH (vs:=ah) Z Z) (zU (j:=0) (vs:=ah) Z Z Z Z fI Z bQ Z Z zH (zA Z) Z Z Z ?_)
 intro iL mC
 have mD:sW w U bM [.blk bd 104 ah,.blk bc 104 av,.blk bk 78 au,.blk bj 28 aq,.blk bH 169 bo] iL:=mC
 refine oA Z Z (zh ?_)
 cases gh
 exact zL ⟨Z,⟨bM,bU,bQ,Z,(zP _),mD⟩⟩
 rintro p9 pj ⟨gz,i8,i9,ja,pE,dQ⟩
 refine zR ?_
 cases f9
 exact ⟨rfl,_,(wDg (rs:=[.cell 4 104,.cell 5 104,.tmp 6]) (vs:=[.agg av.toArray,.agg ah.toArray,jV d7]) ⟨⟨_,i8,(wAw zj zH (dQ.blkAt (k:=1) rfl) (vs:=av) rfl rfl)⟩,⟨⟨_,i9,(wAw zj zH (dQ.blkAt (k:=0) rfl) (vs:=ah) rfl rfl)⟩,⟨ja,trivial⟩⟩⟩ rfl),gz,_,(dQ.pick [] _ (by decide) rfl),rfl,rfl⟩
 intro dD m4
 refine ZI (nF (dD.out)) (sR (wDF gCq) Z (oL Z (ci.ldBA (j:=0) Z Z bQ zj zH (vs:=ah) Z Z) (oL Z (ci.ldBA (j:=1) Z Z bU zj zH (vs:=av) Z Z) (oM Z Z (zU (j:=1) (vs:=ah) Z Z Z Z ci Z bU Z Z zH (zA Z) Z Z Z ?_)))))
 intro iM mE
 have mF:sW w U bM [.blk bd 104 ah,.blk bc 104 ah,.blk bk 78 au,.blk bj 28 aq,.blk bH 169 bo] iM:=mE
 refine zU (j:=0) (vs:=av) Z Z Z Z mF Z bQ Z Z zH (zA Z) Z Z Z ?_
 intro iN mG
 have dR:sW w U bM [.blk bd 104 av,.blk bc 104 ah,.blk bk 78 au,.blk bj 28 aq,.blk bH 169 bo] iN:=mG
 refine oA Z Z (eN (zR (zW ?_)))
 cases m4
 exact ⟨rfl,_,(wDg (rs:=[.cell 4 104,.cell 5 104,.tmp 6]) (vs:=[.agg ah.toArray,.agg av.toArray,jV gp]) ⟨⟨_,bU,(wAw zj zH (dR.blkAt (k:=1) rfl) (vs:=ah) rfl rfl)⟩,⟨⟨_,bQ,(wAw zj zH (dR.blkAt (k:=0) rfl) (vs:=av) rfl rfl)⟩,⟨rfl,trivial⟩⟩⟩ rfl),bM,_,(dR.pick [] _ (by decide) rfl),rfl,rfl⟩
 have ga:=hm;rw [if_neg c1,if_neg c2,if_neg c3,if_neg c4] at ga
 refine sR gDi Z ?_
 let de:List Value:=[.slice bv p0.Starts.length bA,.slice bw p0.Splits.length bB,.slice bx p0.Clocks.length bC,.slice bz p0.Readings.length bD]
 refine zy (cs:=de) rfl rfl rfl rfl rfl rfl (by rfl) hS ?_
 intro pk eA mI
 let df:List Value:=[jV p1.Kind,jV p1.Skier,jV p1.Index,.bool p1.Up]
 refine zy (cs:=df) rfl rfl rfl rfl rfl rfl (by rfl) mI ?_
 intro pm eD mJ
 let bX:List Value:=[jV 0,jV 0]
 refine zQ (cs:=bX) Z Z Z Z Z zb Z mJ ?_
 intro pn eE mK
 refine zQ (cs:=bX) Z Z Z Z Z zb Z mK ?_
 intro ep eF mL
 refine oA Z Z (eN (zM ?_))
 have q:=bnd ga
 obtain ⟨⟨⟩,fy,dW⟩:=q
 try dsimp only at dW
 refine zt zu [2,3,1,3,2,0] gDr (by kernel_rfl) ?_
 have cH:=mL.drew
 generalize hw_W669:({ ep with drawn:=ep.drawn + 1 }:World)=iO at cH ⊢
 refine oR Z (zE Z Z zl Z yM) (oL Z (cH.ldB (j:=2) Z Z Z yU (v:=jV p1.Kind) Z) (zm ?_ ?_))
 refine zF 0 Z Z Z Z (zD Z Z yV zJ Z) cH (fun hs=>wAv iO U hs fy) (.inr Z) ?_
 rintro gA ow pV iP pF mM ⟨rfl,rfl⟩
 have po:sW w U gA [.blk eF 104 bX,.blk eE 104 bX,.blk eD 78 df,.blk eA 28 de] iP:=mM
 cases dW
 refine zQ (cs:=[.nilFunc,.nilFunc,.nilFunc]) Z Z Z Z Z yE Z cH ?_
 intro iQ iW mN
 refine zF 0 Z Z Z Z (zD Z Z yV zJ Z) mN (fun hs=>wAv iQ U hs fy) (.inr Z) ?_
 rintro gC ox pX iR pG mO ⟨rfl,rfl⟩
 have pp:sW w U gC [.blk iW 169 [.nilFunc,.nilFunc,.nilFunc],.blk eF 104 bX,.blk eE 104 bX,.blk eD 78 df,.blk eA 28 de] iR:=mO
 cases dW
end Go.Proofs.Ytlnfbjphfoipaaa
namespace Go.Proofs.Ytlnfbjphfoipaaa
open Go.KL
set_option maxHeartbeats 4000000
theorem wFI (p0:wAE) (ai:Option Addr) (an:Nat) (aj:Option Addr) (ao:Nat) (ak:Option Addr) (ap:Nat) (am:Option Addr) (aq:Nat) (w:World) (U:PHeap) (hS:St0 w U []) (qG:Sl U 1 ai an p0.Starts.length (hD KL.encI p0.Starts)) (qH:Sl U 2 aj ao p0.Splits.length (hD wAC p0.Splits)) (qJ:Sl U 3 ak ap p0.Clocks.length (hD wAA p0.Clocks)) (qK:Sl U 4 am aq p0.Readings.length (hD wAB p0.Readings)) {r:wAX} (hm:wCj p0=some r):Gv Try.prog 89 [.agg #[.slice ai p0.Starts.length an,.slice aj p0.Splits.length ao,.slice ak p0.Clocks.length ap,.slice am p0.Readings.length aq]] w (wBw w [] U (fun U_ L_ v=>∃ (b0:Nat) (A0p00:Option Addr) (c0p00:Nat) (A0p01:Option Addr) (c0p01:Nat) (A0p02:Option Addr) (c0p02:Nat) (A0p03:Option Addr) (c0p03:Nat) (m0p1:Nat) (es0p1:Array MapEntry) (ck0p1:Nat) (A0p2:Option Addr) (c0p2:Nat),v=.pointer (some ⟨b0,0,none⟩)/\L_=[.blk b0 124 [.slice A0p00 r.Race.Starts.length c0p00,.slice A0p01 r.Race.Splits.length c0p01,.slice A0p02 r.Race.Clocks.length c0p02,.slice A0p03 r.Race.Readings.length c0p03,.map (some m0p1),.slice A0p2 r.edges.length c0p2],.obj m0p1 (.map es0p1 ck0p1),.row A0p2 c0p2 130 7 (hD wAQ r.edges)]/\Sl U_ 1 A0p00 c0p00 r.Race.Starts.length (hD KL.encI r.Race.Starts)/\Sl U_ 2 A0p01 c0p01 r.Race.Splits.length (hD wAC r.Race.Splits)/\Sl U_ 3 A0p02 c0p02 r.Race.Clocks.length (hD wAA r.Race.Clocks)/\Sl U_ 4 A0p03 c0p03 r.Race.Readings.length (hD wAB r.Race.Readings)/\MpR es0p1 wBD wBJ r.number)):=by
 unfold wCj at hm
 refine Go.KX.Gv.ofM Try.func89 Z Try.ntmps89 Try.results89 (zA Z) (sR (.fx 0 (.fl 1 .nil) .stop) Z ?_)
 let B0:List Value:=[.slice ai p0.Starts.length an,.slice aj p0.Splits.length ao,.slice ak p0.Clocks.length ap,.slice am p0.Readings.length aq]
 refine zy (cs:=B0) rfl rfl rfl rfl rfl rfl (by rfl) hS ?_
 intro W1 b2 pW
 refine oA Z Z (eN (bnK hm fun jq rd qO=>yS (fun σ_ w_=>∃ (U_:PHeap) (b6:Nat) (b8:Nat) (ah:Nat) (ct:Array MapEntry) (df:Nat),σ_ 1=.pointer (some ⟨b2,0,none⟩)/\σ_ 3=.pointer (some ⟨b6,0,none⟩)/\PHeap.Le U U_/\sW w U U_ [.blk b2 28 B0,.blk b6 99 [.pointer (some ⟨b8,0,none⟩)],.blk b8 124 [.slice ai p0.Starts.length an,.slice aj p0.Splits.length ao,.slice ak p0.Clocks.length ap,.slice am p0.Readings.length aq,.map (some ah),.slice none 0 0],.obj ah (.map ct df)] w_/\MpR ct wBD wBJ jq) ?_ ?_))
 refine bnK rd fun ag bt qT=>zt zu [2,2,2,0,3,3,2,2,0] (.fx 0 (.fx 1 gDz (.fx 2 gEa (.fx 7 gEb .stop))) (.fx 1 (.fx 0 gDz (.fx 2 gEe (.fx 7 gEc .stop))) (.fx 2 (.fx 0 gEa (.fx 1 gEe (.fx 7 gEd .stop))) (.fx 7 (.fx 0 gEb (.fx 1 gEc (.fx 2 gEd .stop))) .stop)))) (by kernel_rfl) ?_
 have bv:=pW.drew
 generalize hw_W51:({ W1 with drawn:=W1.drawn + 1 }:World)=gz at bv ⊢
 refine ZR (s:=.nil) (M:=fun σ_ w_=>∃ (U_:PHeap) (cR:Nat) (cb:Nat) (bw:Nat) (dr:Array MapEntry) (en:Nat),σ_ 1=.pointer (some ⟨b2,0,none⟩)/\σ_ 3=.pointer (some ⟨cR,0,none⟩)/\σ_ 12=.agg B0.toArray/\σ_ 13=.map (some bw)/\σ_ 14=.agg #[jV ag.skier,jV ag.mat]/\σ_ 15=.map (some bw)/\σ_ 16=.agg #[.slice ai p0.Starts.length an,.slice aj p0.Splits.length ao,.slice ak p0.Clocks.length ap,.slice am p0.Readings.length aq,.map (some bw),.slice none 0 0]/\σ_ 17=.pointer (some ⟨cb,0,none⟩)/\PHeap.Le U U_/\sW w U U_ [.blk b2 28 B0,.blk cR 99 [.pointer (some ⟨cb,0,none⟩)],.blk cb 124 [.slice ai p0.Starts.length an,.slice aj p0.Splits.length ao,.slice ak p0.Clocks.length ap,.slice am p0.Readings.length aq,.map (some bw),.slice none 0 0],.obj bw (.map dr en)] w_/\MpR dr wBD wBJ (wFS ([]:List (wAL × Int)) ag 0)) ?_ fun rf=>?_
 rintro tO sv ⟨jK,cR,cb,bw,dr,en,md,me,tg,th,tj,tk,tm,tn,ry,pX,oc⟩
 refine zh ?_
 cases qT
 exact zL ⟨Z,⟨jK,cR,cb,bw,dr,en,md,me,ry,pX,oc⟩⟩
 refine ZR (s:=.fx 8 .nil .stop) (M:=fun σ_ w_=>∃ (U_:PHeap) (cc:Nat) (bq:Nat) (cw:Array MapEntry) (dh:Nat) (bH:Nat),σ_ 1=.pointer (some ⟨b2,0,none⟩)/\σ_ 3=.pointer (some ⟨cc,0,none⟩)/\σ_ 12=.agg B0.toArray/\σ_ 13=.map (some bq)/\σ_ 14=.agg #[jV ag.skier,jV ag.mat]/\σ_ 15=.map (some bq)/\σ_ 16=.agg #[.slice ai p0.Starts.length an,.slice aj p0.Splits.length ao,.slice ak p0.Clocks.length ap,.slice am p0.Readings.length aq,.map (some bq),.slice none 0 0]/\σ_ 17=.pointer (some ⟨bH,0,none⟩)/\PHeap.Le U U_/\sW w U U_ [.blk b2 28 B0,.blk cc 99 [.pointer none],.obj bq (.map cw dh),.blk bH 124 [.slice ai p0.Starts.length an,.slice aj p0.Splits.length ao,.slice ak p0.Clocks.length ap,.slice am p0.Readings.length aq,.map (some bq),.slice none 0 0]] w_/\MpR cw wBD wBJ (wFS ([]:List (wAL × Int)) ag 0)) ?_ fun dN=>?_
 rintro tP sw ⟨gb,cc,bq,cw,dh,bH,mf,ig,mg,mh,mi,mj,mm,ii,rz,pY,od⟩
 let B1:List Value:=[.pointer (some ⟨bH,0,none⟩)]
 refine zU (j:=1) (vs:=B1) Z Z Z Z pY Z ig ii Z Try.sizeOf99 (zA Z) Z Z Z ?_
 intro lh pZ
 have p4:sW w U gb [.blk b2 28 B0,.blk cc 99 B1,.obj bq (.map cw dh),.blk bH 124 [.slice ai p0.Starts.length an,.slice aj p0.Splits.length ao,.slice ak p0.Clocks.length ap,.slice am p0.Readings.length aq,.map (some bq),.slice none 0 0]] lh:=pZ
 exact rf _ _ ⟨gb,cc,bH,bq,cw,dh,mf,ig,mg,mh,mi,mj,mm,ii,rz,(p4.pick [0,1,3,2] _ (by decide) rfl),od⟩
 refine ZR (s:=gCh) (M:=fun σ_ w_=>∃ (U_:PHeap) (cS:Nat) (bx:Nat) (dt:Array MapEntry) (eo:Nat),σ_ 1=.pointer (some ⟨b2,0,none⟩)/\σ_ 3=.pointer (some ⟨cS,0,none⟩)/\σ_ 12=.agg B0.toArray/\σ_ 13=.map (some bx)/\σ_ 14=.agg #[jV ag.skier,jV ag.mat]/\σ_ 15=.map (some bx)/\σ_ 16=.agg #[.slice ai p0.Starts.length an,.slice aj p0.Splits.length ao,.slice ak p0.Clocks.length ap,.slice am p0.Readings.length aq,.map (some bx),.slice none 0 0]/\PHeap.Le U U_/\sW w U U_ [.blk b2 28 B0,.blk cS 99 [.pointer none],.obj bx (.map dt eo)] w_/\MpR dt wBD wBJ (wFS ([]:List (wAL × Int)) ag 0)) ?_ fun ji=>?_
 rintro tQ sA ⟨jL,cS,bx,dt,eo,mn,mo,mp,mq,mr,ms,ij,rA,p5,oe⟩
 refine zy (cs:=[.slice ai p0.Starts.length an,.slice aj p0.Splits.length ao,.slice ak p0.Clocks.length ap,.slice am p0.Readings.length aq,.map (some bx),.slice none 0 0]) rfl rfl rfl rfl rfl ij (by rfl) p5 ?_
 intro sB lI p6
 exact dN _ _ ⟨jL,cS,bx,dt,eo,lI,mn,mo,mp,mq,mr,ms,ij,rfl,rA,(p6.pick [1,2,3,0] _ (by decide) rfl),oe⟩
 refine ZR (s:=gCg) (M:=fun σ_ w_=>∃ (U_:PHeap) (bz:Nat) (du:Array MapEntry) (ep:Nat) (cU:Nat),σ_ 1=.pointer (some ⟨b2,0,none⟩)/\σ_ 12=.agg B0.toArray/\σ_ 13=.map (some bz)/\σ_ 14=.agg #[jV ag.skier,jV ag.mat]/\σ_ 15=.map (some bz)/\σ_ 16=.agg #[.slice ai p0.Starts.length an,.slice aj p0.Splits.length ao,.slice ak p0.Clocks.length ap,.slice am p0.Readings.length aq,.map (some bz),.slice none 0 0]/\σ_ 17=.pointer (some ⟨cU,0,none⟩)/\PHeap.Le U U_/\sW w U U_ [.blk b2 28 B0,.obj bz (.map du ep),.blk cU 124 [.slice ai p0.Starts.length an,.slice aj p0.Splits.length ao,.slice ak p0.Clocks.length ap,.slice am p0.Readings.length aq,.map (some bz),.slice none 0 0]] w_/\MpR du wBD wBJ (wFS ([]:List (wAL × Int)) ag 0)) ?_ fun jj=>?_
 rintro tR sC ⟨jM,bz,du,ep,cU,mu,mw,mx,my,mz,mA,mB,rB,p7,og⟩
 refine zQ (cs:=[.pointer none]) Z Z Z Z Z yN Z p7 ?_
 intro sD lJ p8
 exact dN _ _ ⟨jM,lJ,bz,du,ep,cU,mu,rfl,mw,mx,my,mz,mA,mB,rB,(p8.pick [1,0,2,3] _ (by decide) rfl),og⟩
 refine ZR (s:=.fl 5 gCh) (M:=fun σ_ w_=>∃ (U_:PHeap) (cV:Nat) (bA:Nat) (dv:Array MapEntry) (er:Nat),σ_ 1=.pointer (some ⟨b2,0,none⟩)/\σ_ 3=.pointer (some ⟨cV,0,none⟩)/\σ_ 12=.agg B0.toArray/\σ_ 13=.map (some bA)/\σ_ 14=.agg #[jV ag.skier,jV ag.mat]/\σ_ 15=.map (some bA)/\PHeap.Le U U_/\sW w U U_ [.blk b2 28 B0,.blk cV 99 [.pointer none],.obj bA (.map dv er)] w_/\MpR dv wBD wBJ (wFS ([]:List (wAL × Int)) ag 0)) ?_ fun jk=>?_
 rintro tS sE ⟨jN,cV,bA,dv,er,mC,mD,ik,mE,mF,il,rC,p9,oh⟩
 let B2:List Value:=[.slice ai p0.Starts.length an,.slice aj p0.Splits.length ao,.slice ak p0.Clocks.length ap,.slice am p0.Readings.length aq,.map (some bA),.slice none 0 0]
 refine zc rfl rfl rfl rfl (fun _=>zk (pv:=[(0,.agg B0.toArray),(1,.map (some bA))]) (z:=[.slice none 0 0,.slice none 0 0,.slice none 0 0,.slice none 0 0,.map none,.slice none 0 0]) (cs:=B2) rfl (wAH ik (wAH il wAO)) Try.zeroValue124 wFG rfl rfl) (zy (cs:=B2) rfl rfl rfl rfl rfl rfl (by rfl) p9 ?_)
 intro sF lK qa
 exact dN _ _ ⟨jN,cV,bA,dv,er,lK,mC,mD,ik,mE,mF,il,rfl,rfl,rC,(qa.pick [1,2,3,0] _ (by decide) rfl),oh⟩
 refine ZR (s:=gDa) (M:=fun σ_ w_=>∃ (U_:PHeap) (cW:Nat) (cd:Nat) (dw:Array MapEntry) (eu:Nat),σ_ 1=.pointer (some ⟨b2,0,none⟩)/\σ_ 3=.pointer (some ⟨cW,0,none⟩)/\σ_ 13=.map (some cd)/\σ_ 14=.agg #[jV ag.skier,jV ag.mat]/\σ_ 15=.map (some cd)/\PHeap.Le U U_/\sW w U U_ [.blk b2 28 B0,.blk cW 99 [.pointer none],.obj cd (.map dw eu)] w_/\MpR dw wBD wBJ (wFS ([]:List (wAL × Int)) ag 0)) ?_ fun rh=>?_
 rintro tT sG ⟨jO,cW,cd,dw,eu,im,mG,mH,mI,mJ,rD,i5,oi⟩
 exact ZQ Z Z Z Z (i5.ldBA (j:=0) Z Z im zf zY (vs:=B0) Z Z) (jk _ _ ⟨jO,cW,cd,dw,eu,im,mG,Z,mH,mI,mJ,rD,i5,oi⟩)
 refine ZR (s:=gDj) (M:=fun σ_ w_=>∃ (U_:PHeap) (bs:Nat) (cx:Array MapEntry) (di:Nat),σ_ 1=.pointer (some ⟨b2,0,none⟩)/\σ_ 12=.agg B0.toArray/\σ_ 13=.map (some bs)/\σ_ 14=.agg #[jV ag.skier,jV ag.mat]/\σ_ 15=.map (some bs)/\PHeap.Le U U_/\sW w U U_ [.blk b2 28 B0,.obj bs (.map cx di)] w_/\MpR cx wBD wBJ (wFS ([]:List (wAL × Int)) ag 0)) ?_ fun ri=>?_
 rintro tU sI ⟨ge,bs,cx,di,io,eG,ip,iq,eH,jv,i6,iR⟩
 let B3:List Value:=[.slice ai p0.Starts.length an,.slice aj p0.Splits.length ao,.slice ak p0.Clocks.length ap,.slice am p0.Readings.length aq,.map (some bs),.slice none 0 0]
 refine oR Z (zk (pv:=[(0,.agg B0.toArray),(1,.map (some bs))]) (z:=[.slice none 0 0,.slice none 0 0,.slice none 0 0,.slice none 0 0,.map none,.slice none 0 0]) (cs:=B3) Z (wAH eG (wAH eH wAO)) Try.zeroValue124 wFG Z Z) (zm ?_ ?_)
 refine zy (cs:=B3) rfl rfl rfl rfl rfl rfl (by rfl) i6 ?_
 intro sJ lL qb
 exact jj _ _ ⟨ge,bs,cx,di,lL,io,eG,ip,iq,eH,rfl,rfl,jv,(qb.pick [1,2,0] _ (by decide) rfl),iR⟩
 refine zQ (cs:=[.pointer none]) Z Z Z Z Z yN Z i6 ?_
 intro sK lM qc
 exact ji _ _ ⟨ge,lM,bs,cx,di,io,rfl,eG,ip,iq,eH,rfl,jv,(qc.pick [1,0,2] _ (by decide) rfl),iR⟩
 refine ZR (s:=gCz) (M:=fun σ_ w_=>∃ (U_:PHeap) (cX:Nat) (bI:Nat) (dx:Array MapEntry) (ew:Nat),σ_ 1=.pointer (some ⟨b2,0,none⟩)/\σ_ 3=.pointer (some ⟨cX,0,none⟩)/\σ_ 12=.agg B0.toArray/\σ_ 13=.map (some bI)/\σ_ 14=.agg #[jV ag.skier,jV ag.mat]/\PHeap.Le U U_/\sW w U U_ [.blk b2 28 B0,.blk cX 99 [.pointer none],.obj bI (.map dx ew)] w_/\MpR dx wBD wBJ (wFS ([]:List (wAL × Int)) ag 0)) ?_ fun rj=>?_
 rintro tV sM ⟨jP,cX,bI,dx,ew,mK,mL,ir,it,mM,rE,qd,oj⟩
 refine oM Z it ?_
 let B4:List Value:=[.slice ai p0.Starts.length an,.slice aj p0.Splits.length ao,.slice ak p0.Clocks.length ap,.slice am p0.Readings.length aq,.map (some bI),.slice none 0 0]
 refine zc rfl rfl rfl rfl (fun _=>zk (pv:=[(0,.agg B0.toArray),(1,.map (some bI))]) (z:=[.slice none 0 0,.slice none 0 0,.slice none 0 0,.slice none 0 0,.map none,.slice none 0 0]) (cs:=B4) rfl (wAH ir (wAH rfl wAO)) Try.zeroValue124 wFG rfl rfl) (zy (cs:=B4) rfl rfl rfl rfl rfl rfl (by rfl) qd ?_)
 intro sN lN qe
 exact dN _ _ ⟨jP,cX,bI,dx,ew,lN,mK,mL,ir,it,mM,rfl,rfl,rfl,rE,(qe.pick [1,2,3,0] _ (by decide) rfl),oj⟩
 refine ZR (s:=.fl 4 gDa) (M:=fun σ_ w_=>∃ (U_:PHeap) (cY:Nat) (cZ:Nat) (dy:Array MapEntry) (ey:Nat),σ_ 1=.pointer (some ⟨b2,0,none⟩)/\σ_ 3=.pointer (some ⟨cY,0,none⟩)/\σ_ 13=.map (some cZ)/\σ_ 14=.agg #[jV ag.skier,jV ag.mat]/\PHeap.Le U U_/\sW w U U_ [.blk b2 28 B0,.blk cY 99 [.pointer none],.obj cZ (.map dy ey)] w_/\MpR dy wBD wBJ (wFS ([]:List (wAL × Int)) ag 0)) ?_ fun rk=>?_
 rintro tW sO ⟨jQ,cY,cZ,dy,ey,iu,mN,iv,mO,rF,i7,ol⟩
 exact oM Z iv (ZQ Z Z Z Z (i7.ldBA (j:=0) Z Z iu zf zY (vs:=B0) Z Z) (jk _ _ ⟨jQ,cY,cZ,dy,ey,iu,mN,Z,iv,mO,Z,rF,i7,ol⟩))
 refine ZR (s:=gDk) (M:=fun σ_ w_=>∃ (U_:PHeap) (cf:Nat) (cg:Nat) (eE:Array MapEntry) (gG:Nat),σ_ 1=.pointer (some ⟨b2,0,none⟩)/\σ_ 3=.pointer (some ⟨cf,0,none⟩)/\σ_ 12=.agg B0.toArray/\σ_ 13=.map (some cg)/\σ_ 14=.agg #[jV ag.skier,jV ag.mat]/\PHeap.Le U U_/\sW w U U_ [.blk b2 28 B0,.blk cf 99 [.pointer none],.obj cg (.map eE gG)] w_/\MpR eE wBD wBJ ([]:List (wAL × Int))) ?_ fun dO=>?_
 rintro tX sP ⟨gf,cf,cg,eE,gG,mP,mQ,mR,iw,iy,rG,qf,om⟩
 refine OKS.mapPut (x:=.tmp 13) (y:=.tmp 14) (j:=2) (mk:=wBD) (mv:=wBJ) (a:=ag) (v:=0) rfl rfl rfl (by first | exact .inl rfl | exact .inr rfl) qf rfl iw iy rfl (wBj ZP) wCp om rfl ?_
 intro gN gH lj qZ qh
 have qi:sW w U gf [.blk b2 28 B0,.blk cf 99 [.pointer none],.obj cg (.map gN gH)] lj:=qh
 exact rj _ _ ⟨gf,cf,cg,gN,gH,mP,mQ,mR,iw,iy,rG,qi,qZ⟩
 refine ZR (s:=.fl 4 gDj) (M:=fun σ_ w_=>∃ (U_:PHeap) (bC:Nat) (cy:Array MapEntry) (dk:Nat),σ_ 1=.pointer (some ⟨b2,0,none⟩)/\σ_ 12=.agg B0.toArray/\σ_ 13=.map (some bC)/\σ_ 14=.agg #[jV ag.skier,jV ag.mat]/\PHeap.Le U U_/\sW w U U_ [.blk b2 28 B0,.obj bC (.map cy dk)] w_/\MpR cy wBD wBJ (wFS ([]:List (wAL × Int)) ag 0)) ?_ fun rn=>?_
 rintro tY sQ ⟨gg,bC,cy,dk,iz,eI,eJ,iA,jw,i8,iS⟩
 refine oM Z eJ ?_
 let B5:List Value:=[.slice ai p0.Starts.length an,.slice aj p0.Splits.length ao,.slice ak p0.Clocks.length ap,.slice am p0.Readings.length aq,.map (some bC),.slice none 0 0]
 refine oR Z (zk (pv:=[(0,.agg B0.toArray),(1,.map (some bC))]) (z:=[.slice none 0 0,.slice none 0 0,.slice none 0 0,.slice none 0 0,.map none,.slice none 0 0]) (cs:=B5) Z (wAH eI (wAH Z wAO)) Try.zeroValue124 wFG Z Z) (zm ?_ ?_)
 refine zy (cs:=B5) rfl rfl rfl rfl rfl rfl (by rfl) i8 ?_
 intro sS lO qj
 exact jj _ _ ⟨gg,bC,cy,dk,lO,iz,eI,eJ,iA,rfl,rfl,rfl,jw,(qj.pick [1,2,0] _ (by decide) rfl),iS⟩
 refine zQ (cs:=[.pointer none]) Z Z Z Z Z yN Z i8 ?_
 intro sT lP qk
 exact ji _ _ ⟨gg,lP,bC,cy,dk,iz,rfl,eI,eJ,iA,rfl,rfl,jw,(qk.pick [1,0,2] _ (by decide) rfl),iS⟩
 refine ZR (s:=gDv) (M:=fun σ_ w_=>∃ (U_:PHeap) (bJ:Nat) (bL:Nat) (dz:Array MapEntry) (eA:Nat),σ_ 1=.pointer (some ⟨b2,0,none⟩)/\σ_ 3=.pointer (some ⟨bJ,0,none⟩)/\σ_ 13=.map (some bL)/\σ_ 14=.agg #[jV ag.skier,jV ag.mat]/\PHeap.Le U U_/\sW w U U_ [.blk b2 28 B0,.blk bJ 99 [.pointer none],.obj bL (.map dz eA)] w_/\MpR dz wBD wBJ ([]:List (wAL × Int))) ?_ fun fG=>?_
 rintro tZ sU ⟨ef,bJ,bL,dz,eA,eO,iB,eU,eV,jx,fu,iT⟩
 refine zm ?_ ?_
 exact ZQ Z Z Z Z (fu.ldBA (j:=0) Z Z eO zf zY (vs:=B0) Z Z) (dO _ _ ⟨ef,bJ,bL,dz,eA,eO,iB,Z,eU,eV,jx,fu,iT⟩)
 refine OKS.mapPut (x:=.tmp 13) (y:=.tmp 14) (j:=2) (mk:=wBD) (mv:=wBJ) (a:=ag) (v:=0) rfl rfl rfl (by first | exact .inl rfl | exact .inr rfl) fu rfl eU eV rfl (wBj ZP) wCp iT rfl ?_
 intro gO gI lk q5 qm
 have qn:sW w U ef [.blk b2 28 B0,.blk bJ 99 [.pointer none],.obj bL (.map gO gI)] lk:=qm
 exact rk _ _ ⟨ef,bJ,bL,gO,gI,eO,iB,eU,eV,jx,qn,q5⟩
 refine ZR (s:=gDu) (M:=fun σ_ w_=>∃ (U_:PHeap) (ci:Nat) (cz:Array MapEntry) (dl:Nat),σ_ 1=.pointer (some ⟨b2,0,none⟩)/\σ_ 13=.map (some ci)/\σ_ 14=.agg #[jV ag.skier,jV ag.mat]/\PHeap.Le U U_/\sW w U U_ [.blk b2 28 B0,.obj ci (.map cz dl)] w_/\MpR cz wBD wBJ (wFS ([]:List (wAL × Int)) ag 0)) ?_ fun ro=>?_
 rintro t4 sV ⟨gh,ci,cz,dl,eX,eY,iC,jy,fw,iU⟩
 refine oM Z eY (zm ?_ ?_)
 exact ZQ Z Z Z Z (fw.ldBA (j:=0) Z Z eX zf zY (vs:=B0) Z Z) (ri _ _ ⟨gh,ci,cz,dl,eX,Z,eY,iC,Z,jy,fw,iU⟩)
 refine zQ (cs:=[.pointer none]) Z Z Z Z Z yN Z fw ?_
 intro sX lQ qo
 exact rh _ _ ⟨gh,lQ,ci,cz,dl,eX,rfl,eY,iC,rfl,jy,(qo.pick [1,0,2] _ (by decide) rfl),iU⟩
 refine ZR (s:=gDp) (M:=fun σ_ w_=>∃ (U_:PHeap) (c6:Nat),σ_ 1=.pointer (some ⟨b2,0,none⟩)/\σ_ 3=.pointer (some ⟨c6,0,none⟩)/\σ_ 12=.agg B0.toArray/\σ_ 14=.agg #[jV ag.skier,jV ag.mat]/\PHeap.Le U U_/\sW w U U_ [.blk b2 28 B0,.blk c6 99 [.pointer none]] w_) ?_ fun fH=>?_
 rintro t5 sY ⟨jR,c6,mS,mT,mU,mV,rH,qp⟩
 refine OKS.makeMap Z Z Z Z Z qp ?_
 intro sZ lR qq
 have q6:=MpR.nil wBD wBJ
 exact dO _ _ ⟨jR,c6,lR,#[],0,mS,mT,mU,rfl,mV,rH,(qq.pick [1,2,0] _ (by decide) rfl),q6⟩
 refine ZR (s:=gDo) (M:=fun σ_ w_=>∃ (U_:PHeap) (cm:Nat) (cn:Nat) (cA:Array MapEntry) (dm:Nat),σ_ 1=.pointer (some ⟨b2,0,none⟩)/\σ_ 3=.pointer (some ⟨cm,0,none⟩)/\σ_ 12=.agg B0.toArray/\σ_ 13=.map (some cn)/\PHeap.Le U U_/\sW w U U_ [.blk b2 28 B0,.blk cm 99 [.pointer none],.obj cn (.map cA dm)] w_/\MpR cA wBD wBJ ([]:List (wAL × Int))) ?_ fun fI=>?_
 rintro t6 ll ⟨jS,cm,cn,cA,dm,mW,mX,mY,mZ,rI,qr,oo⟩
 refine zF 0 Z Z Z Z (zD Z Z yG zJ Z) qr (fun hs=>wAl ll jS hs bt) (.inr Z) ?_
 rintro gi rZ tD lm rJ qs ⟨rfl,rfl⟩
 have qt:sW w U gi [.blk b2 28 B0,.blk cm 99 [.pointer none],.obj cn (.map cA dm)] lm:=qs
 exact dO _ _ ⟨gi,cm,cn,cA,dm,mW,mX,mY,mZ,Z,(rI.trans rJ),qt,oo⟩
 refine ZR (s:=gDt) (M:=fun σ_ w_=>∃ (U_:PHeap) (bM:Nat) (dA:Array MapEntry) (eD:Nat),σ_ 1=.pointer (some ⟨b2,0,none⟩)/\σ_ 12=.agg B0.toArray/\σ_ 13=.map (some bM)/\σ_ 14=.agg #[jV ag.skier,jV ag.mat]/\PHeap.Le U U_/\sW w U U_ [.blk b2 28 B0,.obj bM (.map dA eD)] w_/\MpR dA wBD wBJ ([]:List (wAL × Int))) ?_ fun fJ=>?_
 rintro t7 s5 ⟨eg,bM,dA,eD,iD,iE,eZ,e0,jz,i9,iV⟩
 refine zm ?_ ?_
 refine OKS.mapPut (x:=.tmp 13) (y:=.tmp 14) (j:=1) (mk:=wBD) (mv:=wBJ) (a:=ag) (v:=0) rfl rfl rfl (by first | exact .inl rfl | exact .inr rfl) i9 rfl eZ e0 rfl (wBj ZP) wCp iV rfl ?_
 intro gP gJ ln q7 qu
 have qv:sW w U eg [.blk b2 28 B0,.obj bM (.map gP gJ)] ln:=qu
 exact rn _ _ ⟨eg,bM,gP,gJ,iD,iE,eZ,e0,jz,qv,q7⟩
 refine zQ (cs:=[.pointer none]) Z Z Z Z Z yN Z i9 ?_
 intro s6 lS qw
 exact dO _ _ ⟨eg,lS,bM,dA,eD,iD,rfl,iE,eZ,e0,jz,(qw.pick [1,0,2] _ (by decide) rfl),iV⟩
 refine ZR (s:=gEd) (M:=fun σ_ w_=>∃ (U_:PHeap) (co:Nat),σ_ 1=.pointer (some ⟨b2,0,none⟩)/\σ_ 3=.pointer (some ⟨co,0,none⟩)/\σ_ 14=.agg #[jV ag.skier,jV ag.mat]/\PHeap.Le U U_/\sW w U U_ [.blk b2 28 B0,.blk co 99 [.pointer none]] w_) ?_ fun jl=>?_
 rintro t8 s7 ⟨gj,co,fb,iF,iG,jA,fy⟩
 refine zm ?_ ?_
 exact ZQ Z Z Z Z (fy.ldBA (j:=0) Z Z fb zf zY (vs:=B0) Z Z) (fH _ _ ⟨gj,co,fb,iF,Z,iG,jA,fy⟩)
 refine OKS.makeMap Z Z Z Z Z fy ?_
 intro s8 lT qx
 have q8:=MpR.nil wBD wBJ
 exact fG _ _ ⟨gj,co,lT,#[],0,fb,iF,rfl,iG,jA,(qx.pick [1,2,0] _ (by decide) rfl),q8⟩
 refine ZR (s:=gEc) (M:=fun σ_ w_=>∃ (U_:PHeap) (bN:Nat) (bO:Nat) (bT:Array MapEntry) (cr:Nat),σ_ 1=.pointer (some ⟨b2,0,none⟩)/\σ_ 3=.pointer (some ⟨bN,0,none⟩)/\σ_ 13=.map (some bO)/\PHeap.Le U U_/\sW w U U_ [.blk b2 28 B0,.blk bN 99 [.pointer none],.obj bO (.map bT cr)] w_/\MpR bT wBD wBJ ([]:List (wAL × Int))) ?_ fun jm=>?_
 rintro t9 lp ⟨gm,bN,bO,bT,cr,fc,iH,iI,jB,fz,iW⟩
 refine zm ?_ ?_
 exact ZQ Z Z Z Z (fz.ldBA (j:=0) Z Z fc zf zY (vs:=B0) Z Z) (fI _ _ ⟨gm,bN,bO,bT,cr,fc,iH,Z,iI,jB,fz,iW⟩)
 refine zF 0 Z Z Z Z (zD Z Z yG zJ Z) fz (fun hs=>wAl lp gm hs bt) (.inr Z) ?_
 rintro gp r6 tE lq rK qy ⟨rfl,rfl⟩
 have qz:sW w U gp [.blk b2 28 B0,.blk bN 99 [.pointer none],.obj bO (.map bT cr)] lq:=qy
 exact fG _ _ ⟨gp,bN,bO,bT,cr,fc,iH,iI,Z,(jB.trans rK),qz,iW⟩
 refine ZR (s:=gEe) (M:=fun σ_ w_=>∃ (U_:PHeap) (bD:Nat) (cB:Array MapEntry) (dp:Nat),σ_ 1=.pointer (some ⟨b2,0,none⟩)/\σ_ 13=.map (some bD)/\σ_ 14=.agg #[jV ag.skier,jV ag.mat]/\PHeap.Le U U_/\sW w U U_ [.blk b2 28 B0,.obj bD (.map cB dp)] w_/\MpR cB wBD wBJ ([]:List (wAL × Int))) ?_ fun jo=>?_
 rintro ua s9 ⟨cO,bD,cB,dp,dB,dC,dD,fM,dL,fm⟩
 refine zm ?_ ?_
 exact ZQ Z Z Z Z (dL.ldBA (j:=0) Z Z dB zf zY (vs:=B0) Z Z) (fJ _ _ ⟨cO,bD,cB,dp,dB,Z,dC,dD,fM,dL,fm⟩)
 refine zm ?_ ?_
 refine OKS.mapPut (x:=.tmp 13) (y:=.tmp 14) (j:=1) (mk:=wBD) (mv:=wBJ) (a:=ag) (v:=0) rfl rfl rfl (by first | exact .inl rfl | exact .inr rfl) dL rfl dC dD rfl (wBj ZP) wCp fm rfl ?_
 intro gQ gK ls q9 qA
 have qB:sW w U cO [.blk b2 28 B0,.obj bD (.map gQ gK)] ls:=qA
 exact ro _ _ ⟨cO,bD,gQ,gK,dB,dC,dD,fM,qB,q9⟩
 refine zQ (cs:=[.pointer none]) Z Z Z Z Z yN Z dL ?_
 intro ta lU qC
 exact fG _ _ ⟨cO,lU,bD,cB,dp,dB,rfl,dC,dD,fM,(qC.pick [1,0,2] _ (by decide) rfl),fm⟩
 refine ZR (s:=gEb) (M:=fun σ_ w_=>∃ (U_:PHeap) (bQ:Nat),σ_ 1=.pointer (some ⟨b2,0,none⟩)/\σ_ 3=.pointer (some ⟨bQ,0,none⟩)/\σ_ 12=.agg B0.toArray/\PHeap.Le U U_/\sW w U U_ [.blk b2 28 B0,.blk bQ 99 [.pointer none]] w_) ?_ fun jp=>?_
 rintro ub lu ⟨gq,bQ,iJ,iK,iL,jC,ja⟩
 refine zm ?_ ?_
 refine OKS.makeMap Z Z Z Z Z ja ?_
 intro tc lV qD
 have rc:=MpR.nil wBD wBJ
 exact fI _ _ ⟨gq,bQ,lV,#[],0,iJ,iK,iL,rfl,jC,(qD.pick [1,2,0] _ (by decide) rfl),rc⟩
 refine zF 0 Z Z Z Z (zD Z Z yG zJ Z) ja (fun hs=>wAl lu gq hs bt) (.inr Z) ?_
 rintro gu r7 tF lv rL qE ⟨rfl,rfl⟩
 have ov:sW w U gu [.blk b2 28 B0,.blk bQ 99 [.pointer none]] lv:=qE
 exact fH _ _ ⟨gu,bQ,iJ,iK,iL,Z,(jC.trans rL),ov⟩
 refine ZR (s:=gEa) (M:=fun σ_ w_=>∃ (U_:PHeap),σ_ 1=.pointer (some ⟨b2,0,none⟩)/\σ_ 12=.agg B0.toArray/\σ_ 14=.agg #[jV ag.skier,jV ag.mat]/\PHeap.Le U U_/\sW w U U_ [.blk b2 28 B0] w_) ?_ fun jg=>?_
 rintro tJ r8 ⟨fZ,gR,gS,gT,jr,iX⟩
 refine zm ?_ ?_
 refine OKS.makeMap Z Z Z Z Z iX ?_
 intro r9 lw ow
 have qU:=MpR.nil wBD wBJ
 exact fJ _ _ ⟨fZ,lw,#[],0,gR,gS,rfl,gT,jr,(ow.pick [1,0] _ (by decide) rfl),qU⟩
 refine zQ (cs:=[.pointer none]) Z Z Z Z Z yN Z iX ?_
 intro sa lx ox
 exact fH _ _ ⟨fZ,lx,gR,rfl,gS,gT,jr,(ox.pick [1,0] _ (by decide) rfl)⟩
 refine ZR (s:=gDz) (M:=fun σ_ w_=>∃ (U_:PHeap) (bG:Nat) (bS:Array MapEntry) (cp:Nat),σ_ 1=.pointer (some ⟨b2,0,none⟩)/\σ_ 12=.agg B0.toArray/\σ_ 13=.map (some bG)/\PHeap.Le U U_/\sW w U U_ [.blk b2 28 B0,.obj bG (.map bS cp)] w_/\MpR bS wBD wBJ ([]:List (wAL × Int))) ?_ fun jh=>?_
 rintro tK jU ⟨f4,bG,bS,cp,gU,gX,gY,jt,iY,iM⟩
 refine zm ?_ ?_
 refine zF 0 Z Z Z Z (zD Z Z yG zJ Z) iY (fun hs=>wAl jU f4 hs bt) (.inr Z) ?_
 rintro f5 rO tv jW rp oy ⟨rfl,rfl⟩
 have oB:sW w U f5 [.blk b2 28 B0,.obj bG (.map bS cp)] jW:=oy
 exact fJ _ _ ⟨f5,bG,bS,cp,gU,gX,gY,Z,(jt.trans rp),oB,iM⟩
 refine zQ (cs:=[.pointer none]) Z Z Z Z Z yN Z iY ?_
 intro sc ly oG
 exact fI _ _ ⟨f4,ly,bG,bS,cp,gU,rfl,gX,gY,jt,(oG.pick [1,0,2] _ (by decide) rfl),iM⟩
 refine zm ?_ ?_
 refine ZQ Z Z Z Z (bv.ldBA (j:=0) Z Z Z zf zY (vs:=B0) Z Z) (zm ?_ ?_)
 refine OKS.makeMap Z Z Z Z Z bv ?_
 intro sd lz oH
 have qV:=MpR.nil wBD wBJ
 exact jh _ _ ⟨U,lz,#[],0,rfl,rfl,rfl,(zP _),(oH.pick [1,0] _ (by decide) rfl),qV⟩
 refine zm ?_ ?_
 refine zF 0 Z Z Z Z (zD Z Z yG zJ Z) bv (fun hs=>wAl gz U hs bt) (.inr Z) ?_
 rintro f7 rP tw jX rq oI ⟨rfl,rfl⟩
 have oK:sW w U f7 [.blk b2 28 B0] jX:=oI
 exact jg _ _ ⟨f7,Z,Z,Z,rq,oK⟩
 refine zQ (cs:=[.pointer none]) Z Z Z Z Z yN Z bv ?_
 intro sf lA oO
 exact jp _ _ ⟨U,lA,rfl,rfl,rfl,(zP _),(oO.pick [1,0] _ (by decide) rfl)⟩
 refine zm ?_ ?_
 refine OKS.makeMap Z Z Z Z Z bv ?_
 intro jY cP dI
 have fE:=MpR.nil wBD wBJ
 refine zm ?_ ?_
 exact ZQ rfl rfl rfl rfl (dI.ldBA (j:=1) rfl rfl rfl zf zY (vs:=B0) rfl rfl) (jh _ _ ⟨U,cP,#[],0,rfl,rfl,rfl,(zP _),(dI.pick [1,0] _ (by decide) rfl),fE⟩)
 refine zm ?_ ?_
 refine zF 0 Z Z Z Z (zD Z Z yG zJ Z) dI (fun hs=>wAl jY U hs bt) (.inr Z) ?_
 rintro f8 rQ tx jZ rv oP ⟨rfl,rfl⟩
 have oU:sW w U f8 [.obj cP (.map #[] 0),.blk b2 28 B0] jZ:=oP
 exact jo _ _ ⟨f8,cP,#[],0,rfl,rfl,rfl,rv,(oU.pick [1,0] _ (by decide) rfl),fE⟩
 refine zQ (cs:=[.pointer none]) Z Z Z Z Z yN Z dI ?_
 intro sg lB oW
 exact jm _ _ ⟨U,lB,cP,#[],0,rfl,rfl,rfl,(zP _),(oW.pick [2,0,1] _ (by decide) rfl),fE⟩
 refine zm ?_ ?_
 refine zF 0 Z Z Z Z (zD Z Z yG zJ Z) bv (fun hs=>wAl gz U hs bt) (.inr Z) ?_
 rintro cM rS tz j0 fK oX ⟨rfl,rfl⟩
 have dJ:sW w U cM [.blk b2 28 B0] j0:=oX
 refine zm ?_ ?_
 exact ZQ Z Z Z Z (dJ.ldBA (j:=0) Z Z Z zf zY (vs:=B0) Z Z) (jg _ _ ⟨cM,Z,Z,Z,fK,dJ⟩)
 refine zm ?_ ?_
 refine OKS.makeMap Z Z Z Z Z dJ ?_
 intro sh lD oY
 have qW:=MpR.nil wBD wBJ
 exact jo _ _ ⟨cM,lD,#[],0,rfl,rfl,rfl,fK,(oY.pick [1,0] _ (by decide) rfl),qW⟩
 refine zQ (cs:=[.pointer none]) Z Z Z Z Z yN Z dJ ?_
 intro sj lE o0
 exact jl _ _ ⟨cM,lE,rfl,rfl,rfl,fK,(o0.pick [1,0] _ (by decide) rfl)⟩
 refine zQ (cs:=[.pointer none]) Z Z Z Z Z yN Z bv ?_
 intro j1 cQ dK
 refine zm ?_ ?_
 exact ZQ rfl rfl rfl rfl (dK.ldBA (j:=1) rfl rfl rfl zf zY (vs:=B0) rfl rfl) (jp _ _ ⟨U,cQ,rfl,rfl,rfl,(zP _),(dK.pick [1,0] _ (by decide) rfl)⟩)
 refine zm ?_ ?_
 refine OKS.makeMap Z Z Z Z Z dK ?_
 intro sk lF o3
 have qX:=MpR.nil wBD wBJ
 exact jm _ _ ⟨U,cQ,lF,#[],0,rfl,rfl,rfl,(zP _),(o3.pick [2,1,0] _ (by decide) rfl),qX⟩
 refine zF 0 Z Z Z Z (zD Z Z yG zJ Z) dK (fun hs=>wAl j1 U hs bt) (.inr Z) ?_
 rintro f9 rT tA j2 rx o5 ⟨rfl,rfl⟩
 have o6:sW w U f9 [.blk cQ 99 [.pointer none],.blk b2 28 B0] j2:=o5
 exact jl _ _ ⟨f9,cQ,rfl,rfl,rfl,rx,(o6.pick [1,0] _ (by decide) rfl)⟩
 rintro tL j3 ⟨jJ,b6,b8,ah,ct,df,gZ,lY,dP,iZ,m4⟩
 refine zM (sR (.fl 0 (.fx 1 .nil .stop)) Z (oL Z (iZ.ldBA (j:=0) Z Z gZ zf zY (vs:=B0) Z Z) ?_))
 have iN:=qG.le dP
 have iO:=qH.le dP
 have iP:=qJ.le dP
 have iQ:=qK.le dP
 have q:=bnd qO
 obtain ⟨⟨⟩,m5,jd⟩:=q
 try dsimp only at jd
 refine zF 0 Z Z Z Z (zD Z Z Try.call81 (zB Z zJ) Z) iZ (fun hs=>wFZ p0 ai an aj ao ak ap am aq j3 jJ hs iN iO iP iQ m5) (.inr Z) ?_
 rintro ga rV tB j4 dQ o7 ⟨gC,rfl,rfl,m6⟩
 let B6:Res:=.blk b6 99 [.pointer (some ⟨b8,0,none⟩)]
 have o8:sW w U ga [.blk b2 28 B0,B6,.blk b8 124 [.slice ai p0.Starts.length an,.slice aj p0.Splits.length ao,.slice ak p0.Clocks.length ap,.slice am p0.Readings.length aq,.map (some ah),.slice none 0 0],.obj ah (.map ct df)] j4:=o7
 refine eN (zd (yh fun dV dM=>?_))
 have lZ:dV 1=.pointer (some ⟨b2,0,none⟩):=(dM 1).trans gZ
 have g6:dV 3=.pointer (some ⟨b6,0,none⟩):=(dM 3).trans lY
 have l5:dV 19=.func (.func 105) #[] #[.pointer (some ⟨gC,0,none⟩)]:=(dM 19).trans rfl
 clear dM
 have o9:=o8.nilrow 130 7
 refine bnK jd fun jE qN je=>?_
 have fd:=iN.le dQ
 have ff:=iO.le dQ
 have fg:=iP.le dQ
 have fh:=iQ.le dQ
 refine CK.rangeY (S:=(List wAW) × (List (wAL × Int))) (E:=Empty) (ar:=wKI) (PY:=(fun (s_:(List wAW) × (List (wAL × Int))) (U_:PHeap) (L_:List Res)=>match s_ with | (l1591,l1595)=>∃ (bF:Option Addr) (bR:Nat) (bo:Array MapEntry) (bp:Nat),L_=[.blk b2 28 B0,B6,.row bF bR 130 7 (hD wAQ l1591),.blk b8 124 [.slice ai p0.Starts.length an,.slice aj p0.Splits.length ao,.slice ak p0.Clocks.length ap,.slice am p0.Readings.length aq,.map (some ah),.slice bF l1591.length bR],.obj ah (.map bo bp)]/\MpR bo wBD wBJ l1595)) (PE:=(fun (_:Empty) _ _=>False)) (exO:=Empty.elim) (s0:=([],jq)) (rr:=jE) l5 Try.call105 (o9.pick [1,2,0,3,4] _ (by decide) rfl) (by decide) (fun _ _ _ h=>by obtain rfl:=h;rfl) (fun e=>nomatch e) ⟨none,0,ct,df,rfl,m4⟩ (fun l w1 L1 PY' PE' ou oq qF=>wEt PY' PE' _ l _ p0 gC ai an aj ao ak ap am aq w1 L1 ga ou oq qF m6 fd ff fg fh qN) ?_ ?_
 rintro a7 tu tp ⟨l1591,l1595⟩ au tG tt dT rW rN fN bb dR pd ot qI jb dU bV
 obtain ⟨bF,bR,bo,bp,rfl,m7⟩:=ot
 obtain rfl:=qI
 replace bV:∀ t,dU t=upd dV 20 (.agg #[jV au.Kind,jV au.Skier,jV au.Index,.bool au.Up]) t:=bV
 have l6:dU 20=.agg #[jV au.Kind,jV au.Skier,jV au.Index,.bool au.Up]:=(bV 20).trans (wEe _ _ _)
 have g7:dU 1=.pointer (some ⟨b2,0,none⟩):=(bV 1).trans ((wEv _ _ (by decide)).trans lZ)
 have l7:dU 3=.pointer (some ⟨b6,0,none⟩):=(bV 3).trans ((wEv _ _ (by decide)).trans g6)
 clear bV
 let B7:Res:=.blk b8 124 [.slice ai p0.Starts.length an,.slice aj p0.Splits.length ao,.slice ak p0.Clocks.length ap,.slice am p0.Readings.length aq,.map (some ah),.slice bF l1591.length bR]
 let B8:Res:=.row bF bR 130 7 (hD wAQ l1591)
 have pe:St bb dT [.obj a7 fN,.blk b2 28 B0,B6,B8,B7,.obj ah (.map bo bp)] rN:=pd
 try dsimp only at jb
 refine rR gCi Z (zQ (cs:=[jV 0,jV 0,jV 0,.bool false]) Z Z Z Z Z Zy Z pe ?_)
 intro sl az pf
 let B9:List Value:=[jV au.Kind,jV au.Skier,jV au.Index,.bool au.Up]
 refine zU (j:=0) (vs:=B9) Z Z Z Z pf Z Z l6 Z Zh (zA Z) Z Z Z ?_
 intro j5 pg
 have ph:St bb dT [.blk az 78 B9,.obj a7 fN,.blk b2 28 B0,B6,B8,B7,.obj ah (.map bo bp)] j5:=pg
 refine zh ⟨rfl,rfl,_,_,(ph.pick [1,0,2,3,4,5,6] [.obj a7 fN,.blk az 78 B9,.blk b2 28 B0,B6,B8,B7,.obj ah (.map bo bp)] (by decide) rfl),fun gw bf pj=>?_⟩
 have fq:St bb dT [.obj a7 bf,.blk az 78 B9,.blk b2 28 B0,B6,B8,B7,.obj ah (.map bo bp)] gw:=pj
 refine zd (sR (.fl 0 (.fl 1 (.fx 2 (wJy (.fx 7 (.fx 8 (.fx 9 (.fx 10 (.fl 11 .nil) .stop) .stop) .stop) .stop)) .stop))) Z (oL Z (fq.ldBA (j:=2) Z Z g7 zf zY (vs:=B0) Z Z) (oL Z (fq.ldBA (j:=1) Z Z Z Zz Zh (vs:=B9) Z Z) ?_)))
 have m8:=fd.le dR
 have m9:=ff.le dR
 have n3:=fg.le dR
 have n4:=fh.le dR
 have q:=bnd jb
 obtain ⟨⟨a8,a9,bj⟩,n5,jf⟩:=q
 try dsimp only at jf
 refine zF 0 Z Z Z Z (zD Z Z Try.call70 (zB Z (zB Z zJ)) Z) fq (fun hs=>wBW p0 ai an aj ao ak ap am aq au gw dT hs m8 m9 n3 n4 n5) (.inr Z) ?_
 rintro ca rX tC j6 tq pk ⟨rfl,rfl⟩
 have pm:St bb ca [.obj a7 bf,.blk az 78 B9,.blk b2 28 B0,B6,B8,B7,.obj ah (.map bo bp)] j6:=pk
 refine oM Z Z (oR Z (zT Z Z (v:=.agg #[jV a8.skier,jV a8.mat]) Z) (oR Z (zT Z Z (v:=.agg #[jV a9.skier,jV a9.mat]) Z) (oR Z (zT Z Z (v:=jV bj) Z) ?_)))
 let cL:List Value:=[jV 0,jV 0]
 refine zQ (cs:=cL) Z Z Z Z Z zb Z pm ?_
 intro sn bg pn
 refine zQ (cs:=cL) Z Z Z Z Z zb Z pn ?_
 intro so bh po
 let ba:List Value:=[jV a8.skier,jV a8.mat]
 refine zU (j:=1) (vs:=ba) Z Z Z Z po Z Z Z Z zH (zA Z) Z Z Z ?_
 intro j7 pp
 have pq:St bb ca [.blk bh 104 cL,.blk bg 104 ba,.obj a7 bf,.blk az 78 B9,.blk b2 28 B0,B6,B8,B7,.obj ah (.map bo bp)] j7:=pp
 let bc:List Value:=[jV a9.skier,jV a9.mat]
 refine zU (j:=0) (vs:=bc) Z Z Z Z pq Z Z Z Z zH (zA Z) Z Z Z ?_
 intro j8 pu
 have ft:St bb ca [.blk bh 104 bc,.blk bg 104 ba,.obj a7 bf,.blk az 78 B9,.blk b2 28 B0,B6,B8,B7,.obj ah (.map bo bp)] j8:=pu
 refine oA Z Z (eN (zM (sR fL4 Z (oL Z (ft.ldBA (j:=1) Z Z Z zj zH (vs:=ba) Z Z) (oL Z (ft.ldBA (j:=0) Z Z Z zj zH (vs:=bc) Z Z) ?_)))))
 let fP:List Value:=[jV a8.skier,jV a8.mat,jV a9.skier,jV a9.mat]
 refine oR Z (Runs.buildA (pv:=[(0,.agg ba.toArray),(1,.agg bc.toArray)]) (z:=[jV 0,jV 0,jV 0,jV 0]) (cs:=fP) Z (wAH Z (wAH Z wAO)) Try.zeroValue180 Try.runUnderlying180 zH Z Z) (oM Z Z (eN (zd (bnK jf fun ay qL qP=>?_))))
 have q:=wAx qL
 obtain ⟨fC,qM⟩:=q
 replace fC:=zO fC
 refine CK.forN' (fun cG cH σ_ w_=>∃ (U_:PHeap) (cu:Array MapEntry) (dg:Nat),σ_ 31=jV (↑cG:Int)/\σ_ 1=.pointer (some ⟨b2,0,none⟩)/\σ_ 3=.pointer (some ⟨b6,0,none⟩)/\σ_ 4=.pointer (some ⟨az,0,none⟩)/\σ_ 5=.pointer (some ⟨bg,0,none⟩)/\σ_ 6=.pointer (some ⟨bh,0,none⟩)/\σ_ 7=jV bj/\σ_ 30=.agg fP.toArray/\PHeap.Le ca U_/\St bb U_ [.blk bh 104 bc,.blk bg 104 ba,.obj a7 bf,.blk az 78 B9,.blk b2 28 B0,B6,B8,B7,.obj ah (.map cu dg)] w_/\MpR cu wBD wBJ cH) qM ?_ ?_ ?_
 exact ⟨ca,bo,bp,Z,g7,l7,Z,Z,Z,Z,Z,(zP _),ft,m7⟩
 rintro cG cH tH tM sq fA ⟨cN,cu,dg,dE,g8,cC,g9,ib,ic,ie,eF,ju,py,dH⟩ re
 have gE:Hid ((↑cG:Int) < 2):=zO (wAs fA)
 replace fA:=zO fA
 have jc:Hid (w64 ((↑cG:Int) + 1)=(↑(cG + 1):Int)):=zO (by have h1:=fC.out;have h2:=gE.out;rw [wAU] <;> omega)
 refine sR fL1 Z (oR Z (ze Z dE Z) (eN (zM (cT Z gE (kN (zM (zd (sR (.fl 0 gCj) Z (bnK re fun bW fj qQ=>oR Z (yi (cs:=hD wBa ([a8,a9]:List wAL)) Z eF dE Try.runUnderlying180 zH (wCG fj) (wCM fj) (wCh zj zH (wHS (sz:=2) (fun _=>Z) _ _ (wAb fj)))) (zQ (cs:=cL) Z Z Z Z Z zb Z py ?_))))))))))
 intro sr gD pz
 let bX:List Value:=[jV bW.skier,jV bW.mat]
 refine zU (j:=0) (vs:=bX) Z Z Z Z pz Z Z Z Z zH (zA Z) Z Z Z ?_
 intro eh pB
 have pC:St bb cN [.blk gD 104 bX,.blk bh 104 bc,.blk bg 104 ba,.obj a7 bf,.blk az 78 B9,.blk b2 28 B0,B6,B8,B7,.obj ah (.map cu dg)] eh:=pB
 refine eN (zM (zt zu [1,3,3,1,1,1,3,3,3,3,3] wMX (by kernel_rfl) ?_))
 have bE:=pC.drew
 generalize hw_W1729:({ eh with drawn:=eh.drawn + 1 }:World)=gx at bE ⊢
 refine oL Z (bE.ldB (j:=6) Z Z cC yk (v:=.pointer (some ⟨b8,0,none⟩)) Z) (oR Z (ZT Z Z) (oR Z (zE Z Z ZM Z yF) (oL Z (bE.ldB (j:=8) Z Z Z yJ (v:=.map (some ah)) Z) (oL Z (bE.ldBA (j:=0) Z Z Z zj zH (vs:=bX) Z Z) (oL Z (bE.lookup2 (j:=9) (mk:=wBD) (mv:=wBJ) (a:=bW) (z:=0) Z Z Z Z (wBj ZP) wCp zz dH) (oM Z Z (oR Z (zT Z Z (v:=jV (wBE cH bW 0)) Z) (oR Z (zT Z Z (v:=.bool (wJH cH bW)) Z) (oA Z Z (oA Z Z (eN (sR fL2 Z (oM Z Z (oR Z (Zg Z Z) (eN (ifc qQ ?_ ?_))))))))))))))))
 intro ej qR
 refine ZE (nC ej.out) (Zo (ZA (zL (rR fL2 Z (oR Z (ZH (za Z dE Z) (congrArg (jV) jc.out)) (oM Z Z (zh ?_)))))))
 cases qR
 exact zL ⟨rfl,⟨cN,cu,dg,rfl,g8,cC,g9,ib,ic,ie,eF,ju,(bE.pick [1,2,3,4,5,6,7,8,9] _ (by decide) rfl),dH⟩⟩
 intro ej qS
 refine ZI (nF (ej.out)) (zt zu [1,3,3,1,1,1,3,3,1,1,0] (wKg (.fx 10 .nil .stop)) (by kernel_rfl) ?_)
 have bu:=bE.drew
 generalize hw_W1737:({ gx with drawn:=gx.drawn + 1 }:World)=ss at bu ⊢
 refine ZF rfl rfl rfl rfl (bu.ldB (j:=6) rfl rfl cC yk (v:=.pointer (some ⟨b8,0,none⟩)) rfl) rfl (zc rfl rfl rfl rfl (fun _=>ZT rfl rfl) (zc rfl rfl rfl rfl (fun _=>zE rfl rfl ZM rfl yF) (ZF rfl rfl rfl rfl (bu.ldB (j:=8) rfl rfl rfl yJ (v:=.map (some ah)) rfl) rfl (ZF rfl rfl rfl rfl (bu.ldBA (j:=0) rfl rfl rfl zj zH (vs:=bX) rfl rfl) rfl (ZF rfl rfl rfl rfl (bu.ldB (j:=6) rfl rfl cC yk (v:=.pointer (some ⟨b8,0,none⟩)) rfl) rfl (zc rfl rfl rfl rfl (fun _=>ZT rfl rfl) (zc rfl rfl rfl rfl (fun _=>zE rfl rfl ZM rfl yF) (ZF rfl rfl rfl rfl (bu.ldB (j:=8) rfl rfl rfl yJ (v:=.map (some ah)) rfl) rfl (ZF rfl rfl rfl rfl (bu.lenM (j:=9) (mk:=wBD) (mv:=wBJ) rfl rfl rfl (wBj ZP) dH) rfl (OKS.mapPut (x:=.tmp 48) (y:=.tmp 49) (z:=.tmp 54) (j:=9) (mk:=wBD) (mv:=wBJ) (a:=bW) (v:=(↑(cH.length):Int)) rfl rfl rfl (by first | exact .inl rfl | exact .inr rfl) bu rfl rfl rfl rfl (wBj ZP) wCp dH rfl ?_))))))))))
 intro gM gF j9 qY pD
 have pE:St bb cN [.blk gD 104 bX,.blk bh 104 bc,.blk bg 104 ba,.obj a7 bf,.blk az 78 B9,.blk b2 28 B0,B6,B8,B7,.obj ah (.map gM gF)] j9:=pD
 refine zh (ZA (zL (rR fL2 Z (oR Z (ZH (za Z dE Z) (congrArg (jV) jc.out)) (oM Z Z (zh ?_))))))
 cases qS
 exact zL ⟨rfl,⟨cN,gM,gF,rfl,g8,cC,g9,ib,ic,ie,eF,ju,(pE.pick [1,2,3,4,5,6,7,8,9] _ (by decide) rfl),qY⟩⟩
 rintro tN gy ⟨br,bn,bm,m3,te,bU,l8,ma,mb,mc,tf,tr,pF,cD⟩
 have lW:Hid (¬ ((↑((2:Int) - 0).toNat:Int) < 2)):=zO (wAc)
 refine sR fL1 rfl (zc rfl rfl rfl rfl (fun _=>ze rfl m3 rfl) (eN (zM (cF Z lW (Zb (zo (zo (ZV (zL (bnK qP fun bk fk fD=>zt zu [2,1,3,3,1,1,1,3,3,1,1,1,1,3,3,1,1,1,3,3,2,0,3,3,0] (wMd (.fx 0 (.fx 20 gDb .stop) (.fx 20 (.fx 0 gDb (.fx 21 (.fx 0 gCr .stop) .stop)) .stop))) (by kernel_rfl) ?_))))))))))
 have be:=pF.drew
 generalize hw_W1786:({ gy with drawn:=gy.drawn + 1 }:World)=su at be ⊢
 refine oL Z (be.ldB (j:=5) Z Z bU yk (v:=.pointer (some ⟨b8,0,none⟩)) Z) (oR Z (ZT Z Z) (oR Z (zE Z Z ZM Z ym) (oL Z (be.ldB (j:=7) Z Z Z Try.isAgg122 (v:=.slice bF l1591.length bR) Z) (oL Z (be.ldBA (j:=3) Z Z l8 Zz Zh (vs:=B9) Z Z) (oL Z (be.ldB (j:=5) Z Z bU yk (v:=.pointer (some ⟨b8,0,none⟩)) Z) (oR Z (ZT Z Z) (oR Z (zE Z Z ZM Z yF) (oL Z (be.ldB (j:=7) Z Z Z yJ (v:=.map (some ah)) Z) (oL Z (be.ldBA (j:=1) Z Z ma zj zH (vs:=ba) Z Z) (oL Z (be.lookup1 (j:=8) (mk:=wBD) (mv:=wBJ) (a:=a8) (z:=0) Z Z Z Z (wBj ZP) wCp zz cD) (oL Z (be.ldB (j:=5) Z Z bU yk (v:=.pointer (some ⟨b8,0,none⟩)) Z) (oR Z (ZT Z Z) (oR Z (zE Z Z ZM Z yF) (oL Z (be.ldB (j:=7) Z Z Z yJ (v:=.map (some ah)) Z) (oL Z (be.ldBA (j:=0) Z Z mb zj zH (vs:=bc) Z Z) (oL Z (be.lookup1 (j:=8) (mk:=wBD) (mv:=wBJ) (a:=a9) (z:=0) Z Z Z Z (wBj ZP) wCp zz cD) (oM Z mc ?_)))))))))))))))))
 let bY:List Value:=[jV au.Kind,jV au.Skier,jV au.Index,.bool au.Up,jV (wBE ay a8 0),jV (wBE ay a9 0),jV bj]
 let dX:List Value:=[jV 0,jV 0,jV 0,.bool false,jV 0,jV 0,jV 0]
 refine oR Z (zk (pv:=[(0,.agg B9.toArray),(1,jV (wBE ay a8 0)),(2,jV (wBE ay a9 0)),(3,jV bj)]) (z:=dX) (cs:=bY) Z (wAH Z (wAH Z (wAH Z (wAH Z wAO)))) Try.zeroValue130 wJb Z Z) (zm ?_ ?_)
 refine ZQ Z Z Z Z (be.ldB (j:=5) Z Z bU yk (v:=.pointer (some ⟨b8,0,none⟩)) Z) (zr (pv:=[(0,.agg bY.toArray)]) (zs:=dX) (cs:=bY) Z Z Z Z Z (wAH Z wAO) Try.runUnderlying122 Try.sizeOf130 Try.zeroValue130 Z Z Z Z Z be ?_)
 intro k3 lG pG
 let dY:Res:=.row (some ⟨lG,0,none⟩) 1 130 7 (hD wAQ [(⟨au,(wBE ay a8 0),(wBE ay a9 0),bj⟩:wAW)])
 have i2:St bb br [dY,.blk bh 104 bc,.blk bg 104 ba,.obj a7 bf,.blk az 78 B9,.blk b2 28 B0,B6,B8,B7,.obj ah (.map bn bm)] k3:=pG
 refine Zw (j:=7) (enc:=wAQ) (xs:=l1591) (ys:=[(⟨au,(wBE ay a8 0),(wBE ay a9 0),bj⟩:wAW)]) (zs:=bk) rfl rfl rfl rfl rfl Try.underlying122 wIB rfl rfl rfl rfl rfl rfl i2 rfl rfl rfl (i2.srcR (j:=0) rfl (by decide) (wAD (f:=wAQ) (sz:=7) (fun _=>rfl) [(⟨au,(wBE ay a8 0),(wBE ay a9 0),bj⟩:wAW)])) (fun _=>rfl) (fun _=>rfl) fk rfl ?_
 intro cI da k5 pH
 let fQ:Res:=.row cI da 130 7 (hD wAQ bk)
 have pI:St bb br [dY,.blk bh 104 bc,.blk bg 104 ba,.obj a7 bf,.blk az 78 B9,.blk b2 28 B0,B6,fQ,B7,.obj ah (.map bn bm)] k5:=pH
 refine oR Z (ZT Z Z) (oR Z (zE Z Z ZM Z ym) (zU (j:=8) (vs:=[.slice cI bk.length da]) Z Z Z Z pI Z Z Z Z ym (zA Z) Z Z Z ?_))
 intro k6 pJ
 have pK:St bb br [dY,.blk bh 104 bc,.blk bg 104 ba,.obj a7 bf,.blk az 78 B9,.blk b2 28 B0,B6,fQ,.blk b8 124 [.slice ai p0.Starts.length an,.slice aj p0.Splits.length ao,.slice ak p0.Clocks.length ap,.slice am p0.Readings.length aq,.map (some ah),.slice cI bk.length da],.obj ah (.map bn bm)] k6:=pJ
 refine zh (ZA ?_)
 have q:=nH fD
 obtain rfl:=q
 exact ⟨_,_,(pK.pick [3,5,6,7,8,9] _ (by decide) rfl),rfl,⟨cI,da,bn,bm,rfl,cD⟩⟩
 refine zr (pv:=[(0,.agg bY.toArray)]) (zs:=dX) (cs:=bY) Z Z Z Z Z (wAH Z wAO) Try.runUnderlying122 Try.sizeOf130 Try.zeroValue130 Z Z Z Z Z be ?_
 intro k7 lH pL
 let bZ:Res:=.row (some ⟨lH,0,none⟩) 1 130 7 (hD wAQ [(⟨au,(wBE ay a8 0),(wBE ay a9 0),bj⟩:wAW)])
 have cE:St bb br [bZ,.blk bh 104 bc,.blk bg 104 ba,.obj a7 bf,.blk az 78 B9,.blk b2 28 B0,B6,B8,B7,.obj ah (.map bn bm)] k7:=pL
 refine zm ?_ ?_
 refine ZQ rfl rfl rfl rfl (cE.ldB (j:=6) rfl rfl bU yk (v:=.pointer (some ⟨b8,0,none⟩)) rfl) (Zw (j:=7) (enc:=wAQ) (xs:=l1591) (ys:=[(⟨au,(wBE ay a8 0),(wBE ay a9 0),bj⟩:wAW)]) (zs:=bk) rfl rfl rfl rfl rfl Try.underlying122 wIB rfl rfl rfl rfl rfl rfl cE rfl rfl rfl (cE.srcR (j:=0) rfl (by decide) (wAD (f:=wAQ) (sz:=7) (fun _=>rfl) [(⟨au,(wBE ay a8 0),(wBE ay a9 0),bj⟩:wAW)])) (fun _=>rfl) (fun _=>rfl) fk rfl ?_)
 intro cJ db k8 pM
 let fS:Res:=.row cJ db 130 7 (hD wAQ bk)
 have pN:St bb br [bZ,.blk bh 104 bc,.blk bg 104 ba,.obj a7 bf,.blk az 78 B9,.blk b2 28 B0,B6,fS,B7,.obj ah (.map bn bm)] k8:=pM
 refine oR Z (ZT Z Z) (oR Z (zE Z Z ZM Z ym) (zU (j:=8) (vs:=[.slice cJ bk.length db]) Z Z Z Z pN Z Z Z Z ym (zA Z) Z Z Z ?_))
 intro k9 pO
 have pP:St bb br [bZ,.blk bh 104 bc,.blk bg 104 ba,.obj a7 bf,.blk az 78 B9,.blk b2 28 B0,B6,fS,.blk b8 124 [.slice ai p0.Starts.length an,.slice aj p0.Splits.length ao,.slice ak p0.Clocks.length ap,.slice am p0.Readings.length aq,.map (some ah),.slice cJ bk.length db],.obj ah (.map bn bm)] k9:=pO
 refine zh (ZA ?_)
 have q:=nH fD
 obtain rfl:=q
 exact ⟨_,_,(pP.pick [3,5,6,7,8,9] _ (by decide) rfl),rfl,⟨cJ,db,bn,bm,rfl,cD⟩⟩
 refine Zw (j:=7) (enc:=wAQ) (xs:=l1591) (ys:=[(⟨au,(wBE ay a8 0),(wBE ay a9 0),bj⟩:wAW)]) (zs:=bk) rfl rfl rfl rfl rfl Try.underlying122 wIB rfl rfl rfl rfl rfl rfl cE rfl rfl rfl (cE.srcR (j:=0) rfl (by decide) (wAD (f:=wAQ) (sz:=7) (fun _=>rfl) [(⟨au,(wBE ay a8 0),(wBE ay a9 0),bj⟩:wAW)])) (fun _=>rfl) (fun _=>rfl) fk rfl ?_
 intro cK dd lb pQ
 let fT:Res:=.row cK dd 130 7 (hD wAQ bk)
 have i3:St bb br [bZ,.blk bh 104 bc,.blk bg 104 ba,.obj a7 bf,.blk az 78 B9,.blk b2 28 B0,B6,fT,B7,.obj ah (.map bn bm)] lb:=pQ
 refine ZQ Z Z Z Z (i3.ldB (j:=6) Z Z bU yk (v:=.pointer (some ⟨b8,0,none⟩)) Z) (oR Z (ZT Z Z) (oR Z (zE Z Z ZM Z ym) (zU (j:=8) (vs:=[.slice cK bk.length dd]) Z Z Z Z i3 Z Z Z Z ym (zA Z) Z Z Z ?_)))
 intro lc pR
 have pS:St bb br [bZ,.blk bh 104 bc,.blk bg 104 ba,.obj a7 bf,.blk az 78 B9,.blk b2 28 B0,B6,fT,.blk b8 124 [.slice ai p0.Starts.length an,.slice aj p0.Splits.length ao,.slice ak p0.Clocks.length ap,.slice am p0.Readings.length aq,.map (some ah),.slice cK bk.length dd],.obj ah (.map bn bm)] lc:=pR
 refine zh (ZA ?_)
 have q:=nH fD
 obtain rfl:=q
 exact ⟨_,_,(pS.pick [3,5,6,7,8,9] _ (by decide) rfl),rfl,⟨cK,dd,bn,bm,rfl,cD⟩⟩
 rintro jD d9 rY lf dS pT
 rcases jE with ⟨jG,tI⟩ | lX
 try dsimp only at je
 rintro ⟨dW,ek,dq,de,rfl,n6⟩
 let dZ:Res:=.blk b8 124 [.slice ai p0.Starts.length an,.slice aj p0.Splits.length ao,.slice ak p0.Clocks.length ap,.slice am p0.Readings.length aq,.map (some ah),.slice dW jG.length ek]
 let d7:Res:=.row dW ek 130 7 (hD wAQ jG)
 have i4:sW w U d9 [.blk b2 28 B0,B6,d7,dZ,.obj ah (.map dq de),.obj jD (.deferred (some []))] lf:=pT
 refine ZA (zL (sR fL2 Z (oL Z (i4.ldB (j:=1) Z Z g6 yk (v:=.pointer (some ⟨b8,0,none⟩)) Z) (oA Z Z (eN (zR ?_))))))
 have n7:=fd.le dS
 have n8:=ff.le dS
 have n9:=fg.le dS
 have oa:=fh.le dS
 refine wLI (by first | exact .inl rfl | exact .inr rfl) (rbs:=[jD]) (L:=[.blk b2 28 B0,B6,d7,dZ,.obj ah (.map dq de)]) i4 fun lg pU=>?_
 have pV:sW w U d9 [.blk b2 28 B0,B6,d7,dZ,.obj ah (.map dq de)] lg:=pU
 cases je
 exact ⟨_,(ZL rfl),d9,_,(pV.pick [3,4,2] _ (by decide) rfl),b8,ai,an,aj,ao,ak,ap,am,aq,ah,dq,de,dW,ek,rfl,rfl,n7,n8,n9,oa,n6⟩
 exact lX.elim
end Go.Proofs.Ytlnfbjphfoipaaa
namespace Go.Proofs.Ytlnfbjphfoipaaa
open Go.KL
set_option maxHeartbeats 4000000
theorem wDr (p0:wAE) (ag:Option Addr) (ak:Nat) (ah:Option Addr) (am:Nat) (ai:Option Addr) (an:Nat) (aj:Option Addr) (ao:Nat) (w:World) (U:PHeap) (hS:St0 w U []) (bn:Sl U 1 ag ak p0.Starts.length (hD KL.encI p0.Starts)) (bo:Sl U 2 ah am p0.Splits.length (hD wAC p0.Splits)) (bp:Sl U 3 ai an p0.Clocks.length (hD wAA p0.Clocks)) (bq:Sl U 4 aj ao p0.Readings.length (hD wAB p0.Readings)) {r:(Option wAX) × Int} (hm:wCA p0=some r):Gv Try.prog 60 [.agg #[.slice ag p0.Starts.length ak,.slice ah p0.Splits.length am,.slice ai p0.Clocks.length an,.slice aj p0.Readings.length ao]] w (wBw w [] U (fun U_ L_ v=>match r.1 with | none=>v=.tuple #[.pointer none,jV r.2]/\L_=[] | some d=>∃ (b0:Nat) (A0p00:Option Addr) (c0p00:Nat) (A0p01:Option Addr) (c0p01:Nat) (A0p02:Option Addr) (c0p02:Nat) (A0p03:Option Addr) (c0p03:Nat) (m0p1:Nat) (es0p1:Array MapEntry) (ck0p1:Nat) (A0p2:Option Addr) (c0p2:Nat),v=.tuple #[.pointer (some ⟨b0,0,none⟩),jV r.2]/\L_=[.blk b0 124 [.slice A0p00 d.Race.Starts.length c0p00,.slice A0p01 d.Race.Splits.length c0p01,.slice A0p02 d.Race.Clocks.length c0p02,.slice A0p03 d.Race.Readings.length c0p03,.map (some m0p1),.slice A0p2 d.edges.length c0p2],.obj m0p1 (.map es0p1 ck0p1),.row A0p2 c0p2 130 7 (hD wAQ d.edges)]/\Sl U_ 1 A0p00 c0p00 d.Race.Starts.length (hD KL.encI d.Race.Starts)/\Sl U_ 2 A0p01 c0p01 d.Race.Splits.length (hD wAC d.Race.Splits)/\Sl U_ 3 A0p02 c0p02 d.Race.Clocks.length (hD wAA d.Race.Clocks)/\Sl U_ 4 A0p03 c0p03 d.Race.Readings.length (hD wAB d.Race.Readings)/\MpR es0p1 wBD wBJ d.number)):=by
 unfold wCA at hm
 refine Gv.of Try.func60 Z Try.ntmps60 Try.results60 Z (sR gCs Z ?_)
 let B0:List Value:=[.slice ag p0.Starts.length ak,.slice ah p0.Splits.length am,.slice ai p0.Clocks.length an,.slice aj p0.Readings.length ao]
 refine zy (cs:=B0) rfl rfl rfl rfl rfl rfl (by rfl) hS ?_
 intro W1 b2 bm
 refine oA Z Z (oA Z Z (eN (zM (sR (.fl 0 gCa) Z (oL Z (bm.ldBA (j:=0) Z Z Z zf zY (vs:=B0) Z Z) (bnK hm fun x5 h6 bM=>zF 0 Z Z Z Z (zD Z Z Try.call68 (zB Z zJ) Z) bm (fun hs=>wDq p0 ag ak ah am ai an aj ao W1 U hs bn bo bp bq h6) (.inr Z) ?_))))))
 rintro U8 L9 bR bb ap bF ⟨rfl,rfl⟩
 have ax:sW w U U8 [.blk b2 28 B0] bb:=bF
 refine oA Z Z (eN (sR fL2 Z (oM Z Z (oR Z (Ze Z Z Z) (eN (ifc bM ?_ ?_))))))
 intro av bI
 refine ZE (ZD (fun h=>h av.out)) (kN (sR gDc Z (oL Z (ax.ldBA (j:=0) Z Z Z zf zY (vs:=B0) Z Z) ?_)))
 have bt:=bn.le ap
 have bu:=bo.le ap
 have bv:=bp.le ap
 have bw:=bq.le ap
 refine bnK bI fun ae bx bJ=>zF 0 Z Z Z Z (zD Z Z Try.call89 (zB Z zJ) Z) ax (fun hs=>wFI p0 ag ak ah am ai an aj ao bb U8 hs bt bu bv bw bx) (.inr Z) ?_
 rintro ba bN bS bs bQ bG ⟨be,az,bf,a7,bg,a8,bh,a9,bi,ay,bk,bj,aq,aw,rfl,rfl,bz,bA,bB,bC,bD⟩
 have bH:sW w U ba [.blk be 124 [.slice az ae.Race.Starts.length bf,.slice a7 ae.Race.Splits.length bg,.slice a8 ae.Race.Clocks.length bh,.slice a9 ae.Race.Readings.length bi,.map (some ay),.slice aq ae.edges.length aw],.obj ay (.map bk bj),.row aq aw 130 7 (hD wAQ ae.edges),.blk b2 28 B0] bs:=bG
 refine oA Z Z (oA Z Z (eN (zR ?_)))
 cases bJ
 exact ⟨rfl,_,(wDf rfl rfl),ba,_,(bH.pick [0,1,2] _ (by decide) rfl),be,az,bf,a7,bg,a8,bh,a9,bi,ay,bk,bj,aq,aw,rfl,rfl,bz,bA,bB,bC,bD⟩
 intro av bL
 refine cT Z av (sR fL3 Z (oM Z Z (oA Z Z (oA Z Z (eN (zR (zW ?_)))))))
 cases bL
 exact ⟨rfl,_,(wDf rfl rfl),U8,_,(ax.pick [] _ (by decide) rfl),rfl,rfl⟩
theorem wDE (p0:List wAP) (ap:Option Addr) (aq:Nat) (p1:(wAP->Option Bool)) (au:Value) (w:World) (U:PHeap) (hS:St0 w U []) (bw:Sl U 2 ap aq p0.length (hD wAT p0)) (bx:FnOK Try.prog U au wLK wLL p1) {r:Bool} (hm:wAz p0 p1=some r):Gv Try.prog 85 [.slice ap p0.length aq,au] w (wBw w [] U (fun U_ L_ v=>v=.bool r/\L_=[])):=by
 unfold wAz at hm
 refine Gv.of Try.func85 Z Try.ntmps85 Try.results85 Z (sR fL1 Z (oA Z Z (eN (zM (sR fL3 Z (oM Z Z (oR Z (zx Z Z Zq) (oM Z Z (eN (zd ?_))))))))))
 have q:=wBy hm
 obtain ⟨r3,ak⟩:=q
 have q:=wBx ak
 obtain ⟨an,bB⟩:=q
 replace an:=zO an
 refine yX (fun k2 _ σ_ w_=>∃ (U_:PHeap),σ_ 9=jV (↑k2:Int)/\σ_ 1=au/\σ_ 7=.slice ap p0.length aq/\σ_ 8=jV (↑p0.length:Int)/\PHeap.Le U U_/\sW w U U_ [] w_) bB ?_ ?_ ?_
 exact ⟨U,Z,Z,Z,Z,(zP _),hS⟩
 rintro k2 ⟨⟩ bY ca W8 am ⟨be,aj,ax,ay,az,ao,a8⟩ bc bz
 try dsimp only at bc
 have aw:Hid ((↑k2:Int) < (↑p0.length:Int)):=zO (wAs am)
 replace am:=zO am
 have bC:Hid (w64 ((↑k2:Int) + 1)=(↑(k2 + 1):Int)):=zO (by have h1:=an.out;have h2:=aw.out;rw [wAU] <;> omega)
 refine sR fL1 Z (oR Z (ze Z aj az) (eN (zM (cT Z aw (kN (zM (zd (sR (.fl 0 (.fl 1 gCb)) Z (bnK bc fun af a7 bD=>?_)))))))))
 have bn:=bw.le ao
 have q:=bn.el (fun _=>rfl) (wAb a7)
 obtain ⟨bQ,bU,bq,br⟩:=q
 refine oR Z (Zk Z ay bq aj Zq ZG (wCl a7)) (oL Z (a8.ldCA (f:=0) br Z Z ZY ZG (us:=[jV af.Skier,jV af.Mat]) Z Z) (zQ (cs:=[jV 0,jV 0]) Z Z Z Z Z Zu Z a8 ?_))
 intro bM av bs
 let B0:List Value:=[jV af.Skier,jV af.Mat]
 refine zU (j:=0) (vs:=B0) Z Z Z Z bs Z Z Z Z ZG (zA Z) Z Z Z ?_
 intro bg bt
 have a9:sW w U be [.blk av 45 B0] bg:=bt
 refine eN (sR gDd Z (oM Z ax (oL Z (a9.ldBA (j:=0) Z Z Z ZY ZG (vs:=B0) Z Z) (bnK bD fun bX bo bE=>?_))))
 have bp:=bx.le ao
 refine OKS.callV (a:=af) Z Z Z Z Z Z (zB Z zJ) a9 bp Z bo ?_
 rintro ah bL bW bh bI bu ⟨rfl,rfl⟩
 have ba:sW w U ah [.blk av 45 B0] bh:=bu
 refine oR Z (Zg Z Z) (eN (ifc bE ?_ ?_))
 intro ai bF
 refine ZE (nC ai.out) (Zo (ZA (zL (rR fL2 Z (oR Z (ZH (za Z aj Z) (congrArg (jV) bC.out)) (oM Z Z (zh ?_)))))))
 have q:=nH bF
 obtain rfl:=q
 exact zL ⟨rfl,_,rfl,⟨ah,rfl,ax,ay,az,(ao.trans bI),(ba.pick [] _ (by decide) rfl)⟩⟩
 intro ai bG
 refine ZI (nF (ai.out)) (sR fL1 Z (oA Z Z (eN (zR (zq (zW ?_))))))
 have q:=wAY bG
 obtain ⟨bJ,bH,bj⟩:=q
 have q:=wBY hm ak (bz bJ bj)
 obtain rfl:=q
 refine zW (zq (zW ?_))
 have hE:=nH bH;first | subst r | cases hE
 exact ⟨rfl,_,(ZL rfl),ah,_,(ba.pick [] _ (by decide) rfl),rfl,rfl⟩
 rintro ⟨⟩ bZ bN ⟨bf,bm,bR,bS,bk,bT,bv⟩ bA
 have bb:=wCm hm ak bA
 try dsimp only at bb
 have bi:Hid (¬ ((↑(((↑p0.length:Int):Int) - 0).toNat:Int) < (↑p0.length:Int))):=zO (wAc)
 refine sR fL1 Z (oR Z (ze Z bm bk) (eN (zM (cF Z bi (Zb (zo (zo (ZV (zL (sR fL1 Z (oA Z Z (eN (zR ?_)))))))))))))
 have hE:=nH bb;first | subst r | cases hE
 exact ⟨Z,_,(ZL Z),bf,_,bv,Z,Z⟩
theorem wGC (p0 p1:Int) (w:World) (U:PHeap) (hS:St0 w U []) {r:Int × Int} (hm:wDC p0 p1=some r):Gv Try.prog 107 [.int .u64 p0,.int .u64 p1] w (wBw w [] U (fun U_ L_ v=>v=.tuple #[.int .u64 r.1,.int .u64 r.2]/\L_=[])):=by
 unfold wDC at hm
 split at hm
 rename_i h
 cases hm
 obtain ⟨x,rfl⟩:=nI h.1
 obtain ⟨y,rfl⟩:=nI h.2.2.1
 refine (Go.Proofs.Try.bits_Mul x y (by omega) (by omega) w).mono ?_
 rintro e w' ⟨rfl,rfl⟩
 refine ⟨_,Z,U,[],hS,?_,Z⟩
 simp
 cases hm
theorem wAh (p0:List Int) (a7:Option Addr) (a8:Nat) (p1:Int) (w:World) (U:PHeap) (hS:St0 w U []) (ca:Sl U 1 a7 a8 p0.length (hD KL.encI p0)) {r:(List Int)} (hm:wBA p0 p1=some r):Gv Try.prog 88 [.slice a7 p0.length a8,jV p1] w (wBw w [] U (fun U_ L_ v=>∃ (A0:Option Addr) (c0:Nat),v=.slice A0 r.length c0/\L_=[.row A0 c0 3 1 (hD KL.encI r)])):=by
 unfold wBA at hm
 refine Gv.of Try.func88 Z Try.ntmps88 Try.results88 Z (sR fL1 Z (oA Z Z (eN (zM (sR fL2 Z (oM Z Z (oR Z (ze Z Z Z) (eN ?_))))))))
 by_cases c1:p1 < 0
 have bn:=hm;rw [if_pos c1] at bn;replace c1:=zO c1
 refine cT Z c1 (rR gCi Z ?_)
 cases bn
 have bq:=hm;rw [if_neg c1] at bq;replace c1:=zO c1
 refine cF Z c1 (kN (sR (wFk (.fx 5 (wMg (.nil)) .stop)) Z (oM Z Z (oR Z (zx Z Z zK) (oR Z (Runs.cv64 Z Z yd Try.runUnderlying177 Z Z) (oM Z Z (oR Z (Runs.cv64 Z Z yd Try.runUnderlying177 Z Z) ?_)))))))
 have q:=bnd bq
 obtain ⟨⟨x4,x5⟩,h6,br⟩:=q
 try dsimp only at br
 refine zF 0 Z Z Z Z (zD Z Z Try.call107 (zB Z (zB Z zJ)) Z) hS (fun hs=>wGC (wKD (↑p0.length:Int)) (wKD p1) w U hs h6) (.inr Z) ?_
 rintro U8 L9 cJ bB cz bU ⟨rfl,rfl⟩
 have bg:sW w U U8 [] bB:=bU
 refine oM Z Z (oR Z (zT Z Z (v:=.int .u64 x4) Z) (oR Z (zT Z Z (v:=.int .u64 x5) Z) (oA Z Z (oA Z Z (eN (zM (bnK br fun bF bv cn=>yS (fun σ_ w_=>∃ (U_:PHeap),σ_ 0=.slice a7 p0.length a8/\σ_ 6=.int .u64 x5/\σ_ 26=.bool bF/\PHeap.Le U8 U_/\sW w U U_ [] w_) ?_ ?_)))))))
 refine rR fL6 Z (oM Z Z (oR Z (ye Z Z Z) (oM Z Z ?_)))
 by_cases af:0 < x4
 have bo:=bv;rw [if_pos af] at bo;replace af:=zO af
 refine oT Z af (oT Z af (oR Z (zN Z (Zi af.out) Z) (zh ?_)))
 cases bo
 exact zL ⟨Z,⟨U8,Z,Z,Z,(zP _),bg⟩⟩
 have bp:=bv;rw [if_neg af] at bp;replace af:=zO af
 refine zw Z Z Z (wF Z af) Z Z (rU Z (wF Z af) (ye Z Z Z) (oR Z (zg Z (ZD af.out) Z) (zh ?_)))
 have q:=nH bp
 obtain rfl:=q
 exact zL ⟨Z,⟨U8,Z,Z,Z,(zP _),bg⟩⟩
 rintro cL cE ⟨ao,bH,bI,be,cA,bV⟩
 refine ifc cn ?_ ?_
 intro aw co
 refine ZI (be.trans (congrArg nJ aw.out)) (rR gCi Z ?_)
 cases co
 intro aw cp
 refine ZE (be.trans (congrArg nJ (nL.2 aw.out))) (kN (sR gDd Z (oM Z bI (oR Z (Runs.cvw Z Z Try.runUnderlying177 yd Z Z) (bnK cp fun ac bJ cr=>OKS.makeSlice (enc:=KL.encI) (z:=(0:Int)) (v:=jV 0) Z Z Z Z Z (wBj zK) wGu Z Z Z Z Z Z bJ bV ?_)))))
 intro bC ae bW
 have bh:sW w U ao [.row (some ⟨ae,0,none⟩) ac.length 3 1 (hD KL.encI ac)] bC:=bW
 refine oA Z Z (eN (sR gDd Z (oM Z Z (oM Z bH ?_))))
 have bL:=ca.le cz
 have bM:=bL.le cA
 refine bnK cr fun a9 bN ct=>OKS.copyM (j:=0) (f:=KL.encI) (m:=ac) (ys:=p0) (z:=a9) (a:=0) (n:=ac.length) rfl rfl rfl rfl rfl rfl zK zC bh rfl (fun _=>rfl) (fun _=>rfl) rfl bN rfl (by simp) (.inr (by simp)) rfl (bh.srcS bM) rfl ?_
 intro bD bX bk
 have bY:sW w U ao [.row (some ⟨ae,0,none⟩) ac.length 3 1 (hD KL.encI a9)] bD:=bX
 refine oA Z Z (eN (zM (zd (CK.iter (fun (ag,ah) σ_ w_=>∃ (U_:PHeap),σ_ 7=.slice (some ⟨ae,0,none⟩) ag.length ac.length/\σ_ 8=jV ah/\PHeap.Le ao U_/\sW w U U_ [.row (some ⟨ae,0,none⟩) ac.length 3 1 (hD KL.encI ag)] w_/\ag.length=ac.length) ct ?_ ?_))))
 exact ⟨ao,(Eq.trans (b:=(.slice (some ⟨ae,0,none⟩) ac.length ac.length:Value)) (c:=(.slice (some ⟨ae,0,none⟩) a9.length ac.length:Value)) rfl (by rw [bk])),rfl,(zP _),bY,bk⟩
 rintro ⟨ag,ah⟩ cK cM bc ⟨av,am,aq,cB,bi,bQ⟩ az cg
 try dsimp only at az
 refine zM (sR fL4 Z (oM Z aq (oM Z am (oR Z (zx Z Z zK) (oR Z (ze Z Z Z) (eN ?_))))))
 by_cases aj:ah < (↑ag.length:Int)
 have bs:=az;rw [if_pos aj] at bs;replace aj:=zO aj
 refine cT Z aj (kN (zd (zt zu [3,3,3,3,3,3,3,0,3,3] (wGc gCt) (by kernel_rfl) ?_)))
 have an:=bi.drew
 generalize hw_W76:({ bc with drawn:=bc.drawn + 1 }:World)=cG at an ⊢
 refine oM Z aq (oM Z am (oM Z aq (bnK bs fun bz bR cu=>?_)))
 have q:=wHT bR
 obtain ⟨cb,cd,ax,cH,ay⟩:=q
 have bt:=an.rowCap (j:=0) rfl (by decide) (wAD (f:=KL.encI) (sz:=1) (fun _=>rfl) ag)
 refine zc (v:=.slice (if ac.length=(ah:Int).toNat then (some ⟨ae,0,none⟩) else Option.map (fun q:Addr=>q.add ((ah:Int).toNat * 1)) ((some ⟨ae,0,none⟩):Option Addr)) bz.length (ac.length - (ah:Int).toNat)) rfl rfl rfl rfl (fun _=>ZH (Runs.slc (sz:=1) (a:=ah) (b:=(↑(ag.length):Int)) rfl rfl (.inl ⟨_,rfl,rfl⟩) (.inr ⟨rfl,rfl⟩) zK zC cb cd ax bt) (by rw [ay])) (zw rfl rfl rfl rfl rfl am (zw rfl rfl rfl rfl rfl aq (bnK cu fun bA bf cw=>?_)))
 have q:=wHT bf
 obtain ⟨cc,cf,ci,cI,cy⟩:=q
 have bu:=an.rowCap (j:=0) rfl (by decide) (wAD (f:=KL.encI) (sz:=1) (fun _=>rfl) ag)
 refine zc (v:=.slice (if ac.length=(0:Int).toNat then (some ⟨ae,0,none⟩) else Option.map (fun q:Addr=>q.add ((0:Int).toNat * 1)) ((some ⟨ae,0,none⟩):Option Addr)) bA.length (ac.length - (0:Int).toNat)) rfl rfl rfl rfl (fun _=>ZH (Runs.slc (sz:=1) (a:=0) (b:=ah) rfl rfl (.inr ⟨rfl,rfl⟩) (.inl ⟨_,rfl,rfl⟩) zK zC cc cf ci bu) (by rw [cy])) (bnK cw fun ba bS cx=>OKS.copyM (j:=0) (f:=KL.encI) (m:=ag) (ys:=bA) (z:=ba) (a:=ah) (n:=bz.length) rfl rfl rfl rfl rfl rfl zK zC an rfl (fun _=>rfl) (fun _=>rfl) rfl bS rfl (by have:=ay;have:=ax;omega) (cutA rfl (by have:=ay;have:=ax;have:=bt;omega)) rfl (an.srcCut (f:=KL.encI) (j:=0) rfl (fun _=>rfl) rfl bf bu) rfl ?_)
 intro bE bZ bj
 have bT:sW w U av [.row (some ⟨ae,0,none⟩) ac.length 3 1 (hD KL.encI ba)] bE:=bZ
 refine oR Z (za Z Z Z) (oA Z Z (zh (ZA ?_)))
 have q:=nH cx
 obtain rfl:=q
 exact zL ⟨rfl,_,rfl,⟨av,(Eq.trans (b:=(.slice (some ⟨ae,0,none⟩) ag.length ac.length:Value)) (c:=(.slice (some ⟨ae,0,none⟩) ba.length ac.length:Value)) am (by rw [bj])),rfl,cB,bT,(bj.trans bQ)⟩⟩
 have bm:=az;rw [if_neg aj] at bm;replace aj:=zO aj
 refine cF Z aj (Zb (zo ?_))
 have q:=wAY bm
 obtain ⟨cC,cm,bG⟩:=q
 have q:=cg cC bG
 obtain rfl:=q
 refine zo (ZV (zL (sR fL2 Z (oM Z am (oA Z Z (eN (zR ?_)))))))
 have hE:=nH cm;first | subst r | cases hE
 exact ⟨Z,_,(ZL Z),av,_,bi,(some ⟨ae,0,none⟩),ac.length,Z,Z⟩
theorem wBP (p0:wAX) (ai:Nat) (dE:Option Addr) (dK:Nat) (dH:Option Addr) (dL:Nat) (dI:Option Addr) (dM:Nat) (dJ:Option Addr) (dN:Nat) (ac:Nat) (af:Array MapEntry) (ag:Nat) (br:Option Addr) (bs:Nat) (p1:Int) (p2:Bool) (w:World) (U:PHeap) (hS:St0 w U [.blk ai 124 [.slice dE p0.Race.Starts.length dK,.slice dH p0.Race.Splits.length dL,.slice dI p0.Race.Clocks.length dM,.slice dJ p0.Race.Readings.length dN,.map (some ac),.slice br p0.edges.length bs],.obj ac (.map af ag)]) (yq:Sl U 1 dE dK p0.Race.Starts.length (hD KL.encI p0.Race.Starts)) (yr:Sl U 2 dH dL p0.Race.Splits.length (hD wAC p0.Race.Splits)) (yt:Sl U 3 dI dM p0.Race.Clocks.length (hD wAA p0.Race.Clocks)) (yu:Sl U 4 dJ dN p0.Race.Readings.length (hD wAB p0.Race.Readings)) (cR:MpR af wBD wBJ p0.number) (vf:Sl U 7 br bs p0.edges.length (hD wAQ p0.edges)) {r:wCx × Int × Bool} (hm:wAg p0 p1 p2=some r):Gv Try.prog 57 [.pointer (some ⟨ai,0,none⟩),jV p1,.bool p2] w (wBw w [.blk ai 124 [.slice dE p0.Race.Starts.length dK,.slice dH p0.Race.Splits.length dL,.slice dI p0.Race.Clocks.length dM,.slice dJ p0.Race.Readings.length dN,.map (some ac),.slice br p0.edges.length bs],.obj ac (.map af ag)] U (fun U_ L_ v=>∃ (gu:Option Addr) (iS:Nat) (gv:Option Addr) (iT:Nat),v=.tuple #[.agg #[.slice gu r.1.far.length iS,.slice gv r.1.by_.length iT],jV r.2.1,.bool r.2.2]/\L_=[.row gu iS 3 1 (hD KL.encI r.1.far),.row gv iT 3 1 (hD KL.encI r.1.by_),.blk ai 124 [.slice dE p0.Race.Starts.length dK,.slice dH p0.Race.Splits.length dL,.slice dI p0.Race.Clocks.length dM,.slice dJ p0.Race.Readings.length dN,.map (some ac),.slice br p0.edges.length bs],.obj ac (.map af ag)])):=by
 unfold wAg at hm
 refine Gv.of Try.func57 Z Try.ntmps57 Try.results57 Z (sR gCs Z ?_)
 let B0:List Value:=[.slice none 0 0,.slice none 0 0]
 refine zQ (cs:=B0) Z Z Z Z Z Zm Z hS ?_
 intro W3 b4 uD
 refine oA Z Z (oA Z Z (eN ?_))
 have q:=bnd hm
 obtain ⟨⟨l9,bx⟩,wh,lZ⟩:=q
 try dsimp only at lZ
 let B1:Res:=.blk ai 124 [.slice dE p0.Race.Starts.length dK,.slice dH p0.Race.Splits.length dL,.slice dI p0.Race.Clocks.length dM,.slice dJ p0.Race.Readings.length dN,.map (some ac),.slice br p0.edges.length bs]
 refine yS (fun σ_ w_=>∃ (U_:PHeap) (b8:Nat) (ao:Option Addr) (ap:Nat) (aq:Option Addr) (au:Nat),σ_ 0=.pointer (some ⟨ai,0,none⟩)/\σ_ 1=jV p1/\σ_ 2=.bool p2/\σ_ 6=.pointer (some ⟨b4,0,none⟩)/\σ_ 9=.pointer (some ⟨b8,0,none⟩)/\PHeap.Le U U_/\SW w [B1,.obj ac (.map af ag)] U U_ [.blk b4 118 B0,B1,.obj ac (.map af ag),.blk b8 118 [.slice ao l9.length ap,.slice aq bx.length au],.row ao ap 3 1 (hD KL.encI l9),.row aq au 3 1 (hD KL.encI bx)] w_) ?_ ?_
 refine bnK wh fun av eO wb=>bnK wb fun bb eU wc=>zt zu [2,3,3,3,1,1,2,2,3,3,3,1,1,2,3,2,0] (fC1_5 (wHr (.fx 0 (.fx 6 (.fl 12 (.fx 7 gDl (.fx 15 gDe .stop))) (.fx 7 gDw (.fx 15 gDx .stop))) (.fx 7 (.fx 0 gDw (.fx 15 gDq .stop)) (.fx 15 (.fx 0 gDx (.fx 7 gDq .stop)) .stop))))) (by kernel_rfl) ?_
 have ci:=uD.drew
 generalize hw_W74:({ W3 with drawn:=W3.drawn + 1 }:World)=xq at ci ⊢
 refine ZR (s:=.nil) (M:=fun σ_ w_=>∃ (U_:PHeap) (ej:Nat) (co:Option Addr) (cE:Nat) (cp:Option Addr) (cG:Nat) (e0:Option Addr) (fz:Nat) (fb:Option Addr) (fA:Nat),σ_ 0=.pointer (some ⟨ai,0,none⟩)/\σ_ 1=jV p1/\σ_ 2=.bool p2/\σ_ 6=.pointer (some ⟨b4,0,none⟩)/\σ_ 9=.pointer (some ⟨ej,0,none⟩)/\σ_ 16=.slice e0 ([1125899906842624].length) fz/\σ_ 17=.pointer (some ⟨ai,0,none⟩)/\σ_ 18=.pointer (some ⟨ai,0,none⟩)/\σ_ 19=.pointer (some ⟨ai,4,none⟩)/\σ_ 20=.map (some ac)/\σ_ 21=jV (↑(p0.number.length):Int)/\σ_ 22=.slice co av.length cE/\σ_ 23=.slice fb ([-1].length) fA/\σ_ 24=.pointer (some ⟨ai,0,none⟩)/\σ_ 25=.pointer (some ⟨ai,0,none⟩)/\σ_ 26=.pointer (some ⟨ai,4,none⟩)/\σ_ 27=.map (some ac)/\σ_ 28=jV (↑(p0.number.length):Int)/\σ_ 29=.slice cp bb.length cG/\σ_ 30=.agg #[.slice co av.length cE,.slice cp bb.length cG]/\PHeap.Le U U_/\SW w [B1,.obj ac (.map af ag)] U U_ [.blk b4 118 B0,B1,.obj ac (.map af ag),.blk ej 118 [.slice co av.length cE,.slice cp bb.length cG],.row co cE 3 1 (hD KL.encI av),.row cp cG 3 1 (hD KL.encI bb)] w_/\Sl U_ 1 e0 fz [1125899906842624].length (hD KL.encI [1125899906842624])/\Sl U_ 1 fb fA [-1].length (hD KL.encI [-1])) ?_ fun mi=>?_
 rintro Al xl ⟨mN,ej,co,cE,cp,cG,e0,fz,fb,fA,pM,pN,pO,pP,pQ,xK,xL,xM,xN,xO,xP,xR,xS,xT,xU,xV,xW,xX,xY,xZ,wu,uB,yo,yp⟩
 refine zh ?_
 cases wc
 exact zL ⟨Z,⟨mN,ej,co,cE,cp,cG,pM,pN,pO,pP,pQ,wu,uB⟩⟩
 refine ZR (s:=.fx 16 .nil .stop) (M:=fun σ_ w_=>∃ (U_:PHeap) (dh:Nat) (dP:Option Addr) (en:Nat) (bM:Option Addr) (bX:Nat) (dQ:Option Addr) (eo:Nat) (bN:Option Addr) (bY:Nat),σ_ 0=.pointer (some ⟨ai,0,none⟩)/\σ_ 1=jV p1/\σ_ 2=.bool p2/\σ_ 6=.pointer (some ⟨b4,0,none⟩)/\σ_ 9=.pointer (some ⟨dh,0,none⟩)/\σ_ 16=.slice dP ([1125899906842624].length) en/\σ_ 17=.pointer (some ⟨ai,0,none⟩)/\σ_ 18=.pointer (some ⟨ai,0,none⟩)/\σ_ 19=.pointer (some ⟨ai,4,none⟩)/\σ_ 20=.map (some ac)/\σ_ 21=jV (↑(p0.number.length):Int)/\σ_ 22=.slice bM av.length bX/\σ_ 23=.slice dQ ([-1].length) eo/\σ_ 24=.pointer (some ⟨ai,0,none⟩)/\σ_ 25=.pointer (some ⟨ai,0,none⟩)/\σ_ 26=.pointer (some ⟨ai,4,none⟩)/\σ_ 27=.map (some ac)/\σ_ 28=jV (↑(p0.number.length):Int)/\σ_ 29=.slice bN bb.length bY/\σ_ 30=.agg #[.slice bM av.length bX,.slice bN bb.length bY]/\PHeap.Le U U_/\SW w [B1,.obj ac (.map af ag)] U U_ [.blk b4 118 B0,B1,.obj ac (.map af ag),.blk dh 118 B0,.row bM bX 3 1 (hD KL.encI av),.row bN bY 3 1 (hD KL.encI bb)] w_/\Sl U_ 1 dP en [1125899906842624].length (hD KL.encI [1125899906842624])/\Sl U_ 1 dQ eo [-1].length (hD KL.encI [-1])) ?_ fun wi=>?_
 rintro Am xm ⟨gZ,dh,dP,en,bM,bX,dQ,eo,bN,bY,pR,pS,pT,pU,jK,pV,pW,pX,pY,pZ,p4,p5,p6,p7,p8,p9,qa,qb,qc,jL,wv,uC,sT,sU⟩
 let B2:List Value:=[.slice bM av.length bX,.slice bN bb.length bY]
 refine zU (j:=3) (vs:=B2) Z Z Z Z uC Z jK jL Z yH (zA Z) Z Z Z ?_
 intro m6 uE
 have uF:SW w [B1,.obj ac (.map af ag)] U gZ [.blk b4 118 B0,B1,.obj ac (.map af ag),.blk dh 118 B2,.row bM bX 3 1 (hD KL.encI av),.row bN bY 3 1 (hD KL.encI bb)] m6:=uE
 exact mi _ _ ⟨gZ,dh,bM,bX,bN,bY,dP,en,dQ,eo,pR,pS,pT,pU,jK,pV,pW,pX,pY,pZ,p4,p5,p6,p7,p8,p9,qa,qb,qc,jL,wv,uF,sT,sU⟩
 refine ZR (s:=gCl) (M:=fun σ_ w_=>∃ (U_:PHeap) (di:Nat) (dR:Option Addr) (ep:Nat) (bO:Option Addr) (bZ:Nat) (dS:Option Addr) (er:Nat) (bQ:Option Addr) (ca:Nat),σ_ 0=.pointer (some ⟨ai,0,none⟩)/\σ_ 1=jV p1/\σ_ 2=.bool p2/\σ_ 6=.pointer (some ⟨b4,0,none⟩)/\σ_ 9=.pointer (some ⟨di,0,none⟩)/\σ_ 16=.slice dR ([1125899906842624].length) ep/\σ_ 17=.pointer (some ⟨ai,0,none⟩)/\σ_ 18=.pointer (some ⟨ai,0,none⟩)/\σ_ 19=.pointer (some ⟨ai,4,none⟩)/\σ_ 20=.map (some ac)/\σ_ 21=jV (↑(p0.number.length):Int)/\σ_ 22=.slice bO av.length bZ/\σ_ 23=.slice dS ([-1].length) er/\σ_ 24=.pointer (some ⟨ai,0,none⟩)/\σ_ 25=.pointer (some ⟨ai,0,none⟩)/\σ_ 26=.pointer (some ⟨ai,4,none⟩)/\σ_ 27=.map (some ac)/\σ_ 28=jV (↑(p0.number.length):Int)/\σ_ 29=.slice bQ bb.length ca/\PHeap.Le U U_/\SW w [B1,.obj ac (.map af ag)] U U_ [.blk b4 118 B0,B1,.obj ac (.map af ag),.blk di 118 B0,.row bO bZ 3 1 (hD KL.encI av),.row bQ ca 3 1 (hD KL.encI bb)] w_/\Sl U_ 1 dR ep [1125899906842624].length (hD KL.encI [1125899906842624])/\Sl U_ 1 dS er [-1].length (hD KL.encI [-1])) ?_ fun mj=>?_
 rintro An xn ⟨g6,di,dR,ep,bO,bZ,dS,er,bQ,ca,qd,qe,qf,qh,jM,qi,qj,qk,qm,qn,qo,jN,qp,qq,qr,qs,qt,qu,jO,ww,uG,sV,sX⟩
 let B3:List Value:=[.slice bO av.length bZ,.slice bQ bb.length ca]
 refine oR Z (zk (pv:=[(0,.slice bO av.length bZ),(1,.slice bQ bb.length ca)]) (z:=B0) (cs:=B3) Z (wAH jN (wAH jO wAO)) Zm wHV Z Z) (zU (j:=3) (vs:=B3) Z Z Z Z uG Z jM Z Z yH (zA Z) Z Z Z ?_)
 intro m7 uH
 have uI:SW w [B1,.obj ac (.map af ag)] U g6 [.blk b4 118 B0,B1,.obj ac (.map af ag),.blk di 118 B3,.row bO bZ 3 1 (hD KL.encI av),.row bQ ca 3 1 (hD KL.encI bb)] m7:=uH
 exact mi _ _ ⟨g6,di,bO,bZ,bQ,ca,dR,ep,dS,er,qd,qe,qf,qh,jM,qi,qj,qk,qm,qn,qo,jN,qp,qq,qr,qs,qt,qu,jO,Z,ww,uI,sV,sX⟩
 refine ZR (s:=gCv) (M:=fun σ_ w_=>∃ (U_:PHeap) (cz:Nat) (dT:Option Addr) (eu:Nat) (cU:Option Addr) (dm:Nat) (cV:Option Addr) (dp:Nat),σ_ 0=.pointer (some ⟨ai,0,none⟩)/\σ_ 1=jV p1/\σ_ 2=.bool p2/\σ_ 6=.pointer (some ⟨b4,0,none⟩)/\σ_ 9=.pointer (some ⟨cz,0,none⟩)/\σ_ 16=.slice dT ([1125899906842624].length) eu/\σ_ 17=.pointer (some ⟨ai,0,none⟩)/\σ_ 18=.pointer (some ⟨ai,0,none⟩)/\σ_ 19=.pointer (some ⟨ai,4,none⟩)/\σ_ 20=.map (some ac)/\σ_ 21=jV (↑(p0.number.length):Int)/\σ_ 22=.slice cU av.length dm/\σ_ 23=.slice cV ([-1].length) dp/\σ_ 24=.pointer (some ⟨ai,0,none⟩)/\σ_ 25=.pointer (some ⟨ai,0,none⟩)/\σ_ 26=.pointer (some ⟨ai,4,none⟩)/\σ_ 27=.map (some ac)/\σ_ 28=jV (↑(p0.number.length):Int)/\PHeap.Le U U_/\SW w [B1,.obj ac (.map af ag)] U U_ [.blk b4 118 B0,B1,.obj ac (.map af ag),.blk cz 118 B0,.row cU dm 3 1 (hD KL.encI av),.row cV dp 3 1 (hD KL.encI [-1])] w_/\Sl U_ 1 dT eu [1125899906842624].length (hD KL.encI [1125899906842624])) ?_ fun eX=>?_
 rintro Ao iE ⟨wU,cz,dT,eu,cU,dm,cV,dp,qv,qw,qx,qy,qz,qA,qB,qC,qD,qE,qF,qG,jP,qH,qI,qJ,qK,jQ,wx,uJ,sY⟩
 have q:=uJ.freezeR (k:=5) (n:=[-1].length) rfl (wAD (f:=KL.encI) (sz:=1) (fun _=>rfl) [-1]) (by decide)
 obtain ⟨g7,mx,l8,uK⟩:=q
 let B4:Res:=.row cU dm 3 1 (hD KL.encI av)
 have uL:SW w [B1,.obj ac (.map af ag)] U g7 [.blk b4 118 B0,B1,.obj ac (.map af ag),.blk cz 118 B0,B4] iE:=uK
 refine zF 0 Z Z Z Z (zD Z Z Try.call88 (zB jP (zB jQ zJ)) Z) uL (fun hs=>wAh [-1] cV dp (↑(p0.number.length):Int) iE g7 hs l8 eU) (.inr Z) ?_
 rintro g8 wO y8 m8 gm uM ⟨gz,i2,rfl,rfl⟩
 have uN:SW w [B1,.obj ac (.map af ag)] U g8 [.row gz i2 3 1 (hD KL.encI bb),.blk b4 118 B0,B1,.obj ac (.map af ag),.blk cz 118 B0,B4] m8:=uM
 have sZ:=sY.le mx
 have s5:=sZ.le gm
 have s6:=l8.le gm
 exact mj _ _ ⟨g8,cz,dT,eu,cU,dm,cV,dp,gz,i2,qv,qw,qx,qy,qz,qA,qB,qC,qD,qE,qF,qG,jP,qH,qI,qJ,qK,jQ,rfl,((wx.trans mx).trans gm),(uN.pick [1,2,3,4,5,0] _ (by decide) rfl),s5,s6⟩
 refine ZR (s:=gCu) (M:=fun σ_ w_=>∃ (U_:PHeap) (dU:Option Addr) (ew:Nat) (cr:Option Addr) (cH:Nat) (dV:Option Addr) (ey:Nat) (ct:Option Addr) (cI:Nat),σ_ 0=.pointer (some ⟨ai,0,none⟩)/\σ_ 1=jV p1/\σ_ 2=.bool p2/\σ_ 6=.pointer (some ⟨b4,0,none⟩)/\σ_ 16=.slice dU ([1125899906842624].length) ew/\σ_ 17=.pointer (some ⟨ai,0,none⟩)/\σ_ 18=.pointer (some ⟨ai,0,none⟩)/\σ_ 19=.pointer (some ⟨ai,4,none⟩)/\σ_ 20=.map (some ac)/\σ_ 21=jV (↑(p0.number.length):Int)/\σ_ 22=.slice cr av.length cH/\σ_ 23=.slice dV ([-1].length) ey/\σ_ 24=.pointer (some ⟨ai,0,none⟩)/\σ_ 25=.pointer (some ⟨ai,0,none⟩)/\σ_ 26=.pointer (some ⟨ai,4,none⟩)/\σ_ 27=.map (some ac)/\σ_ 28=jV (↑(p0.number.length):Int)/\σ_ 29=.slice ct bb.length cI/\PHeap.Le U U_/\SW w [B1,.obj ac (.map af ag)] U U_ [.blk b4 118 B0,B1,.obj ac (.map af ag),.row cr cH 3 1 (hD KL.encI av),.row ct cI 3 1 (hD KL.encI bb)] w_/\Sl U_ 1 dU ew [1125899906842624].length (hD KL.encI [1125899906842624])/\Sl U_ 1 dV ey [-1].length (hD KL.encI [-1])) ?_ fun mm=>?_
 rintro Ap xo ⟨mO,dU,ew,cr,cH,dV,ey,ct,cI,qL,qM,qN,qO,qP,qQ,qR,qS,qT,qU,jR,qV,qW,qX,qY,qZ,q5,jS,wy,uO,s7,s8⟩
 refine oR Z (zk (pv:=[(0,.slice cr av.length cH),(1,.slice ct bb.length cI)]) (z:=B0) (cs:=[.slice cr av.length cH,.slice ct bb.length cI]) Z (wAH jR (wAH jS wAO)) Zm wHV Z Z) (zQ (cs:=B0) Z Z Z Z Z Zm Z uO ?_)
 intro xp oc uP
 exact wi _ _ ⟨mO,oc,dU,ew,cr,cH,dV,ey,ct,cI,qL,qM,qN,qO,rfl,qP,qQ,qR,qS,qT,qU,jR,qV,qW,qX,qY,qZ,q5,jS,rfl,wy,(uP.pick [1,2,3,0,4,5] _ (by decide) rfl),s7,s8⟩
 refine ZR (s:=.fl 12 gCv) (M:=fun σ_ w_=>∃ (U_:PHeap) (cA:Nat) (dW:Option Addr) (eA:Nat) (cW:Option Addr) (dq:Nat) (cX:Option Addr) (dr:Nat),σ_ 0=.pointer (some ⟨ai,0,none⟩)/\σ_ 1=jV p1/\σ_ 2=.bool p2/\σ_ 6=.pointer (some ⟨b4,0,none⟩)/\σ_ 9=.pointer (some ⟨cA,0,none⟩)/\σ_ 16=.slice dW ([1125899906842624].length) eA/\σ_ 17=.pointer (some ⟨ai,0,none⟩)/\σ_ 18=.pointer (some ⟨ai,0,none⟩)/\σ_ 19=.pointer (some ⟨ai,4,none⟩)/\σ_ 20=.map (some ac)/\σ_ 21=jV (↑(p0.number.length):Int)/\σ_ 22=.slice cW av.length dq/\σ_ 23=.slice cX ([-1].length) dr/\σ_ 24=.pointer (some ⟨ai,0,none⟩)/\σ_ 25=.pointer (some ⟨ai,0,none⟩)/\σ_ 26=.pointer (some ⟨ai,4,none⟩)/\σ_ 27=.map (some ac)/\PHeap.Le U U_/\SW w [B1,.obj ac (.map af ag)] U U_ [.blk b4 118 B0,B1,.obj ac (.map af ag),.blk cA 118 B0,.row cW dq 3 1 (hD KL.encI av),.row cX dr 3 1 (hD KL.encI [-1])] w_/\Sl U_ 1 dW eA [1125899906842624].length (hD KL.encI [1125899906842624])) ?_ fun wj=>?_
 rintro Aq iF ⟨wV,cA,dW,eA,cW,dq,cX,dr,q6,q7,q8,q9,rc,rd,re,rf,rh,ri,rj,rk,jU,rn,ro,rp,jW,wz,lO,s9⟩
 refine oL Z (lO.lenM (j:=2) (mk:=wBD) (mv:=wBJ) Z Z jW (wBj ZP) cR) ?_
 have q:=lO.freezeR (k:=5) (n:=[-1].length) rfl (wAD (f:=KL.encI) (sz:=1) (fun _=>rfl) [-1]) (by decide)
 obtain ⟨g9,my,ma,uQ⟩:=q
 let B5:Res:=.row cW dq 3 1 (hD KL.encI av)
 have uR:SW w [B1,.obj ac (.map af ag)] U g9 [.blk b4 118 B0,B1,.obj ac (.map af ag),.blk cA 118 B0,B5] iF:=uQ
 refine zF 0 Z Z Z Z (zD Z Z Try.call88 (zB jU (zB Z zJ)) Z) uR (fun hs=>wAh [-1] cX dr (↑(p0.number.length):Int) iF g9 hs ma eU) (.inr Z) ?_
 rintro ib wQ y9 m9 gp uS ⟨gA,i3,rfl,rfl⟩
 have uT:SW w [B1,.obj ac (.map af ag)] U ib [.row gA i3 3 1 (hD KL.encI bb),.blk b4 118 B0,B1,.obj ac (.map af ag),.blk cA 118 B0,B5] m9:=uS
 have ta:=s9.le my
 have tc:=ta.le gp
 have te:=ma.le gp
 exact mj _ _ ⟨ib,cA,dW,eA,cW,dq,cX,dr,gA,i3,q6,q7,q8,q9,rc,rd,re,rf,rh,ri,rj,rk,jU,rn,ro,rp,jW,rfl,rfl,((wz.trans my).trans gp),(uT.pick [1,2,3,4,5,0] _ (by decide) rfl),tc,te⟩
 refine ZR (s:=.fl 12 gDe) (M:=fun σ_ w_=>∃ (U_:PHeap) (dk:Nat) (dX:Option Addr) (eD:Nat) (cY:Option Addr) (dt:Nat),σ_ 0=.pointer (some ⟨ai,0,none⟩)/\σ_ 1=jV p1/\σ_ 2=.bool p2/\σ_ 6=.pointer (some ⟨b4,0,none⟩)/\σ_ 9=.pointer (some ⟨dk,0,none⟩)/\σ_ 16=.slice dX ([1125899906842624].length) eD/\σ_ 17=.pointer (some ⟨ai,0,none⟩)/\σ_ 18=.pointer (some ⟨ai,0,none⟩)/\σ_ 19=.pointer (some ⟨ai,4,none⟩)/\σ_ 20=.map (some ac)/\σ_ 21=jV (↑(p0.number.length):Int)/\σ_ 22=.slice cY av.length dt/\σ_ 24=.pointer (some ⟨ai,0,none⟩)/\σ_ 25=.pointer (some ⟨ai,0,none⟩)/\σ_ 26=.pointer (some ⟨ai,4,none⟩)/\σ_ 27=.map (some ac)/\PHeap.Le U U_/\SW w [B1,.obj ac (.map af ag)] U U_ [.blk b4 118 B0,B1,.obj ac (.map af ag),.blk dk 118 B0,.row cY dt 3 1 (hD KL.encI av)] w_/\Sl U_ 1 dX eD [1125899906842624].length (hD KL.encI [1125899906842624])) ?_ fun wk=>?_
 rintro Ar xr ⟨ic,dk,dX,eD,cY,dt,rq,rv,rx,ry,rz,rA,rB,rC,rD,rE,rF,rG,rH,rI,rJ,jX,wA,lP,tf⟩
 refine oL Z (lP.lenM (j:=2) (mk:=wBD) (mv:=wBJ) Z Z jX (wBj ZP) cR) (zr (pv:=[(0,jV (-1))]) (zs:=[jV 0]) (cs:=[jV (-1)]) Z Z Z Z Z (wAH Z wAO) zK zC zz Z Z Z Z Z lP ?_)
 intro n3 iQ uU
 have uV:SW w [B1,.obj ac (.map af ag)] U ic [.row (some ⟨iQ,0,none⟩) 1 3 1 (hD KL.encI [-1]),.blk b4 118 B0,B1,.obj ac (.map af ag),.blk dk 118 B0,.row cY dt 3 1 (hD KL.encI av)] n3:=uU
 exact eX _ _ ⟨ic,dk,dX,eD,cY,dt,(some ⟨iQ,0,none⟩),1,rq,rv,rx,ry,rz,rA,rB,rC,rD,rE,rF,rG,rfl,rH,rI,rJ,jX,rfl,wA,(uV.pick [1,2,3,4,5,0] _ (by decide) rfl),tf⟩
 refine ZR (s:=gDm) (M:=fun σ_ w_=>∃ (U_:PHeap) (cB:Nat) (cZ:Option Addr) (du:Nat) (c6:Option Addr) (dv:Nat),σ_ 0=.pointer (some ⟨ai,0,none⟩)/\σ_ 1=jV p1/\σ_ 2=.bool p2/\σ_ 6=.pointer (some ⟨b4,0,none⟩)/\σ_ 9=.pointer (some ⟨cB,0,none⟩)/\σ_ 16=.slice cZ ([1125899906842624].length) du/\σ_ 17=.pointer (some ⟨ai,0,none⟩)/\σ_ 18=.pointer (some ⟨ai,0,none⟩)/\σ_ 19=.pointer (some ⟨ai,4,none⟩)/\σ_ 20=.map (some ac)/\σ_ 21=jV (↑(p0.number.length):Int)/\σ_ 23=.slice c6 ([-1].length) dv/\σ_ 24=.pointer (some ⟨ai,0,none⟩)/\σ_ 25=.pointer (some ⟨ai,0,none⟩)/\σ_ 26=.pointer (some ⟨ai,4,none⟩)/\σ_ 27=.map (some ac)/\PHeap.Le U U_/\SW w [B1,.obj ac (.map af ag)] U U_ [.blk b4 118 B0,B1,.obj ac (.map af ag),.blk cB 118 B0,.row cZ du 3 1 (hD KL.encI [1125899906842624]),.row c6 dv 3 1 (hD KL.encI [-1])] w_) ?_ fun ge=>?_
 rintro As iG ⟨wW,cB,cZ,du,c6,dv,rK,rL,rM,rN,rO,jY,rP,rQ,rS,rT,jZ,rV,rW,rX,rY,rZ,wB,uW⟩
 have q:=uW.freezeR (k:=4) (n:=[1125899906842624].length) rfl (wAD (f:=KL.encI) (sz:=1) (fun _=>rfl) [1125899906842624]) (by decide)
 obtain ⟨ie,wC,mb,uX⟩:=q
 let B6:Res:=.row c6 dv 3 1 (hD KL.encI [-1])
 have uY:SW w [B1,.obj ac (.map af ag)] U ie [.blk b4 118 B0,B1,.obj ac (.map af ag),.blk cB 118 B0,B6] iG:=uX
 refine zF 0 Z Z Z Z (zD Z Z Try.call88 (zB jY (zB jZ zJ)) Z) uY (fun hs=>wAh [1125899906842624] cZ du (↑(p0.number.length):Int) iG ie hs mb eO) (.inr Z) ?_
 rintro ig wR z2 n4 mz uZ ⟨gC,i4,rfl,rfl⟩
 have u3:SW w [B1,.obj ac (.map af ag)] U ig [.row gC i4 3 1 (hD KL.encI av),.blk b4 118 B0,B1,.obj ac (.map af ag),.blk cB 118 B0,B6] n4:=uZ
 have tg:=mb.le mz
 exact wj _ _ ⟨ig,cB,cZ,du,gC,i4,c6,dv,rK,rL,rM,rN,rO,jY,rP,rQ,rS,rT,jZ,rfl,rV,rW,rX,rY,rZ,((wB.trans wC).trans mz),(u3.pick [1,2,3,4,0,5] _ (by decide) rfl),tg⟩
 refine ZR (s:=.fl 12 gDl) (M:=fun σ_ w_=>∃ (U_:PHeap) (da:Option Addr) (dw:Nat) (cu:Option Addr) (cJ:Nat) (cw:Option Addr) (cK:Nat),σ_ 0=.pointer (some ⟨ai,0,none⟩)/\σ_ 1=jV p1/\σ_ 2=.bool p2/\σ_ 6=.pointer (some ⟨b4,0,none⟩)/\σ_ 16=.slice da ([1125899906842624].length) dw/\σ_ 17=.pointer (some ⟨ai,0,none⟩)/\σ_ 18=.pointer (some ⟨ai,0,none⟩)/\σ_ 19=.pointer (some ⟨ai,4,none⟩)/\σ_ 20=.map (some ac)/\σ_ 21=jV (↑(p0.number.length):Int)/\σ_ 22=.slice cu av.length cJ/\σ_ 23=.slice cw ([-1].length) cK/\σ_ 24=.pointer (some ⟨ai,0,none⟩)/\σ_ 25=.pointer (some ⟨ai,0,none⟩)/\σ_ 26=.pointer (some ⟨ai,4,none⟩)/\σ_ 27=.map (some ac)/\PHeap.Le U U_/\SW w [B1,.obj ac (.map af ag)] U U_ [.blk b4 118 B0,B1,.obj ac (.map af ag),.row cu cJ 3 1 (hD KL.encI av),.row cw cK 3 1 (hD KL.encI [-1])] w_/\Sl U_ 1 da dw [1125899906842624].length (hD KL.encI [1125899906842624])) ?_ fun wl=>?_
 rintro Au iH ⟨mP,da,dw,cu,cJ,cw,cK,j0,j1,j2,j3,j4,j5,j6,j7,j8,j9,k3,fJ,k5,k6,k7,fK,mA,fV,lu⟩
 refine oL Z (fV.lenM (j:=2) (mk:=wBD) (mv:=wBJ) Z Z fK (wBj ZP) cR) (zm ?_ ?_)
 have q:=fV.freezeR (k:=4) (n:=[-1].length) rfl (wAD (f:=KL.encI) (sz:=1) (fun _=>rfl) [-1]) (by decide)
 obtain ⟨ii,mB,mc,u4⟩:=q
 let B7:Res:=.row cu cJ 3 1 (hD KL.encI av)
 have u5:SW w [B1,.obj ac (.map af ag)] U ii [.blk b4 118 B0,B1,.obj ac (.map af ag),B7] iH:=u4
 refine zF 0 Z Z Z Z (zD Z Z Try.call88 (zB fJ (zB Z zJ)) Z) u5 (fun hs=>wAh [-1] cw cK (↑(p0.number.length):Int) iH ii hs mc eU) (.inr Z) ?_
 rintro ij wS z3 n5 gq u6 ⟨gD,i5,rfl,rfl⟩
 have u7:SW w [B1,.obj ac (.map af ag)] U ij [.row gD i5 3 1 (hD KL.encI bb),.blk b4 118 B0,B1,.obj ac (.map af ag),B7] n5:=u6
 have th:=lu.le mB
 have tj:=th.le gq
 have tk:=mc.le gq
 exact mm _ _ ⟨ij,da,dw,cu,cJ,cw,cK,gD,i5,j0,j1,j2,j3,j4,j5,j6,j7,j8,j9,k3,fJ,k5,k6,k7,fK,rfl,rfl,((mA.trans mB).trans gq),(u7.pick [1,2,3,4,0] _ (by decide) rfl),tj,tk⟩
 refine zQ (cs:=B0) Z Z Z Z Z Zm Z fV ?_
 intro xt od u9
 exact eX _ _ ⟨mP,od,da,dw,cu,cJ,cw,cK,j0,j1,j2,j3,rfl,j4,j5,j6,j7,j8,j9,k3,fJ,k5,k6,k7,fK,rfl,mA,(u9.pick [1,2,3,0,4,5] _ (by decide) rfl),lu⟩
 refine ZR (s:=gDq) (M:=fun σ_ w_=>∃ (U_:PHeap) (dl:Nat) (db:Option Addr) (dx:Nat),σ_ 0=.pointer (some ⟨ai,0,none⟩)/\σ_ 1=jV p1/\σ_ 2=.bool p2/\σ_ 6=.pointer (some ⟨b4,0,none⟩)/\σ_ 9=.pointer (some ⟨dl,0,none⟩)/\σ_ 17=.pointer (some ⟨ai,0,none⟩)/\σ_ 18=.pointer (some ⟨ai,0,none⟩)/\σ_ 19=.pointer (some ⟨ai,4,none⟩)/\σ_ 20=.map (some ac)/\σ_ 21=jV (↑(p0.number.length):Int)/\σ_ 23=.slice db ([-1].length) dx/\σ_ 24=.pointer (some ⟨ai,0,none⟩)/\σ_ 25=.pointer (some ⟨ai,0,none⟩)/\σ_ 26=.pointer (some ⟨ai,4,none⟩)/\σ_ 27=.map (some ac)/\PHeap.Le U U_/\SW w [B1,.obj ac (.map af ag)] U U_ [.blk b4 118 B0,B1,.obj ac (.map af ag),.blk dl 118 B0,.row db dx 3 1 (hD KL.encI [-1])] w_) ?_ fun mn=>?_
 rintro Av xu ⟨ik,dl,db,dx,r6,r7,r8,r9,sa,sc,sd,sf,sg,sh,sj,sk,sl,sn,so,wD,va⟩
 refine zr (pv:=[(0,jV 1125899906842624)]) (zs:=[jV 0]) (cs:=[jV 1125899906842624]) Z Z Z Z Z (wAH Z wAO) zK zC zz Z Z Z Z Z va ?_
 intro n6 iR vb
 have vc:SW w [B1,.obj ac (.map af ag)] U ik [.row (some ⟨iR,0,none⟩) 1 3 1 (hD KL.encI [1125899906842624]),.blk b4 118 B0,B1,.obj ac (.map af ag),.blk dl 118 B0,.row db dx 3 1 (hD KL.encI [-1])] n6:=vb
 exact ge _ _ ⟨ik,dl,(some ⟨iR,0,none⟩),1,db,dx,r6,r7,r8,r9,sa,rfl,sc,sd,sf,sg,sh,sj,sk,sl,sn,so,wD,(vc.pick [1,2,3,4,0,5] _ (by decide) rfl)⟩
 refine ZR (s:=gDx) (M:=fun σ_ w_=>∃ (U_:PHeap) (bI:Nat) (bR:Option Addr) (cb:Nat),σ_ 0=.pointer (some ⟨ai,0,none⟩)/\σ_ 1=jV p1/\σ_ 2=.bool p2/\σ_ 6=.pointer (some ⟨b4,0,none⟩)/\σ_ 9=.pointer (some ⟨bI,0,none⟩)/\σ_ 16=.slice bR ([1125899906842624].length) cb/\σ_ 17=.pointer (some ⟨ai,0,none⟩)/\σ_ 18=.pointer (some ⟨ai,0,none⟩)/\σ_ 19=.pointer (some ⟨ai,4,none⟩)/\σ_ 20=.map (some ac)/\σ_ 21=jV (↑(p0.number.length):Int)/\σ_ 24=.pointer (some ⟨ai,0,none⟩)/\σ_ 25=.pointer (some ⟨ai,0,none⟩)/\σ_ 26=.pointer (some ⟨ai,4,none⟩)/\σ_ 27=.map (some ac)/\PHeap.Le U U_/\SW w [B1,.obj ac (.map af ag)] U U_ [.blk b4 118 B0,B1,.obj ac (.map af ag),.blk bI 118 B0,.row bR cb 3 1 (hD KL.encI [1125899906842624])] w_) ?_ fun mo=>?_
 rintro Aw iI ⟨il,bI,bR,cb,k8,k9,lb,lc,lf,fM,lg,lh,lj,lk,fN,ll,lm,ln,lp,mC,lQ⟩
 refine zm ?_ ?_
 have q:=lQ.freezeR (k:=4) (n:=[1125899906842624].length) rfl (wAD (f:=KL.encI) (sz:=1) (fun _=>rfl) [1125899906842624]) (by decide)
 obtain ⟨im,wE,md,vd⟩:=q
 have ve:SW w [B1,.obj ac (.map af ag)] U im [.blk b4 118 B0,B1,.obj ac (.map af ag),.blk bI 118 B0] iI:=vd
 refine zF 0 Z Z Z Z (zD Z Z Try.call88 (zB fM (zB fN zJ)) Z) ve (fun hs=>wAh [1125899906842624] bR cb (↑(p0.number.length):Int) iI im hs md eO) (.inr Z) ?_
 rintro gN wJ y4 mQ mp tp ⟨gw,iU,rfl,rfl⟩
 have tq:SW w [B1,.obj ac (.map af ag)] U gN [.row gw iU 3 1 (hD KL.encI av),.blk b4 118 B0,B1,.obj ac (.map af ag),.blk bI 118 B0] mQ:=tp
 have su:=md.le mp
 exact wk _ _ ⟨gN,bI,bR,cb,gw,iU,k8,k9,lb,lc,lf,fM,lg,lh,lj,lk,fN,rfl,ll,lm,ln,lp,((mC.trans wE).trans mp),(tq.pick [1,2,3,4,0] _ (by decide) rfl),su⟩
 refine zr (pv:=[(0,jV (-1))]) (zs:=[jV 0]) (cs:=[jV (-1)]) Z Z Z Z Z (wAH Z wAO) zK zC zz Z Z Z Z Z lQ ?_
 intro mR iJ tr
 have tt:SW w [B1,.obj ac (.map af ag)] U il [.row (some ⟨iJ,0,none⟩) 1 3 1 (hD KL.encI [-1]),.blk b4 118 B0,B1,.obj ac (.map af ag),.blk bI 118 B0,.row bR cb 3 1 (hD KL.encI [1125899906842624])] mR:=tr
 exact ge _ _ ⟨il,bI,bR,cb,(some ⟨iJ,0,none⟩),1,k8,k9,lb,lc,lf,fM,lg,lh,lj,lk,fN,rfl,ll,lm,ln,lp,mC,(tt.pick [1,2,3,4,5,0] _ (by decide) rfl)⟩
 refine ZR (s:=gDw) (M:=fun σ_ w_=>∃ (U_:PHeap) (cm:Option Addr) (cC:Nat) (cn:Option Addr) (cD:Nat),σ_ 0=.pointer (some ⟨ai,0,none⟩)/\σ_ 1=jV p1/\σ_ 2=.bool p2/\σ_ 6=.pointer (some ⟨b4,0,none⟩)/\σ_ 16=.slice cm ([1125899906842624].length) cC/\σ_ 17=.pointer (some ⟨ai,0,none⟩)/\σ_ 18=.pointer (some ⟨ai,0,none⟩)/\σ_ 19=.pointer (some ⟨ai,4,none⟩)/\σ_ 20=.map (some ac)/\σ_ 21=jV (↑(p0.number.length):Int)/\σ_ 23=.slice cn ([-1].length) cD/\σ_ 24=.pointer (some ⟨ai,0,none⟩)/\σ_ 25=.pointer (some ⟨ai,0,none⟩)/\σ_ 26=.pointer (some ⟨ai,4,none⟩)/\σ_ 27=.map (some ac)/\PHeap.Le U U_/\SW w [B1,.obj ac (.map af ag)] U U_ [.blk b4 118 B0,B1,.obj ac (.map af ag),.row cm cC 3 1 (hD KL.encI [1125899906842624]),.row cn cD 3 1 (hD KL.encI [-1])] w_) ?_ fun mh=>?_
 rintro z9 io ⟨mJ,cm,cC,cn,cD,i6,i7,i8,i9,fC,ja,jb,jc,jd,fD,je,jf,jg,jh,ji,mq,lB⟩
 refine zm ?_ ?_
 have q:=lB.freezeR (k:=3) (n:=[1125899906842624].length) rfl (wAD (f:=KL.encI) (sz:=1) (fun _=>rfl) [1125899906842624]) (by decide)
 obtain ⟨gO,wm,l6,tu⟩:=q
 let B8:Res:=.row cn cD 3 1 (hD KL.encI [-1])
 have tv:SW w [B1,.obj ac (.map af ag)] U gO [.blk b4 118 B0,B1,.obj ac (.map af ag),B8] io:=tu
 refine zF 0 Z Z Z Z (zD Z Z Try.call88 (zB fC (zB fD zJ)) Z) tv (fun hs=>wAh [1125899906842624] cm cC (↑(p0.number.length):Int) io gO hs l6 eO) (.inr Z) ?_
 rintro gP wL y5 mS mr tw ⟨gx,iV,rfl,rfl⟩
 have tx:SW w [B1,.obj ac (.map af ag)] U gP [.row gx iV 3 1 (hD KL.encI av),.blk b4 118 B0,B1,.obj ac (.map af ag),B8] mS:=tw
 have sv:=l6.le mr
 exact wl _ _ ⟨gP,cm,cC,gx,iV,cn,cD,i6,i7,i8,i9,fC,ja,jb,jc,jd,fD,rfl,je,jf,jg,jh,ji,((mq.trans wm).trans mr),(tx.pick [1,2,3,0,4] _ (by decide) rfl),sv⟩
 refine zQ (cs:=B0) Z Z Z Z Z Zm Z lB ?_
 intro wX n7 tz
 exact ge _ _ ⟨mJ,n7,cm,cC,cn,cD,i6,i7,i8,i9,rfl,fC,ja,jb,jc,jd,fD,je,jf,jg,jh,ji,mq,(tz.pick [1,2,3,0,4,5] _ (by decide) rfl)⟩
 refine oM Z Z (oR Z (ZT Z Z) (oR Z (zE Z Z ZM Z yF) (oL Z (ci.ldB (j:=1) Z Z Z yJ (v:=.map (some ac)) Z) (oL Z (ci.lenM (j:=2) (mk:=wBD) (mv:=wBJ) Z Z Z (wBj ZP) cR) (oM Z Z (oR Z (ZT Z Z) (oR Z (zE Z Z ZM Z yF) (oL Z (ci.ldB (j:=1) Z Z Z yJ (v:=.map (some ac)) Z) (zm ?_ ?_)))))))))
 refine zr (pv:=[(0,jV 1125899906842624)]) (zs:=[jV 0]) (cs:=[jV 1125899906842624]) Z Z Z Z Z (wAH Z wAO) zK zC zz Z Z Z Z Z ci ?_
 intro fh bW tA
 let B9:Res:=.row (some ⟨bW,0,none⟩) 1 3 1 (hD KL.encI [1125899906842624])
 have fP:SW w [B1,.obj ac (.map af ag)] U U [B9,.blk b4 118 B0,B1,.obj ac (.map af ag)] fh:=tA
 refine zm ?_ ?_
 have q:=fP.freezeR (k:=0) (n:=[1125899906842624].length) rfl (wAD (f:=KL.encI) (sz:=1) (fun _=>rfl) [1125899906842624]) (by decide)
 obtain ⟨gQ,gh,eV,tB⟩:=q
 have tC:SW w [B1,.obj ac (.map af ag)] U gQ [.blk b4 118 B0,B1,.obj ac (.map af ag)] fh:=tB
 refine zF 0 Z Z Z Z (zD Z Z Try.call88 (zB Z (zB Z zJ)) Z) tC (fun hs=>wAh [1125899906842624] (some ⟨bW,0,none⟩) 1 (↑(p0.number.length):Int) fh gQ hs eV eO) (.inr Z) ?_
 rintro dg wM y6 mT cS tD ⟨dO,ek,rfl,rfl⟩
 let dd:Res:=.row dO ek 3 1 (hD KL.encI av)
 have fQ:SW w [B1,.obj ac (.map af ag)] U dg [dd,.blk b4 118 B0,B1,.obj ac (.map af ag)] mT:=tD
 refine oL Z (fQ.lenM (j:=3) (mk:=wBD) (mv:=wBJ) Z Z Z (wBj ZP) cR) (zm ?_ ?_)
 refine zr (pv:=[(0,jV (-1))]) (zs:=[jV 0]) (cs:=[jV (-1)]) Z Z Z Z Z (wAH Z wAO) zK zC zz Z Z Z Z Z fQ ?_
 intro fj eg tE
 have lD:SW w [B1,.obj ac (.map af ag)] U dg [.row (some ⟨eg,0,none⟩) 1 3 1 (hD KL.encI [-1]),dd,.blk b4 118 B0,B1,.obj ac (.map af ag)] fj:=tE
 refine zm ?_ ?_
 have q:=lD.freezeR (k:=0) (n:=[-1].length) rfl (wAD (f:=KL.encI) (sz:=1) (fun _=>rfl) [-1]) (by decide)
 obtain ⟨gR,ms,l7,tF⟩:=q
 have tG:SW w [B1,.obj ac (.map af ag)] U gR [dd,.blk b4 118 B0,B1,.obj ac (.map af ag)] fj:=tF
 refine zF 0 Z Z Z Z (zD Z Z Try.call88 (zB Z (zB Z zJ)) Z) tG (fun hs=>wAh [-1] (some ⟨eg,0,none⟩) 1 (↑(p0.number.length):Int) fj gR hs l7 eU) (.inr Z) ?_
 rintro gS wN y7 mU gi tH ⟨gy,iW,rfl,rfl⟩
 have tI:SW w [B1,.obj ac (.map af ag)] U gS [.row gy iW 3 1 (hD KL.encI bb),dd,.blk b4 118 B0,B1,.obj ac (.map af ag)] mU:=tH
 have sw:=eV.le cS
 have sA:=sw.le ms
 have sB:=sA.le gi
 have sC:=l7.le gi
 exact mm _ _ ⟨gS,(some ⟨bW,0,none⟩),1,dO,ek,(some ⟨eg,0,none⟩),1,gy,iW,rfl,rfl,rfl,rfl,rfl,rfl,rfl,rfl,rfl,rfl,rfl,rfl,rfl,rfl,rfl,rfl,rfl,rfl,(((gh.trans cS).trans ms).trans gi),(tI.pick [2,3,4,1,0] _ (by decide) rfl),sB,sC⟩
 refine zQ (cs:=B0) Z Z Z Z Z Zm Z lD ?_
 intro wY n8 tJ
 have sD:=eV.le cS
 exact eX _ _ ⟨dg,n8,(some ⟨bW,0,none⟩),1,dO,ek,(some ⟨eg,0,none⟩),1,rfl,rfl,rfl,rfl,rfl,rfl,rfl,rfl,rfl,rfl,rfl,rfl,rfl,rfl,rfl,rfl,rfl,rfl,(gh.trans cS),(tJ.pick [3,4,5,0,2,1] _ (by decide) rfl),sD⟩
 refine zQ (cs:=B0) Z Z Z Z Z Zm Z fQ ?_
 intro wZ iK tK
 refine zr (pv:=[(0,jV (-1))]) (zs:=[jV 0]) (cs:=[jV (-1)]) Z Z Z Z Z (wAH Z wAO) zK zC zz Z Z Z Z Z tK ?_
 intro mV iL tL
 have tM:SW w [B1,.obj ac (.map af ag)] U dg [.row (some ⟨iL,0,none⟩) 1 3 1 (hD KL.encI [-1]),.blk iK 118 B0,dd,.blk b4 118 B0,B1,.obj ac (.map af ag)] mV:=tL
 have sE:=eV.le cS
 exact eX _ _ ⟨dg,iK,(some ⟨bW,0,none⟩),1,dO,ek,(some ⟨iL,0,none⟩),1,rfl,rfl,rfl,rfl,rfl,rfl,rfl,rfl,rfl,rfl,rfl,rfl,rfl,rfl,rfl,rfl,rfl,rfl,(gh.trans cS),(tM.pick [3,4,5,1,2,0] _ (by decide) rfl),sE⟩
 refine zm ?_ ?_
 refine zr (pv:=[(0,jV (-1))]) (zs:=[jV 0]) (cs:=[jV (-1)]) Z Z Z Z Z (wAH Z wAO) zK zC zz Z Z Z Z Z fP ?_
 intro mW iM tN
 have tO:SW w [B1,.obj ac (.map af ag)] U U [.row (some ⟨iM,0,none⟩) 1 3 1 (hD KL.encI [-1]),B9,.blk b4 118 B0,B1,.obj ac (.map af ag)] mW:=tN
 exact mh _ _ ⟨U,(some ⟨bW,0,none⟩),1,(some ⟨iM,0,none⟩),1,rfl,rfl,rfl,rfl,rfl,rfl,rfl,rfl,rfl,rfl,rfl,rfl,rfl,rfl,rfl,(zP _),(tO.pick [2,3,4,1,0] _ (by decide) rfl)⟩
 refine zQ (cs:=B0) Z Z Z Z Z Zm Z fP ?_
 intro w5 n9 tP
 exact mo _ _ ⟨U,n9,(some ⟨bW,0,none⟩),1,rfl,rfl,rfl,rfl,rfl,rfl,rfl,rfl,rfl,rfl,rfl,rfl,rfl,rfl,rfl,(zP _),(tP.pick [2,3,4,0,1] _ (by decide) rfl)⟩
 refine zm ?_ ?_
 refine zr (pv:=[(0,jV (-1))]) (zs:=[jV 0]) (cs:=[jV (-1)]) Z Z Z Z Z (wAH Z wAO) zK zC zz Z Z Z Z Z ci ?_
 intro mX fm tQ
 let gE:Res:=.row (some ⟨fm,0,none⟩) 1 3 1 (hD KL.encI [-1])
 have lE:SW w [B1,.obj ac (.map af ag)] U U [gE,.blk b4 118 B0,B1,.obj ac (.map af ag)] mX:=tQ
 refine zm ?_ ?_
 refine zr (pv:=[(0,jV 1125899906842624)]) (zs:=[jV 0]) (cs:=[jV 1125899906842624]) Z Z Z Z Z (wAH Z wAO) zK zC zz Z Z Z Z Z lE ?_
 intro mY iN tR
 have tS:SW w [B1,.obj ac (.map af ag)] U U [.row (some ⟨iN,0,none⟩) 1 3 1 (hD KL.encI [1125899906842624]),gE,.blk b4 118 B0,B1,.obj ac (.map af ag)] mY:=tR
 exact mh _ _ ⟨U,(some ⟨iN,0,none⟩),1,(some ⟨fm,0,none⟩),1,rfl,rfl,rfl,rfl,rfl,rfl,rfl,rfl,rfl,rfl,rfl,rfl,rfl,rfl,rfl,(zP _),(tS.pick [2,3,4,0,1] _ (by decide) rfl)⟩
 refine zQ (cs:=B0) Z Z Z Z Z Zm Z lE ?_
 intro w6 oa tT
 exact mn _ _ ⟨U,oa,(some ⟨fm,0,none⟩),1,rfl,rfl,rfl,rfl,rfl,rfl,rfl,rfl,rfl,rfl,rfl,rfl,rfl,rfl,rfl,(zP _),(tT.pick [2,3,4,0,1] _ (by decide) rfl)⟩
 refine zQ (cs:=B0) Z Z Z Z Z Zm Z ci ?_
 intro w7 eh lF
 refine zm ?_ ?_
 refine zr (pv:=[(0,jV 1125899906842624)]) (zs:=[jV 0]) (cs:=[jV 1125899906842624]) Z Z Z Z Z (wAH Z wAO) zK zC zz Z Z Z Z Z lF ?_
 intro mZ iO tU
 have tV:SW w [B1,.obj ac (.map af ag)] U U [.row (some ⟨iO,0,none⟩) 1 3 1 (hD KL.encI [1125899906842624]),.blk eh 118 B0,.blk b4 118 B0,B1,.obj ac (.map af ag)] mZ:=tU
 exact mo _ _ ⟨U,eh,(some ⟨iO,0,none⟩),1,rfl,rfl,rfl,rfl,rfl,rfl,rfl,rfl,rfl,rfl,rfl,rfl,rfl,rfl,rfl,(zP _),(tV.pick [2,3,4,1,0] _ (by decide) rfl)⟩
 refine zr (pv:=[(0,jV (-1))]) (zs:=[jV 0]) (cs:=[jV (-1)]) Z Z Z Z Z (wAH Z wAO) zK zC zz Z Z Z Z Z lF ?_
 intro m3 iP tW
 have tX:SW w [B1,.obj ac (.map af ag)] U U [.row (some ⟨iP,0,none⟩) 1 3 1 (hD KL.encI [-1]),.blk eh 118 B0,.blk b4 118 B0,B1,.obj ac (.map af ag)] m3:=tW
 exact mn _ _ ⟨U,eh,(some ⟨iP,0,none⟩),1,rfl,rfl,rfl,rfl,rfl,rfl,rfl,rfl,rfl,rfl,rfl,rfl,rfl,rfl,rfl,(zP _),(tX.pick [2,3,4,1,0] _ (by decide) rfl)⟩
 rintro Aa w8 ⟨gT,b8,ao,ap,aq,au,oj,ol,om,oo,jj,wn,lG⟩
 refine zM (sR fL4 Z (oR Z (zE Z jj Za Z ZB) (oL Z (lG.ldB (j:=3) Z Z Z ZK (v:=.slice ao l9.length ap) Z) (oR Z (zx Z Z zK) (oM Z Z (eN (zd (bnK lZ fun z7 vi gb=>?_))))))))
 have q:=wAx vi
 obtain ⟨f8,vj⟩:=q
 replace f8:=zO f8
 let bS:Res:=.row aq au 3 1 (hD KL.encI bx)
 refine CK.forN' (fun bv bd σ_ w_=>∃ (U_:PHeap),σ_ 34=jV (↑bv:Int)/\σ_ 0=.pointer (some ⟨ai,0,none⟩)/\σ_ 1=jV p1/\σ_ 2=.bool p2/\σ_ 6=.pointer (some ⟨b4,0,none⟩)/\σ_ 9=.pointer (some ⟨b8,0,none⟩)/\σ_ 33=jV (↑l9.length:Int)/\PHeap.Le gT U_/\SW w [B1,.obj ac (.map af ag)] U U_ [.blk b4 118 B0,B1,.obj ac (.map af ag),.row ao ap 3 1 (hD KL.encI bd),bS,.blk b8 118 [.slice ao bd.length ap,.slice aq bx.length au]] w_/\bd.length=l9.length) vj ?_ ?_ ?_
 exact ⟨gT,rfl,oj,ol,om,oo,jj,rfl,(zP _),(lG.pick [0,1,2,4,5,3] _ (by decide) rfl),rfl⟩
 rintro bv bd z4 Ab w9 f4 ⟨bV,dC,fE,dy,fG,fH,dz,eE,gj,cg,fO⟩ me
 have iX:Hid ((↑bv:Int) < (↑l9.length:Int)):=zO (wAs f4)
 replace f4:=zO f4
 have fZ:Hid (w64 ((↑bv:Int) + 1)=(↑(bv + 1):Int)):=zO (by have h1:=f8.out;have h2:=iX.out;rw [wAU] <;> omega)
 refine sR fL1 Z (oR Z (ze Z dC eE) (eN (zM (cT Z iX (kN (zM (zd (sR fL2 Z (oM Z dC (oA Z Z (eN (sR fL7 Z (oM Z dy (oR Z (ze Z Z Z) (oM Z Z ?_)))))))))))))))
 by_cases bf:p1 < 0
 have lR:=me;rw [if_pos bf] at lR;replace bf:=zO bf
 refine oT Z bf (oT Z bf (oT Z bf (oR Z (zN Z (Zi bf.out) Z) (eN (ZI Z (rR (wDo (.fx 4 .nil .stop)) Z (oR Z (zE Z dz Za Z ZB) (oL Z (cg.ldB (j:=5) Z Z Z ZK (v:=.slice ao bd.length ap) Z) (oM Z Z (bnK lR fun _ eI vK=>?_))))))))))
 obtain ⟨xv,lv⟩:=cg.rowSome (j:=3) rfl (by rw [wAD (f:=KL.encI) (sz:=1) (fun _=>rfl) bd];have hz:=wAS eI;omega)
 refine oR Z (Zk Z Z lv Z zK zC (wAS eI)) ?_
 have vn:=wBL (xs:=bd) (wAS eI)
 refine ya (j:=3) (vs:=[jV 0]) (cs':=hD KL.encI (nE bd bv 0)) rfl rfl rfl rfl cg rfl lv rfl rfl rfl zC (by rw [wAD (f:=KL.encI) (sz:=1) (fun _=>rfl)];have hz:=wAS eI;show _ + 1 <= _;first | omega | (simp only [nB];omega) | (simp only [nA,hH,hJ];omega)) rfl (wCH (sz:=1) (fo:=0) (fun _=>rfl) _ _ _ _ vn (by first | omega | (simp only [nB];omega) | (simp only [nA,hH,hJ];omega)) (zA rfl) rfl) rfl ?_
 intro ip tY
 let fc:Res:=.row ao ap 3 1 (hD KL.encI (nE bd bv 0))
 have tZ:SW w [B1,.obj ac (.map af ag)] U bV [.blk b4 118 B0,B1,.obj ac (.map af ag),fc,bS,.blk b8 118 [.slice ao bd.length ap,.slice aq bx.length au]] ip:=tY
 have t4:SW w [B1,.obj ac (.map af ag)] U bV [.blk b4 118 B0,B1,.obj ac (.map af ag),fc,bS,.blk b8 118 [.slice ao ((nE bd bv 0).length) ap,.slice aq bx.length au]] ip:=by simpa only [B0,B1,bS,fc,nD] using tZ
 refine zh (ZA (zL (rR fL2 Z (oR Z (ZH (za Z dC Z) (congrArg (jV) fZ.out)) (oM Z Z (zh ?_))))))
 cases vK
 exact zL ⟨Z,⟨bV,Z,fE,dy,fG,fH,dz,eE,gj,t4,(nD.trans fO)⟩⟩
 have lS:=me;rw [if_neg bf] at lS;replace bf:=zO bf
 refine zw Z Z Z (wF Z bf) Z Z (zw Z Z Z (wF Z bf) Z dy (rU Z (wF Z bf) (yO Z Z Z) (oR Z (zg Z (ZD bf.out) Z) (eN (ifc lS ?_ ?_)))))
 intro fq vL
 refine cT Z fq (rR (wDo (.fx 4 .nil .stop)) Z (oR Z (zE Z dz Za Z ZB) (oL Z (cg.ldB (j:=5) Z Z Z ZK (v:=.slice ao bd.length ap) Z) (oM Z Z (bnK vL fun _ eJ vM=>?_)))))
 obtain ⟨xw,lw⟩:=cg.rowSome (j:=3) rfl (by rw [wAD (f:=KL.encI) (sz:=1) (fun _=>rfl) bd];have hz:=wAS eJ;omega)
 refine oR Z (Zk Z Z lw Z zK zC (wAS eJ)) ?_
 have vo:=wBL (xs:=bd) (wAS eJ)
 refine ya (j:=3) (vs:=[jV 0]) (cs':=hD KL.encI (nE bd bv 0)) rfl rfl rfl rfl cg rfl lw rfl rfl rfl zC (by rw [wAD (f:=KL.encI) (sz:=1) (fun _=>rfl)];have hz:=wAS eJ;show _ + 1 <= _;first | omega | (simp only [nB];omega) | (simp only [nA,hH,hJ];omega)) rfl (wCH (sz:=1) (fo:=0) (fun _=>rfl) _ _ _ _ vo (by first | omega | (simp only [nB];omega) | (simp only [nA,hH,hJ];omega)) (zA rfl) rfl) rfl ?_
 intro iq t5
 let fd:Res:=.row ao ap 3 1 (hD KL.encI (nE bd bv 0))
 have t6:SW w [B1,.obj ac (.map af ag)] U bV [.blk b4 118 B0,B1,.obj ac (.map af ag),fd,bS,.blk b8 118 [.slice ao bd.length ap,.slice aq bx.length au]] iq:=t5
 have t7:SW w [B1,.obj ac (.map af ag)] U bV [.blk b4 118 B0,B1,.obj ac (.map af ag),fd,bS,.blk b8 118 [.slice ao ((nE bd bv 0).length) ap,.slice aq bx.length au]] iq:=by simpa only [B0,B1,bS,fd,nD] using t6
 refine zh (ZA (zL (rR fL2 Z (oR Z (ZH (za Z dC Z) (congrArg (jV) fZ.out)) (oM Z Z (zh ?_))))))
 cases vM
 exact zL ⟨Z,⟨bV,Z,fE,dy,fG,fH,dz,eE,gj,t7,(nD.trans fO)⟩⟩
 intro fq vN
 refine cF Z fq (Zo (ZA (zL (rR fL2 Z (oR Z (ZH (za Z dC Z) (congrArg (jV) fZ.out)) (oM Z Z (zh ?_)))))))
 cases vN
 exact zL ⟨Z,⟨bV,Z,fE,dy,fG,fH,dz,eE,gj,cg,fO⟩⟩
 rintro Ac xa ⟨gU,sq,jk,xF,oq,ot,ou,ov,wo,fR,sF⟩
 have oe:Hid (¬ ((↑(((↑l9.length:Int):Int) - 0).toNat:Int) < (↑l9.length:Int))):=zO (wAc)
 refine sR fL1 Z (oR Z (ze Z sq ov) (eN (zM (cF Z oe (Zb (zo (zo (ZV (zL (sR fL1 Z (oA Z Z (eN (zM (sR fL7 Z (oM Z jk (oR Z (ZT Z Z) (oR Z (zE Z Z ZM Z yF) (oL Z (fR.ldB (j:=1) Z Z Z yJ (v:=.map (some ac)) Z) (oL Z (fR.lenM (j:=2) (mk:=wBD) (mv:=wBJ) Z Z Z (wBj ZP) cR) (oR Z (za Z Z Z) (oM Z Z (eN (zd ?_)))))))))))))))))))))))
 have q:=wBy gb
 obtain ⟨yy,fY⟩:=q
 have q:=wBx fY
 obtain ⟨f9,vk⟩:=q
 replace f9:=zO f9
 refine yX (fun bw (eY,eZ,mD) σ_ w_=>∃ (U_:PHeap),σ_ 55=jV (↑bw:Int)/\σ_ 0=.pointer (some ⟨ai,0,none⟩)/\σ_ 2=.bool p2/\σ_ 6=.pointer (some ⟨b4,0,none⟩)/\σ_ 9=.pointer (some ⟨b8,0,none⟩)/\σ_ 11=jV mD/\σ_ 54=jV (w64 ((↑(p0.number.length):Int) + 1))/\PHeap.Le gU U_/\SW w [B1,.obj ac (.map af ag)] U U_ [.blk b4 118 B0,B1,.obj ac (.map af ag),.row ao ap 3 1 (hD KL.encI eY),.row aq au 3 1 (hD KL.encI eZ),.blk b8 118 [.slice ao eY.length ap,.slice aq eZ.length au]] w_/\eY.length=l9.length/\eZ.length=bx.length) vk ?_ ?_ ?_
 exact ⟨gU,Z,jk,oq,ot,ou,Z,Z,(zP _),fR,sF,Z⟩
 rintro bw ⟨eY,eZ,mD⟩ z5 Ae xb f5 ⟨gX,lq,jl,ow,ox,oy,xG,jm,mu,lH,sG,sI⟩ mf vg
 try dsimp only at mf
 have iY:Hid ((↑bw:Int) < (w64 ((↑(p0.number.length):Int) + 1))):=zO (wAs f5)
 replace f5:=zO f5
 have vH:Hid (w64 ((↑bw:Int) + 1)=(↑(bw + 1):Int)):=zO (by have h1:=f9.out;have h2:=iY.out;rw [wAU] <;> omega)
 refine sR fL1 Z (oR Z (ze Z lq jm) (eN (zM (cT Z iY (kN (zM (zd (sR fL1 Z (oA Z Z (eN (zM (sR fL6 Z (oM Z jl (oR Z (ZT Z Z) (oR Z (zE Z Z ZM Z ym) (oL Z (lH.ldB (j:=1) Z Z Z Try.isAgg122 (v:=.slice br p0.edges.length bs) Z) (oR Z (zx Z Z Try.runUnderlying122) (oM Z Z (eN (zd ?_))))))))))))))))))))
 have q:=bnd mf
 obtain ⟨⟨mF,mG,z8⟩,vl,lT⟩:=q
 try dsimp only at lT
 have q:=wAx vl
 obtain ⟨ga,vm⟩:=q
 replace ga:=zO ga
 refine CK.forN' (fun a9 (an,ay,mE) σ_ w_=>∃ (U_:PHeap),σ_ 62=jV (↑a9:Int)/\σ_ 0=.pointer (some ⟨ai,0,none⟩)/\σ_ 2=.bool p2/\σ_ 6=.pointer (some ⟨b4,0,none⟩)/\σ_ 9=.pointer (some ⟨b8,0,none⟩)/\σ_ 11=jV mE/\σ_ 54=jV (w64 ((↑(p0.number.length):Int) + 1))/\σ_ 55=jV (↑bw:Int)/\σ_ 60=.slice br p0.edges.length bs/\σ_ 61=jV (↑p0.edges.length:Int)/\PHeap.Le gX U_/\SW w [B1,.obj ac (.map af ag)] U U_ [.blk b4 118 B0,B1,.obj ac (.map af ag),.row ao ap 3 1 (hD KL.encI an),.row aq au 3 1 (hD KL.encI ay),.blk b8 118 [.slice ao an.length ap,.slice aq ay.length au]] w_/\an.length=l9.length/\ay.length=bx.length) vm ?_ ?_ ?_
 exact ⟨gX,Z,jl,ow,ox,oy,Z,jm,lq,Z,Z,(zP _),lH,sG,sI⟩
 rintro a9 ⟨an,ay,mE⟩ z6 Af xc f7 ⟨a7,bF,cL,cc,cM,bo,eF,cN,cO,cd,cf,mw,lI,cP,cQ⟩ mg
 try dsimp only at mg
 have iZ:Hid ((↑a9:Int) < (↑p0.edges.length:Int)):=zO (wAs f7)
 replace f7:=zO f7
 have vJ:Hid (w64 ((↑a9:Int) + 1)=(↑(a9 + 1):Int)):=zO (by have h1:=ga.out;have h2:=iZ.out;rw [wAU] <;> omega)
 refine sR fL1 Z (oR Z (ze Z bF cf) (eN (zM (cT Z iZ (kN ?_)))))
 have q:=bnd mg
 obtain ⟨⟨gf,gg,wH⟩,wd,lU⟩:=q
 try dsimp only at lU
 refine yS (fun σ_ w_=>∃ (U_:PHeap),σ_ 0=.pointer (some ⟨ai,0,none⟩)/\σ_ 2=.bool p2/\σ_ 6=.pointer (some ⟨b4,0,none⟩)/\σ_ 9=.pointer (some ⟨b8,0,none⟩)/\σ_ 11=jV wH/\σ_ 54=jV (w64 ((↑(p0.number.length):Int) + 1))/\σ_ 55=jV (↑bw:Int)/\σ_ 60=.slice br p0.edges.length bs/\σ_ 61=jV (↑p0.edges.length:Int)/\σ_ 62=jV (↑a9:Int)/\PHeap.Le a7 U_/\SW w [B1,.obj ac (.map af ag)] U U_ [.blk b4 118 B0,B1,.obj ac (.map af ag),.row ao ap 3 1 (hD KL.encI gf),.row aq au 3 1 (hD KL.encI gg),.blk b8 118 [.slice ao gf.length ap,.slice aq gg.length au]] w_/\gf.length=l9.length/\gg.length=bx.length) ?_ ?_
 refine zd (sR (wDF (.fx 3 (.fl 4 (.fx 5 .nil .stop)) .stop)) Z (oM Z bF (bnK wd fun am ls vO=>?_)))
 have sJ:=vf.le wn
 have sK:=sJ.le wo
 have sM:=sK.le mu
 have sN:=sM.le mw
 have q:=sN.el (fun _=>rfl) (wAb ls)
 obtain ⟨xx,yw,tm,tn⟩:=q
 refine oR Z (Zk Z cd tm bF Try.runUnderlying122 Try.sizeOf130 (wCl ls)) (oL Z (lI.ldCA (f:=0) tn Z Z Try.isAgg130 Try.sizeOf130 (us:=[jV am.step.Kind,jV am.step.Skier,jV am.step.Index,.bool am.step.Up,jV am.from_,jV am.to_,jV am.count]) Z Z) (zQ (cs:=[jV 0,jV 0,jV 0,.bool false,jV 0,jV 0,jV 0]) Z Z Z Z Z Try.zeroValue130 Z lI ?_))
 intro xd bc t8
 refine oA Z Z ?_
 let az:List Value:=[jV am.step.Kind,jV am.step.Skier,jV am.step.Index,.bool am.step.Up,jV am.from_,jV am.to_,jV am.count]
 refine zU (j:=0) (vs:=az) Z Z Z Z t8 Z Z Z Z Try.sizeOf130 (zA Z) Z Z Z ?_
 intro fk t9
 let bi:Res:=.row aq au 3 1 (hD KL.encI ay)
 let bE:Res:=.blk b8 118 [.slice ao an.length ap,.slice aq ay.length au]
 have ua:SW w [B1,.obj ac (.map af ag)] U a7 [.blk bc 130 az,.blk b4 118 B0,B1,.obj ac (.map af ag),.row ao ap 3 1 (hD KL.encI an),bi,bE] fk:=t9
 refine eN (zM (zt zu [3,1,3,1,3,3] fL6 (by kernel_rfl) ?_))
 have dD:=ua.drew
 generalize hw_W1431:({ fk with drawn:=fk.drawn + 1 }:World)=ef at dD ⊢
 refine oR Z (zE Z Z yf Z zC) (oL Z (dD.ldB (j:=0) Z Z Z zG (v:=jV am.from_) Z) (oR Z (zE Z Z yf Z zC) (oL Z (dD.ldB (j:=0) Z Z Z zG (v:=jV am.to_) Z) (oA Z Z (oA Z Z (eN (zM (sR fL1 Z (oM Z cc (eN (ifc vO ?_ ?_)))))))))))
 intro ft vP
 refine ZI (congrArg nJ ft.out) (rR fL4 rfl (zw rfl rfl rfl rfl rfl rfl (zw rfl rfl rfl rfl rfl rfl (yI rfl rfl rfl rfl rfl rfl (yI rfl rfl rfl rfl rfl rfl (eN (zM (zt zu [3,1,3,3,1,3,3,3,1,3,3,1,3,1,3,3,1,3,3,1,3,3] fL22 (by kernel_rfl) ?_))))))))
 have bp:=dD.drew
 generalize hw_W1435:({ ef with drawn:=ef.drawn + 1 }:World)=ir at bp ⊢
 refine oR Z (zE Z bo Za Z ZB) (oL Z (bp.ldB (j:=6) Z Z Z ZK (v:=.slice ao an.length ap) Z) (oM Z Z (bnK vP fun _ bA vQ=>?_)))
 obtain ⟨xz,bt⟩:=bp.rowSome (j:=4) rfl (by rw [wAD (f:=KL.encI) (sz:=1) (fun _=>rfl) an];have hz:=wAS bA;omega)
 refine oR Z (Zd Z Z bt Z zK zC (wBu bA) (wBv bA)) ?_
 have vp:=wBL (xs:=an) (wAS bA)
 refine ZF rfl rfl rfl rfl (bp.ldR (j:=4) rfl bt rfl rfl zG (wAV (sz:=1) (fun _=>rfl) _ _ 0 _ vp (by first | omega | rfl | simp) rfl)) rfl (zc rfl rfl rfl rfl (fun _=>ze rfl rfl rfl) (zw rfl rfl rfl rfl rfl rfl (ifc vQ ?_ ?_)))
 intro aw vR
 refine rU Z (wT Z aw) (zE Z bo Za Z ZB) (ZF Z Z Z (wT Z aw) (bp.ldB (j:=6) Z Z Z ZK (v:=.slice ao an.length ap) Z) Z (zw Z Z Z (wT Z aw) Z Z (rU Z (wT Z aw) (Zd Z Z bt Z zK zC (wBu bA) (wBv bA)) ?_)))
 have vq:=wBL (xs:=an) (wAS bA)
 refine ZF rfl rfl rfl (zS rfl rfl (Zi aw.out)) (bp.ldR (j:=4) rfl bt rfl rfl zG (wAV (sz:=1) (fun _=>rfl) _ _ 0 _ vq (by first | omega | rfl | simp) rfl)) rfl (zc rfl rfl rfl (zS rfl rfl (Zi aw.out)) (fun _=>zE rfl rfl yf rfl zC) (ZF rfl rfl rfl (zS rfl rfl (Zi aw.out)) (bp.ldB (j:=0) rfl rfl rfl zG (v:=jV am.count) rfl) rfl (zc rfl rfl rfl (zS rfl rfl (Zi aw.out)) (fun _=>za rfl rfl rfl) (zc rfl rfl rfl (zS rfl rfl (Zi aw.out)) (fun _=>zE rfl bo Za rfl ZB) (ZF rfl rfl rfl (zS rfl rfl (Zi aw.out)) (bp.ldB (j:=6) rfl rfl rfl ZK (v:=.slice ao an.length ap) rfl) rfl (zw rfl rfl rfl (zS rfl rfl (Zi aw.out)) rfl rfl (bnK vR fun _ bG vS=>zc rfl rfl rfl (zS rfl rfl (Zi aw.out)) (fun _=>Zd rfl rfl bt rfl zK zC (wBu bG) (wBv bG)) ?_)))))))
 have vr:=wBL (xs:=an) (wAS bG)
 refine ZF rfl rfl rfl (zS rfl rfl (Zi aw.out)) (bp.ldR (j:=4) rfl bt rfl rfl zG (wAV (sz:=1) (fun _=>rfl) _ _ 0 _ vr (by first | omega | rfl | simp) rfl)) rfl (zc rfl rfl rfl (zS rfl rfl (Zi aw.out)) (fun _=>ze rfl rfl rfl) (zc rfl rfl rfl rfl (fun _=>zN rfl (Zi aw.out) rfl) (eN (ifc vS ?_ ?_))))
 intro fu vU
 refine cT Z fu ?_
 have q:=bnd vU
 obtain ⟨⟨⟩,we,lV⟩:=q
 try dsimp only at lV
 let bj:Res:=.row ao ap 3 1 (hD KL.encI (nE an am.from_.toNat (w64 ((gd an am.to_.toNat) + am.count))))
 let de:Res:=.blk b8 118 [.slice ao ((nE an am.from_.toNat (w64 ((gd an am.to_.toNat) + am.count))).length) ap,.slice aq ((nE ay am.from_.toNat (↑a9:Int)).length) au]
 let bT:Res:=.row aq au 3 1 (hD KL.encI (nE ay am.from_.toNat (↑a9:Int)))
 refine yS (fun σ_ w_=>∃ (U_:PHeap),σ_ 0=.pointer (some ⟨ai,0,none⟩)/\σ_ 2=.bool p2/\σ_ 6=.pointer (some ⟨b4,0,none⟩)/\σ_ 9=.pointer (some ⟨b8,0,none⟩)/\σ_ 15=jV am.from_/\σ_ 54=jV (w64 ((↑(p0.number.length):Int) + 1))/\σ_ 55=jV (↑bw:Int)/\σ_ 60=.slice br p0.edges.length bs/\σ_ 61=jV (↑p0.edges.length:Int)/\σ_ 62=jV (↑a9:Int)/\PHeap.Le a7 U_/\SW w [B1,.obj ac (.map af ag)] U U_ [.blk bc 130 az,.blk b4 118 B0,B1,.obj ac (.map af ag),bj,bT,de] w_) ?_ ?_
 refine yh fun bm bg=>?_
 have jo:bm 0=.pointer (some ⟨ai,0,none⟩):=(bg 0).trans cL
 have jp:bm 2=.bool p2:=(bg 2).trans cc
 have jq:bm 6=.pointer (some ⟨b4,0,none⟩):=(bg 6).trans cM
 have dA:bm 9=.pointer (some ⟨b8,0,none⟩):=(bg 9).trans bo
 have oB:bm 12=jV (↑a9:Int):=(bg 12).trans rfl
 have oG:bm 13=.pointer (some ⟨bc,0,none⟩):=(bg 13).trans rfl
 have oH:bm 14=jV am.to_:=(bg 14).trans rfl
 have eG:bm 15=jV am.from_:=(bg 15).trans rfl
 have jr:bm 54=jV (w64 ((↑(p0.number.length):Int) + 1)):=(bg 54).trans cN
 have jt:bm 55=jV (↑bw:Int):=(bg 55).trans cO
 have ju:bm 60=.slice br p0.edges.length bs:=(bg 60).trans cd
 have jv:bm 61=jV (↑p0.edges.length:Int):=(bg 61).trans cf
 have jw:bm 62=jV (↑a9:Int):=(bg 62).trans bF
 clear bg
 refine bnK we fun _ bB lW=>zt zu [3,1,3,3,2,3,3,1,3,3,1,3,1,3,3,3,0,3,0] (wDo (wKz gDn)) (by kernel_rfl) ?_
 have bJ:=bp.drew
 generalize hw_W1484:({ ir with drawn:=ir.drawn + 1 }:World)=xe at bJ ⊢
 refine oR Z (zE Z dA Za Z ZB) (oL Z (bJ.ldB (j:=6) Z Z Z ZK (v:=.slice ao an.length ap) Z) (oM Z eG (oR Z (zE Z dA Za Z ZB) (oM Z eG (oR Z (zE Z dA Za Z ZB) (oL Z (bJ.ldB (j:=6) Z Z Z ZK (v:=.slice ao an.length ap) Z) (oM Z oH (oR Z (Zd Z Z bt Z zK zC (wBu bA) (wBv bA)) ?_))))))))
 have vt:=wBL (xs:=an) (wAS bA)
 refine ZF rfl rfl rfl rfl (bJ.ldR (j:=4) rfl bt rfl rfl zG (wAV (sz:=1) (fun _=>rfl) _ _ 0 _ vt (by first | omega | rfl | simp) rfl)) rfl (zc rfl rfl rfl rfl (fun _=>zE rfl oG yf rfl zC) (ZF rfl rfl rfl rfl (bJ.ldB (j:=0) rfl rfl rfl zG (v:=jV am.count) rfl) rfl (zc rfl rfl rfl rfl (fun _=>za rfl rfl rfl) (zw rfl rfl rfl rfl rfl oB (zc rfl rfl rfl rfl (fun _=>Zd rfl rfl bt rfl zK zC (wBu bG) (wBv bG)) (zm ?_ ?_))))))
 refine ZQ Z Z Z Z (bJ.ldB (j:=6) Z Z Z ZK (v:=.slice aq ay.length au) Z) ?_
 have vu:=wBL (xs:=an) (wAS bG)
 refine ya (j:=4) (vs:=[jV (w64 ((gd an am.to_.toNat) + am.count))]) (cs':=hD KL.encI (nE an am.from_.toNat (w64 ((gd an am.to_.toNat) + am.count)))) rfl rfl rfl rfl bJ rfl bt rfl rfl rfl zC (by rw [wAD (f:=KL.encI) (sz:=1) (fun _=>rfl)];have hz:=wAS bG;show _ + 1 <= _;first | omega | (simp only [nB];omega) | (simp only [nA,hH,hJ];omega)) rfl (wCH (sz:=1) (fo:=0) (fun _=>rfl) _ _ _ _ vu (by first | omega | (simp only [nB];omega) | (simp only [nA,hH,hJ];omega)) (zA rfl) rfl) rfl ?_
 intro it ub
 have uc:SW w [B1,.obj ac (.map af ag)] U a7 [.blk bc 130 az,.blk b4 118 B0,B1,.obj ac (.map af ag),bj,bi,bE] it:=ub
 let dY:Res:=.blk b8 118 [.slice ao ((nE an am.from_.toNat (w64 ((gd an am.to_.toNat) + am.count))).length) ap,.slice aq ay.length au]
 have lJ:SW w [B1,.obj ac (.map af ag)] U a7 [.blk bc 130 az,.blk b4 118 B0,B1,.obj ac (.map af ag),bj,bi,dY] it:=by simpa only [B0,B1,az,bi,bE,bj,dY,nD] using uc
 obtain ⟨xA,lx⟩:=lJ.rowSome (j:=5) rfl (by rw [wAD (f:=KL.encI) (sz:=1) (fun _=>rfl) ay];have hz:=wAS bB;omega)
 refine oR Z (Zd Z Z lx Z zK zC (wBu bB) (wBv bB)) ?_
 have vv:=wBL (xs:=ay) (wAS bB)
 refine ya (j:=5) (vs:=[jV (↑a9:Int)]) (cs':=hD KL.encI (nE ay am.from_.toNat (↑a9:Int))) rfl rfl rfl rfl lJ rfl lx rfl rfl rfl zC (by rw [wAD (f:=KL.encI) (sz:=1) (fun _=>rfl)];have hz:=wAS bB;show _ + 1 <= _;first | omega | (simp only [nB];omega) | (simp only [nA,hH,hJ];omega)) rfl (wCH (sz:=1) (fo:=0) (fun _=>rfl) _ _ _ _ vv (by first | omega | (simp only [nB];omega) | (simp only [nA,hH,hJ];omega)) (zA rfl) rfl) rfl ?_
 intro iu ud
 have ue:SW w [B1,.obj ac (.map af ag)] U a7 [.blk bc 130 az,.blk b4 118 B0,B1,.obj ac (.map af ag),bj,bT,dY] iu:=ud
 have uf:SW w [B1,.obj ac (.map af ag)] U a7 [.blk bc 130 az,.blk b4 118 B0,B1,.obj ac (.map af ag),bj,bT,de] iu:=by simpa only [B0,B1,az,bj,de,bT,dY,nD] using ue
 refine zh ?_
 cases lW
 exact zL ⟨Z,⟨a7,jo,jp,jq,dA,eG,jr,jt,ju,jv,jw,(zP _),uf⟩⟩
 have vw:=wBL (xs:=an) (wAS bG)
 refine ya (j:=4) (vs:=[jV (w64 ((gd an am.to_.toNat) + am.count))]) (cs':=hD KL.encI (nE an am.from_.toNat (w64 ((gd an am.to_.toNat) + am.count)))) rfl rfl rfl rfl bJ rfl bt rfl rfl rfl zC (by rw [wAD (f:=KL.encI) (sz:=1) (fun _=>rfl)];have hz:=wAS bG;show _ + 1 <= _;first | omega | (simp only [nB];omega) | (simp only [nA,hH,hJ];omega)) rfl (wCH (sz:=1) (fo:=0) (fun _=>rfl) _ _ _ _ vw (by first | omega | (simp only [nB];omega) | (simp only [nA,hH,hJ];omega)) (zA rfl) rfl) rfl ?_
 intro iv ug
 have uh:SW w [B1,.obj ac (.map af ag)] U a7 [.blk bc 130 az,.blk b4 118 B0,B1,.obj ac (.map af ag),bj,bi,bE] iv:=ug
 let dZ:Res:=.blk b8 118 [.slice ao ((nE an am.from_.toNat (w64 ((gd an am.to_.toNat) + am.count))).length) ap,.slice aq ay.length au]
 have fS:SW w [B1,.obj ac (.map af ag)] U a7 [.blk bc 130 az,.blk b4 118 B0,B1,.obj ac (.map af ag),bj,bi,dZ] iv:=by simpa only [B0,B1,az,bi,bE,bj,dZ,nD] using uh
 refine ZQ Z Z Z Z (fS.ldB (j:=6) Z Z Z ZK (v:=.slice aq ay.length au) Z) ?_
 obtain ⟨xB,ly⟩:=fS.rowSome (j:=5) rfl (by rw [wAD (f:=KL.encI) (sz:=1) (fun _=>rfl) ay];have hz:=wAS bB;omega)
 refine oR Z (Zd Z Z ly Z zK zC (wBu bB) (wBv bB)) ?_
 have vx:=wBL (xs:=ay) (wAS bB)
 refine ya (j:=5) (vs:=[jV (↑a9:Int)]) (cs':=hD KL.encI (nE ay am.from_.toNat (↑a9:Int))) rfl rfl rfl rfl fS rfl ly rfl rfl rfl zC (by rw [wAD (f:=KL.encI) (sz:=1) (fun _=>rfl)];have hz:=wAS bB;show _ + 1 <= _;first | omega | (simp only [nB];omega) | (simp only [nA,hH,hJ];omega)) rfl (wCH (sz:=1) (fo:=0) (fun _=>rfl) _ _ _ _ vx (by first | omega | (simp only [nB];omega) | (simp only [nA,hH,hJ];omega)) (zA rfl) rfl) rfl ?_
 intro iw ui
 have uj:SW w [B1,.obj ac (.map af ag)] U a7 [.blk bc 130 az,.blk b4 118 B0,B1,.obj ac (.map af ag),bj,bT,dZ] iw:=ui
 have uk:SW w [B1,.obj ac (.map af ag)] U a7 [.blk bc 130 az,.blk b4 118 B0,B1,.obj ac (.map af ag),bj,bT,de] iw:=by simpa only [B0,B1,az,bj,de,bT,dZ,nD] using uj
 refine zh ?_
 cases lW
 exact zL ⟨Z,⟨a7,jo,jp,jq,dA,eG,jr,jt,ju,jv,jw,(zP _),uk⟩⟩
 rintro Ag xf ⟨mK,oI,oK,oO,oP,oU,oW,oX,oY,o0,o3,wp,ul⟩
 refine rR fL2 Z (oM Z oU (oA Z Z (zh (ZA ?_))))
 cases lV
 exact zL ⟨rfl,⟨mK,oI,oK,oO,oP,rfl,oW,oX,oY,o0,o3,wp,(ul.pick [1,2,3,4,5,6] _ (by decide) rfl),(nD.trans cP),(nD.trans cQ)⟩⟩
 intro fu vV
 refine cF Z fu (Zo (ZA ?_))
 cases vV
 exact zL ⟨rfl,⟨a7,cL,cc,cM,bo,eF,cN,cO,cd,cf,bF,(zP _),(bp.pick [1,2,3,4,5,6] _ (by decide) rfl),cP,cQ⟩⟩
 intro aw vW
 refine oF Z aw (oF Z aw (oF Z aw (oF Z aw (oF Z aw (oF Z aw (oF Z aw (oF Z aw (oF Z aw (oF Z aw (oF Z aw (oF Z aw (oF Z aw (oF Z aw (oR Z (zg Z (ZD aw.out) Z) (eN (ZE Z (Zo (ZA ?_))))))))))))))))))
 cases vW
 exact zL ⟨rfl,⟨a7,cL,cc,cM,bo,eF,cN,cO,cd,cf,bF,(zP _),(bp.pick [1,2,3,4,5,6] _ (by decide) rfl),cP,cQ⟩⟩
 intro ft vX
 refine ZE (congrArg nJ (nL.2 ft.out)) (kN (zM (zt zu [3,1,3,3,1,3,3,3,1,3,3,1,3,1,3,3,1,3,3,1,3,3] fL22 (by kernel_rfl) ?_)))
 have bq:=dD.drew
 generalize hw_W1538:({ ef with drawn:=ef.drawn + 1 }:World)=iy at bq ⊢
 refine oR Z (zE Z bo Za Z ZB) (oL Z (bq.ldB (j:=6) Z Z Z ZK (v:=.slice ao an.length ap) Z) (oM Z Z (bnK vX fun _ bC vY=>?_)))
 obtain ⟨xC,bu⟩:=bq.rowSome (j:=4) rfl (by rw [wAD (f:=KL.encI) (sz:=1) (fun _=>rfl) an];have hz:=wAS bC;omega)
 refine oR Z (Zd Z Z bu Z zK zC (wBu bC) (wBv bC)) ?_
 have vy:=wBL (xs:=an) (wAS bC)
 refine ZF rfl rfl rfl rfl (bq.ldR (j:=4) rfl bu rfl rfl zG (wAV (sz:=1) (fun _=>rfl) _ _ 0 _ vy (by first | omega | rfl | simp) rfl)) rfl (zc rfl rfl rfl rfl (fun _=>ze rfl rfl rfl) (zw rfl rfl rfl rfl rfl rfl (ifc vY ?_ ?_)))
 intro ax vZ
 refine rU Z (wT Z ax) (zE Z bo Za Z ZB) (ZF Z Z Z (wT Z ax) (bq.ldB (j:=6) Z Z Z ZK (v:=.slice ao an.length ap) Z) Z (zw Z Z Z (wT Z ax) Z Z (rU Z (wT Z ax) (Zd Z Z bu Z zK zC (wBu bC) (wBv bC)) ?_)))
 have vz:=wBL (xs:=an) (wAS bC)
 refine ZF rfl rfl rfl (zS rfl rfl (Zi ax.out)) (bq.ldR (j:=4) rfl bu rfl rfl zG (wAV (sz:=1) (fun _=>rfl) _ _ 0 _ vz (by first | omega | rfl | simp) rfl)) rfl (zc rfl rfl rfl (zS rfl rfl (Zi ax.out)) (fun _=>zE rfl rfl yf rfl zC) (ZF rfl rfl rfl (zS rfl rfl (Zi ax.out)) (bq.ldB (j:=0) rfl rfl rfl zG (v:=jV am.count) rfl) rfl (zc rfl rfl rfl (zS rfl rfl (Zi ax.out)) (fun _=>za rfl rfl rfl) (zc rfl rfl rfl (zS rfl rfl (Zi ax.out)) (fun _=>zE rfl bo Za rfl ZB) (ZF rfl rfl rfl (zS rfl rfl (Zi ax.out)) (bq.ldB (j:=6) rfl rfl rfl ZK (v:=.slice ao an.length ap) rfl) rfl (zw rfl rfl rfl (zS rfl rfl (Zi ax.out)) rfl rfl (bnK vZ fun _ bH v2=>zc rfl rfl rfl (zS rfl rfl (Zi ax.out)) (fun _=>Zd rfl rfl bu rfl zK zC (wBu bH) (wBv bH)) ?_)))))))
 have vA:=wBL (xs:=an) (wAS bH)
 refine ZF rfl rfl rfl (zS rfl rfl (Zi ax.out)) (bq.ldR (j:=4) rfl bu rfl rfl zG (wAV (sz:=1) (fun _=>rfl) _ _ 0 _ vA (by first | omega | rfl | simp) rfl)) rfl (zc rfl rfl rfl (zS rfl rfl (Zi ax.out)) (fun _=>ze rfl rfl rfl) (zc rfl rfl rfl rfl (fun _=>zN rfl (Zi ax.out) rfl) (eN (ifc v2 ?_ ?_))))
 intro fw v3
 refine cT Z fw ?_
 have q:=bnd v3
 obtain ⟨⟨⟩,wg,lX⟩:=q
 try dsimp only at lX
 let bk:Res:=.row ao ap 3 1 (hD KL.encI (nE an am.to_.toNat (w64 ((gd an am.from_.toNat) + am.count))))
 let df:Res:=.blk b8 118 [.slice ao ((nE an am.to_.toNat (w64 ((gd an am.from_.toNat) + am.count))).length) ap,.slice aq ((nE ay am.to_.toNat (↑a9:Int)).length) au]
 let bU:Res:=.row aq au 3 1 (hD KL.encI (nE ay am.to_.toNat (↑a9:Int)))
 refine yS (fun σ_ w_=>∃ (U_:PHeap),σ_ 0=.pointer (some ⟨ai,0,none⟩)/\σ_ 2=.bool p2/\σ_ 6=.pointer (some ⟨b4,0,none⟩)/\σ_ 9=.pointer (some ⟨b8,0,none⟩)/\σ_ 15=jV am.to_/\σ_ 54=jV (w64 ((↑(p0.number.length):Int) + 1))/\σ_ 55=jV (↑bw:Int)/\σ_ 60=.slice br p0.edges.length bs/\σ_ 61=jV (↑p0.edges.length:Int)/\σ_ 62=jV (↑a9:Int)/\PHeap.Le a7 U_/\SW w [B1,.obj ac (.map af ag)] U U_ [.blk bc 130 az,.blk b4 118 B0,B1,.obj ac (.map af ag),bk,bU,df] w_) ?_ ?_
 refine yh fun bn bh=>?_
 have jx:bn 0=.pointer (some ⟨ai,0,none⟩):=(bh 0).trans cL
 have jy:bn 2=.bool p2:=(bh 2).trans cc
 have jz:bn 6=.pointer (some ⟨b4,0,none⟩):=(bh 6).trans cM
 have dB:bn 9=.pointer (some ⟨b8,0,none⟩):=(bh 9).trans bo
 have o5:bn 12=jV (↑a9:Int):=(bh 12).trans rfl
 have o6:bn 13=.pointer (some ⟨bc,0,none⟩):=(bh 13).trans rfl
 have o7:bn 14=jV am.from_:=(bh 14).trans rfl
 have eH:bn 15=jV am.to_:=(bh 15).trans rfl
 have jA:bn 54=jV (w64 ((↑(p0.number.length):Int) + 1)):=(bh 54).trans cN
 have jB:bn 55=jV (↑bw:Int):=(bh 55).trans cO
 have jC:bn 60=.slice br p0.edges.length bs:=(bh 60).trans cd
 have jD:bn 61=jV (↑p0.edges.length:Int):=(bh 61).trans cf
 have jE:bn 62=jV (↑a9:Int):=(bh 62).trans bF
 clear bh
 refine bnK wg fun _ bD lY=>zt zu [3,1,3,3,2,3,3,1,3,3,1,3,1,3,3,3,0,3,0] (wDo (wKz gDn)) (by kernel_rfl) ?_
 have bL:=bq.drew
 generalize hw_W1587:({ iy with drawn:=iy.drawn + 1 }:World)=xg at bL ⊢
 refine oR Z (zE Z dB Za Z ZB) (oL Z (bL.ldB (j:=6) Z Z Z ZK (v:=.slice ao an.length ap) Z) (oM Z eH (oR Z (zE Z dB Za Z ZB) (oM Z eH (oR Z (zE Z dB Za Z ZB) (oL Z (bL.ldB (j:=6) Z Z Z ZK (v:=.slice ao an.length ap) Z) (oM Z o7 (oR Z (Zd Z Z bu Z zK zC (wBu bC) (wBv bC)) ?_))))))))
 have vB:=wBL (xs:=an) (wAS bC)
 refine ZF rfl rfl rfl rfl (bL.ldR (j:=4) rfl bu rfl rfl zG (wAV (sz:=1) (fun _=>rfl) _ _ 0 _ vB (by first | omega | rfl | simp) rfl)) rfl (zc rfl rfl rfl rfl (fun _=>zE rfl o6 yf rfl zC) (ZF rfl rfl rfl rfl (bL.ldB (j:=0) rfl rfl rfl zG (v:=jV am.count) rfl) rfl (zc rfl rfl rfl rfl (fun _=>za rfl rfl rfl) (zw rfl rfl rfl rfl rfl o5 (zc rfl rfl rfl rfl (fun _=>Zd rfl rfl bu rfl zK zC (wBu bH) (wBv bH)) (zm ?_ ?_))))))
 refine ZQ Z Z Z Z (bL.ldB (j:=6) Z Z Z ZK (v:=.slice aq ay.length au) Z) ?_
 have vC:=wBL (xs:=an) (wAS bH)
 refine ya (j:=4) (vs:=[jV (w64 ((gd an am.from_.toNat) + am.count))]) (cs':=hD KL.encI (nE an am.to_.toNat (w64 ((gd an am.from_.toNat) + am.count)))) rfl rfl rfl rfl bL rfl bu rfl rfl rfl zC (by rw [wAD (f:=KL.encI) (sz:=1) (fun _=>rfl)];have hz:=wAS bH;show _ + 1 <= _;first | omega | (simp only [nB];omega) | (simp only [nA,hH,hJ];omega)) rfl (wCH (sz:=1) (fo:=0) (fun _=>rfl) _ _ _ _ vC (by first | omega | (simp only [nB];omega) | (simp only [nA,hH,hJ];omega)) (zA rfl) rfl) rfl ?_
 intro iz um
 have un:SW w [B1,.obj ac (.map af ag)] U a7 [.blk bc 130 az,.blk b4 118 B0,B1,.obj ac (.map af ag),bk,bi,bE] iz:=um
 let d7:Res:=.blk b8 118 [.slice ao ((nE an am.to_.toNat (w64 ((gd an am.from_.toNat) + am.count))).length) ap,.slice aq ay.length au]
 have lK:SW w [B1,.obj ac (.map af ag)] U a7 [.blk bc 130 az,.blk b4 118 B0,B1,.obj ac (.map af ag),bk,bi,d7] iz:=by simpa only [B0,B1,az,bi,bE,bk,d7,nD] using un
 obtain ⟨xD,lz⟩:=lK.rowSome (j:=5) rfl (by rw [wAD (f:=KL.encI) (sz:=1) (fun _=>rfl) ay];have hz:=wAS bD;omega)
 refine oR Z (Zd Z Z lz Z zK zC (wBu bD) (wBv bD)) ?_
 have vD:=wBL (xs:=ay) (wAS bD)
 refine ya (j:=5) (vs:=[jV (↑a9:Int)]) (cs':=hD KL.encI (nE ay am.to_.toNat (↑a9:Int))) rfl rfl rfl rfl lK rfl lz rfl rfl rfl zC (by rw [wAD (f:=KL.encI) (sz:=1) (fun _=>rfl)];have hz:=wAS bD;show _ + 1 <= _;first | omega | (simp only [nB];omega) | (simp only [nA,hH,hJ];omega)) rfl (wCH (sz:=1) (fo:=0) (fun _=>rfl) _ _ _ _ vD (by first | omega | (simp only [nB];omega) | (simp only [nA,hH,hJ];omega)) (zA rfl) rfl) rfl ?_
 intro iA uo
 have up:SW w [B1,.obj ac (.map af ag)] U a7 [.blk bc 130 az,.blk b4 118 B0,B1,.obj ac (.map af ag),bk,bU,d7] iA:=uo
 have uq:SW w [B1,.obj ac (.map af ag)] U a7 [.blk bc 130 az,.blk b4 118 B0,B1,.obj ac (.map af ag),bk,bU,df] iA:=by simpa only [B0,B1,az,bk,df,bU,d7,nD] using up
 refine zh ?_
 cases lY
 exact zL ⟨Z,⟨a7,jx,jy,jz,dB,eH,jA,jB,jC,jD,jE,(zP _),uq⟩⟩
 have vE:=wBL (xs:=an) (wAS bH)
 refine ya (j:=4) (vs:=[jV (w64 ((gd an am.from_.toNat) + am.count))]) (cs':=hD KL.encI (nE an am.to_.toNat (w64 ((gd an am.from_.toNat) + am.count)))) rfl rfl rfl rfl bL rfl bu rfl rfl rfl zC (by rw [wAD (f:=KL.encI) (sz:=1) (fun _=>rfl)];have hz:=wAS bH;show _ + 1 <= _;first | omega | (simp only [nB];omega) | (simp only [nA,hH,hJ];omega)) rfl (wCH (sz:=1) (fo:=0) (fun _=>rfl) _ _ _ _ vE (by first | omega | (simp only [nB];omega) | (simp only [nA,hH,hJ];omega)) (zA rfl) rfl) rfl ?_
 intro iB ur
 have ut:SW w [B1,.obj ac (.map af ag)] U a7 [.blk bc 130 az,.blk b4 118 B0,B1,.obj ac (.map af ag),bk,bi,bE] iB:=ur
 let d9:Res:=.blk b8 118 [.slice ao ((nE an am.to_.toNat (w64 ((gd an am.from_.toNat) + am.count))).length) ap,.slice aq ay.length au]
 have fT:SW w [B1,.obj ac (.map af ag)] U a7 [.blk bc 130 az,.blk b4 118 B0,B1,.obj ac (.map af ag),bk,bi,d9] iB:=by simpa only [B0,B1,az,bi,bE,bk,d9,nD] using ut
 refine ZQ Z Z Z Z (fT.ldB (j:=6) Z Z Z ZK (v:=.slice aq ay.length au) Z) ?_
 obtain ⟨xE,lA⟩:=fT.rowSome (j:=5) rfl (by rw [wAD (f:=KL.encI) (sz:=1) (fun _=>rfl) ay];have hz:=wAS bD;omega)
 refine oR Z (Zd Z Z lA Z zK zC (wBu bD) (wBv bD)) ?_
 have vG:=wBL (xs:=ay) (wAS bD)
 refine ya (j:=5) (vs:=[jV (↑a9:Int)]) (cs':=hD KL.encI (nE ay am.to_.toNat (↑a9:Int))) rfl rfl rfl rfl fT rfl lA rfl rfl rfl zC (by rw [wAD (f:=KL.encI) (sz:=1) (fun _=>rfl)];have hz:=wAS bD;show _ + 1 <= _;first | omega | (simp only [nB];omega) | (simp only [nA,hH,hJ];omega)) rfl (wCH (sz:=1) (fo:=0) (fun _=>rfl) _ _ _ _ vG (by first | omega | (simp only [nB];omega) | (simp only [nA,hH,hJ];omega)) (zA rfl) rfl) rfl ?_
 intro iC uu
 have uv:SW w [B1,.obj ac (.map af ag)] U a7 [.blk bc 130 az,.blk b4 118 B0,B1,.obj ac (.map af ag),bk,bU,d9] iC:=uu
 have uw:SW w [B1,.obj ac (.map af ag)] U a7 [.blk bc 130 az,.blk b4 118 B0,B1,.obj ac (.map af ag),bk,bU,df] iC:=by simpa only [B0,B1,az,bk,df,bU,d9,nD] using uv
 refine zh ?_
 cases lY
 exact zL ⟨Z,⟨a7,jx,jy,jz,dB,eH,jA,jB,jC,jD,jE,(zP _),uw⟩⟩
 rintro Ah xh ⟨mL,o8,o9,pd,pe,pf,pg,ph,pj,pk,pm,wq,ux⟩
 refine rR fL2 Z (oM Z pf (oA Z Z (zh (ZA ?_))))
 cases lX
 exact zL ⟨rfl,⟨mL,o8,o9,pd,pe,rfl,pg,ph,pj,pk,pm,wq,(ux.pick [1,2,3,4,5,6] _ (by decide) rfl),(nD.trans cP),(nD.trans cQ)⟩⟩
 intro fw v4
 refine cF Z fw (Zo (ZA ?_))
 cases v4
 exact zL ⟨rfl,⟨a7,cL,cc,cM,bo,eF,cN,cO,cd,cf,bF,(zP _),(bq.pick [1,2,3,4,5,6] _ (by decide) rfl),cP,cQ⟩⟩
 intro ax v5
 refine oF Z ax (oF Z ax (oF Z ax (oF Z ax (oF Z ax (oF Z ax (oF Z ax (oF Z ax (oF Z ax (oF Z ax (oF Z ax (oF Z ax (oF Z ax (oF Z ax (oR Z (zg Z (ZD ax.out) Z) (eN (ZE Z (Zo (ZA ?_))))))))))))))))))
 cases v5
 exact zL ⟨rfl,⟨a7,cL,cc,cM,bo,eF,cN,cO,cd,cf,bF,(zP _),(bq.pick [1,2,3,4,5,6] _ (by decide) rfl),cP,cQ⟩⟩
 rintro Ai xi ⟨mM,pn,po,pp,pq,pu,py,pz,pB,pC,pD,ws,uy,sO,sP⟩
 refine rR fL2 Z (oR Z (ZH (za Z pD Z) (congrArg (jV) vJ.out)) (oM Z Z (zh ?_)))
 cases lU
 exact zL ⟨Z,⟨mM,Z,pn,po,pp,pq,pu,py,pz,pB,pC,(mw.trans ws),uy,sO,sP⟩⟩
 rintro Aj xj ⟨fg,sr,pE,pF,fI,jG,jH,pG,pH,xH,pI,wt,fU,sQ,sS⟩
 have og:Hid (¬ ((↑(((↑p0.edges.length:Int):Int) - 0).toNat:Int) < (↑p0.edges.length:Int))):=zO (wAc)
 refine sR fL1 Z (oR Z (ze Z sr pI) (eN (zM (cF Z og (Zb (zo (zo (ZV (zL (sR fL2 Z (oM Z jH (oR Z (ze Z Z Z) (eN (ifc lT ?_ ?_))))))))))))))
 intro fy v7
 refine cT Z fy (sR gDc Z ?_)
 let cx:List Value:=[.slice ao mF.length ap,.slice aq mG.length au]
 refine oL Z (fU.ldBA (j:=5) Z Z jG Try.isAgg118 yH (vs:=cx) Z Z) (zU (j:=0) (vs:=cx) Z Z Z Z fU Z fI Z Z yH (zA Z) Z Z Z ?_)
 intro m4 uz
 have lL:SW w [B1,.obj ac (.map af ag)] U fg [.blk b4 118 cx,B1,.obj ac (.map af ag),.row ao ap 3 1 (hD KL.encI mF),.row aq au 3 1 (hD KL.encI mG),.blk b8 118 cx] m4:=uz
 refine oA Z Z (oA Z Z (eN (zR (zq (zW ?_)))))
 have q:=wAY v7
 obtain ⟨wG,v9,oi⟩:=q
 have q:=wBY gb fY (vg wG oi)
 obtain rfl:=q
 refine zW (zq (zW ?_))
 cases v9
 exact ⟨rfl,_,(wDg (rs:=[.cell 6 118,.tmp 7,.tmp 8]) (vs:=[.agg cx.toArray,jV 0,.bool true]) ⟨⟨_,fI,(wAw Try.isAgg118 yH (lL.blkAt (k:=0) rfl) (vs:=cx) rfl rfl)⟩,⟨rfl,⟨rfl,trivial⟩⟩⟩ rfl),fg,_,(lL.pick [3,4,1,2] _ (by decide) rfl),ao,ap,aq,au,rfl,rfl⟩
 intro fy wa
 refine cF Z fy (Zo (ZA (zL (rR fL2 Z (oR Z (ZH (za Z pH Z) (congrArg (jV) vH.out)) (oM Z Z (zh ?_)))))))
 have q:=nH wa
 obtain rfl:=q
 exact zL ⟨Z,_,Z,⟨fg,Z,pE,pF,fI,jG,jH,pG,(mu.trans wt),fU,sQ,sS⟩⟩
 rintro ⟨mH,mI,wI⟩ Ak xk ⟨gY,ss,xI,xJ,jJ,pJ,pK,pL,yv,lM,x7,x8⟩ vh
 have l5:=wCm gb fY vh
 try dsimp only at l5
 have oh:Hid (¬ ((↑((w64 ((↑(p0.number.length):Int) + 1):Int) - 0).toNat:Int) < (w64 ((↑(p0.number.length):Int) + 1)))):=zO (wAc)
 refine sR fL1 Z (oR Z (ze Z ss pL) (eN (zM (cF Z oh (Zb (zo (zo (ZV (zL (sR (.fl 0 (.fl 1 (.fx 2 (.fl 3 (.fl 4 .nil)) .stop))) Z ?_))))))))))
 let cy:List Value:=[.slice ao mH.length ap,.slice aq mI.length au]
 refine oL Z (lM.ldBA (j:=5) Z Z pJ Try.isAgg118 yH (vs:=cy) Z Z) (oM Z pK (zU (j:=0) (vs:=cy) Z Z Z Z lM Z jJ Z Z yH (zA Z) Z Z Z ?_))
 intro m5 uA
 have lN:SW w [B1,.obj ac (.map af ag)] U gY [.blk b4 118 cy,B1,.obj ac (.map af ag),.row ao ap 3 1 (hD KL.encI mH),.row aq au 3 1 (hD KL.encI mI),.blk b8 118 cy] m5:=uA
 refine oA Z Z (oA Z Z (eN (zR ?_)))
 cases l5
 exact ⟨rfl,_,(wDg (rs:=[.cell 6 118,.tmp 7,.tmp 8]) (vs:=[.agg cy.toArray,jV wI,.bool false]) ⟨⟨_,jJ,(wAw Try.isAgg118 yH (lN.blkAt (k:=0) rfl) (vs:=cy) rfl rfl)⟩,⟨rfl,⟨rfl,trivial⟩⟩⟩ rfl),gY,_,(lN.pick [3,4,1,2] _ (by decide) rfl),ao,ap,aq,au,rfl,rfl⟩
end Go.Proofs.Ytlnfbjphfoipaaa
namespace Go.Proofs.Ytlnfbjphfoipaaa
open Go.KL
set_option maxHeartbeats 4000000
theorem wBk (p0:wAX) (an:Nat) (ah:Option Addr) (ao:Nat) (ai:Option Addr) (ap:Nat) (aj:Option Addr) (aq:Nat) (ak:Option Addr) (au:Nat) (ae:Nat) (af:Array MapEntry) (ag:Nat) (am:Option Addr) (av:Nat) (w:World) (U:PHeap) (hS:St0 w U [.blk an 124 [.slice ah p0.Race.Starts.length ao,.slice ai p0.Race.Splits.length ap,.slice aj p0.Race.Clocks.length aq,.slice ak p0.Race.Readings.length au,.map (some ae),.slice am p0.edges.length av],.obj ae (.map af ag)]) (bo:Sl U 1 ah ao p0.Race.Starts.length (hD KL.encI p0.Race.Starts)) (bp:Sl U 2 ai ap p0.Race.Splits.length (hD wAC p0.Race.Splits)) (bq:Sl U 3 aj aq p0.Race.Clocks.length (hD wAA p0.Race.Clocks)) (br:Sl U 4 ak au p0.Race.Readings.length (hD wAB p0.Race.Readings)) (bs:MpR af wBD wBJ p0.number) (bt:Sl U 7 am av p0.edges.length (hD wAQ p0.edges)) {r:Bool} (hm:wAp p0=some r):Gv Try.prog 63 [.pointer (some ⟨an,0,none⟩)] w (wBw w [.blk an 124 [.slice ah p0.Race.Starts.length ao,.slice ai p0.Race.Splits.length ap,.slice aj p0.Race.Clocks.length aq,.slice ak p0.Race.Readings.length au,.map (some ae),.slice am p0.edges.length av],.obj ae (.map af ag)] U (fun U_ L_ v=>v=.bool r/\L_=[.blk an 124 [.slice ah p0.Race.Starts.length ao,.slice ai p0.Race.Splits.length ap,.slice aj p0.Race.Clocks.length aq,.slice ak p0.Race.Readings.length au,.map (some ae),.slice am p0.edges.length av],.obj ae (.map af ag)])):=by
 unfold wAp at hm
 refine Gv.of Try.func63 Z Try.ntmps63 Try.results63 Z (sR fL1 Z (oA Z Z (eN (sR (.fl 0 (.fx 1 (wLf (.fx 6 gCt .stop)) .stop)) Z (oM Z Z ?_)))))
 have q:=bnd hm
 obtain ⟨⟨x3,x4,x5⟩,h6,bd⟩:=q
 try dsimp only at bd
 refine zF 2 Z Z Z Z (zD Z Z Try.call57 (zB Z (zB Z (zB Z zJ))) Z) hS (fun hs=>wBP p0 an ah ao ai ap aj aq ak au ae af ag am av (-1) false w U hs bo bp bq br bs bt h6) (.inl Z) ?_
 rintro U8 L9 bA be bz bi ⟨ay,a8,az,a9,rfl,rfl⟩
 let B0:Res:=.blk an 124 [.slice ah p0.Race.Starts.length ao,.slice ai p0.Race.Splits.length ap,.slice aj p0.Race.Clocks.length aq,.slice ak p0.Race.Readings.length au,.map (some ae),.slice am p0.edges.length av]
 let B1:Res:=.row ay a8 3 1 (hD KL.encI x3.far)
 let B2:Res:=.row az a9 3 1 (hD KL.encI x3.by_)
 have bj:SW w [B0,.obj ae (.map af ag)] U U8 [B1,B2,B0,.obj ae (.map af ag)] be:=bi
 refine oM Z Z (oR Z (zT Z Z (v:=.agg #[.slice ay x3.far.length a8,.slice az x3.by_.length a9]) Z) (oR Z (zT Z Z (v:=jV x4) Z) (oR Z (zT Z Z (v:=.bool x5) Z) (zQ (cs:=[.slice none 0 0,.slice none 0 0]) Z Z Z Z Z Zm Z bj ?_))))
 intro bx bg bk
 let B3:List Value:=[.slice ay x3.far.length a8,.slice az x3.by_.length a9]
 refine zU (j:=0) (vs:=B3) Z Z Z Z bk Z Z Z Z yH (zA Z) Z Z Z ?_
 intro bf bm
 have bn:SW w [B0,.obj ae (.map af ag)] U U8 [.blk bg 118 B3,B1,B2,B0,.obj ae (.map af ag)] bf:=bm
 refine oA Z Z (oA Z Z (eN (sR fL2 Z (oM Z Z (oA Z Z (eN (zR ?_)))))))
 have hE:=nH bd;first | subst r | cases hE
 exact ⟨rfl,_,(ZL rfl),U8,_,(bn.pick [3,4] _ (by decide) rfl),rfl,rfl⟩
theorem wDs (p0:wAE) (ao:Option Addr) (av:Nat) (ap:Option Addr) (aw:Nat) (aq:Option Addr) (ax:Nat) (au:Option Addr) (ay:Nat) (p1:List wAP) (bf:Option Addr) (bg:Nat) (w:World) (U:PHeap) (hS:St0 w U []) (bB:Sl U 1 ao av p0.Starts.length (hD KL.encI p0.Starts)) (bC:Sl U 2 ap aw p0.Splits.length (hD wAC p0.Splits)) (bD:Sl U 3 aq ax p0.Clocks.length (hD wAA p0.Clocks)) (bE:Sl U 4 au ay p0.Readings.length (hD wAB p0.Readings)) (bX:Sl U 2 bf bg p1.length (hD wAT p1)) {r:(Option wAX) × Int} (hm:wCP p0 p1=some r):Gv Try.prog 46 [.agg #[.slice ao p0.Starts.length av,.slice ap p0.Splits.length aw,.slice aq p0.Clocks.length ax,.slice au p0.Readings.length ay],.slice bf p1.length bg] w (wBw w [] U (fun U_ L_ v=>match r.1 with | none=>v=.tuple #[.pointer none,jV r.2]/\L_=[] | some d=>∃ (b0:Nat) (A0p00:Option Addr) (c0p00:Nat) (A0p01:Option Addr) (c0p01:Nat) (A0p02:Option Addr) (c0p02:Nat) (A0p03:Option Addr) (c0p03:Nat) (m0p1:Nat) (es0p1:Array MapEntry) (ck0p1:Nat) (A0p2:Option Addr) (c0p2:Nat),v=.tuple #[.pointer (some ⟨b0,0,none⟩),jV r.2]/\L_=[.blk b0 124 [.slice A0p00 d.Race.Starts.length c0p00,.slice A0p01 d.Race.Splits.length c0p01,.slice A0p02 d.Race.Clocks.length c0p02,.slice A0p03 d.Race.Readings.length c0p03,.map (some m0p1),.slice A0p2 d.edges.length c0p2],.obj m0p1 (.map es0p1 ck0p1)]/\Sl U_ 1 A0p00 c0p00 d.Race.Starts.length (hD KL.encI d.Race.Starts)/\Sl U_ 2 A0p01 c0p01 d.Race.Splits.length (hD wAC d.Race.Splits)/\Sl U_ 3 A0p02 c0p02 d.Race.Clocks.length (hD wAA d.Race.Clocks)/\Sl U_ 4 A0p03 c0p03 d.Race.Readings.length (hD wAB d.Race.Readings)/\MpR es0p1 wBD wBJ d.number/\Sl U_ 7 A0p2 c0p2 d.edges.length (hD wAQ d.edges))):=by
 unfold wCP at hm
 refine Gv.of Try.func46 Z Try.ntmps46 Try.results46 Z (sR gCs Z ?_)
 let B0:List Value:=[.slice ao p0.Starts.length av,.slice ap p0.Splits.length aw,.slice aq p0.Clocks.length ax,.slice au p0.Readings.length ay]
 refine zy (cs:=B0) rfl rfl rfl rfl rfl rfl (by rfl) hS ?_
 intro W1 b2 bV
 refine oA Z Z (oA Z Z (eN (sR (.fl 0 (.fx 1 (wHH (.nil)) .stop)) Z (oL Z (bV.ldBA (j:=0) Z Z Z zf zY (vs:=B0) Z Z) ?_))))
 have q:=bnd hm
 obtain ⟨⟨x5,x6⟩,h7,az⟩:=q
 try dsimp only at az
 refine zF 0 Z Z Z Z (zD Z Z Try.call60 (zB Z zJ) Z) bV (fun hs=>wDr p0 ao av ap aw aq ax au ay W1 U hs bB bC bD bE h7) (.inr Z) ?_
 rintro U9 dl du ba af bU bS
 rcases x5 with _ | ag
 try dsimp only at az
 obtain ⟨rfl,rfl⟩:=bS
 have bz:sW w U U9 [.blk b2 28 B0] ba:=bU
 refine oM Z Z (oR Z (zT Z Z (v:=.pointer none) Z) (oR Z (zT Z Z (v:=jV x6) Z) (oA Z Z (oA Z Z (eN (zM (zd (sR fL3 Z (oM Z Z (oR Z (Ze Z Z Z) (oA Z Z (eN (ifc az ?_ ?_)))))))))))))
 intro bu c6
 refine ZE (ZD (fun h=>h bu.out)) (sR (wDF gCw) Z (oM Z Z (oL Z (bz.ldBA (j:=0) Z Z Z zf zY (vs:=B0) Z Z) (oR Z (Runs.mkf Z (zB Z zJ) zJ) ?_))))
 have cn:=bX.le af
 have co:=bB.le af
 have cp:=bC.le af
 have cr:=bD.le af
 have ct:=bE.le af
 have cN:FnOK Try.prog U9 (.func (.func 84) #[.agg B0.toArray] #[]) wLK wLL (fun x=>wAf p0 x):=⟨84,[.agg B0.toArray],[],rfl,Try.call84,fun U1 w1 x y vs le hs ha hm=>by obtain rfl:=ha;exact wCT p0 ao av ap aw aq ax au ay x w1 U1 hs (co.le le) (cp.le le) (cr.le le) (ct.le le) hm⟩
 refine bnK c6 fun dx cu da=>zF 0 Z Z Z Z (zD Z Z Try.call85 (zB Z (zB Z zJ)) Z) bz (fun hs=>wDE p1 bf bg (fun x=>wAf p0 x) (.func (.func 84) #[.agg B0.toArray] #[]) ba U9 hs cn cN cu) (.inr Z) ?_
 rintro bH dp dv cc dr cQ ⟨rfl,rfl⟩
 have cR:sW w U bH [.blk b2 28 B0] cc:=cQ
 refine oR Z (Zg Z Z) (oA Z Z (eN (ifc da ?_ ?_)))
 intro bv db
 refine ZE (nC bv.out) (sR gDc Z (oM Z Z ?_))
 cases db
 intro bv dd
 refine ZI (nF (bv.out)) (sR fL2 Z (oA Z Z (oA Z Z (eN (zR (zq (zW ?_)))))))
 cases dd
 exact ⟨rfl,_,(wDf rfl rfl),bH,_,(cR.pick [] _ (by decide) rfl),rfl,rfl⟩
 intro bu de
 refine cT Z bu (sR fL3 Z (oM Z Z (oA Z Z (oA Z Z (eN (zR (zq (zW ?_))))))))
 cases de
 exact ⟨rfl,_,(wDf rfl rfl),U9,_,(bz.pick [] _ (by decide) rfl),rfl,rfl⟩
 try dsimp only at az
 obtain ⟨bb,bh,bq,bi,br,bj,bs,bk,bt,ai,am,ak,a8,bc,rfl,rfl,cw,cx,cy,cz,bM⟩:=bS
 let B1:Res:=.blk bb 124 [.slice bh ag.Race.Starts.length bq,.slice bi ag.Race.Splits.length br,.slice bj ag.Race.Clocks.length bs,.slice bk ag.Race.Readings.length bt,.map (some ai),.slice a8 ag.edges.length bc]
 let B2:Res:=.row a8 bc 130 7 (hD wAQ ag.edges)
 have bA:sW w U U9 [B1,.obj ai (.map am ak),B2,.blk b2 28 B0] ba:=bU
 refine oM Z Z (oR Z (zT Z Z (v:=.pointer (some ⟨bb,0,none⟩)) Z) (oR Z (zT Z Z (v:=jV x6) Z) (oA Z Z (oA Z Z (eN (zM (zd (sR fL3 Z (oM Z Z (oR Z (Ze Z Z Z) (oA Z Z (eN (ifc az ?_ ?_)))))))))))))
 intro bw df
 refine ZE (ZD (fun h=>h bw.out)) (sR (wDF gCw) Z (oM Z Z (oL Z (bA.ldBA (j:=3) Z Z Z zf zY (vs:=B0) Z Z) (oR Z (Runs.mkf Z (zB Z zJ) zJ) ?_))))
 have cA:=bX.le af
 have cB:=bB.le af
 have cC:=bC.le af
 have cD:=bD.le af
 have cE:=bE.le af
 have cO:FnOK Try.prog U9 (.func (.func 84) #[.agg B0.toArray] #[]) wLK wLL (fun x=>wAf p0 x):=⟨84,[.agg B0.toArray],[],rfl,Try.call84,fun U1 w1 x y vs le hs ha hm=>by obtain rfl:=ha;exact wCT p0 ao av ap aw aq ax au ay x w1 U1 hs (cB.le le) (cC.le le) (cD.le le) (cE.le le) hm⟩
 refine bnK df fun dy cH dg=>zF 0 Z Z Z Z (zD Z Z Try.call85 (zB Z (zB Z zJ)) Z) bA (fun hs=>wDE p1 bf bg (fun x=>wAf p0 x) (.func (.func 84) #[.agg B0.toArray] #[]) ba U9 hs cA cO cH) (.inr Z) ?_
 rintro bI dq dw bo bd cS ⟨rfl,rfl⟩
 have bW:sW w U bI [B1,.obj ai (.map am ak),B2,.blk b2 28 B0] bo:=cS
 refine oR Z (Zg Z Z) (oA Z Z (eN (ifc dg ?_ ?_)))
 intro bx dh
 refine ZE (nC bx.out) (sR gDc Z (oM Z Z ?_))
 have q:=bW.freezeR (k:=2) (n:=ag.edges.length) rfl (wAD (f:=wAQ) (sz:=7) (fun _=>rfl) ag.edges) (by decide)
 obtain ⟨bJ,be,bY,cU⟩:=q
 have cV:sW w U bJ [B1,.obj ai (.map am ak),.blk b2 28 B0] bo:=cU
 have cI:=cw.le bd
 have bN:=cI.le be
 have cJ:=cx.le bd
 have bO:=cJ.le be
 have cK:=cy.le bd
 have bQ:=cK.le be
 have cL:=cz.le bd
 have bR:=cL.le be
 refine bnK dh fun dz cM di=>zF 2 Z Z Z Z (zD Z Z Try.call63 (zB Z zJ) Z) cV (fun hs=>wBk ag bb bh bq bi br bj bs bk bt ai am ak a8 bc bo bJ hs bN bO bQ bR bM bY cM) (.inl Z) ?_
 rintro bn dm dt cb a7 cP ⟨rfl,rfl⟩
 have bT:sW w U bn [B1,.obj ai (.map am ak),.blk b2 28 B0] cb:=cP
 refine oR Z (Zg Z Z) (oA Z Z (eN (ifc di ?_ ?_)))
 intro bp cW
 refine ZE (nC bp.out) (Zo (ZA (zL (sR fL3 Z (oM Z Z (oA Z Z (oA Z Z (eN (zR ?_)))))))))
 have cd:=bN.le a7
 have cf:=bO.le a7
 have cg:=bQ.le a7
 have ci:=bR.le a7
 have cm:=bY.le a7
 cases cW
 exact ⟨rfl,_,(wDf rfl rfl),bn,_,(bT.pick [0,1] _ (by decide) rfl),bb,bh,bq,bi,br,bj,bs,bk,bt,ai,am,ak,a8,bc,rfl,rfl,cd,cf,cg,ci,bM,cm⟩
 intro bp cX
 refine ZI (nF (bp.out)) (sR fL2 Z (oA Z Z (oA Z Z (eN (zR (zq (zW ?_)))))))
 cases cX
 exact ⟨rfl,_,(wDf rfl rfl),bn,_,(bT.pick [] _ (by decide) rfl),rfl,rfl⟩
 intro bx cY
 refine ZI (nF (bx.out)) (sR fL2 Z (oA Z Z (oA Z Z (eN (zR (zq (zW ?_)))))))
 cases cY
 exact ⟨rfl,_,(wDf rfl rfl),bI,_,(bW.pick [] _ (by decide) rfl),rfl,rfl⟩
 intro bw cZ
 refine cT Z bw (sR fL3 Z (oM Z Z (oA Z Z (oA Z Z (eN (zR (zq (zW ?_))))))))
 cases cZ
 exact ⟨rfl,_,(wDf rfl rfl),U9,_,(bA.pick [] _ (by decide) rfl),rfl,rfl⟩
theorem wBQ (p0:wAP) (w:World) (U:PHeap) (hS:St0 w U [])  {r:wAL} (hm:wBn p0=some r):Gv Try.prog 49 [.agg #[jV p0.Skier,jV p0.Mat]] w (wBw w [] U (fun U_ L_ v=>v=.agg #[jV r.skier,jV r.mat]/\L_=[])):=by
 unfold wBn at hm
 refine Gv.of Try.func49 Z Try.ntmps49 Try.results49 Z (sR gCi Z ?_)
 let B0:List Value:=[jV p0.Skier,jV p0.Mat]
 refine zy (cs:=B0) rfl rfl rfl rfl rfl rfl (by rfl) hS ?_
 intro W1 b2 am
 refine zQ (cs:=[jV 0,jV 0]) Z Z Z Z Z zb Z am ?_
 intro W5 b6 af
 refine eN (sR (wFk (.fx 5 .nil .stop)) Z (oR Z (zE Z Z yK Z zC) (oL Z (af.ldB (j:=1) Z Z Z zG (v:=jV p0.Skier) Z) (oR Z (zE Z Z yK Z zC) (oL Z (af.ldB (j:=1) Z Z Z zG (v:=jV p0.Mat) Z) (oR Z (zk (pv:=[(0,jV p0.Skier),(1,jV p0.Mat)]) (z:=[jV 0,jV 0]) (cs:=B0) Z (wAH Z (wAH Z wAO)) zb wBO Z Z) (zU (j:=0) (vs:=B0) Z Z Z Z af Z Z Z Z zH (zA Z) Z Z Z ?_)))))))
 intro W9 ak
 have ag:sW w U U [.blk b6 104 B0,.blk b2 45 B0] W9:=ak
 refine eN (zR ?_)
 cases hm
 exact ⟨rfl,_,(wFv (v:=.agg B0.toArray) ⟨⟨_,rfl,(wAw zj zH (ag.blkAt (k:=0) rfl) (vs:=B0) rfl rfl)⟩,trivial⟩),U,_,(ag.pick [] _ (by decide) rfl),rfl,rfl⟩
theorem wAd (p0:wAX) (ax:Nat) (a8:Option Addr) (bd:Nat) (a9:Option Addr) (be:Nat) (ba:Option Addr) (bf:Nat) (bb:Option Addr) (bg:Nat) (ae:Nat) (af:Array MapEntry) (ag:Nat) (bc:Option Addr) (bh:Nat) (p1:wAL) (p2:wAL) (w:World) (U:PHeap) (hS:St0 w U [.blk ax 124 [.slice a8 p0.Race.Starts.length bd,.slice a9 p0.Race.Splits.length be,.slice ba p0.Race.Clocks.length bf,.slice bb p0.Race.Readings.length bg,.map (some ae),.slice bc p0.edges.length bh],.obj ae (.map af ag)]) (bZ:Sl U 1 a8 bd p0.Race.Starts.length (hD KL.encI p0.Race.Starts)) (ca:Sl U 2 a9 be p0.Race.Splits.length (hD wAC p0.Race.Splits)) (cb:Sl U 3 ba bf p0.Race.Clocks.length (hD wAA p0.Race.Clocks)) (cc:Sl U 4 bb bg p0.Race.Readings.length (hD wAB p0.Race.Readings)) (bi:MpR af wBD wBJ p0.number) (cd:Sl U 7 bc bh p0.edges.length (hD wAQ p0.edges)) {r:wAF} (hm:wAo p0 p1 p2=some r):Gv Try.prog 47 [.pointer (some ⟨ax,0,none⟩),.agg #[jV p1.skier,jV p1.mat],.agg #[jV p2.skier,jV p2.mat]] w (wBw w [.blk ax 124 [.slice a8 p0.Race.Starts.length bd,.slice a9 p0.Race.Splits.length be,.slice ba p0.Race.Clocks.length bf,.slice bb p0.Race.Readings.length bg,.map (some ae),.slice bc p0.edges.length bh],.obj ae (.map af ag)] U (fun U_ L_ v=>v=.agg #[jV r.Lo,jV r.Hi]/\L_=[.blk ax 124 [.slice a8 p0.Race.Starts.length bd,.slice a9 p0.Race.Splits.length be,.slice ba p0.Race.Clocks.length bf,.slice bb p0.Race.Readings.length bg,.map (some ae),.slice bc p0.edges.length bh],.obj ae (.map af ag)])):=by
 unfold wAo at hm
 refine Gv.of Try.func47 Z Try.ntmps47 Try.results47 Z (sR (.fx 0 gCj .stop) Z ?_)
 let B0:List Value:=[jV p1.skier,jV p1.mat]
 refine zy (cs:=B0) rfl rfl rfl rfl rfl rfl (by rfl) hS ?_
 intro W3 b4 en
 let B1:List Value:=[jV p2.skier,jV p2.mat]
 refine zy (cs:=B1) rfl rfl rfl rfl rfl rfl (by rfl) en ?_
 intro W7 b8 eD
 let B2:List Value:=[jV 0,jV 0]
 refine zQ (cs:=B2) Z Z Z Z Z zi Z eD ?_
 intro cL ak dT
 refine eN ?_
 have q:=bnd hm
 obtain ⟨⟨a7,cg⟩,eO,df⟩:=q
 try dsimp only at df
 let B3:Res:=.blk ax 124 [.slice a8 p0.Race.Starts.length bd,.slice a9 p0.Race.Splits.length be,.slice ba p0.Race.Clocks.length bf,.slice bb p0.Race.Readings.length bg,.map (some ae),.slice bc p0.edges.length bh]
 refine yS (fun σ_ w_=>∃ (U_:PHeap) (bw:Nat) (bo:Option Addr) (bq:Nat) (bu:Option Addr) (bz:Nat),σ_ 0=.pointer (some ⟨ax,0,none⟩)/\σ_ 4=.pointer (some ⟨b4,0,none⟩)/\σ_ 5=.pointer (some ⟨b8,0,none⟩)/\σ_ 6=.pointer (some ⟨ak,0,none⟩)/\σ_ 7=.pointer (some ⟨bw,0,none⟩)/\PHeap.Le U U_/\SW w [B3,.obj ae (.map af ag)] U U_ [B3,.obj ae (.map af ag),.blk ak 41 B2,.blk b8 104 B1,.blk b4 104 B0,.blk bw 118 [.slice bo a7.length bq,.slice bu cg.length bz],.row bo bq 3 1 (hD KL.encI a7),.row bu bz 3 1 (hD KL.encI cg)] w_) ?_ ?_
 have q:=bnd eO
 obtain ⟨⟨au,di,dk⟩,c6,cw⟩:=q
 try dsimp only at cw
 refine zt zu [3,3,3,3,1,1,1,0,3,3,3,3,2,0,3,3] (wGc (.fx 7 (wHr gDf) (.fx 12 (.fx 7 (wHr gCx) (.stop)) (.stop)))) (by kernel_rfl) ?_
 have bs:=dT.drew
 generalize hw_W54:({ cL with drawn:=cL.drawn + 1 }:World)=cP at bs ⊢
 refine oM Z Z (oM Z Z (oR Z (ZT Z Z) (oR Z (zE Z Z ZM Z yF) (oL Z (bs.ldB (j:=3) Z Z Z yJ (v:=.map (some ae)) Z) (oL Z (bs.ldBA (j:=2) Z Z Z zj zH (vs:=B0) Z Z) (oL Z (bs.lookup1 (j:=4) (mk:=wBD) (mv:=wBJ) (a:=p1) (z:=0) Z Z Z Z (wBj ZP) wCp zz bi) (zm ?_ ?_)))))))
 have eo:SW w [B3,.obj ae (.map af ag)] U U [B3,.obj ae (.map af ag),.blk ak 41 B2,.blk b8 104 B1,.blk b4 104 B0] cP:=bs.pick [3,4,0,1,2] _ (by decide) rfl
 refine zF 2 Z Z Z Z (zD Z Z Try.call57 (zB Z (zB Z (zB Z zJ))) Z) eo (fun hs=>wBP p0 ax a8 bd a9 be ba bf bb bg ae af ag bc bh (wBE p0.number p1 0) false cP U hs bZ ca cb cc bi cd c6) (.inl Z) ?_
 rintro cp fb fw dv eX ep ⟨bG,bU,bH,bV,rfl,rfl⟩
 let B4:Res:=.row bG bU 3 1 (hD KL.encI au.far)
 let B5:Res:=.row bH bV 3 1 (hD KL.encI au.by_)
 have er:SW w [B3,.obj ae (.map af ag)] U cp [B4,B5,B3,.obj ae (.map af ag),.blk ak 41 B2,.blk b8 104 B1,.blk b4 104 B0] dv:=ep
 refine oM Z Z (oR Z (zT Z Z (v:=.agg #[.slice bG au.far.length bU,.slice bH au.by_.length bV]) Z) (oR Z (zT Z Z (v:=jV di) Z) (oR Z (zT Z Z (v:=.bool dk) Z) (zQ (cs:=[.slice none 0 0,.slice none 0 0]) Z Z Z Z Z Zm Z er ?_))))
 intro fj cS eu
 let B6:List Value:=[.slice bG au.far.length bU,.slice bH au.by_.length bV]
 refine zU (j:=0) (vs:=B6) Z Z Z Z eu Z Z Z Z yH (zA Z) Z Z Z ?_
 intro dw ew
 have ey:SW w [B3,.obj ae (.map af ag)] U cp [.blk cS 118 B6,B4,B5,B3,.obj ae (.map af ag),.blk ak 41 B2,.blk b8 104 B1,.blk b4 104 B0] dw:=ew
 refine oA Z Z (oA Z Z (zh ?_))
 cases cw
 exact zL ⟨rfl,⟨cp,cS,bG,bU,bH,bV,rfl,rfl,rfl,rfl,rfl,eX,(ey.pick [3,4,5,6,7,0,1,2] _ (by decide) rfl)⟩⟩
 let B7:List Value:=[.slice none 0 0,.slice none 0 0]
 refine zQ (cs:=B7) Z Z Z Z Z Zm Z bs ?_
 intro cQ bM eA
 have eE:SW w [B3,.obj ae (.map af ag)] U U [B3,.obj ae (.map af ag),.blk bM 118 B7,.blk ak 41 B2,.blk b8 104 B1,.blk b4 104 B0] cQ:=eA.pick [4,5,0,1,2,3] _ (by decide) rfl
 refine zF 2 Z Z Z Z (zD Z Z Try.call57 (zB Z (zB Z (zB Z zJ))) Z) eE (fun hs=>wBP p0 ax a8 bd a9 be ba bf bb bg ae af ag bc bh (wBE p0.number p1 0) false cQ U hs bZ ca cb cc bi cd c6) (.inl Z) ?_
 rintro cr fc fy dx eY dO ⟨bA,bN,bB,bO,rfl,rfl⟩
 let B8:Res:=.row bA bN 3 1 (hD KL.encI au.far)
 let B9:Res:=.row bB bO 3 1 (hD KL.encI au.by_)
 have dP:SW w [B3,.obj ae (.map af ag)] U cr [B8,B9,B3,.obj ae (.map af ag),.blk bM 118 B7,.blk ak 41 B2,.blk b8 104 B1,.blk b4 104 B0] dx:=dO
 refine oM Z Z (oR Z (zT Z Z (v:=.agg #[.slice bA au.far.length bN,.slice bB au.by_.length bO]) Z) (oR Z (zT Z Z (v:=jV di) Z) (oR Z (zT Z Z (v:=.bool dk) Z) ?_)))
 let cx:List Value:=[.slice bA au.far.length bN,.slice bB au.by_.length bO]
 refine zU (j:=4) (vs:=cx) Z Z Z Z dP Z Z Z Z yH (zA Z) Z Z Z ?_
 intro dl dQ
 have dR:SW w [B3,.obj ae (.map af ag)] U cr [B8,B9,B3,.obj ae (.map af ag),.blk bM 118 cx,.blk ak 41 B2,.blk b8 104 B1,.blk b4 104 B0] dl:=dQ
 refine oA Z Z (oA Z Z (zh ?_))
 cases cw
 exact zL ⟨rfl,⟨cr,bM,bA,bN,bB,bO,rfl,rfl,rfl,rfl,rfl,eY,(dR.pick [2,3,5,6,7,4,0,1] _ (by decide) rfl)⟩⟩
 rintro fz cM ⟨bI,bw,bo,bq,bu,bz,bW,cU,ct,cV,cW,ay,dS⟩
 have q:=bnd df
 obtain ⟨⟨az,cf⟩,eJ,de⟩:=q
 try dsimp only at de
 let bj:Res:=.blk bw 118 [.slice bo a7.length bq,.slice bu cg.length bz]
 let bk:Res:=.row bo bq 3 1 (hD KL.encI a7)
 let bm:Res:=.row bu bz 3 1 (hD KL.encI cg)
 refine yS (fun σ_ w_=>∃ (U_:PHeap) (bJ:Nat) (bn:Option Addr) (bp:Nat) (bt:Option Addr) (bx:Nat),σ_ 0=.pointer (some ⟨ax,0,none⟩)/\σ_ 4=.pointer (some ⟨b4,0,none⟩)/\σ_ 5=.pointer (some ⟨b8,0,none⟩)/\σ_ 6=.pointer (some ⟨ak,0,none⟩)/\σ_ 7=.pointer (some ⟨bw,0,none⟩)/\σ_ 10=.pointer (some ⟨bJ,0,none⟩)/\PHeap.Le bI U_/\SW w [B3,.obj ae (.map af ag)] U U_ [B3,.obj ae (.map af ag),.blk ak 41 B2,.blk b8 104 B1,.blk b4 104 B0,bk,bm,bj,.blk bJ 118 [.slice bn az.length bp,.slice bt cf.length bx],.row bn bp 3 1 (hD KL.encI az),.row bt bx 3 1 (hD KL.encI cf)] w_) ?_ ?_
 have q:=bnd eJ
 obtain ⟨⟨aq,dg,dh⟩,cZ,cu⟩:=q
 try dsimp only at cu
 refine zt zu [3,3,3,3,1,1,1,0,3,3,3,3,2,0,3,3] (wGc (.fx 7 (wHr gDf) (.fx 12 (.fx 7 (wHr gCx) (.stop)) (.stop)))) (by kernel_rfl) ?_
 have br:=dS.drew
 generalize hw_W172:({ cM with drawn:=cM.drawn + 1 }:World)=dm at br ⊢
 refine oM Z bW (oM Z bW (oR Z (ZT Z Z) (oR Z (zE Z Z ZM Z yF) (oL Z (br.ldB (j:=0) Z Z Z yJ (v:=.map (some ae)) Z) (oL Z (br.ldBA (j:=3) Z Z ct zj zH (vs:=B1) Z Z) (oL Z (br.lookup1 (j:=1) (mk:=wBD) (mv:=wBJ) (a:=p2) (z:=0) Z Z Z Z (wBj ZP) wCp zz bi) (zm ?_ ?_)))))))
 have dC:=bZ.le ay
 have dD:=ca.le ay
 have dE:=cb.le ay
 have dH:=cc.le ay
 have dI:=cd.le ay
 refine zF 2 Z Z Z Z (zD Z Z Try.call57 (zB Z (zB Z (zB Z zJ))) Z) br (fun hs=>wBP p0 ax a8 bd a9 be ba bf bb bg ae af ag bc bh (wBE p0.number p2 0) false dm bI hs dC dD dE dH bi dI cZ) (.inl Z) ?_
 rintro cn eZ ft dp eU dU ⟨bC,bQ,bD,bR,rfl,rfl⟩
 let cy:Res:=.row bC bQ 3 1 (hD KL.encI aq.far)
 let cz:Res:=.row bD bR 3 1 (hD KL.encI aq.by_)
 have dV:SW w [B3,.obj ae (.map af ag)] U cn [cy,cz,B3,.obj ae (.map af ag),.blk ak 41 B2,.blk b8 104 B1,.blk b4 104 B0,bj,bk,bm] dp:=dU
 refine oM Z Z (oR Z (zT Z Z (v:=.agg #[.slice bC aq.far.length bQ,.slice bD aq.by_.length bR]) Z) (oR Z (zT Z Z (v:=jV dg) Z) (oR Z (zT Z Z (v:=.bool dh) Z) (zQ (cs:=[.slice none 0 0,.slice none 0 0]) Z Z Z Z Z Zm Z dV ?_))))
 intro fd cR dW
 let cA:List Value:=[.slice bC aq.far.length bQ,.slice bD aq.by_.length bR]
 refine zU (j:=0) (vs:=cA) Z Z Z Z dW Z Z Z Z yH (zA Z) Z Z Z ?_
 intro dq dX
 have dY:SW w [B3,.obj ae (.map af ag)] U cn [.blk cR 118 cA,cy,cz,B3,.obj ae (.map af ag),.blk ak 41 B2,.blk b8 104 B1,.blk b4 104 B0,bj,bk,bm] dq:=dX
 refine oA Z Z (oA Z Z (zh ?_))
 cases cu
 exact zL ⟨rfl,⟨cn,cR,bC,bQ,bD,bR,bW,cU,ct,cV,cW,rfl,eU,(dY.pick [3,4,5,6,7,9,10,8,0,1,2] _ (by decide) rfl)⟩⟩
 let ci:List Value:=[.slice none 0 0,.slice none 0 0]
 refine zQ (cs:=ci) Z Z Z Z Z Zm Z br ?_
 intro cN bL dZ
 have dJ:=bZ.le ay
 have dK:=ca.le ay
 have dL:=cb.le ay
 have dM:=cc.le ay
 have dN:=cd.le ay
 have d7:SW w [B3,.obj ae (.map af ag)] U bI [B3,.obj ae (.map af ag),.blk bL 118 ci,.blk ak 41 B2,.blk b8 104 B1,.blk b4 104 B0,bj,bk,bm] cN:=dZ.pick [1,2,0,3,4,5,6,7,8] _ (by decide) rfl
 refine zF 2 Z Z Z Z (zD Z Z Try.call57 (zB Z (zB Z (zB Z zJ))) Z) d7 (fun hs=>wBP p0 ax a8 bd a9 be ba bf bb bg ae af ag bc bh (wBE p0.number p2 0) false cN bI hs dJ dK dL dM bi dN cZ) (.inl Z) ?_
 rintro co e0 fu dr eV d9 ⟨bE,bS,bF,bT,rfl,rfl⟩
 let cB:Res:=.row bE bS 3 1 (hD KL.encI aq.far)
 let cC:Res:=.row bF bT 3 1 (hD KL.encI aq.by_)
 have ef:SW w [B3,.obj ae (.map af ag)] U co [cB,cC,B3,.obj ae (.map af ag),.blk bL 118 ci,.blk ak 41 B2,.blk b8 104 B1,.blk b4 104 B0,bj,bk,bm] dr:=d9
 refine oM Z Z (oR Z (zT Z Z (v:=.agg #[.slice bE aq.far.length bS,.slice bF aq.by_.length bT]) Z) (oR Z (zT Z Z (v:=jV dg) Z) (oR Z (zT Z Z (v:=.bool dh) Z) ?_)))
 let cD:List Value:=[.slice bE aq.far.length bS,.slice bF aq.by_.length bT]
 refine zU (j:=4) (vs:=cD) Z Z Z Z ef Z Z Z Z yH (zA Z) Z Z Z ?_
 intro dt eg
 have eh:SW w [B3,.obj ae (.map af ag)] U co [cB,cC,B3,.obj ae (.map af ag),.blk bL 118 cD,.blk ak 41 B2,.blk b8 104 B1,.blk b4 104 B0,bj,bk,bm] dt:=eg
 refine oA Z Z (oA Z Z (zh ?_))
 cases cu
 exact zL ⟨rfl,⟨co,bL,bE,bS,bF,bT,bW,cU,ct,cV,cW,rfl,eV,(eh.pick [2,3,5,6,7,9,10,8,4,0,1] _ (by decide) rfl)⟩⟩
 rintro fA cO ⟨cK,bJ,bn,bp,bt,bx,cX,dy,dz,cY,dA,dB,fq,ej⟩
 refine zM (zt zu [3,1,3,3,3,1,1,1,3,1,3,3,1,3,3,3,1,1,1,3,1,3,0] (wMb (.fx 22 .nil .stop)) (by kernel_rfl) ?_)
 have ap:=ej.drew
 generalize hw_W258:({ cO with drawn:=cO.drawn + 1 }:World)=ff at ap ⊢
 refine oR Z (zE Z dB Za Z ZB) (oL Z (ap.ldB (j:=8) Z Z Z ZK (v:=.slice bn az.length bp) Z) (oM Z cX (oR Z (ZT Z Z) (oR Z (zE Z Z ZM Z yF) (oL Z (ap.ldB (j:=0) Z Z Z yJ (v:=.map (some ae)) Z) (oL Z (ap.ldBA (j:=4) Z Z dy zj zH (vs:=B0) Z Z) (oL Z (ap.lookup1 (j:=1) (mk:=wBD) (mv:=wBJ) (a:=p1) (z:=0) Z Z Z Z (wBj ZP) wCp zz bi) (bnK de fun _ bX eH=>?_))))))))
 obtain ⟨fk,da⟩:=ap.rowSome (j:=9) rfl (by rw [wAD (f:=KL.encI) (sz:=1) (fun _=>rfl) az];have hz:=wAS bX;omega)
 refine oR Z (Zd Z Z da Z zK zC (wBu bX) (wBv bX)) ?_
 have eF:=wBL (xs:=az) (wAS bX)
 refine ZF rfl rfl rfl rfl (ap.ldR (j:=9) rfl da rfl rfl zG (wAV (sz:=1) (fun _=>rfl) _ _ 0 _ eF (by first | omega | rfl | simp) rfl)) rfl (zc rfl rfl rfl rfl (fun _=>Runs.negw rfl rfl) (zc rfl rfl rfl rfl (fun _=>zE rfl dA Za rfl ZB) (ZF rfl rfl rfl rfl (ap.ldB (j:=7) rfl rfl rfl ZK (v:=.slice bo a7.length bq) rfl) rfl (zw rfl rfl rfl rfl rfl cX (zc rfl rfl rfl rfl (fun _=>ZT rfl rfl) (zc rfl rfl rfl rfl (fun _=>zE rfl rfl ZM rfl yF) (ZF rfl rfl rfl rfl (ap.ldB (j:=0) rfl rfl rfl yJ (v:=.map (some ae)) rfl) rfl (ZF rfl rfl rfl rfl (ap.ldBA (j:=3) rfl rfl dz zj zH (vs:=B1) rfl rfl) rfl (ZF rfl rfl rfl rfl (ap.lookup1 (j:=1) (mk:=wBD) (mv:=wBJ) (a:=p2) (z:=0) rfl rfl rfl rfl (wBj ZP) wCp zz bi) rfl (bnK eH fun _ bY eI=>?_))))))))))
 obtain ⟨fm,db⟩:=ap.rowSome (j:=5) rfl (by rw [wAD (f:=KL.encI) (sz:=1) (fun _=>rfl) a7];have hz:=wAS bY;omega)
 refine oR Z (Zd Z Z db Z zK zC (wBu bY) (wBv bY)) ?_
 have eG:=wBL (xs:=a7) (wAS bY)
 refine ZF rfl rfl rfl rfl (ap.ldR (j:=5) rfl db rfl rfl zG (wAV (sz:=1) (fun _=>rfl) _ _ 0 _ eG (by first | omega | rfl | simp) rfl)) rfl ?_
 let bv:List Value:=[jV (w64 (-(gd az (wBE p0.number p1 0).toNat))),jV (gd a7 (wBE p0.number p2 0).toNat)]
 refine oR Z (zk (pv:=[(0,jV (w64 (-(gd az (wBE p0.number p1 0).toNat)))),(1,jV (gd a7 (wBE p0.number p2 0).toNat))]) (z:=B2) (cs:=bv) Z (wAH Z (wAH Z wAO)) zi wBd Z Z) (zU (j:=2) (vs:=bv) Z Z Z Z ap Z cY Z Z zZ (zA Z) Z Z Z ?_)
 intro du ek
 have dd:SW w [B3,.obj ae (.map af ag)] U cK [B3,.obj ae (.map af ag),.blk ak 41 bv,.blk b8 104 B1,.blk b4 104 B0,bk,bm,bj,.blk bJ 118 [.slice bn az.length bp,.slice bt cf.length bx],.row bn bp 3 1 (hD KL.encI az),.row bt bx 3 1 (hD KL.encI cf)] du:=ek
 refine eN (zR ?_)
 cases eI
 exact ⟨rfl,_,(wFv (v:=.agg bv.toArray) ⟨⟨_,cY,(wAw Zn zZ (dd.blkAt (k:=2) rfl) (vs:=bv) rfl rfl)⟩,trivial⟩),cK,_,(dd.pick [0,1] _ (by decide) rfl),rfl,rfl⟩
theorem wBS (p0:wAE) (a8:Option Addr) (bc:Nat) (a9:Option Addr) (bd:Nat) (ba:Option Addr) (be:Nat) (bb:Option Addr) (bf:Nat) (p1:wAP) (w:World) (U:PHeap) (hS:St0 w U []) (dd:Sl U 1 a8 bc p0.Starts.length (hD KL.encI p0.Starts)) (de:Sl U 2 a9 bd p0.Splits.length (hD wAC p0.Splits)) (df:Sl U 3 ba be p0.Clocks.length (hD wAA p0.Clocks)) (dg:Sl U 4 bb bf p0.Readings.length (hD wAB p0.Readings)) {r:wAF × Int} (hm:wAZ p0 p1=some r):Gv Try.prog 15 [.agg #[.slice a8 p0.Starts.length bc,.slice a9 p0.Splits.length bd,.slice ba p0.Clocks.length be,.slice bb p0.Readings.length bf],.agg #[jV p1.Skier,jV p1.Mat]] w (wBw w [] U (fun U_ L_ v=>v=.tuple #[.agg #[jV r.1.Lo,jV r.1.Hi],jV r.2]/\L_=[])):=by
 unfold wAZ at hm
 refine Gv.of Try.func15 Z Try.ntmps15 Try.results15 Z (sR (.fx 0 (.fx 1 gCk .stop) .stop) Z ?_)
 let B0:List Value:=[.slice a8 p0.Starts.length bc,.slice a9 p0.Splits.length bd,.slice ba p0.Clocks.length be,.slice bb p0.Readings.length bf]
 refine zy (cs:=B0) rfl rfl rfl rfl rfl rfl (by rfl) hS ?_
 intro W1 b2 cX
 let B1:List Value:=[jV p1.Skier,jV p1.Mat]
 refine zy (cs:=B1) rfl rfl rfl rfl rfl rfl (by rfl) cX ?_
 intro W5 b6 c6
 let B2:List Value:=[jV 0,jV 0]
 refine zQ (cs:=B2) Z Z Z Z Z zi Z c6 ?_
 intro W9 ah bn
 refine oA Z Z (eN (sR (.fl 0 (.fl 1 (.fx 2 (.fx 3 (wLh (.nil)) .stop) .stop))) Z (oL Z (bn.ldBA (j:=2) Z Z Z zf zY (vs:=B0) Z Z) (oL Z (bn.ldBA (j:=1) Z Z Z ZY ZG (vs:=B1) Z Z) (zr (pv:=[(0,.agg B1.toArray)]) (zs:=B2) (cs:=B1) Z Z Z Z Z (wAH Z wAO) Zq ZG Zu Z Z Z Z Z bn ?_)))))
 intro bi bD cS
 have cU:sW w U U [.row (some ⟨bD,0,none⟩) 1 45 2 (hD wAT [p1]),.blk ah 41 B2,.blk b6 45 B1,.blk b2 28 B0] bi:=cS
 have q:=cU.freezeR (k:=0) (n:=[p1].length) rfl (wAD (f:=wAT) (sz:=2) (fun _=>rfl) [p1]) (by decide)
 obtain ⟨bw,a7,du,cV⟩:=q
 have cW:sW w U bw [.blk ah 41 B2,.blk b6 45 B1,.blk b2 28 B0] bi:=cV
 have cu:=dd.le a7
 have cw:=de.le a7
 have cx:=df.le a7
 have cy:=dg.le a7
 have q:=bnd hm
 obtain ⟨⟨dw,bg⟩,cz,aw⟩:=q
 try dsimp only at aw
 refine zF 0 Z Z Z Z (zD Z Z Try.call46 (zB Z (zB Z zJ)) Z) cW (fun hs=>wDs p0 a8 bc a9 bd ba be bb bf [p1] (some ⟨bD,0,none⟩) 1 bi bw hs cu cw cx cy du cz) (.inr Z) ?_
 rintro am dA dR au dL bN bJ
 rcases dw with _ | av
 try dsimp only at aw
 obtain ⟨rfl,rfl⟩:=bJ
 have bO:sW w U am [.blk ah 41 B2,.blk b6 45 B1,.blk b2 28 B0] au:=bN
 refine oM Z Z (oR Z (zT Z Z (v:=.pointer none) Z) (oR Z (zT Z Z (v:=jV bg) Z) (oA Z Z (oA Z Z (eN (zM (sR fL2 Z (oM Z Z (oR Z (Ze Z Z Z) (eN (ifc aw ?_ ?_)))))))))))
 intro bk dl
 refine ZE (ZD (fun h=>h bk.out)) (kN (zM (zt zu [3,2,1,2,0,0,3] gDy (by kernel_rfl) ?_)))
 have bo:=bO.drew
 generalize hw_W57:({ au with drawn:=au.drawn + 1 }:World)=bX at bo ⊢
 refine oM Z Z (oL Z (bo.ldBA (j:=1) Z Z Z ZY ZG (vs:=B1) Z Z) (bnK dl fun dU cA dm=>zF 0 Z Z Z Z (zD Z Z yG zJ Z) bo (fun hs=>wAl bX am hs cA) (.inr Z) ?_))
 rintro bx dB dS bC dM cY ⟨rfl,rfl⟩
 have cZ:sW w U bx [.blk ah 41 B2,.blk b6 45 B1,.blk b2 28 B0] bC:=cY
 refine bnK dm fun dV cB dp=>zF 0 Z Z Z Z (zD Z Z yL (zB Z zJ) Z) cZ (fun hs=>wBQ p1 bC bx hs cB) (.inr Z) ?_
 rintro bT dC dT bY dN da ⟨rfl,rfl⟩
 have dJ:sW w U bT [.blk ah 41 B2,.blk b6 45 B1,.blk b2 28 B0] bY:=da
 cases dp
 intro bk dq
 refine cT Z bk (sR gDd Z (oR Z (zk (pv:=[]) (z:=B2) (cs:=B2) Z wAO zi wBd Z Z) (oM Z Z (zU (j:=0) (vs:=B2) Z Z Z Z bO Z Z Z Z zZ (zA Z) Z Z Z ?_))))
 intro bZ db
 have bQ:sW w U am [.blk ah 41 B2,.blk b6 45 B1,.blk b2 28 B0] bZ:=db
 refine oA Z Z (eN (zR (zW ?_)))
 cases dq
 exact ⟨rfl,_,(wDg (rs:=[.cell 4 41,.tmp 5]) (vs:=[.agg B2.toArray,jV bg]) ⟨⟨_,rfl,(wAw Zn zZ (bQ.blkAt (k:=0) rfl) (vs:=B2) rfl rfl)⟩,⟨rfl,trivial⟩⟩ rfl),am,_,(bQ.pick [] _ (by decide) rfl),rfl,rfl⟩
 try dsimp only at aw
 obtain ⟨bj,bq,bE,br,bF,bs,bG,bt,bH,an,ap,ao,bu,bI,rfl,rfl,cC,cD,cE,cG,cH,cI⟩:=bJ
 let B3:Res:=.blk bj 124 [.slice bq av.Race.Starts.length bE,.slice br av.Race.Splits.length bF,.slice bs av.Race.Clocks.length bG,.slice bt av.Race.Readings.length bH,.map (some an),.slice bu av.edges.length bI]
 have bR:sW w U am [B3,.obj an (.map ap ao),.blk ah 41 B2,.blk b6 45 B1,.blk b2 28 B0] au:=bN
 refine oM Z Z (oR Z (zT Z Z (v:=.pointer (some ⟨bj,0,none⟩)) Z) (oR Z (zT Z Z (v:=jV bg) Z) (oA Z Z (oA Z Z (eN (zM (sR fL2 Z (oM Z Z (oR Z (Ze Z Z Z) (eN (ifc aw ?_ ?_)))))))))))
 intro bm dr
 refine ZE (ZD (fun h=>h bm.out)) (kN (zM (zt zu [3,2,1,2,0,0,3] gDy (by kernel_rfl) ?_)))
 have bp:=bR.drew
 generalize hw_W94:({ au with drawn:=au.drawn + 1 }:World)=ca at bp ⊢
 refine oM Z Z (oL Z (bp.ldBA (j:=3) Z Z Z ZY ZG (vs:=B1) Z Z) (bnK dr fun dx cJ dt=>zF 0 Z Z Z Z (zD Z Z yG zJ Z) bp (fun hs=>wAl ca am hs cJ) (.inr Z) ?_))
 rintro bz dD dO bA ax cK ⟨rfl,rfl⟩
 have cL:sW w U bz [B3,.obj an (.map ap ao),.blk ah 41 B2,.blk b6 45 B1,.blk b2 28 B0] bA:=cK
 refine bnK dt fun dv cb dh=>zF 0 Z Z Z Z (zD Z Z yL (zB Z zJ) Z) cL (fun hs=>wBQ p1 bA bz hs cb) (.inr Z) ?_
 rintro bv dy dP bB ay cM ⟨rfl,rfl⟩
 have cN:sW w U bv [B3,.obj an (.map ap ao),.blk ah 41 B2,.blk b6 45 B1,.blk b2 28 B0] bB:=cM
 have cc:=cC.le ax
 have cd:=cc.le ay
 have cf:=cD.le ax
 have cg:=cf.le ay
 have ci:=cE.le ax
 have cm:=ci.le ay
 have cn:=cG.le ax
 have co:=cn.le ay
 have cp:=cI.le ax
 have cr:=cp.le ay
 refine bnK dh fun bS ct di=>zF 2 Z Z Z Z (zD Z Z yl (zB Z (zB Z (zB Z zJ))) Z) cN (fun hs=>wAd av bj bq bE br bF bs bG bt bH an ap ao bu bI dx dv bB bv hs cd cg cm co cH cr ct) (.inl Z) ?_
 rintro bh dz dQ bU dK cO ⟨rfl,rfl⟩
 have cP:sW w U bh [B3,.obj an (.map ap ao),.blk ah 41 B2,.blk b6 45 B1,.blk b2 28 B0] bU:=cO
 let B4:List Value:=[jV bS.Lo,jV bS.Hi]
 refine zU (j:=2) (vs:=B4) Z Z Z Z cP Z Z Z Z zZ (zA Z) Z Z Z ?_
 intro bV cQ
 have bL:sW w U bh [B3,.obj an (.map ap ao),.blk ah 41 B4,.blk b6 45 B1,.blk b2 28 B0] bV:=cQ
 refine oA Z Z (eN (zR ?_))
 cases di
 exact ⟨rfl,_,(wDg (rs:=[.cell 4 41,.tmp 5]) (vs:=[.agg B4.toArray,jV 0]) ⟨⟨_,rfl,(wAw Zn zZ (bL.blkAt (k:=2) rfl) (vs:=B4) rfl rfl)⟩,⟨rfl,trivial⟩⟩ rfl),bh,_,(bL.pick [] _ (by decide) rfl),rfl,rfl⟩
 intro bm dk
 refine cT Z bm (sR gDd Z (oR Z (zk (pv:=[]) (z:=B2) (cs:=B2) Z wAO zi wBd Z Z) (oM Z Z (zU (j:=2) (vs:=B2) Z Z Z Z bR Z Z Z Z zZ (zA Z) Z Z Z ?_))))
 intro bW cR
 have bM:sW w U am [B3,.obj an (.map ap ao),.blk ah 41 B2,.blk b6 45 B1,.blk b2 28 B0] bW:=cR
 refine oA Z Z (eN (zR (zW ?_)))
 cases dk
 exact ⟨rfl,_,(wDg (rs:=[.cell 4 41,.tmp 5]) (vs:=[.agg B2.toArray,jV bg]) ⟨⟨_,rfl,(wAw Zn zZ (bM.blkAt (k:=2) rfl) (vs:=B2) rfl rfl)⟩,⟨rfl,trivial⟩⟩ rfl),am,_,(bM.pick [] _ (by decide) rfl),rfl,rfl⟩
end Go.Proofs.Ytlnfbjphfoipaaa
