import Derived.Test.YtlnfbjphfoipaaaP4
import Derived.Test.YtlnfbjphfoipaaaP3
import Derived.Test.YtlnfbjphfoipaaaP5
import Derived.Test.YtlnfbjphfoipaaaP6
set_option linter.all false
open List renaming flatMap->hD,getElem_cons_succ->nA,getElem_cons_zero->nB,getElem_toArray->nD
open Option.some renaming inj->hH
open Go.Value renaming bool->hJ
open Bool renaming eq_false_iff->hU
namespace Go.Proofs.Ytlnfbjphfoipaaa
open Go.KL
def gEz:Sch:=.fl 0 (.fx 1 .nil .stop)
def gFa:Sch:=.fx 3 (.fx 5 .nil .stop) .stop
def gFb:Sch:=.fx 0 (.fl 1 .nil) .stop
def gFc:Sch:=.fx 2 (.fx 3 .nil .stop) .stop
def gFd:Sch:=.fx 6 (.fx 7 (.fl 8 .nil) .stop) .stop
def gFe:Sch:=.fl 0 (.fx 1 (.fl 2 .nil) .stop)
def gFf:Sch:=.fx 3 (.fl 4 (.fx 5 .nil .stop)) .stop
def gFg:Sch:=.fl 0 (.fx 1 gFc .stop)
def gFh:Sch:=.fx 3 (.fx 4 (.fl 5 (.fx 6 .nil .stop)) .stop) .stop
set_option maxHeartbeats 4000000
theorem wEC (p0:List wAK) (ao:Option Addr) (aq:Nat) (p1:List wAK) (ap:Option Addr) (au:Nat) (w:World) (φ:PHeap) (hS:St0 w φ []) (aY:Sl φ 2 ao aq p0.length (hD wAE p0)) (aZ:Sl φ 2 ap au p1.length (hD wAE p1)) {r:Bool} (hm:wCA p0 p1=some r):Gv Try.prog 18 [.slice ao p0.length aq,.slice ap p1.length au] w (wCF w [] φ (fun φ_ L_ v=>v=.bool r/\L_=[])):=by
 unfold wCA at hm
 refine Gv.of Try.func18 Z Try.ntmps18 Try.results18 Z (sR fL1 Z (oA Z Z (eN (zL (sR fL5 Z (oM Z Z (oR Z (zq Z Z ZP) (oM Z Z (oR Z (zq Z Z ZP) (oR Z (ZZ Z Z Z) (eN ?_)))))))))))
 by_cases c1:(↑p0.length:Int)=(↑p1.length:Int)
 have ag:=hm;rw [if_pos c1] at ag;replace c1:=zM c1
 refine zt (zw (fun h=>h c1.out)) (kN (zL (sR fL3 Z (oM Z Z (oR Z (zq Z Z ZP) (oM Z Z (eN (zY ?_))))))))
 have q:=wBa ag
 obtain ⟨r5,aj⟩:=q
 have q:=wBZ aj
 obtain ⟨am,a7⟩:=q
 replace am:=zM am
 refine yH (fun k4 _ σ_ w_=>∃ (φ_:PHeap),σ_ 13=jV (↑k4:Int)/\σ_ 0=.slice ao p0.length aq/\σ_ 1=.slice ap p1.length au/\σ_ 12=jV (↑p0.length:Int)/\PHeap.Le φ φ_/\sW w φ φ_ [] w_) a7 ?_ ?_ ?_
 exact ⟨φ,Z,Z,Z,Z,(zO _),hS⟩
 rintro k4 ⟨⟩ bs bu ay ak ⟨aL,ai,aD,aE,aF,an,aW⟩ aK a5
 try dsimp only at aK
 have az:Hid ((↑k4:Int) < (↑p0.length:Int)):=zM (wAs ak)
 replace ak:=zM ak
 have a8:Hid (w64 ((↑k4:Int) + 1)=(↑(k4 + 1):Int)):=zM (by have h1:=am.out;have h2:=az.out;rw [wAT] <;> omega)
 refine sR fL1 rfl (zg rfl rfl rfl rfl (fun _=>zc rfl ai aF) (eN (zL (cT Z az (kN (zL (zY (sR fL2 rfl (zk rfl rfl rfl rfl rfl ai (yK rfl rfl rfl rfl rfl rfl (eN (zL (ZE ZF [3,3,3,1,3,3,3,1,3] fL9 (by kernel_rfl) ?_)))))))))))))
 have ae:=aW.drew
 generalize hw_W25:({ ay with drawn:=ay.drawn + 1 }:World)=bg at ae ⊢
 refine oM Z aD (oM Z Z (bnK aK fun av aG a9=>?_))
 have aQ:=aY.le an
 have q:=aQ.el (fun _=>rfl) (wAX aG)
 obtain ⟨bi,bp,aS,aU⟩:=q
 refine oR Z (Zc Z Z aS Z ZP ZA (wBQ aG)) (oL Z (ae.ldCA (f:=0) aU Z Z yA ZA (us:=[jV av.Lo,jV av.Hi]) Z Z) (oM Z aE (oM Z Z (bnK a9 fun ax aH ba=>?_))))
 have aR:=aZ.le an
 have q:=aR.el (fun _=>rfl) (wAX aH)
 obtain ⟨bj,bq,aT,aV⟩:=q
 refine oR Z (Zc Z Z aT Z ZP ZA (wBQ aH)) (oL Z (ae.ldCA (f:=0) aV Z Z yA ZA (us:=[jV ax.Lo,jV ax.Hi]) Z Z) (oR Z (ZG (Runs.neS (enc:=wAE) (a:=av) (b:=ax) Z Z Z wKl wKk) (congrArg hJ (decide_not).symm)) (eN (ifc ba ?_ ?_))))
 intro ah bb
 refine zt (zw (fun h=>h ah.out)) (Zh (zo (zH (rR fL2 Z (oR Z (ZG (za Z ai Z) (congrArg (jV) a8.out)) (oM Z Z (zb ?_)))))))
 have q:=hH bb
 obtain rfl:=q
 exact zH ⟨Z,_,Z,⟨aL,Z,aD,aE,aF,an,ae⟩⟩
 intro ah bc
 refine cT Z ah (sR fL1 Z (oA Z Z (eN (zS (ze (zR ?_))))))
 have q:=wAZ bc
 obtain ⟨be,bd,aN⟩:=q
 have q:=wBI ag aj (a5 be aN)
 obtain rfl:=q
 refine zR (ze (zR ?_))
 have hE:=hH bd;first | subst r | cases hE
 exact ⟨Z,_,(ZM Z),aL,_,ae,Z,Z⟩
 rintro ⟨⟩ bt bh ⟨bf,aP,bm,bn,aO,bo,aX⟩ a6
 have aI:=wCO ag aj a6
 try dsimp only at aI
 have aM:Hid (¬ ((↑(((↑p0.length:Int):Int) - 0).toNat:Int) < (↑p0.length:Int))):=zM (wAc)
 refine sR fL1 Z (oR Z (zc Z aP aO) (eN (zL (cF Z aM (Za (zi (zi (ZQ (zH (sR fL1 Z (oA Z Z (eN (zS ?_)))))))))))))
 have hE:=hH aI;first | subst r | cases hE
 exact ⟨Z,_,(ZM Z),bf,_,aX,Z,Z⟩
 have aJ:=hm;rw [if_neg c1] at aJ;replace c1:=zM c1
 refine cT Z c1 (sR fL1 Z (oA Z Z (eN (zS (zR ?_)))))
 have hE:=hH aJ;first | subst r | cases hE
 exact ⟨Z,_,(ZM Z),φ,_,hS,Z,Z⟩
theorem wDv (p0:List wAS) (ao:Option Addr) (aq:Nat) (p1:List wAS) (ap:Option Addr) (au:Nat) (w:World) (φ:PHeap) (hS:St0 w φ []) (aY:Sl φ 2 ao aq p0.length (hD wAU p0)) (aZ:Sl φ 2 ap au p1.length (hD wAU p1)) {r:Bool} (hm:wBt p0 p1=some r):Gv Try.prog 54 [.slice ao p0.length aq,.slice ap p1.length au] w (wCF w [] φ (fun φ_ L_ v=>v=.bool r/\L_=[])):=by
 unfold wBt at hm
 refine Gv.of Try.func54 Z Try.ntmps54 Try.results54 Z (sR fL1 Z (oA Z Z (eN (zL (sR fL5 Z (oM Z Z (oR Z (zq Z Z Zu) (oM Z Z (oR Z (zq Z Z Zu) (oR Z (ZZ Z Z Z) (eN ?_)))))))))))
 by_cases c1:(↑p0.length:Int)=(↑p1.length:Int)
 have ag:=hm;rw [if_pos c1] at ag;replace c1:=zM c1
 refine zt (zw (fun h=>h c1.out)) (kN (zL (sR fL3 Z (oM Z Z (oR Z (zq Z Z Zu) (oM Z Z (eN (zY ?_))))))))
 have q:=wBa ag
 obtain ⟨r5,aj⟩:=q
 have q:=wBZ aj
 obtain ⟨am,a7⟩:=q
 replace am:=zM am
 refine yH (fun k4 _ σ_ w_=>∃ (φ_:PHeap),σ_ 13=jV (↑k4:Int)/\σ_ 0=.slice ao p0.length aq/\σ_ 1=.slice ap p1.length au/\σ_ 12=jV (↑p0.length:Int)/\PHeap.Le φ φ_/\sW w φ φ_ [] w_) a7 ?_ ?_ ?_
 exact ⟨φ,Z,Z,Z,Z,(zO _),hS⟩
 rintro k4 ⟨⟩ bs bu ay ak ⟨aL,ai,aD,aE,aF,an,aW⟩ aK a5
 try dsimp only at aK
 have az:Hid ((↑k4:Int) < (↑p0.length:Int)):=zM (wAs ak)
 replace ak:=zM ak
 have a8:Hid (w64 ((↑k4:Int) + 1)=(↑(k4 + 1):Int)):=zM (by have h1:=am.out;have h2:=az.out;rw [wAT] <;> omega)
 refine sR fL1 rfl (zg rfl rfl rfl rfl (fun _=>zc rfl ai aF) (eN (zL (cT Z az (kN (zL (zY (sR fL2 rfl (zk rfl rfl rfl rfl rfl ai (yK rfl rfl rfl rfl rfl rfl (eN (zL (ZE ZF [3,3,3,1,3,3,3,1,3] fL9 (by kernel_rfl) ?_)))))))))))))
 have ae:=aW.drew
 generalize hw_W25:({ ay with drawn:=ay.drawn + 1 }:World)=bg at ae ⊢
 refine oM Z aD (oM Z Z (bnK aK fun av aG a9=>?_))
 have aQ:=aY.le an
 have q:=aQ.el (fun _=>rfl) (wAX aG)
 obtain ⟨bi,bp,aS,aU⟩:=q
 refine oR Z (Zc Z Z aS Z Zu Zf (wBQ aG)) (oL Z (ae.ldCA (f:=0) aU Z Z yF Zf (us:=[jV av.Skier,jV av.Mat]) Z Z) (oM Z aE (oM Z Z (bnK a9 fun ax aH ba=>?_))))
 have aR:=aZ.le an
 have q:=aR.el (fun _=>rfl) (wAX aH)
 obtain ⟨bj,bq,aT,aV⟩:=q
 refine oR Z (Zc Z Z aT Z Zu Zf (wBQ aH)) (oL Z (ae.ldCA (f:=0) aV Z Z yF Zf (us:=[jV ax.Skier,jV ax.Mat]) Z Z) (oR Z (ZG (Runs.neS (enc:=wAU) (a:=av) (b:=ax) Z Z Z wMi wMh) (congrArg hJ (decide_not).symm)) (eN (ifc ba ?_ ?_))))
 intro ah bb
 refine zt (zw (fun h=>h ah.out)) (Zh (zo (zH (rR fL2 Z (oR Z (ZG (za Z ai Z) (congrArg (jV) a8.out)) (oM Z Z (zb ?_)))))))
 have q:=hH bb
 obtain rfl:=q
 exact zH ⟨Z,_,Z,⟨aL,Z,aD,aE,aF,an,ae⟩⟩
 intro ah bc
 refine cT Z ah (sR fL1 Z (oA Z Z (eN (zS (ze (zR ?_))))))
 have q:=wAZ bc
 obtain ⟨be,bd,aN⟩:=q
 have q:=wBI ag aj (a5 be aN)
 obtain rfl:=q
 refine zR (ze (zR ?_))
 have hE:=hH bd;first | subst r | cases hE
 exact ⟨Z,_,(ZM Z),aL,_,ae,Z,Z⟩
 rintro ⟨⟩ bt bh ⟨bf,aP,bm,bn,aO,bo,aX⟩ a6
 have aI:=wCO ag aj a6
 try dsimp only at aI
 have aM:Hid (¬ ((↑(((↑p0.length:Int):Int) - 0).toNat:Int) < (↑p0.length:Int))):=zM (wAc)
 refine sR fL1 Z (oR Z (zc Z aP aO) (eN (zL (cF Z aM (Za (zi (zi (ZQ (zH (sR fL1 Z (oA Z Z (eN (zS ?_)))))))))))))
 have hE:=hH aI;first | subst r | cases hE
 exact ⟨Z,_,(ZM Z),bf,_,aX,Z,Z⟩
 have aJ:=hm;rw [if_neg c1] at aJ;replace c1:=zM c1
 refine cT Z c1 (sR fL1 Z (oA Z Z (eN (zS (zR ?_)))))
 have hE:=hH aJ;first | subst r | cases hE
 exact ⟨Z,_,(ZM Z),φ,_,hS,Z,Z⟩
theorem wCJ  (w:World) (φ:PHeap) (hS:St0 w φ [])  {r:wAC} (hm:wBP =some r):Gv Try.prog 55 [] w (wCF w [] φ (fun φ_ L_ v=>∃ (aE:Option Addr) (aK:Nat) (aF:Option Addr) (aL:Nat) (aG:Option Addr) (aM:Nat) (aH:Option Addr) (aN:Nat),v=.agg #[.slice aE r.Starts.length aK,.slice aF r.Splits.length aL,.slice aG r.Clocks.length aM,.slice aH r.Readings.length aN]/\L_=[.row aE aK 3 1 (hD KL.encI r.Starts),.row aF aL 41 2 (hD wAE r.Splits),.row aG aM 43 3 (hD wAB r.Clocks),.row aH aN 39 4 (hD wAA r.Readings)])):=by
 unfold wBP at hm
 refine Gv.of Try.func55 Z Try.ntmps55 Try.results55 Z (sR (.fx 0 .nil .stop) Z ?_)
 let B0:List Value:=[.slice none 0 0,.slice none 0 0,.slice none 0 0,.slice none 0 0]
 refine zV (cs:=B0) Z Z Z Z Z Zw Z hS ?_
 intro W1 b2 aZ
 refine eN (sR (.fx 0 (.fx 1 (.fx 2 .nil .stop) .stop) .stop) Z (bnK hm fun x5 h6 bb=>zF 0 Z Z Z Z (zD Z Z Try.call52 zN Z) aZ (fun hs=>wBV W1 φ hs h6) (.inr Z) ?_))
 rintro aj L9 bg aS bf aW ⟨am,av,an,ax,ao,ay,ae,ai,rfl,rfl⟩
 let B1:Res:=.row ao ay 43 3 (hD wAB x5.Clocks)
 let B2:Res:=.row an ax 41 2 (hD wAE x5.Splits)
 let B3:Res:=.row am av 3 1 (hD KL.encI x5.Starts)
 let B4:Res:=.row ae ai 39 4 (hD wAA x5.Readings)
 have aX:sW w φ aj [B3,B2,B1,B4,.blk b2 28 B0] aS:=aW
 refine zV (cs:=B0) Z Z Z Z Z Zw Z aX ?_
 intro bd au aY
 let B5:List Value:=[.slice am x5.Starts.length av,.slice an x5.Splits.length ax,.slice ao x5.Clocks.length ay,.slice ae x5.Readings.length ai]
 refine zW (j:=0) (vs:=B5) Z Z Z Z aY Z Z Z Z zX (zA Z) Z Z Z ?_
 intro aT a5
 have aD:sW w φ aj [.blk au 28 B5,B3,B2,B1,B4,.blk b2 28 B0] aT:=a5
 refine eN (sR (wEI (.fx 4 .nil .stop)) Z (oR Z (zG Z Z zK Z ZH) (oL Z (aD.ldB (j:=0) Z Z Z Zi (v:=.slice ae x5.Readings.length ai) Z) (bnK bb fun _ az ba=>?_))))
 obtain ⟨be,aO⟩:=aD.rowSome (j:=4) rfl (by rw [wAD (f:=wAA) (sz:=4) (fun _=>rfl) x5.Readings];have hz:=wAY az;omega)
 refine oR Z (Zc Z Z aO Z zn ZC (wAY az)) (oR Z (zG Z Z zx Z zC) ?_)
 have a9:=wBr (xs:=x5.Readings) (wAY az)
 refine yk (j:=4) (vs:=[jV 1700]) (cs':=hD wAA (List.set x5.Readings 1 (⟨(gd x5.Readings 1).Skier,(gd x5.Readings 1).Mat,(gd x5.Readings 1).Clock,1700⟩:wAI))) rfl rfl rfl rfl aD rfl aO rfl rfl rfl zC (by rw [wAD (f:=wAA) (sz:=4) (fun _=>rfl)];try (have hz:=wAY az;show _ + 1 <= _;first | omega | (simp only [Int.toNat_natCast];omega) | (simp only [nD,nA,nB];omega))) rfl (wDJ (sz:=4) (fo:=3) (fun _=>rfl) _ _ _ _ a9 (by first | omega | rfl | (simp only [Int.toNat_natCast];omega) | (simp only [nD,nA,nB];omega)) (zA rfl) rfl) rfl ?_
 intro aJ a6
 let B6:Res:=.row ae ai 39 4 (hD wAA (List.set x5.Readings 1 (⟨(gd x5.Readings 1).Skier,(gd x5.Readings 1).Mat,(gd x5.Readings 1).Clock,1700⟩:wAI)))
 have a7:sW w φ aj [.blk au 28 B5,B3,B2,B1,B6,.blk b2 28 B0] aJ:=a6
 let B7:List Value:=[.slice am x5.Starts.length av,.slice an x5.Splits.length ax,.slice ao x5.Clocks.length ay,.slice ae ((List.set x5.Readings 1 (⟨(gd x5.Readings 1).Skier,(gd x5.Readings 1).Mat,(gd x5.Readings 1).Clock,1700⟩:wAI)).length) ai]
 have aP:sW w φ aj [.blk au 28 B7,B3,B2,B1,B6,.blk b2 28 B0] aJ:=by simpa only [B0,B1,B2,B3,B5,B6,B7,List.length_set] using a7
 refine eN (sR gEz Z (oL Z (aP.ldBA (j:=0) Z Z Z zf zX (vs:=B7) Z Z) (zW (j:=5) (vs:=B7) Z Z Z Z aP Z Z Z Z zX (zA Z) Z Z Z ?_)))
 intro aU a8
 have aQ:sW w φ aj [.blk au 28 B7,B3,B2,B1,B6,.blk b2 28 B7] aU:=a8
 refine eN (zS ?_)
 cases ba
 exact ⟨rfl,_,(wGV (v:=.agg B7.toArray) ⟨⟨_,rfl,(wBA zf zX (aQ.blkAt (k:=5) rfl) (vs:=B7) rfl rfl)⟩,trivial⟩),aj,_,(aQ.pick [1,2,3,4] _ (by decide) rfl),am,av,an,ax,ao,ay,ae,ai,rfl,rfl⟩
theorem wDZ (p0:List Int) (ao:Option Addr) (aq:Nat) (p1:List Int) (ap:Option Addr) (au:Nat) (w:World) (φ:PHeap) (hS:St0 w φ []) (aW:Sl φ 1 ao aq p0.length (hD KL.encI p0)) (aX:Sl φ 1 ap au p1.length (hD KL.encI p1)) {r:Bool} (hm:wCC p0 p1=some r):Gv Try.prog 56 [.slice ao p0.length aq,.slice ap p1.length au] w (wCF w [] φ (fun φ_ L_ v=>v=.bool r/\L_=[])):=by
 unfold wCC at hm
 refine Gv.of Try.func56 Z Try.ntmps56 Try.results56 Z (sR fL1 Z (oA Z Z (eN (zL (sR fL5 Z (oM Z Z (oR Z (zq Z Z zE) (oM Z Z (oR Z (zq Z Z zE) (oR Z (ZZ Z Z Z) (eN ?_)))))))))))
 by_cases c1:(↑p0.length:Int)=(↑p1.length:Int)
 have ag:=hm;rw [if_pos c1] at ag;replace c1:=zM c1
 refine zt (zw (fun h=>h c1.out)) (kN (zL (sR fL3 Z (oM Z Z (oR Z (zq Z Z zE) (oM Z Z (eN (zY ?_))))))))
 have q:=wBa ag
 obtain ⟨r5,aj⟩:=q
 have q:=wBZ aj
 obtain ⟨am,a5⟩:=q
 replace am:=zM am
 refine yH (fun k4 _ σ_ w_=>∃ (φ_:PHeap),σ_ 13=jV (↑k4:Int)/\σ_ 0=.slice ao p0.length aq/\σ_ 1=.slice ap p1.length au/\σ_ 12=jV (↑p0.length:Int)/\PHeap.Le φ φ_/\sW w φ φ_ [] w_) a5 ?_ ?_ ?_
 exact ⟨φ,Z,Z,Z,Z,(zO _),hS⟩
 rintro k4 ⟨⟩ bs bu av ak ⟨aJ,ai,ay,az,aD,an,aU⟩ aI aY
 try dsimp only at aI
 have ax:Hid ((↑k4:Int) < (↑p0.length:Int)):=zM (wAs ak)
 replace ak:=zM ak
 have a6:Hid (w64 ((↑k4:Int) + 1)=(↑(k4 + 1):Int)):=zM (by have h1:=am.out;have h2:=ax.out;rw [wAT] <;> omega)
 refine sR fL1 rfl (zg rfl rfl rfl rfl (fun _=>zc rfl ai aD) (eN (zL (cT Z ax (kN (zL (zY (sR fL2 rfl (zk rfl rfl rfl rfl rfl ai (yK rfl rfl rfl rfl rfl rfl (eN (zL (ZE ZF [3,3,3,1,3,3,3,1,3] fL9 (by kernel_rfl) ?_)))))))))))))
 have ae:=aU.drew
 generalize hw_W25:({ av with drawn:=av.drawn + 1 }:World)=bg at ae ⊢
 refine oM Z ay (oM Z Z (bnK aI fun bd aE a7=>?_))
 have aO:=aW.le an
 have q:=aO.el (fun _=>rfl) (wAX aE)
 obtain ⟨bi,bp,aQ,aS⟩:=q
 refine oR Z (Zc Z Z aQ Z zE zC (wBQ aE)) (oL Z (ae.ldC (f:=0) aS (v:=jV bd) Z Z zJ Z) (oM Z az (oM Z Z (bnK a7 fun be aF a8=>?_))))
 have aP:=aX.le an
 have q:=aP.el (fun _=>rfl) (wAX aF)
 obtain ⟨bj,bq,aR,aT⟩:=q
 refine oR Z (Zc Z Z aR Z zE zC (wBQ aF)) (oL Z (ae.ldC (f:=0) aT (v:=jV be) Z Z zJ Z) (oR Z (ZZ Z Z Z) (eN (ifc a8 ?_ ?_))))
 intro ah a9
 refine zt (zw (fun h=>h ah.out)) (Zh (zo (zH (rR fL2 Z (oR Z (ZG (za Z ai Z) (congrArg (jV) a6.out)) (oM Z Z (zb ?_)))))))
 have q:=hH a9
 obtain rfl:=q
 exact zH ⟨Z,_,Z,⟨aJ,Z,ay,az,aD,an,ae⟩⟩
 intro ah ba
 refine cT Z ah (sR fL1 Z (oA Z Z (eN (zS (ze (zR ?_))))))
 have q:=wAZ ba
 obtain ⟨bc,bb,aL⟩:=q
 have q:=wBI ag aj (aY bc aL)
 obtain rfl:=q
 refine zR (ze (zR ?_))
 have hE:=hH bb;first | subst r | cases hE
 exact ⟨Z,_,(ZM Z),aJ,_,ae,Z,Z⟩
 rintro ⟨⟩ bt bh ⟨bf,aN,bm,bn,aM,bo,aV⟩ aZ
 have aG:=wCO ag aj aZ
 try dsimp only at aG
 have aK:Hid (¬ ((↑(((↑p0.length:Int):Int) - 0).toNat:Int) < (↑p0.length:Int))):=zM (wAc)
 refine sR fL1 Z (oR Z (zc Z aN aM) (eN (zL (cF Z aK (Za (zi (zi (ZQ (zH (sR fL1 Z (oA Z Z (eN (zS ?_)))))))))))))
 have hE:=hH aG;first | subst r | cases hE
 exact ⟨Z,_,(ZM Z),bf,_,aV,Z,Z⟩
 have aH:=hm;rw [if_neg c1] at aH;replace c1:=zM c1
 refine cT Z c1 (sR fL1 Z (oA Z Z (eN (zS (zR ?_)))))
 have hE:=hH aH;first | subst r | cases hE
 exact ⟨Z,_,(ZM Z),φ,_,hS,Z,Z⟩
theorem wDt  (w:World) (φ:PHeap) (hS:St0 w φ [])  {r:Bool} (hm:wBD =some r):Gv Try.prog 19 [] w (wCF w [] φ (fun φ_ L_ v=>v=.bool r/\L_=[])):=by
 unfold wBD at hm
 refine Gv.of Try.func19 Z Try.ntmps19 Try.results19 Z (sR fL1 Z (oA Z Z (eN (sR (.fx 0 (.fx 1 (.fx 2 (wMD gFd) .stop) .stop) .stop) Z (bnK hm fun x1 h2 qs=>zF 0 Z Z Z Z (zD Z Z Try.call52 zN Z) hS (fun hs=>wBV w φ hs h2) (.inr Z) ?_)))))
 rintro gW L5 v6 W7 vb p8 ⟨cP,eJ,cQ,eK,cR,eL,cS,eV,rfl,rfl⟩
 let B0:Res:=.row cS eV 39 4 (hD wAA x1.Readings)
 let B1:Res:=.row cR eL 43 3 (hD wAB x1.Clocks)
 let B2:Res:=.row cQ eK 41 2 (hD wAE x1.Splits)
 let B3:Res:=.row cP eJ 3 1 (hD KL.encI x1.Starts)
 have mg:sW w φ gW [B3,B2,B1,B0] W7:=p8
 refine bnK qs fun sT ji qp=>zF 0 Z Z Z Z (zD Z Z Try.call16 (zB Z (zB Z zN)) Z) mg (fun hs=>wBN 0 2 W7 gW hs ji) (.inr Z) ?_
 rintro tc t5 vt bh uM mI ⟨rfl,rfl⟩
 have mK:sW w φ tc [B3,B2,B1,B0] bh:=mI
 have q:=mK.freezeR (k:=0) (n:=x1.Starts.length) rfl (wAD (f:=KL.encI) (sz:=1) (fun _=>rfl) x1.Starts) (by decide)
 obtain ⟨th,uO,rK,mO⟩:=q
 have mS:sW w φ th [B2,B1,B0] bh:=mO
 have q:=mS.freezeR (k:=0) (n:=x1.Splits.length) rfl (wAD (f:=wAE) (sz:=2) (fun _=>rfl) x1.Splits) (by decide)
 obtain ⟨tp,sF,rP,m5⟩:=q
 have m7:sW w φ tp [B1,B0] bh:=m5
 have q:=m7.freezeR (k:=0) (n:=x1.Clocks.length) rfl (wAD (f:=wAB) (sz:=3) (fun _=>rfl) x1.Clocks) (by decide)
 obtain ⟨tu,gt,rW,oa⟩:=q
 have od:sW w φ tu [B0] bh:=oa
 have q:=od.freezeR (k:=0) (n:=x1.Readings.length) rfl (wAD (f:=wAA) (sz:=4) (fun _=>rfl) x1.Readings) (by decide)
 obtain ⟨gY,cC,rY,oq⟩:=q
 have ou:sW w φ gY [] bh:=oq
 have jS:=rK.le sF
 have jT:=jS.le gt
 have jX:=jT.le cC
 have jY:=rP.le gt
 have jZ:=jY.le cC
 have j0:=rW.le cC
 have q:=bnd qp
 obtain ⟨⟨bF,cJ⟩,j2,f7⟩:=q
 try dsimp only at f7
 refine zF 0 Z Z Z Z (zD Z Z Try.call15 (zB Z (zB Z zN)) Z) ou (fun hs=>wGD x1 cP eJ cQ eK cR eL cS eV sT bh gY hs jX jZ j0 rY j2) (.inr Z) ?_
 rintro cN ui vF iA u3 o3 ⟨rfl,rfl⟩
 have o9:sW w φ cN [] iA:=o3
 refine oM Z Z (oR Z (zU Z Z (v:=.agg #[jV bF.Lo,jV bF.Hi]) Z) (oR Z (zU Z Z (v:=jV cJ) Z) ?_))
 let B4:List Value:=[jV 0,jV 0]
 refine zV (cs:=B4) Z Z Z Z Z ZS Z o9 ?_
 intro uy ab pm
 let B5:List Value:=[jV bF.Lo,jV bF.Hi]
 refine zW (j:=0) (vs:=B5) Z Z Z Z pm Z Z Z Z ZA (zA Z) Z Z Z ?_
 intro ey pt
 have pC:sW w φ cN [.blk ab 41 B5] ey:=pt
 refine oA Z Z (eN (sR (.fx 0 (.fx 1 (.fx 2 (wMD gFd) .stop) .stop) .stop) Z (bnK f7 fun az lw qY=>zF 0 Z Z Z Z (zD Z Z Try.call52 zN Z) pC (fun hs=>wBV ey cN hs lw) (.inr Z) ?_)))
 rintro il uq vL eB vd pU ⟨dF,fM,dG,fN,dH,fO,dI,fP,rfl,rfl⟩
 let B6:Res:=.row dI fP 39 4 (hD wAA az.Readings)
 let B7:Res:=.row dH fO 43 3 (hD wAB az.Clocks)
 let B8:Res:=.row dG fN 41 2 (hD wAE az.Splits)
 let B9:Res:=.row dF fM 3 1 (hD KL.encI az.Starts)
 have qi:sW w φ il [B9,B8,B7,B6,.blk ab 41 B5] eB:=pU
 refine bnK qY fun s3 iW qj=>zF 0 Z Z Z Z (zD Z Z Try.call16 (zB Z (zB Z zN)) Z) qi (fun hs=>wBN 0 1 eB il hs iW) (.inr Z) ?_
 rintro s4 tS vj bf uA lJ ⟨rfl,rfl⟩
 have lK:sW w φ s4 [B9,B8,B7,B6,.blk ab 41 B5] bf:=lJ
 have q:=lK.freezeR (k:=0) (n:=az.Starts.length) rfl (wAD (f:=KL.encI) (sz:=1) (fun _=>rfl) az.Starts) (by decide)
 obtain ⟨s5,uB,rx,lL⟩:=q
 have lM:sW w φ s5 [B8,B7,B6,.blk ab 41 B5] bf:=lL
 have q:=lM.freezeR (k:=0) (n:=az.Splits.length) rfl (wAD (f:=wAE) (sz:=2) (fun _=>rfl) az.Splits) (by decide)
 obtain ⟨s6,sB,ry,lN⟩:=q
 have lO:sW w φ s6 [B7,B6,.blk ab 41 B5] bf:=lN
 have q:=lO.freezeR (k:=0) (n:=az.Clocks.length) rfl (wAD (f:=wAB) (sz:=3) (fun _=>rfl) az.Clocks) (by decide)
 obtain ⟨s7,gh,rz,lP⟩:=q
 have lQ:sW w φ s7 [B6,.blk ab 41 B5] bf:=lP
 have q:=lQ.freezeR (k:=0) (n:=az.Readings.length) rfl (wAD (f:=wAA) (sz:=4) (fun _=>rfl) az.Readings) (by decide)
 obtain ⟨gL,cx,rA,lR⟩:=q
 have lS:sW w φ gL [.blk ab 41 B5] bf:=lR
 have iX:=rx.le sB
 have iY:=iX.le gh
 have iZ:=iY.le cx
 have i3:=ry.le gh
 have i4:=i3.le cx
 have i5:=rz.le cx
 have q:=bnd qj
 obtain ⟨⟨bB,gB⟩,i6,fU⟩:=q
 try dsimp only at fU
 refine zF 0 Z Z Z Z (zD Z Z Try.call15 (zB Z (zB Z zN)) Z) lS (fun hs=>wGD az dF fM dG fN dH fO dI fP s3 bf gL hs iZ i4 i5 rA i6) (.inr Z) ?_
 rintro cK tT vk ir uC lT ⟨rfl,rfl⟩
 have lU:sW w φ cK [.blk ab 41 B5] ir:=lT
 refine oM Z Z (oR Z (zU Z Z (v:=.agg #[jV bB.Lo,jV bB.Hi]) Z) (oR Z (zU Z Z (v:=jV gB) Z) (zV (cs:=B4) Z Z Z Z Z ZS Z lU ?_)))
 intro uw ae lV
 let ac:List Value:=[jV bB.Lo,jV bB.Hi]
 refine zW (j:=0) (vs:=ac) Z Z Z Z lV Z Z Z Z ZA (zA Z) Z Z Z ?_
 intro d9 lW
 have lX:sW w φ cK [.blk ae 41 ac,.blk ab 41 B5] d9:=lW
 refine oA Z Z (eN (sR (.fx 0 (.fx 1 (.fx 2 (.fx 3 (wNH (.fx 7 (.fx 8 (.fl 9 .nil) .stop) .stop)) .stop) .stop) .stop) .stop) Z (bnK fU fun ao i7 qk=>zF 0 Z Z Z Z (zD Z Z Try.call52 zN Z) lX (fun hs=>wBV d9 cK hs i7) (.inr Z) ?_)))
 rintro gM tU vl ef uD lY ⟨cU,eM,cV,eO,cW,eQ,cX,eU,rfl,rfl⟩
 let bb:Res:=.row cX eU 39 4 (hD wAA ao.Readings)
 let bu:Res:=.row cW eQ 43 3 (hD wAB ao.Clocks)
 let bJ:Res:=.row cV eO 41 2 (hD wAE ao.Splits)
 let cf:Res:=.row cU eM 3 1 (hD KL.encI ao.Starts)
 have lZ:sW w φ gM [cf,bJ,bu,bb,.blk ae 41 ac,.blk ab 41 B5] ef:=lY
 refine bnK qk fun sQ i8 qm=>zF 0 Z Z Z Z (zD Z Z Try.call16 (zB Z (zB Z zN)) Z) lZ (fun hs=>wBN 0 2 ef gM hs i8) (.inr Z) ?_
 rintro gN tV vm eg uE l3 ⟨rfl,rfl⟩
 have l4:sW w φ gN [cf,bJ,bu,bb,.blk ae 41 ac,.blk ab 41 B5] eg:=l3
 refine bnK qm fun sS i9 qn=>zF 0 Z Z Z Z (zD Z Z Try.call16 (zB Z (zB Z zN)) Z) l4 (fun hs=>wBN 1 2 eg gN hs i9) (.inr Z) ?_
 rintro s8 tW vn bg uF l5 ⟨rfl,rfl⟩
 have l6:sW w φ s8 [cf,bJ,bu,bb,.blk ae 41 ac,.blk ab 41 B5] bg:=l5
 have q:=l6.freezeR (k:=0) (n:=ao.Starts.length) rfl (wAD (f:=KL.encI) (sz:=1) (fun _=>rfl) ao.Starts) (by decide)
 obtain ⟨s9,uG,rB,l7⟩:=q
 have l8:sW w φ s9 [bJ,bu,bb,.blk ae 41 ac,.blk ab 41 B5] bg:=l7
 have q:=l8.freezeR (k:=0) (n:=ao.Splits.length) rfl (wAD (f:=wAE) (sz:=2) (fun _=>rfl) ao.Splits) (by decide)
 obtain ⟨ta,sC,rC,ma⟩:=q
 have mb:sW w φ ta [bu,bb,.blk ae 41 ac,.blk ab 41 B5] bg:=ma
 have q:=mb.freezeR (k:=0) (n:=ao.Clocks.length) rfl (wAD (f:=wAB) (sz:=3) (fun _=>rfl) ao.Clocks) (by decide)
 obtain ⟨tb,gi,rD,mc⟩:=q
 have md:sW w φ tb [bb,.blk ae 41 ac,.blk ab 41 B5] bg:=mc
 have q:=md.freezeR (k:=0) (n:=ao.Readings.length) rfl (wAD (f:=wAA) (sz:=4) (fun _=>rfl) ao.Readings) (by decide)
 obtain ⟨gO,cy,rE,me⟩:=q
 have mf:sW w φ gO [.blk ae 41 ac,.blk ab 41 B5] bg:=me
 have jb:=rB.le sC
 have jc:=jb.le gi
 have jd:=jc.le cy
 have je:=rC.le gi
 have jf:=je.le cy
 have jg:=rD.le cy
 have q:=bnd qn
 obtain ⟨⟨bC,gC⟩,jh,fV⟩:=q
 try dsimp only at fV
 refine zF 0 Z Z Z Z (zD Z Z Try.call25 (zB Z (zB Z (zB Z zN))) Z) mf (fun hs=>wJU ao cU eM cV eO cW eQ cX eU sQ sS bg gO hs jd jf jg rE jh) (.inr Z) ?_
 rintro cL tX vo it uH mh ⟨rfl,rfl⟩
 have mi:sW w φ cL [.blk ae 41 ac,.blk ab 41 B5] it:=mh
 refine oM Z Z (oR Z (zU Z Z (v:=.agg #[jV bC.Lo,jV bC.Hi]) Z) (oR Z (zU Z Z (v:=jV gC) Z) (zV (cs:=B4) Z Z Z Z Z ZS Z mi ?_)))
 intro ux ag mj
 let af:List Value:=[jV bC.Lo,jV bC.Hi]
 refine zW (j:=0) (vs:=af) Z Z Z Z mj Z Z Z Z ZA (zA Z) Z Z Z ?_
 intro eh ml
 have mo:sW w φ cL [.blk ag 41 af,.blk ae 41 ac,.blk ab 41 B5] eh:=ml
 refine oA Z Z (eN (sR (.fx 0 (.fx 1 (.fx 2 (.fl 3 (.fl 4 (.fx 5 (.fx 6 (wLV (.nil)) .stop) .stop))) .stop) .stop) .stop) Z (bnK fV fun ap jj qo=>zF 0 Z Z Z Z (zD Z Z Try.call52 zN Z) mo (fun hs=>wBV eh cL hs jj) (.inr Z) ?_)))
 rintro gP tY vp ej uI mp ⟨cY,eW,cZ,eX,c6,eY,da,eZ,rfl,rfl⟩
 let aR:Res:=.row da eZ 39 4 (hD wAA ap.Readings)
 let bc:Res:=.row c6 eY 43 3 (hD wAB ap.Clocks)
 let bv:Res:=.row cZ eX 41 2 (hD wAE ap.Splits)
 let bK:Res:=.row cY eW 3 1 (hD KL.encI ap.Starts)
 have mq:sW w φ gP [bK,bv,bc,aR,.blk ag 41 af,.blk ae 41 ac,.blk ab 41 B5] ej:=mp
 refine bnK qo fun sU jk qq=>zF 0 Z Z Z Z (zD Z Z Try.call16 (zB Z (zB Z zN)) Z) mq (fun hs=>wBN 0 2 ej gP hs jk) (.inr Z) ?_
 rintro gQ tZ vq ek uJ mr ⟨rfl,rfl⟩
 have ms:sW w φ gQ [bK,bv,bc,aR,.blk ag 41 af,.blk ae 41 ac,.blk ab 41 B5] ek:=mr
 refine bnK qq fun sV jl qr=>zF 0 Z Z Z Z (zD Z Z Try.call16 (zB Z (zB Z zN)) Z) ms (fun hs=>wBN 1 2 ek gQ hs jl) (.inr Z) ?_
 rintro gR t6 vr iu uK mu ⟨rfl,rfl⟩
 have mw:sW w φ gR [bK,bv,bc,aR,.blk ag 41 af,.blk ae 41 ac,.blk ab 41 B5] iu:=mu
 let bd:List Value:=[jV 0,jV 0,jV 0,.bool false]
 let dJ:List Value:=[jV 3,jV 0,jV 0,.bool false]
 refine oR Z (zl (pv:=[(0,jV 3)]) (z:=bd) (cs:=dJ) Z (wAG Z wAN) Zn wDS Z Z) ?_
 let dK:List Value:=[jV 3,jV 0,jV 2,.bool true]
 refine oR Z (zl (pv:=[(0,jV 3),(2,jV 2),(3,.bool true)]) (z:=bd) (cs:=dK) Z (wAG Z (wAG Z (wAG Z wAN))) Zn wDS Z Z) (zm (pv:=[(0,.agg dJ.toArray),(1,.agg dK.toArray)]) (zs:=[jV 0,jV 0,jV 0,.bool false,jV 0,jV 0,jV 0,.bool false]) (cs:=[jV 3,jV 0,jV 0,.bool false,jV 3,jV 0,jV 2,.bool true]) Z Z Z Z Z (wAG Z (wAG Z wAN)) Zg ZN Zn Z Z Z Z Z mw ?_)
 intro aT eD mx
 let bw:Res:=.row (some ⟨eD,0,none⟩) 2 78 4 (hD wAP [(⟨3,0,0,false⟩:wAF),(⟨3,0,2,true⟩:wAF)])
 have my:sW w φ gR [bw,bK,bv,bc,aR,.blk ag 41 af,.blk ae 41 ac,.blk ab 41 B5] aT:=mx
 have q:=my.freezeR (k:=1) (n:=ap.Starts.length) rfl (wAD (f:=KL.encI) (sz:=1) (fun _=>rfl) ap.Starts) (by decide)
 obtain ⟨td,uL,rF,mz⟩:=q
 have mA:sW w φ td [bw,bv,bc,aR,.blk ag 41 af,.blk ae 41 ac,.blk ab 41 B5] aT:=mz
 have q:=mA.freezeR (k:=1) (n:=ap.Splits.length) rfl (wAD (f:=wAE) (sz:=2) (fun _=>rfl) ap.Splits) (by decide)
 obtain ⟨te,sD,rG,mB⟩:=q
 have mC:sW w φ te [bw,bc,aR,.blk ag 41 af,.blk ae 41 ac,.blk ab 41 B5] aT:=mB
 have q:=mC.freezeR (k:=1) (n:=ap.Clocks.length) rfl (wAD (f:=wAB) (sz:=3) (fun _=>rfl) ap.Clocks) (by decide)
 obtain ⟨tf,gj,rH,mD⟩:=q
 have mE:sW w φ tf [bw,aR,.blk ag 41 af,.blk ae 41 ac,.blk ab 41 B5] aT:=mD
 have q:=mE.freezeR (k:=1) (n:=ap.Readings.length) rfl (wAD (f:=wAA) (sz:=4) (fun _=>rfl) ap.Readings) (by decide)
 obtain ⟨tg,cz,rI,mF⟩:=q
 have mG:sW w φ tg [bw,.blk ag 41 af,.blk ae 41 ac,.blk ab 41 B5] aT:=mF
 have q:=mG.freezeR (k:=0) (n:=[(⟨3,0,0,false⟩:wAF),(⟨3,0,2,true⟩:wAF)].length) rfl (wAD (f:=wAP) (sz:=4) (fun _=>rfl) [(⟨3,0,0,false⟩:wAF),(⟨3,0,2,true⟩:wAF)]) (by decide)
 obtain ⟨gS,ca,rJ,mH⟩:=q
 have mJ:sW w φ gS [.blk ag 41 af,.blk ae 41 ac,.blk ab 41 B5] aT:=mH
 have jm:=rF.le sD
 have jo:=jm.le gj
 have jp:=jo.le cz
 have jq:=jp.le ca
 have jr:=rG.le gj
 have jt:=jr.le cz
 have ju:=jt.le ca
 have jv:=rH.le cz
 have jw:=jv.le ca
 have jx:=rI.le ca
 have q:=bnd qr
 obtain ⟨⟨gD,gE⟩,jy,fW⟩:=q
 try dsimp only at fW
 refine zF 0 Z Z Z Z (zD Z Z Try.call41 (zB Z (zB Z (zB Z (zB Z zN)))) Z) mJ (fun hs=>wHR ap cY eW cZ eX c6 eY da eZ sU sV [(⟨3,0,0,false⟩:wAF),(⟨3,0,2,true⟩:wAF)] (some ⟨eD,0,none⟩) 2 aT gS hs jq ju jw jx rJ jy) (.inr Z) ?_
 rintro gT t7 vu en uN mL ⟨rfl,rfl⟩
 have mM:sW w φ gT [.blk ag 41 af,.blk ae 41 ac,.blk ab 41 B5] en:=mL
 refine oM Z Z (oR Z (zU Z Z (v:=jV gD) Z) (oR Z (zU Z Z (v:=jV gE) Z) (oA Z Z (oA Z Z (eN (zL (ye fun aQ aM=>?_)))))))
 have iH:aQ 1=.pointer (some ⟨ab,0,none⟩):=(aM 1).trans rfl
 have iI:aQ 2=jV cJ:=(aM 2).trans rfl
 have iJ:aQ 3=.pointer (some ⟨ae,0,none⟩):=(aM 3).trans rfl
 have iK:aQ 4=jV gB:=(aM 4).trans rfl
 have iL:aQ 5=.pointer (some ⟨ag,0,none⟩):=(aM 5).trans rfl
 have iM:aQ 6=jV gC:=(aM 6).trans rfl
 have iN:aQ 7=jV gD:=(aM 7).trans rfl
 have iO:aQ 8=jV gE:=(aM 8).trans rfl
 clear aM
 refine rR (.fx 0 (.fx 1 (wFy (.nil)) .stop) .stop) Z (bnK fW fun aq jz qt=>zF 0 Z Z Z Z (zD Z Z Try.call52 zN Z) mM (fun hs=>wBV en gT hs jz) (.inr Z) ?_)
 rintro tj t8 vv bi uP mN ⟨db,fb,dd,fc,de,fd,df,ff,rfl,rfl⟩
 let bL:Res:=.row df ff 39 4 (hD wAA aq.Readings)
 let ci:Res:=.row de fd 43 3 (hD wAB aq.Clocks)
 let dL:Res:=.row dd fc 41 2 (hD wAE aq.Splits)
 have mP:sW w φ tj [.row db fb 3 1 (hD KL.encI aq.Starts),dL,ci,bL,.blk ag 41 af,.blk ae 41 ac,.blk ab 41 B5] bi:=mN
 have q:=mP.freezeR (k:=0) (n:=aq.Starts.length) rfl (wAD (f:=KL.encI) (sz:=1) (fun _=>rfl) aq.Starts) (by decide)
 obtain ⟨tk,uQ,rL,mQ⟩:=q
 have mR:sW w φ tk [dL,ci,bL,.blk ag 41 af,.blk ae 41 ac,.blk ab 41 B5] bi:=mQ
 have q:=mR.freezeR (k:=0) (n:=aq.Splits.length) rfl (wAD (f:=wAE) (sz:=2) (fun _=>rfl) aq.Splits) (by decide)
 obtain ⟨tm,sE,rM,mT⟩:=q
 have mU:sW w φ tm [ci,bL,.blk ag 41 af,.blk ae 41 ac,.blk ab 41 B5] bi:=mT
 have q:=mU.freezeR (k:=0) (n:=aq.Clocks.length) rfl (wAD (f:=wAB) (sz:=3) (fun _=>rfl) aq.Clocks) (by decide)
 obtain ⟨tn,gp,rN,mV⟩:=q
 have mW:sW w φ tn [bL,.blk ag 41 af,.blk ae 41 ac,.blk ab 41 B5] bi:=mV
 have q:=mW.freezeR (k:=0) (n:=aq.Readings.length) rfl (wAD (f:=wAA) (sz:=4) (fun _=>rfl) aq.Readings) (by decide)
 obtain ⟨gU,cA,rO,mX⟩:=q
 have mY:sW w φ gU [.blk ag 41 af,.blk ae 41 ac,.blk ab 41 B5] bi:=mX
 have jA:=rL.le sE
 have jB:=jA.le gp
 have jC:=jB.le cA
 have jD:=rM.le gp
 have jE:=jD.le cA
 have jF:=rN.le cA
 have q:=bnd qt
 obtain ⟨⟨bD,sX⟩,jG,fY⟩:=q
 try dsimp only at fY
 refine zF 0 Z Z Z Z (zD Z Z Try.call17 (zB Z (zB Z zN)) Z) mY (fun hs=>wHT aq db fb dd fc de fd df ff 2 bi gU hs jC jE jF rO jG) (.inr Z) ?_
 rintro gV t9 vw eo uR mZ ⟨cc,ct,rfl,rfl⟩
 let aN:Res:=.row cc ct 41 2 (hD wAE bD)
 have m4:sW w φ gV [aN,.blk ag 41 af,.blk ae 41 ac,.blk ab 41 B5] eo:=mZ
 refine oM Z Z (oR Z (zU Z Z (v:=.slice cc bD.length ct) Z) (oR Z (zU Z Z (v:=jV sX) Z) (oA Z Z (oA Z Z (eN (sR (.fx 0 (.fx 1 (wFy (.nil)) .stop) .stop) Z (bnK fY fun au jH qu=>zF 0 Z Z Z Z (zD Z Z Try.call52 zN Z) m4 (fun hs=>wBV eo gV hs jH) (.inr Z) ?_)))))))
 rintro tq ua vx bj uS m6 ⟨dg,fg,dh,fh,di,fj,dk,fk,rfl,rfl⟩
 let bM:Res:=.row dk fk 39 4 (hD wAA au.Readings)
 let cm:Res:=.row di fj 43 3 (hD wAB au.Clocks)
 let dN:Res:=.row dh fh 41 2 (hD wAE au.Splits)
 have m8:sW w φ tq [.row dg fg 3 1 (hD KL.encI au.Starts),dN,cm,bM,aN,.blk ag 41 af,.blk ae 41 ac,.blk ab 41 B5] bj:=m6
 have q:=m8.freezeR (k:=0) (n:=au.Starts.length) rfl (wAD (f:=KL.encI) (sz:=1) (fun _=>rfl) au.Starts) (by decide)
 obtain ⟨tr,uT,rQ,m9⟩:=q
 have n3:sW w φ tr [dN,cm,bM,aN,.blk ag 41 af,.blk ae 41 ac,.blk ab 41 B5] bj:=m9
 have q:=n3.freezeR (k:=0) (n:=au.Splits.length) rfl (wAD (f:=wAE) (sz:=2) (fun _=>rfl) au.Splits) (by decide)
 obtain ⟨tv,sG,rS,n4⟩:=q
 have n5:sW w φ tv [cm,bM,aN,.blk ag 41 af,.blk ae 41 ac,.blk ab 41 B5] bj:=n4
 have q:=n5.freezeR (k:=0) (n:=au.Clocks.length) rfl (wAD (f:=wAB) (sz:=3) (fun _=>rfl) au.Clocks) (by decide)
 obtain ⟨tw,gq,rT,n6⟩:=q
 have n7:sW w φ tw [bM,aN,.blk ag 41 af,.blk ae 41 ac,.blk ab 41 B5] bj:=n6
 have q:=n7.freezeR (k:=0) (n:=au.Readings.length) rfl (wAD (f:=wAA) (sz:=4) (fun _=>rfl) au.Readings) (by decide)
 obtain ⟨gX,cB,rV,n8⟩:=q
 have n9:sW w φ gX [aN,.blk ag 41 af,.blk ae 41 ac,.blk ab 41 B5] bj:=n8
 have jI:=rQ.le sG
 have jJ:=jI.le gq
 have jK:=jJ.le cB
 have jL:=rS.le gq
 have jM:=jL.le cB
 have jN:=rT.le cB
 have q:=bnd qu
 obtain ⟨⟨bE,sY⟩,jO,fZ⟩:=q
 try dsimp only at fZ
 refine zF 0 Z Z Z Z (zD Z Z Try.call53 (zB Z zN) Z) n9 (fun hs=>wHC au dg fg dh fh di fj dk fk bj gX hs jK jM jN rV jO) (.inr Z) ?_
 rintro aE ub vy iv uU oc ⟨cd,cu,rfl,rfl⟩
 let aS:Res:=.row cd cu 45 2 (hD wAU bE)
 have ak:sW w φ aE [aS,aN,.blk ag 41 af,.blk ae 41 ac,.blk ab 41 B5] iv:=oc
 refine oM Z Z (oR Z (zU Z Z (v:=.slice cd bE.length cu) Z) (oR Z (zU Z Z (v:=jV sY) Z) (oA Z Z (oA Z Z (eN (zL (bnK fZ fun iF gg qv=>yO (fun σ_ w_=>∃ (φ_:PHeap),σ_ 110=.bool iF/\PHeap.Le aE φ_/\sW w φ φ_ [.blk ag 41 af,.blk ae 41 ac,.blk ab 41 B5] w_) ?_ ?_)))))))
 refine rR (wNE (.fx 45 (.fx 46 (wMI (.fx 51 (.fx 52 (.fx 53 (.fl 54 (.fl 55 .nil)) .stop) .stop) .stop)) .stop) .stop)) Z (oM Z iI (oR Z (ZZ Z Z Z) (oM Z Z ?_)))
 by_cases aF:cJ=0
 have f4:=gg;rw [if_pos aF] at f4;replace aF:=zM aF
 refine zk Z Z Z (zQ Z Z (zw (fun h=>h aF.out))) Z iK (zg Z Z Z (zQ Z Z (zw (fun h=>h aF.out))) (fun _=>ZZ Z Z Z) (oR Z (zZ Z (zw (fun h=>h aF.out)) Z) (oM Z Z (ifc f4 ?_ ?_))))
 intro aV qw
 refine zk Z Z Z (zQ Z Z (zw (fun h=>h aV.out))) Z iM (zg Z Z Z (zQ Z Z (zw (fun h=>h aV.out))) (fun _=>ZZ Z Z Z) (oR Z (zZ Z (zw (fun h=>h aV.out)) Z) (oM Z Z (ifc qw ?_ ?_))))
 intro aW qx
 refine zk Z Z Z (zQ Z Z (zw (fun h=>h aW.out))) Z iO (zg Z Z Z (zQ Z Z (zw (fun h=>h aW.out))) (fun _=>ZZ Z Z Z) (oR Z (zZ Z (zw (fun h=>h aW.out)) Z) (oM Z Z (ifc qx ?_ ?_))))
 intro aX qy
 refine zk Z Z Z (zQ Z Z (zw (fun h=>h aX.out))) Z Z (zg Z Z Z (zQ Z Z (zw (fun h=>h aX.out))) (fun _=>ZZ Z Z Z) (oR Z (zZ Z (zw (fun h=>h aX.out)) Z) (oM Z Z (ifc qy ?_ ?_))))
 intro aY qz
 refine zk Z Z Z (zQ Z Z (zw (fun h=>h aY.out))) Z Z (zg Z Z Z (zQ Z Z (zw (fun h=>h aY.out))) (fun _=>ZZ Z Z Z) (oR Z (zZ Z (zw (fun h=>h aY.out)) Z) (oM Z Z (ifc qz ?_ ?_))))
 intro aH qA
 refine ZJ Z Z Z (zQ Z Z (zw (fun h=>h aH.out))) (ak.ldBA (j:=4) Z Z iH yA ZA (vs:=B5) Z Z) Z (zg Z Z Z (zQ Z Z (zw (fun h=>h aH.out))) (fun _=>zl (pv:=[(0,jV 2244),(1,jV 2256)]) (z:=B4) (cs:=[jV 2244,jV 2256]) Z (wAG Z (wAG Z wAN)) ZS wCN Z Z) (zg Z Z Z (zQ Z Z (zw (fun h=>h aH.out))) (fun _=>ZG (Runs.neS (enc:=wAE) (a:=bF) (b:=(⟨2244,2256⟩:wAK)) Z Z Z wKl wKk) (congrArg hJ (decide_not).symm)) (oR Z (zZ Z (zw (fun h=>h aH.out)) Z) (oM Z Z (ifc qA ?_ ?_)))))
 intro aI qB
 refine ZJ Z Z Z (zQ Z Z (zw (fun h=>h aI.out))) (ak.ldBA (j:=3) Z Z iJ yA ZA (vs:=ac) Z Z) Z (zg Z Z Z (zQ Z Z (zw (fun h=>h aI.out))) (fun _=>zl (pv:=[(0,jV 1000),(1,jV 1200)]) (z:=B4) (cs:=[jV 1000,jV 1200]) Z (wAG Z (wAG Z wAN)) ZS wCN Z Z) (zg Z Z Z (zQ Z Z (zw (fun h=>h aI.out))) (fun _=>ZG (Runs.neS (enc:=wAE) (a:=bB) (b:=(⟨1000,1200⟩:wAK)) Z Z Z wKl wKk) (congrArg hJ (decide_not).symm)) (oR Z (zZ Z (zw (fun h=>h aI.out)) Z) (oM Z Z (ifc qB ?_ ?_)))))
 intro aJ qC
 refine ZJ Z Z Z (zQ Z Z (zw (fun h=>h aJ.out))) (ak.ldBA (j:=2) Z Z iL yA ZA (vs:=af) Z Z) Z (zg Z Z Z (zQ Z Z (zw (fun h=>h aJ.out))) (fun _=>zl (pv:=[(0,jV 247),(1,jV 251)]) (z:=B4) (cs:=[jV 247,jV 251]) Z (wAG Z (wAG Z wAN)) ZS wCN Z Z) (zg Z Z Z (zQ Z Z (zw (fun h=>h aJ.out))) (fun _=>ZG (Runs.neS (enc:=wAE) (a:=bC) (b:=(⟨247,251⟩:wAK)) Z Z Z wKl wKk) (congrArg hJ (decide_not).symm)) (oR Z (zZ Z (zw (fun h=>h aJ.out)) Z) (oM Z Z (ifc qC ?_ ?_)))))
 intro aZ qD
 refine zk Z Z Z (zQ Z Z (zw (fun h=>h aZ.out))) Z iN (zg Z Z Z (zQ Z Z (zw (fun h=>h aZ.out))) (fun _=>ZZ Z Z Z) (oR Z (zZ Z (zw (fun h=>h aZ.out)) Z) (oM Z Z (ifc qD ?_ ?_))))
 intro aj qE
 refine zk Z Z Z (zQ Z Z (zw (fun h=>h aj.out))) Z Z (zg Z Z Z (zQ Z Z (zw (fun h=>h aj.out))) (fun _=>zl (pv:=[(0,jV 1),(1,jV 1)]) (z:=B4) (cs:=[jV 1,jV 1]) Z (wAG Z (wAG Z wAN)) ZS wCN Z Z) (zg Z Z Z (zQ Z Z (zw (fun h=>h aj.out))) (fun _=>zl (pv:=[(0,jV 2),(1,jV 2)]) (z:=B4) (cs:=[jV 2,jV 2]) Z (wAG Z (wAG Z wAN)) ZS wCN Z Z) (zm (pv:=[(0,.agg #[jV 1,jV 1]),(1,.agg #[jV 2,jV 2])]) (zs:=[jV 0,jV 0,jV 0,jV 0]) (cs:=[jV 1,jV 1,jV 2,jV 2]) Z Z Z (zQ Z Z (zw (fun h=>h aj.out))) Z (wAG Z (wAG Z wAN)) ZP ZA ZS Z Z Z Z Z ak ?_)))
 intro bU eE oe
 let dO:Res:=.row (some ⟨eE,0,none⟩) 2 41 2 (hD wAE [(⟨1,1⟩:wAK),(⟨2,2⟩:wAK)])
 have og:sW w φ aE [dO,aS,aN,.blk ag 41 af,.blk ae 41 ac,.blk ab 41 B5] bU:=oe
 have q:=og.freezeR (k:=2) (n:=bD.length) rfl (wAD (f:=wAE) (sz:=2) (fun _=>rfl) bD) (by decide)
 obtain ⟨tx,gu,rX,oh⟩:=q
 have oi:sW w φ tx [dO,aS,.blk ag 41 af,.blk ae 41 ac,.blk ab 41 B5] bU:=oh
 have q:=oi.freezeR (k:=0) (n:=[(⟨1,1⟩:wAK),(⟨2,2⟩:wAK)].length) rfl (wAD (f:=wAE) (sz:=2) (fun _=>rfl) [(⟨1,1⟩:wAK),(⟨2,2⟩:wAK)]) (by decide)
 obtain ⟨gZ,cD,rZ,oj⟩:=q
 have om:sW w φ gZ [aS,.blk ag 41 af,.blk ae 41 ac,.blk ab 41 B5] bU:=oj
 have jP:=rX.le cD
 refine bnK qE fun vP jQ qF=>zF 0 Z Z Z (zQ Z Z (zw (fun h=>h aj.out))) (zD Z Z Try.call18 (zB Z (zB Z zN)) Z) om (fun hs=>wEC bD cc ct [(⟨1,1⟩:wAK),(⟨2,2⟩:wAK)] (some ⟨eE,0,none⟩) 2 bU gZ hs jP rZ jQ) (.inr Z) ?_
 rintro cM ue vz ep gv ot ⟨rfl,rfl⟩
 have fR:sW w φ cM [aS,.blk ag 41 af,.blk ae 41 ac,.blk ab 41 B5] ep:=ot
 refine zg Z Z Z (zQ Z Z (zw (fun h=>h aj.out))) (fun _=>Ze Z Z) (oR Z (zZ Z (zw (fun h=>h aj.out)) Z) (oM Z Z (ifc qF ?_ ?_)))
 intro am qG
 refine zk Z Z Z (zQ Z Z (nC am.out)) Z Z (bnK qG fun bq jR qH=>zF 0 Z Z Z (zQ Z Z (nC am.out)) (zD Z Z Try.call16 (zB Z (zB Z zN)) Z) fR (fun hs=>wBN 0 1 ep cM hs jR) (.inr Z) ?_)
 rintro g6 uf vA iw sH ov ⟨rfl,rfl⟩
 have ow:sW w φ g6 [aS,.blk ag 41 af,.blk ae 41 ac,.blk ab 41 B5] iw:=ov
 let dP:List Value:=[jV bq.Skier,jV bq.Mat]
 refine zm (pv:=[(0,.agg dP.toArray)]) (zs:=B4) (cs:=dP) Z Z Z (zQ Z Z (nC am.out)) Z (wAG Z wAN) Zu Zf yG Z Z Z Z Z ow ?_
 intro bV eF ox
 let dQ:Res:=.row (some ⟨eF,0,none⟩) 1 45 2 (hD wAU [bq])
 have oy:sW w φ g6 [dQ,aS,.blk ag 41 af,.blk ae 41 ac,.blk ab 41 B5] bV:=ox
 have q:=oy.freezeR (k:=1) (n:=bE.length) rfl (wAD (f:=wAU) (sz:=2) (fun _=>rfl) bE) (by decide)
 obtain ⟨tz,sI,r6,oz⟩:=q
 have oB:sW w φ tz [dQ,.blk ag 41 af,.blk ae 41 ac,.blk ab 41 B5] bV:=oz
 have q:=oB.freezeR (k:=0) (n:=[bq].length) rfl (wAD (f:=wAU) (sz:=2) (fun _=>rfl) [bq]) (by decide)
 obtain ⟨g7,gw,r7,oC⟩:=q
 have oD:sW w φ g7 [.blk ag 41 af,.blk ae 41 ac,.blk ab 41 B5] bV:=oC
 have jU:=r6.le gw
 refine bnK qH fun vQ jW qI=>zF 0 Z Z Z (zQ Z Z (nC am.out)) (zD Z Z Try.call54 (zB Z (zB Z zN)) Z) oD (fun hs=>wDv bE cd cu [bq] (some ⟨eF,0,none⟩) 1 bV g7 hs jU r7 jW) (.inr Z) ?_
 rintro g8 ug vB iy sJ oE ⟨rfl,rfl⟩
 have oG:sW w φ g8 [.blk ag 41 af,.blk ae 41 ac,.blk ab 41 B5] iy:=oE
 refine zg Z Z Z (zQ Z Z (nC am.out)) (fun _=>Ze Z Z) (oR Z (zZ Z (nC am.out) Z) (zb ?_))
 cases qI
 exact zH ⟨Z,⟨g8,Z,((((((gu.trans cD).trans gv).trans sH).trans sI).trans gw).trans sJ),oG⟩⟩
 intro am qJ
 refine ZD Z Z Z (zT Z Z (nF (am.out)) Z) (ZB Z Z Z (zT Z Z (nF (am.out)) Z) (ZB Z Z Z (zT Z Z (nF (am.out)) Z) (ZB Z Z Z (zT Z Z (nF (am.out)) Z) (ZD Z Z Z (zT Z Z (nF (am.out)) Z) (oR Z (zP Z (nF (am.out)) Z) (zb ?_))))))
 cases qJ
 exact zH ⟨rfl,⟨cM,rfl,((gu.trans cD).trans gv),(fR.pick [1,2,3] _ (by decide) rfl)⟩⟩
 intro aj qK
 refine oT Z aj (oT Z aj (oT Z aj (ZB Z Z Z (zT Z Z (Zj aj.out) Z) (ZB Z Z Z (zT Z Z (Zj aj.out) Z) (oT Z aj (oR Z (zP Z (Zj aj.out) Z) (oM Z Z (oN Z (ZB Z Z Z (zT Z Z Z Z) (ZB Z Z Z (zT Z Z Z Z) (ZB Z Z Z (zT Z Z Z Z) (oN Z (oR Z (zP Z Z Z) (zb ?_))))))))))))))
 cases qK
 exact zH ⟨rfl,⟨aE,rfl,(zO _),(ak.pick [2,3,4] _ (by decide) rfl)⟩⟩
 intro aZ qL
 refine oT Z aZ (oT Z aZ (oR Z (zP Z (Zj aZ.out) Z) (oM Z Z (oN Z (oN Z (oN Z (ZB Z Z Z (zT Z Z Z Z) (ZB Z Z Z (zT Z Z Z Z) (oN Z (oR Z (zP Z Z Z) (oM Z Z (oN Z (ZB Z Z Z (zT Z Z Z Z) (ZB Z Z Z (zT Z Z Z Z) (ZB Z Z Z (zT Z Z Z Z) (oN Z (oR Z (zP Z Z Z) (zb ?_))))))))))))))))))
 cases qL
 exact zH ⟨rfl,⟨aE,rfl,(zO _),(ak.pick [2,3,4] _ (by decide) rfl)⟩⟩
 intro aJ qM
 refine oT Z aJ (oT Z aJ (oT Z aJ (oR Z (zP Z (Zj aJ.out) Z) (oM Z Z (oN Z (oN Z (oR Z (zP Z Z Z) (oM Z Z (oN Z (oN Z (oN Z (ZB Z Z Z (zT Z Z Z Z) (ZB Z Z Z (zT Z Z Z Z) (oN Z (oR Z (zP Z Z Z) (oM Z Z (oN Z (ZB Z Z Z (zT Z Z Z Z) (ZB Z Z Z (zT Z Z Z Z) (ZB Z Z Z (zT Z Z Z Z) (oN Z (oR Z (zP Z Z Z) (zb ?_)))))))))))))))))))))))
 cases qM
 exact zH ⟨rfl,⟨aE,rfl,(zO _),(ak.pick [2,3,4] _ (by decide) rfl)⟩⟩
 intro aI qN
 refine oT Z aI (oT Z aI (oT Z aI (oR Z (zP Z (Zj aI.out) Z) (oM Z Z (oN Z (oN Z (oN Z (oR Z (zP Z Z Z) (oM Z Z (oN Z (oN Z (oR Z (zP Z Z Z) (oM Z Z (oN Z (oN Z (oN Z (ZB Z Z Z (zT Z Z Z Z) (ZB Z Z Z (zT Z Z Z Z) (oN Z (oR Z (zP Z Z Z) (oM Z Z (oN Z (ZB Z Z Z (zT Z Z Z Z) (ZB Z Z Z (zT Z Z Z Z) (ZB Z Z Z (zT Z Z Z Z) (oN Z (oR Z (zP Z Z Z) (zb ?_))))))))))))))))))))))))))))
 cases qN
 exact zH ⟨rfl,⟨aE,rfl,(zO _),(ak.pick [2,3,4] _ (by decide) rfl)⟩⟩
 intro aH qO
 refine oT Z aH (oT Z aH (oT Z aH (oR Z (zP Z (Zj aH.out) Z) (oM Z Z (oN Z (oN Z (oN Z (oR Z (zP Z Z Z) (oM Z Z (oN Z (oN Z (oN Z (oR Z (zP Z Z Z) (oM Z Z (oN Z (oN Z (oR Z (zP Z Z Z) (oM Z Z (oN Z (oN Z (oN Z (ZB Z Z Z (zT Z Z Z Z) (ZB Z Z Z (zT Z Z Z Z) (oN Z (oR Z (zP Z Z Z) (oM Z Z (oN Z (ZB Z Z Z (zT Z Z Z Z) (ZB Z Z Z (zT Z Z Z Z) (ZB Z Z Z (zT Z Z Z Z) (oN Z (oR Z (zP Z Z Z) (zb ?_)))))))))))))))))))))))))))))))))
 cases qO
 exact zH ⟨rfl,⟨aE,rfl,(zO _),(ak.pick [2,3,4] _ (by decide) rfl)⟩⟩
 intro aY qP
 refine oT Z aY (oT Z aY (oR Z (zP Z (Zj aY.out) Z) (oM Z Z (oN Z (oN Z (oN Z (oR Z (zP Z Z Z) (oM Z Z (oN Z (oN Z (oN Z (oR Z (zP Z Z Z) (oM Z Z (oN Z (oN Z (oN Z (oR Z (zP Z Z Z) (oM Z Z (oN Z (oN Z (oR Z (zP Z Z Z) (oM Z Z (oN Z (oN Z (oN Z (ZB Z Z Z (zT Z Z Z Z) (ZB Z Z Z (zT Z Z Z Z) (oN Z (oR Z (zP Z Z Z) (oM Z Z (oN Z (ZB Z Z Z (zT Z Z Z Z) (ZB Z Z Z (zT Z Z Z Z) (ZB Z Z Z (zT Z Z Z Z) (oN Z (oR Z (zP Z Z Z) (zb ?_)))))))))))))))))))))))))))))))))))))
 cases qP
 exact zH ⟨rfl,⟨aE,rfl,(zO _),(ak.pick [2,3,4] _ (by decide) rfl)⟩⟩
 intro aX qQ
 refine oT Z aX (oT Z aX (oR Z (zP Z (Zj aX.out) Z) (oM Z Z (oN Z (oN Z (oR Z (zP Z Z Z) (oM Z Z (oN Z (oN Z (oN Z (oR Z (zP Z Z Z) (oM Z Z (oN Z (oN Z (oN Z (oR Z (zP Z Z Z) (oM Z Z (oN Z (oN Z (oN Z (oR Z (zP Z Z Z) (oM Z Z (oN Z (oN Z (oR Z (zP Z Z Z) (oM Z Z (oN Z (oN Z (oN Z (ZB Z Z Z (zT Z Z Z Z) (ZB Z Z Z (zT Z Z Z Z) (oN Z (oR Z (zP Z Z Z) (oM Z Z (oN Z (ZB Z Z Z (zT Z Z Z Z) (ZB Z Z Z (zT Z Z Z Z) (ZB Z Z Z (zT Z Z Z Z) (oN Z (oR Z (zP Z Z Z) (zb ?_)))))))))))))))))))))))))))))))))))))))))
 cases qQ
 exact zH ⟨rfl,⟨aE,rfl,(zO _),(ak.pick [2,3,4] _ (by decide) rfl)⟩⟩
 intro aW qR
 refine oT Z aW (oT Z aW (oR Z (zP Z (Zj aW.out) Z) (oM Z Z (oN Z (oN Z (oR Z (zP Z Z Z) (oM Z Z (oN Z (oN Z (oR Z (zP Z Z Z) (oM Z Z (oN Z (oN Z (oN Z (oR Z (zP Z Z Z) (oM Z Z (oN Z (oN Z (oN Z (oR Z (zP Z Z Z) (oM Z Z (oN Z (oN Z (oN Z (oR Z (zP Z Z Z) (oM Z Z (oN Z (oN Z (oR Z (zP Z Z Z) (oM Z Z (oN Z (oN Z (oN Z (ZB Z Z Z (zT Z Z Z Z) (ZB Z Z Z (zT Z Z Z Z) (oN Z (oR Z (zP Z Z Z) (oM Z Z (oN Z (ZB Z Z Z (zT Z Z Z Z) (ZB Z Z Z (zT Z Z Z Z) (ZB Z Z Z (zT Z Z Z Z) (oN Z (oR Z (zP Z Z Z) (zb ?_)))))))))))))))))))))))))))))))))))))))))))))
 cases qR
 exact zH ⟨rfl,⟨aE,rfl,(zO _),(ak.pick [2,3,4] _ (by decide) rfl)⟩⟩
 intro aV qS
 refine oT Z aV (oT Z aV (oR Z (zP Z (Zj aV.out) Z) (oM Z Z (oN Z (oN Z (oR Z (zP Z Z Z) (oM Z Z (oN Z (oN Z (oR Z (zP Z Z Z) (oM Z Z (oN Z (oN Z (oR Z (zP Z Z Z) (oM Z Z (oN Z (oN Z (oN Z (oR Z (zP Z Z Z) (oM Z Z (oN Z (oN Z (oN Z (oR Z (zP Z Z Z) (oM Z Z (oN Z (oN Z (oN Z (oR Z (zP Z Z Z) (oM Z Z (oN Z (oN Z (oR Z (zP Z Z Z) (oM Z Z (oN Z (oN Z (oN Z (ZB Z Z Z (zT Z Z Z Z) (ZB Z Z Z (zT Z Z Z Z) (oN Z (oR Z (zP Z Z Z) (oM Z Z (oN Z (ZB Z Z Z (zT Z Z Z Z) (ZB Z Z Z (zT Z Z Z Z) (ZB Z Z Z (zT Z Z Z Z) (oN Z (oR Z (zP Z Z Z) (zb ?_)))))))))))))))))))))))))))))))))))))))))))))))))
 cases qS
 exact zH ⟨rfl,⟨aE,rfl,(zO _),(ak.pick [2,3,4] _ (by decide) rfl)⟩⟩
 have f6:=gg;rw [if_neg aF] at f6;replace aF:=zM aF
 refine oT Z aF (oT Z aF (oR Z (zP Z (Zj aF.out) Z) (oM Z Z (oN Z (oN Z (oR Z (zP Z Z Z) (oM Z Z (oN Z (oN Z (oR Z (zP Z Z Z) (oM Z Z (oN Z (oN Z (oR Z (zP Z Z Z) (oM Z Z (oN Z (oN Z (oR Z (zP Z Z Z) (oM Z Z (oN Z (oN Z (oN Z (oR Z (zP Z Z Z) (oM Z Z (oN Z (oN Z (oN Z (oR Z (zP Z Z Z) (oM Z Z (oN Z (oN Z (oN Z (oR Z (zP Z Z Z) (oM Z Z (oN Z (oN Z (oR Z (zP Z Z Z) (oM Z Z (oN Z (oN Z (oN Z (ZB Z Z Z (zT Z Z Z Z) (ZB Z Z Z (zT Z Z Z Z) (oN Z (oR Z (zP Z Z Z) (oM Z Z (oN Z (ZB Z Z Z (zT Z Z Z Z) (ZB Z Z Z (zT Z Z Z Z) (ZB Z Z Z (zT Z Z Z Z) (oN Z (oR Z (zP Z Z Z) (zb ?_)))))))))))))))))))))))))))))))))))))))))))))))))))))
 cases f6
 exact zH ⟨rfl,⟨aE,rfl,(zO _),(ak.pick [2,3,4] _ (by decide) rfl)⟩⟩
 rintro vT iz ⟨g9,fQ,uV,fS⟩
 refine ifc qv ?_ ?_
 intro cw qT
 refine ZL (fQ.trans (congrArg hJ cw.out)) (sR fL1 Z (oA Z Z (eN (zS (zR ?_)))))
 have hE:=hH qT;first | subst r | cases hE
 exact ⟨rfl,_,(ZM rfl),g9,_,(fS.pick [] _ (by decide) rfl),rfl,rfl⟩
 intro cw qU
 refine zt (fQ.trans (congrArg hJ (hU.2 cw.out))) (kN (sR (.fx 0 (.fx 1 (wFy (.nil)) .stop) .stop) Z (bnK qU fun av j1 qV=>zF 0 Z Z Z Z (zD Z Z Try.call55 zN Z) fS (fun hs=>wCJ iz g9 hs j1) (.inr Z) ?_)))
 rintro tA uh vC bm uW oH ⟨dl,fm,dm,fq,dn,ft,dp,fu,rfl,rfl⟩
 let bN:Res:=.row dp fu 39 4 (hD wAA av.Readings)
 let cn:Res:=.row dn ft 43 3 (hD wAB av.Clocks)
 let dR:Res:=.row dm fq 41 2 (hD wAE av.Splits)
 have oI:sW w φ tA [.row dl fm 3 1 (hD KL.encI av.Starts),dR,cn,bN,.blk ag 41 af,.blk ae 41 ac,.blk ab 41 B5] bm:=oH
 have q:=oI.freezeR (k:=0) (n:=av.Starts.length) rfl (wAD (f:=KL.encI) (sz:=1) (fun _=>rfl) av.Starts) (by decide)
 obtain ⟨tB,uX,r8,oJ⟩:=q
 have oK:sW w φ tB [dR,cn,bN,.blk ag 41 af,.blk ae 41 ac,.blk ab 41 B5] bm:=oJ
 have q:=oK.freezeR (k:=0) (n:=av.Splits.length) rfl (wAD (f:=wAE) (sz:=2) (fun _=>rfl) av.Splits) (by decide)
 obtain ⟨tC,sK,r9,oO⟩:=q
 have oP:sW w φ tC [cn,bN,.blk ag 41 af,.blk ae 41 ac,.blk ab 41 B5] bm:=oO
 have q:=oP.freezeR (k:=0) (n:=av.Clocks.length) rfl (wAD (f:=wAB) (sz:=3) (fun _=>rfl) av.Clocks) (by decide)
 obtain ⟨tD,gx,sa,oQ⟩:=q
 have oS:sW w φ tD [bN,.blk ag 41 af,.blk ae 41 ac,.blk ab 41 B5] bm:=oQ
 have q:=oS.freezeR (k:=0) (n:=av.Readings.length) rfl (wAD (f:=wAA) (sz:=4) (fun _=>rfl) av.Readings) (by decide)
 obtain ⟨ib,cE,sb,oU⟩:=q
 have oV:sW w φ ib [.blk ag 41 af,.blk ae 41 ac,.blk ab 41 B5] bm:=oU
 have j3:=r8.le sK
 have j4:=j3.le gx
 have j5:=j4.le cE
 have j6:=r9.le gx
 have j7:=j6.le cE
 have j8:=sa.le cE
 have q:=bnd qV
 obtain ⟨⟨sZ,gF,gG⟩,j9,f8⟩:=q
 try dsimp only at f8
 refine zF 0 Z Z Z Z (zD Z Z Try.call27 (zB Z zN) Z) oV (fun hs=>wDp av dl fm dm fq dn ft dp fu bm ib hs j5 j7 j8 sb j9) (.inr Z) ?_
 rintro ic uj vE er uY oW ⟨dq,fw,iG,dr,fy,rfl,rfl,uz⟩
 let ah:Res:=.row dr fy 3 1 (hD KL.encI gF)
 let ai:Res:=.row dq fw 23 1 iG
 have oX:sW w φ ic [ai,ah,.blk ag 41 af,.blk ae 41 ac,.blk ab 41 B5] er:=oW
 refine oM Z Z (oR Z (zU Z Z (v:=.slice dq sZ.length fw) Z) (oR Z (zU Z Z (v:=.slice dr gF.length fy) Z) (oR Z (zU Z Z (v:=jV gG) Z) (oA Z Z (eN (sR (.fx 0 (fC1_4 (.fx 5 (.fx 6 (wLV (.nil)) .stop) .stop)) .stop) Z (bnK f8 fun ax k5 qW=>zF 0 Z Z Z Z (zD Z Z Try.call55 zN Z) oX (fun hs=>wCJ er ic hs k5) (.inr Z) ?_)))))))
 rintro ie uk vG iB uZ oY ⟨dt,fz,du,fA,dv,fB,dw,fC,rfl,rfl⟩
 let bx:Res:=.row dw fC 39 4 (hD wAA ax.Readings)
 let bP:Res:=.row dv fB 43 3 (hD wAB ax.Clocks)
 let co:Res:=.row du fA 41 2 (hD wAE ax.Splits)
 let dS:Res:=.row dt fz 3 1 (hD KL.encI ax.Starts)
 have oZ:sW w φ ie [dS,co,bP,bx,ai,ah,.blk ag 41 af,.blk ae 41 ac,.blk ab 41 B5] iB:=oY
 let dT:List Value:=[jV 0,jV 1,jV 0,.bool true]
 refine oR Z (zl (pv:=[(0,jV 0),(1,jV 1),(3,.bool true)]) (z:=bd) (cs:=dT) Z (wAG Z (wAG Z (wAG Z wAN))) Zn wDS Z Z) ?_
 let dU:List Value:=[jV 1,jV 1,jV 0,.bool true]
 refine oR Z (zl (pv:=[(0,jV 1),(1,jV 1),(3,.bool true)]) (z:=bd) (cs:=dU) Z (wAG Z (wAG Z (wAG Z wAN))) Zn wDS Z Z) ?_
 let dV:List Value:=[jV 3,jV 0,jV 1,.bool false]
 refine oR Z (zl (pv:=[(0,jV 3),(2,jV 1)]) (z:=bd) (cs:=dV) Z (wAG Z (wAG Z wAN)) Zn wDS Z Z) ?_
 let dW:List Value:=[jV 2,jV 0,jV 0,.bool false]
 refine oR Z (zl (pv:=[(0,jV 2)]) (z:=bd) (cs:=dW) Z (wAG Z wAN) Zn wDS Z Z) (zm (pv:=[(0,.agg dT.toArray),(1,.agg dU.toArray),(2,.agg dV.toArray),(3,.agg dW.toArray)]) (zs:=[jV 0,jV 0,jV 0,.bool false,jV 0,jV 0,jV 0,.bool false,jV 0,jV 0,jV 0,.bool false,jV 0,jV 0,jV 0,.bool false]) (cs:=[jV 0,jV 1,jV 0,.bool true,jV 1,jV 1,jV 0,.bool true,jV 3,jV 0,jV 1,.bool false,jV 2,jV 0,jV 0,.bool false]) Z Z Z Z Z (wAG Z (wAG Z (wAG Z (wAG Z wAN)))) Zg ZN Zn Z Z Z Z Z oZ ?_)
 intro aU eG o0
 let bz:Res:=.row (some ⟨eG,0,none⟩) 4 78 4 (hD wAP [(⟨0,1,0,true⟩:wAF),(⟨1,1,0,true⟩:wAF),(⟨3,0,1,false⟩:wAF),(⟨2,0,0,false⟩:wAF)])
 have o5:sW w φ ie [bz,dS,co,bP,bx,ai,ah,.blk ag 41 af,.blk ae 41 ac,.blk ab 41 B5] aU:=o0
 have q:=o5.freezeR (k:=1) (n:=ax.Starts.length) rfl (wAD (f:=KL.encI) (sz:=1) (fun _=>rfl) ax.Starts) (by decide)
 obtain ⟨tE,u4,sc,o6⟩:=q
 have o7:sW w φ tE [bz,co,bP,bx,ai,ah,.blk ag 41 af,.blk ae 41 ac,.blk ab 41 B5] aU:=o6
 have q:=o7.freezeR (k:=1) (n:=ax.Splits.length) rfl (wAD (f:=wAE) (sz:=2) (fun _=>rfl) ax.Splits) (by decide)
 obtain ⟨tF,sL,sd,o8⟩:=q
 have pd:sW w φ tF [bz,bP,bx,ai,ah,.blk ag 41 af,.blk ae 41 ac,.blk ab 41 B5] aU:=o8
 have q:=pd.freezeR (k:=1) (n:=ax.Clocks.length) rfl (wAD (f:=wAB) (sz:=3) (fun _=>rfl) ax.Clocks) (by decide)
 obtain ⟨tG,gy,sf,pe⟩:=q
 have pf:sW w φ tG [bz,bx,ai,ah,.blk ag 41 af,.blk ae 41 ac,.blk ab 41 B5] aU:=pe
 have q:=pf.freezeR (k:=1) (n:=ax.Readings.length) rfl (wAD (f:=wAA) (sz:=4) (fun _=>rfl) ax.Readings) (by decide)
 obtain ⟨tH,cG,sg,pg⟩:=q
 have ph:sW w φ tH [bz,ai,ah,.blk ag 41 af,.blk ae 41 ac,.blk ab 41 B5] aU:=pg
 have q:=ph.freezeR (k:=0) (n:=[(⟨0,1,0,true⟩:wAF),(⟨1,1,0,true⟩:wAF),(⟨3,0,1,false⟩:wAF),(⟨2,0,0,false⟩:wAF)].length) rfl (wAD (f:=wAP) (sz:=4) (fun _=>rfl) [(⟨0,1,0,true⟩:wAF),(⟨1,1,0,true⟩:wAF),(⟨3,0,1,false⟩:wAF),(⟨2,0,0,false⟩:wAF)]) (by decide)
 obtain ⟨ig,cb,sh,pj⟩:=q
 have pk:sW w φ ig [ai,ah,.blk ag 41 af,.blk ae 41 ac,.blk ab 41 B5] aU:=pj
 have k6:=sc.le sL
 have k7:=k6.le gy
 have k8:=k7.le cG
 have k9:=k8.le cb
 have lb:=sd.le gy
 have lc:=lb.le cG
 have lf:=lc.le cb
 have lg:=sf.le cG
 have lh:=lg.le cb
 have li:=sg.le cb
 have q:=bnd qW
 obtain ⟨⟨gH,gI⟩,lj,f9⟩:=q
 try dsimp only at f9
 refine zF 0 Z Z Z Z (zD Z Z Try.call34 (zB Z (zB Z zN)) Z) pk (fun hs=>wEQ ax dt fz du fA dv fB dw fC [(⟨0,1,0,true⟩:wAF),(⟨1,1,0,true⟩:wAF),(⟨3,0,1,false⟩:wAF),(⟨2,0,0,false⟩:wAF)] (some ⟨eG,0,none⟩) 4 aU ig hs k9 lf lh li sh lj) (.inr Z) ?_
 rintro ii um vH ew u5 pn ⟨rfl,rfl⟩
 have po:sW w φ ii [ai,ah,.blk ag 41 af,.blk ae 41 ac,.blk ab 41 B5] ew:=pn
 refine oM Z Z (oR Z (zU Z Z (v:=jV gH) Z) (oR Z (zU Z Z (v:=jV gI) Z) (oA Z Z (oA Z Z (eN (sR (.fx 0 (.fx 1 (wFy (.nil)) .stop) .stop) Z (bnK f9 fun ay lk qX=>zF 0 Z Z Z Z (zD Z Z Try.call55 zN Z) po (fun hs=>wCJ ew ii hs lk) (.inr Z) ?_)))))))
 rintro tI un vI bn u6 pp ⟨dx,fD,dy,fE,dz,fG,dA,fH,rfl,rfl⟩
 let bQ:Res:=.row dA fH 39 4 (hD wAA ay.Readings)
 let cp:Res:=.row dz fG 43 3 (hD wAB ay.Clocks)
 let dX:Res:=.row dy fE 41 2 (hD wAE ay.Splits)
 have pq:sW w φ tI [.row dx fD 3 1 (hD KL.encI ay.Starts),dX,cp,bQ,ai,ah,.blk ag 41 af,.blk ae 41 ac,.blk ab 41 B5] bn:=pp
 have q:=pq.freezeR (k:=0) (n:=ay.Starts.length) rfl (wAD (f:=KL.encI) (sz:=1) (fun _=>rfl) ay.Starts) (by decide)
 obtain ⟨tJ,u7,sj,pu⟩:=q
 have py:sW w φ tJ [dX,cp,bQ,ai,ah,.blk ag 41 af,.blk ae 41 ac,.blk ab 41 B5] bn:=pu
 have q:=py.freezeR (k:=0) (n:=ay.Splits.length) rfl (wAD (f:=wAE) (sz:=2) (fun _=>rfl) ay.Splits) (by decide)
 obtain ⟨tK,sM,sk,pz⟩:=q
 have pB:sW w φ tK [cp,bQ,ai,ah,.blk ag 41 af,.blk ae 41 ac,.blk ab 41 B5] bn:=pz
 have q:=pB.freezeR (k:=0) (n:=ay.Clocks.length) rfl (wAD (f:=wAB) (sz:=3) (fun _=>rfl) ay.Clocks) (by decide)
 obtain ⟨tL,gz,sl,pD⟩:=q
 have pE:sW w φ tL [bQ,ai,ah,.blk ag 41 af,.blk ae 41 ac,.blk ab 41 B5] bn:=pD
 have q:=pE.freezeR (k:=0) (n:=ay.Readings.length) rfl (wAD (f:=wAA) (sz:=4) (fun _=>rfl) ay.Readings) (by decide)
 obtain ⟨ij,cH,sm,pF⟩:=q
 have pG:sW w φ ij [ai,ah,.blk ag 41 af,.blk ae 41 ac,.blk ab 41 B5] bn:=pF
 have lm:=sj.le sM
 have ln:=lm.le gz
 have lp:=ln.le cH
 have lq:=sk.le gz
 have ls:=lq.le cH
 have lu:=sl.le cH
 have q:=bnd qX
 obtain ⟨⟨br,gJ⟩,lv,ga⟩:=q
 try dsimp only at ga
 refine zF 0 Z Z Z Z (zD Z Z Try.call29 (zB Z zN) Z) pG (fun hs=>wGB ay dx fD dy fE dz fG dA fH bn ij hs lp ls lu sm lv) (.inr Z) ?_
 rintro ik uo vJ eA u9 pH ⟨bG,bY,rfl,rfl⟩
 let aO:Res:=.row bG bY 3 1 (hD KL.encI br)
 have pI:sW w φ ik [aO,ai,ah,.blk ag 41 af,.blk ae 41 ac,.blk ab 41 B5] eA:=pH
 refine oM Z Z (oR Z (zU Z Z (v:=.slice bG br.length bY) Z) (oR Z (zU Z Z (v:=jV gJ) Z) (oA Z Z (oA Z Z (eN (sR (.fx 0 (.fx 1 (wFy (.nil)) .stop) .stop) Z (bnK ga fun aD lx qZ=>zF 0 Z Z Z Z (zD Z Z Try.call55 zN Z) pI (fun hs=>wCJ eA ik hs lx) (.inr Z) ?_)))))))
 rintro tM up vK bo va pJ ⟨dB,fI,dC,fJ,dD,fK,dE,fL,rfl,rfl⟩
 let bR:Res:=.row dE fL 39 4 (hD wAA aD.Readings)
 let cq:Res:=.row dD fK 43 3 (hD wAB aD.Clocks)
 let dY:Res:=.row dC fJ 41 2 (hD wAE aD.Splits)
 have pK:sW w φ tM [.row dB fI 3 1 (hD KL.encI aD.Starts),dY,cq,bR,aO,ai,ah,.blk ag 41 af,.blk ae 41 ac,.blk ab 41 B5] bo:=pJ
 have q:=pK.freezeR (k:=0) (n:=aD.Starts.length) rfl (wAD (f:=KL.encI) (sz:=1) (fun _=>rfl) aD.Starts) (by decide)
 obtain ⟨tN,vc,so,pL⟩:=q
 have pM:sW w φ tN [dY,cq,bR,aO,ai,ah,.blk ag 41 af,.blk ae 41 ac,.blk ab 41 B5] bo:=pL
 have q:=pM.freezeR (k:=0) (n:=aD.Splits.length) rfl (wAD (f:=wAE) (sz:=2) (fun _=>rfl) aD.Splits) (by decide)
 obtain ⟨tO,sN,sq,pN⟩:=q
 have pO:sW w φ tO [cq,bR,aO,ai,ah,.blk ag 41 af,.blk ae 41 ac,.blk ab 41 B5] bo:=pN
 have q:=pO.freezeR (k:=0) (n:=aD.Clocks.length) rfl (wAD (f:=wAB) (sz:=3) (fun _=>rfl) aD.Clocks) (by decide)
 obtain ⟨tP,gA,sr,pP⟩:=q
 have pQ:sW w φ tP [bR,aO,ai,ah,.blk ag 41 af,.blk ae 41 ac,.blk ab 41 B5] bo:=pP
 have q:=pQ.freezeR (k:=0) (n:=aD.Readings.length) rfl (wAD (f:=wAA) (sz:=4) (fun _=>rfl) aD.Readings) (by decide)
 obtain ⟨im,cI,ss,pR⟩:=q
 have pS:sW w φ im [aO,ai,ah,.blk ag 41 af,.blk ae 41 ac,.blk ab 41 B5] bo:=pR
 have ly:=so.le sN
 have lz:=ly.le gA
 have lA:=lz.le cI
 have lB:=sq.le gA
 have lC:=lB.le cI
 have lD:=sr.le cI
 have q:=bnd qZ
 obtain ⟨⟨bs,gK⟩,lE,ge⟩:=q
 try dsimp only at ge
 refine zF 0 Z Z Z Z (zD Z Z Try.call30 (zB Z zN) Z) pS (fun hs=>wGC aD dB fI dC fJ dD fK dE fL bo im hs lA lC lD ss lE) (.inr Z) ?_
 rintro ba ur vM iC ve pT ⟨bH,bZ,rfl,rfl⟩
 let be:Res:=.row bH bZ 3 1 (hD KL.encI bs)
 have bp:sW w φ ba [be,aO,ai,ah,.blk ag 41 af,.blk ae 41 ac,.blk ab 41 B5] iC:=pT
 refine oM Z Z (oR Z (zU Z Z (v:=.slice bH bs.length bZ) Z) (oR Z (zU Z Z (v:=jV gK) Z) (oA Z Z (oA Z Z (eN (zL (ye fun a9 aP=>?_)))))))
 have iP:a9 2=jV gG:=(aP 2).trans rfl
 have iQ:a9 4=jV gI:=(aP 4).trans rfl
 have iR:a9 6=jV gJ:=(aP 6).trans rfl
 have iS:a9 8=jV gK:=(aP 8).trans rfl
 have iT:a9 13=jV gH:=(aP 13).trans rfl
 have iU:a9 14=.slice bG br.length bY:=(aP 14).trans rfl
 have iV:a9 15=.slice bH bs.length bZ:=(aP 15).trans rfl
 clear aP
 refine rR (wNC (.fx 20 (.fx 21 (wMH (.fx 25 (.fx 26 (.fl 27 (.fl 28 .nil)) .stop) .stop)) .stop) .stop)) Z (oM Z iP (oR Z (Zs Z Z Z) (oM Z Z (ifc ge ?_ ?_))))
 intro a5 q6
 refine zk Z Z Z (wT Z a5) Z iQ (rU Z (wT Z a5) (Zs Z Z Z) (oR Z (zP Z (Zj a5.out) Z) (oM Z Z (ifc q6 ?_ ?_))))
 intro a6 q7
 refine zk Z Z Z (wT Z a6) Z iR (rU Z (wT Z a6) (Zs Z Z Z) (oR Z (zP Z (Zj a6.out) Z) (oM Z Z (ifc q7 ?_ ?_))))
 intro a7 q8
 refine zk Z Z Z (wT Z a7) Z iS (rU Z (wT Z a7) (Zs Z Z Z) (oR Z (zP Z (Zj a7.out) Z) (oM Z Z (ifc q8 ?_ ?_))))
 intro a8 q9
 refine zk Z Z Z (wT Z a8) Z iT (rU Z (wT Z a8) (Zs Z Z Z) (oR Z (zP Z (Zj a8.out) Z) (oM Z Z (ifc q9 ?_ ?_))))
 intro aK rc
 refine zk Z Z Z (wT Z aK) Z iU (zm (pv:=[(0,jV 1)]) (zs:=[jV 0]) (cs:=[jV 1]) Z Z Z (wT Z aK) Z (wAG Z wAN) zE zC zz Z Z Z Z Z bp ?_)
 intro bW eH pV
 let dZ:Res:=.row (some ⟨eH,0,none⟩) 1 3 1 (hD KL.encI [1])
 have pW:sW w φ ba [dZ,be,aO,ai,ah,.blk ag 41 af,.blk ae 41 ac,.blk ab 41 B5] bW:=pV
 have q:=pW.freezeR (k:=2) (n:=br.length) rfl (wAD (f:=KL.encI) (sz:=1) (fun _=>rfl) br) (by decide)
 obtain ⟨tQ,vf,su,pX⟩:=q
 have pY:sW w φ tQ [dZ,be,ai,ah,.blk ag 41 af,.blk ae 41 ac,.blk ab 41 B5] bW:=pX
 have q:=pY.freezeR (k:=0) (n:=[1].length) rfl (wAD (f:=KL.encI) (sz:=1) (fun _=>rfl) [1]) (by decide)
 obtain ⟨io,sO,sv,pZ⟩:=q
 have p6:sW w φ io [be,ai,ah,.blk ag 41 af,.blk ae 41 ac,.blk ab 41 B5] bW:=pZ
 have lF:=su.le sO
 refine bnK rc fun vR lG rd=>zF 0 Z Z Z (wT Z aK) (zD Z Z Try.call56 (zB Z (zB Z zN)) Z) p6 (fun hs=>wDZ br bG bY [1] (some ⟨eH,0,none⟩) 1 bW io hs lF sv lG) (.inr Z) ?_
 rintro cO uu vN iD vg p7 ⟨rfl,rfl⟩
 have fT:sW w φ cO [be,ai,ah,.blk ag 41 af,.blk ae 41 ac,.blk ab 41 B5] iD:=p7
 refine oR Z (zP Z (Zj aK.out) Z) (oM Z Z (ifc rd ?_ ?_))
 intro aL rf
 refine zk Z Z Z (zQ Z Z (congrArg hJ aL.out)) Z iV (zm (pv:=[(0,jV 1)]) (zs:=[jV 0]) (cs:=[jV 1]) Z Z Z (zQ Z Z (congrArg hJ aL.out)) Z (wAG Z wAN) zE zC zz Z Z Z Z Z fT ?_)
 intro bX eI p9
 let d5:Res:=.row (some ⟨eI,0,none⟩) 1 3 1 (hD KL.encI [1])
 have qa:sW w φ cO [d5,be,ai,ah,.blk ag 41 af,.blk ae 41 ac,.blk ab 41 B5] bX:=p9
 have q:=qa.freezeR (k:=1) (n:=bs.length) rfl (wAD (f:=KL.encI) (sz:=1) (fun _=>rfl) bs) (by decide)
 obtain ⟨tR,vh,sw,qb⟩:=q
 have qc:sW w φ tR [d5,ai,ah,.blk ag 41 af,.blk ae 41 ac,.blk ab 41 B5] bX:=qb
 have q:=qc.freezeR (k:=0) (n:=[1].length) rfl (wAD (f:=KL.encI) (sz:=1) (fun _=>rfl) [1]) (by decide)
 obtain ⟨ip,sP,sA,qd⟩:=q
 have qe:sW w φ ip [ai,ah,.blk ag 41 af,.blk ae 41 ac,.blk ab 41 B5] bX:=qd
 have lH:=sw.le sP
 refine bnK rf fun vS lI rh=>zF 0 Z Z Z (zQ Z Z (congrArg hJ aL.out)) (zD Z Z Try.call56 (zB Z (zB Z zN)) Z) qe (fun hs=>wDZ bs bH bZ [1] (some ⟨eI,0,none⟩) 1 bX ip hs lH sA lI) (.inr Z) ?_
 rintro iq uv vO iE vi qf ⟨rfl,rfl⟩
 have qh:sW w φ iq [ai,ah,.blk ag 41 af,.blk ae 41 ac,.blk ab 41 B5] iE:=qf
 refine oR Z (zP Z (congrArg hJ aL.out) Z) (oA Z Z (eN (zS ?_)))
 have hE:=hH rh;first | subst r | cases hE
 exact ⟨rfl,_,(ZM rfl),iq,_,(qh.pick [] _ (by decide) rfl),rfl,rfl⟩
 intro aL ri
 refine ZD Z Z Z (zT Z Z (congrArg hJ (hU.2 aL.out)) Z) (ZB Z Z Z (zT Z Z (congrArg hJ (hU.2 aL.out)) Z) (ZB Z Z Z (zT Z Z (congrArg hJ (hU.2 aL.out)) Z) (oR Z (zZ Z (congrArg hJ (hU.2 aL.out)) Z) (oA Z Z (eN (zS ?_))))))
 have hE:=hH ri;first | subst r | cases hE
 exact ⟨rfl,_,(ZM rfl),cO,_,(fT.pick [] _ (by decide) rfl),rfl,rfl⟩
 intro aK rk
 refine oF Z aK (ZB Z Z Z (zT Z Z (zw aK.out) Z) (ZB Z Z Z (zT Z Z (zw aK.out) Z) (oR Z (zZ Z (zw aK.out) Z) (oM Z Z (oN Z (ZB Z Z Z (zT Z Z Z Z) (ZB Z Z Z (zT Z Z Z Z) (oR Z (zZ Z Z Z) (oA Z Z (eN (zS ?_)))))))))))
 have hE:=hH rk;first | subst r | cases hE
 exact ⟨rfl,_,(ZM rfl),ba,_,(bp.pick [] _ (by decide) rfl),rfl,rfl⟩
 intro a8 rn
 refine oF Z a8 (oF Z a8 (oR Z (zZ Z (zw a8.out) Z) (oM Z Z (oN Z (ZB Z Z Z (zT Z Z Z Z) (ZB Z Z Z (zT Z Z Z Z) (oR Z (zZ Z Z Z) (oM Z Z (oN Z (ZB Z Z Z (zT Z Z Z Z) (ZB Z Z Z (zT Z Z Z Z) (oR Z (zZ Z Z Z) (oA Z Z (eN (zS ?_)))))))))))))))
 have hE:=hH rn;first | subst r | cases hE
 exact ⟨rfl,_,(ZM rfl),ba,_,(bp.pick [] _ (by decide) rfl),rfl,rfl⟩
 intro a7 rp
 refine oF Z a7 (oF Z a7 (oR Z (zZ Z (zw a7.out) Z) (oM Z Z (oN Z (oN Z (oR Z (zZ Z Z Z) (oM Z Z (oN Z (ZB Z Z Z (zT Z Z Z Z) (ZB Z Z Z (zT Z Z Z Z) (oR Z (zZ Z Z Z) (oM Z Z (oN Z (ZB Z Z Z (zT Z Z Z Z) (ZB Z Z Z (zT Z Z Z Z) (oR Z (zZ Z Z Z) (oA Z Z (eN (zS ?_)))))))))))))))))))
 have hE:=hH rp;first | subst r | cases hE
 exact ⟨rfl,_,(ZM rfl),ba,_,(bp.pick [] _ (by decide) rfl),rfl,rfl⟩
 intro a6 rq
 refine oF Z a6 (oF Z a6 (oR Z (zZ Z (zw a6.out) Z) (oM Z Z (oN Z (oN Z (oR Z (zZ Z Z Z) (oM Z Z (oN Z (oN Z (oR Z (zZ Z Z Z) (oM Z Z (oN Z (ZB Z Z Z (zT Z Z Z Z) (ZB Z Z Z (zT Z Z Z Z) (oR Z (zZ Z Z Z) (oM Z Z (oN Z (ZB Z Z Z (zT Z Z Z Z) (ZB Z Z Z (zT Z Z Z Z) (oR Z (zZ Z Z Z) (oA Z Z (eN (zS ?_)))))))))))))))))))))))
 have hE:=hH rq;first | subst r | cases hE
 exact ⟨rfl,_,(ZM rfl),ba,_,(bp.pick [] _ (by decide) rfl),rfl,rfl⟩
 intro a5 rv
 refine oF Z a5 (oF Z a5 (oR Z (zZ Z (zw a5.out) Z) (oM Z Z (oN Z (oN Z (oR Z (zZ Z Z Z) (oM Z Z (oN Z (oN Z (oR Z (zZ Z Z Z) (oM Z Z (oN Z (oN Z (oR Z (zZ Z Z Z) (oM Z Z (oN Z (ZB Z Z Z (zT Z Z Z Z) (ZB Z Z Z (zT Z Z Z Z) (oR Z (zZ Z Z Z) (oM Z Z (oN Z (ZB Z Z Z (zT Z Z Z Z) (ZB Z Z Z (zT Z Z Z Z) (oR Z (zZ Z Z Z) (oA Z Z (eN (zS ?_)))))))))))))))))))))))))))
 have hE:=hH rv;first | subst r | cases hE
 exact ⟨rfl,_,(ZM rfl),ba,_,(bp.pick [] _ (by decide) rfl),rfl,rfl⟩
end Go.Proofs.Ytlnfbjphfoipaaa
namespace Go.Proofs.Ytlnfbjphfoipaaa
open Go.KL
set_option maxHeartbeats 4000000
theorem wEl (p0:List Int) (ak:Option Addr) (am:Nat) (p1:Int) (w:World) (φ:PHeap) (hS:St0 w φ []) (aL:Sl φ 1 ak am p0.length (hD KL.encI p0)) {r:Int} (hm:wCD p0 p1=some r):Gv Try.prog 59 [.slice ak p0.length am,jV p1] w (wCF w [] φ (fun φ_ L_ v=>v=jV r/\L_=[])):=by
 unfold wCD at hm
 refine Gv.of Try.func59 Z Try.ntmps59 Try.results59 Z (sR fL1 Z (oA Z Z (eN (zL (sR fL3 Z (oM Z Z (oR Z (zq Z Z zE) (oM Z Z (eN (zY ?_))))))))))
 have q:=wBa hm
 obtain ⟨r3,ag⟩:=q
 have q:=wBZ ag
 obtain ⟨ai,aO⟩:=q
 replace ai:=zM ai
 refine yH (fun k2 _ σ_ w_=>∃ (φ_:PHeap),σ_ 8=jV (↑k2:Int)/\σ_ 0=.slice ak p0.length am/\σ_ 1=jV p1/\σ_ 7=jV (↑p0.length:Int)/\PHeap.Le φ φ_/\sW w φ φ_ [] w_) aO ?_ ?_ ?_
 exact ⟨φ,Z,Z,Z,Z,(zO _),hS⟩
 rintro k2 ⟨⟩ ba bc W8 ah ⟨az,ae,ao,ap,aq,ay,af⟩ ax aM
 try dsimp only at ax
 have an:Hid ((↑k2:Int) < (↑p0.length:Int)):=zM (wAs ah)
 replace ah:=zM ah
 have aP:Hid (w64 ((↑k2:Int) + 1)=(↑(k2 + 1):Int)):=zM (by have h1:=ai.out;have h2:=an.out;rw [wAT] <;> omega)
 refine sR fL1 Z (oR Z (zc Z ae aq) (eN (zL (cT Z an (kN (zL (zY (sR fL2 Z (oM Z ae (oA Z Z (eN (sR fL6 Z (oM Z ap (oM Z ao (oM Z Z (bnK ax fun aV au aQ=>?_))))))))))))))))
 have aH:=aL.le ay
 have q:=aH.el (fun _=>rfl) (wAX au)
 obtain ⟨aZ,a8,aI,aJ⟩:=q
 refine oR Z (Zc Z Z aI Z zE zC (wBQ au)) (oL Z (af.ldC (f:=0) aJ (v:=jV aV) Z Z zJ Z) (oR Z (Zs Z Z Z) (eN (ifc aQ ?_ ?_))))
 intro ac aR
 refine cT Z ac (sR fL2 Z (oM Z Z (oA Z Z (eN (zS (ze (zR ?_)))))))
 have q:=wAZ aR
 obtain ⟨aU,aS,aE⟩:=q
 have q:=wBI hm ag (aM aU aE)
 obtain rfl:=q
 refine zR (ze (zR ?_))
 cases aS
 exact ⟨Z,_,(ZM Z),az,_,af,Z,Z⟩
 intro ac aT
 refine cF Z ac (Zh (zo (zH (rR fL2 Z (oR Z (ZG (za Z ae Z) (congrArg (jV) aP.out)) (oM Z Z (zb ?_)))))))
 have q:=hH aT
 obtain rfl:=q
 exact zH ⟨Z,_,Z,⟨az,Z,ao,ap,aq,ay,af⟩⟩
 rintro ⟨⟩ bb aX ⟨aW,aG,a5,a6,aF,a7,aK⟩ aN
 have av:=wCO hm ag aN
 try dsimp only at av
 have aD:Hid (¬ ((↑(((↑p0.length:Int):Int) - 0).toNat:Int) < (↑p0.length:Int))):=zM (wAc)
 refine sR fL1 Z (oR Z (zc Z aG aF) (eN (zL (cF Z aD (Za (zi (zi (ZQ (zH (sR fL1 Z (oA Z Z (eN (zS ?_)))))))))))))
 cases av
 exact ⟨Z,_,(ZM Z),aW,_,aK,Z,Z⟩
theorem wCM (p0:List Int) (ac:Option Addr) (ae:Nat) (p1:Int) (w:World) (φ:PHeap) (hS:St0 w φ []) (am:Sl φ 1 ac ae p0.length (hD KL.encI p0)) {r:Bool} (hm:wAn p0 p1=some r):Gv Try.prog 26 [.slice ac p0.length ae,jV p1] w (wCF w [] φ (fun φ_ L_ v=>v=.bool r/\L_=[])):=by
 unfold wAn at hm
 refine Gv.of Try.func26 Z Try.ntmps26 Try.results26 Z (sR fL1 Z (oA Z Z (eN (sR (.fl 0 (.fl 1 (.fx 2 (.fl 3 (.fl 4 .nil)) .stop))) Z (oM Z Z (oM Z Z (bnK hm fun x1 h2 af=>zF 0 Z Z Z Z (zD Z Z Try.call59 (zB Z (zB Z zN)) Z) hS (fun hs=>wEl p0 ac ae p1 w φ hs am h2) (.inr Z) ?_)))))))
 rintro ag L5 v6 W7 ao ak ⟨rfl,rfl⟩
 have aj:sW w φ ag [] W7:=ak
 refine oR Z (Runs.geq Z Z Z) (oA Z Z (eN (zS ?_)))
 first | (obtain rfl:=hH af) | cases af
 exact ⟨Z,_,(ZM Z),ag,_,aj,Z,Z⟩
theorem wEH (p0:List Int) (j6:Option Addr) (j7:Nat) (p1:List Int) (gj:Option Addr) (gq:Nat) (p2:List Int) (gp:Option Addr) (gt:Nat) (w:World) (φ:PHeap) (hS:St0 w φ []) (DL:Sl φ 1 j6 j7 p0.length (hD KL.encB8 p0)) (pX:Sl φ 1 gj gq p1.length (hD KL.encB8 p1)) (DM:Sl φ 1 gp gt p2.length (hD KL.encB8 p2)) {r:Bool} (hm:wBW p0 p1 p2=some r):Gv Try.prog 5 [.slice j6 p0.length j7,.slice gj p1.length gq,.slice gp p2.length gt] w (wCF w [] φ (fun φ_ L_ v=>v=.bool r/\L_=[])):=by
 unfold wBW at hm
 refine Gv.of Try.func5 Z Try.ntmps5 Try.results5 Z (sR fL1 Z (oA Z Z (eN (sR (.fl 0 (.fx 1 (.fx 2 (wKW (.fx 7 (.fx 8 (.fl 9 (.fl 10 .nil)) .stop) .stop)) .stop) .stop)) Z (oM Z Z (bnK hm fun x1 h2 Fa=>zF 0 Z Z Z Z (zD Z Z Try.call9 (zB Z zN) Z) hS (fun hs=>wDT p0 j6 j7 w φ hs DL h2) (.inr Z) ?_))))))
 rintro ri L5 v6 W7 j5 DC ⟨iq,ly,mL,rfl,rfl,vi⟩
 have Bo:sW w φ ri [.blk iq 94 [.slice ly x1.bytes.length mL,jV x1.next,.int .u32 x1.state]] W7:=DC
 have q:=bnd Fa
 obtain ⟨⟨ai,Gp,qW,j9⟩,wA,qi⟩:=q
 try dsimp only at qi
 refine zF 1 Z Z Z Z (zD Z Z Try.call8 (zB Z (zB Z (zB Z (zB Z zN)))) Z) Bo (fun hs=>wFG x1 iq ly mL 4 4 8 W7 ri hs vi wA) (.inl Z) ?_
 rintro eE Hj IM sB j1 Cr ⟨bw,bH,bx,bI,bz,bJ,bA,bK,rH,tf,lG,mY,rI,tg,rfl,rfl,Ic,Ie⟩
 let B0:Res:=.blk iq 94 [.slice rI j9.bytes.length tg,jV j9.next,.int .u32 j9.state]
 let B1:Res:=.row lG mY 3 1 (hD KL.encI qW)
 let B2:Res:=.row bA bK 39 4 (hD wAA ai.Readings)
 let B3:Res:=.row bz bJ 43 3 (hD wAB ai.Clocks)
 let B4:Res:=.row bx bI 41 2 (hD wAE ai.Splits)
 let B5:Res:=.row bw bH 3 1 (hD KL.encI ai.Starts)
 have CY:sW w φ eE [B5,B4,B3,B2,B1,B0] sB:=Cr
 refine oM Z Z (oR Z (zU Z Z (v:=.agg #[.slice bw ai.Starts.length bH,.slice bx ai.Splits.length bI,.slice bz ai.Clocks.length bJ,.slice bA ai.Readings.length bK]) Z) (oR Z (zU Z Z (v:=.slice rH Gp.length tf) Z) (oR Z (zU Z Z (v:=.slice lG qW.length mY) Z) ?_)))
 let B6:List Value:=[.slice none 0 0,.slice none 0 0,.slice none 0 0,.slice none 0 0]
 refine zV (cs:=B6) Z Z Z Z Z Zw Z CY ?_
 intro HM ao C8
 let B7:List Value:=[.slice bw ai.Starts.length bH,.slice bx ai.Splits.length bI,.slice bz ai.Clocks.length bJ,.slice bA ai.Readings.length bK]
 refine zW (j:=0) (vs:=B7) Z Z Z Z C8 Z Z Z Z zX (zA Z) Z Z Z ?_
 intro ip Dc
 have Dd:sW w φ eE [.blk ao 28 B7,B5,B4,B3,B2,B1,B0] ip:=Dc
 refine oA Z Z (oA Z Z (eN ?_))
 have q:=bnd qi
 obtain ⟨⟨fV,fW,fY,fZ,ay,aR,aS,ak⟩,F1,qu⟩:=q
 try dsimp only at qu
 refine yO (fun σ_ w_=>∃ (φ_:PHeap) (eO:Option Addr) (fw:Nat) (eQ:Option Addr) (fy:Nat) (eU:Option Addr) (fz:Nat) (eV:Option Addr) (fA:Nat) (ab:Nat) (aK:Option Addr) (aQ:Nat) (aT:Option Addr) (aW:Nat) (aU:Option Addr) (aX:Nat) (av:Option Addr) (ax:Nat),σ_ 2=.slice gp p2.length gt/\σ_ 10=.pointer (some ⟨ab,0,none⟩)/\PHeap.Le eE φ_/\sW w φ φ_ [.blk ao 28 [.slice eO fV.length fw,.slice eQ fW.length fy,.slice eU fY.length fz,.slice eV fZ.length fA],B0,.blk ab 28 [.slice aK ay.length aQ,.slice aT aR.length aW,.slice aU aS.length aX,.slice av ak.length ax],.row aK aQ 3 1 (hD KL.encI ay),.row aT aW 41 2 (hD wAE aR),.row aU aX 43 3 (hD wAB aS),.row av ax 39 4 (hD wAA ak)] w_/\Sl φ_ 1 eO fw fV.length (hD KL.encI fV)/\Sl φ_ 2 eQ fy fW.length (hD wAE fW)/\Sl φ_ 3 eU fz fY.length (hD wAB fY)/\Sl φ_ 4 eV fA fZ.length (hD wAA fZ)) ?_ ?_
 refine bnK F1 fun bU pq EX=>?_
 have q:=bnd EX
 obtain ⟨⟨ap,bR⟩,jk,fT⟩:=q
 try dsimp only at fT
 refine ZE ZF [3,2,1,0,2,0] (.fl 0 (.fl 2 (.fx 1 (.fx 3 (.fx 4 (.fx 5 .nil .stop) .stop) (.fx 4 gFa .stop)) (.fx 4 (.fx 1 gFa .stop) .stop)))) (by kernel_rfl) ?_
 have fQ:=Dd.drew
 generalize hw_W169:({ ip with drawn:=ip.drawn + 1 }:World)=sk at fQ ⊢
 refine oM Z Z (oL Z (fQ.ldBA (j:=0) Z Z Z zf zX (vs:=B7) Z Z) (zr ?_ ?_))
 have vO:=pX.le j5
 have vP:=vO.le j1
 refine zF 0 Z Z Z Z (zD Z Z Try.call9 (zB Z zN) Z) fQ (fun hs=>wDT p1 gj gq sk eE hs vP pq) (.inr Z) ?_
 rintro GL Hd IH cY qL BN ⟨dE,gJ,iD,rfl,rfl,oS⟩
 let B8:Res:=.blk dE 94 [.slice gJ bU.bytes.length iD,jV bU.next,.int .u32 bU.state]
 have pO:sW w φ GL [B8,.blk ao 28 B7,B5,B4,B3,B2,B1,B0] cY:=BN
 refine zr ?_ ?_
 have q:=pO.freezeR (k:=2) (n:=ai.Starts.length) rfl (wAD (f:=KL.encI) (sz:=1) (fun _=>rfl) ai.Starts) (by decide)
 obtain ⟨GM,qM,FG,BZ⟩:=q
 have Cb:sW w φ GM [B8,.blk ao 28 B7,B4,B3,B2,B1,B0] cY:=BZ
 have q:=Cb.freezeR (k:=2) (n:=ai.Splits.length) rfl (wAD (f:=wAE) (sz:=2) (fun _=>rfl) ai.Splits) (by decide)
 obtain ⟨GN,j0,FH,Cf⟩:=q
 have Cg:sW w φ GN [B8,.blk ao 28 B7,B3,B2,B1,B0] cY:=Cf
 have q:=Cg.freezeR (k:=2) (n:=ai.Clocks.length) rfl (wAD (f:=wAB) (sz:=3) (fun _=>rfl) ai.Clocks) (by decide)
 obtain ⟨GP,f9,FI,Ch⟩:=q
 have Ci:sW w φ GP [B8,.blk ao 28 B7,B2,B1,B0] cY:=Ch
 have q:=Ci.freezeR (k:=2) (n:=ai.Readings.length) rfl (wAD (f:=wAA) (sz:=4) (fun _=>rfl) ai.Readings) (by decide)
 obtain ⟨rh,dX,qz,Cj⟩:=q
 have Ck:sW w φ rh [B8,.blk ao 28 B7,B1,B0] cY:=Cj
 have wB:=oS.le qM
 have wC:=wB.le j0
 have wD:=wC.le f9
 have wE:=wD.le dX
 have wG:=FG.le j0
 have wH:=wG.le f9
 have oU:=wH.le dX
 have wI:=FH.le f9
 have oV:=wI.le dX
 have oW:=FI.le dX
 refine zF 1 Z Z Z Z (zD Z Z Try.call10 (zB Z (zB Z zN)) Z) Ck (fun hs=>wDB bU dE gJ iD ai bw bH bx bI bz bJ bA bK cY rh hs wE oU oV oW qz jk) (.inl Z) ?_
 rintro ls Hh IL sw dY Cm ⟨gM,iH,gN,iI,gO,iJ,gP,iK,rF,td,rfl,rfl,H9⟩
 let B9:Res:=.blk dE 94 [.slice rF bR.bytes.length td,jV bR.next,.int .u32 bR.state]
 let lP:Res:=.row gP iK 39 4 (hD wAA ap.Readings)
 let lQ:Res:=.row gO iJ 43 3 (hD wAB ap.Clocks)
 let lR:Res:=.row gN iI 41 2 (hD wAE ap.Splits)
 let lS:Res:=.row gM iH 3 1 (hD KL.encI ap.Starts)
 have Cn:sW w φ ls [lS,lR,lQ,lP,B9,.blk ao 28 B7,B1,B0] sw:=Cm
 refine zV (cs:=B6) Z Z Z Z Z Zw Z Cn ?_
 intro HL mI Co
 let lT:List Value:=[.slice gM ap.Starts.length iH,.slice gN ap.Splits.length iI,.slice gO ap.Clocks.length iJ,.slice gP ap.Readings.length iK]
 refine zW (j:=0) (vs:=lT) Z Z Z Z Co Z Z Z Z zX (zA Z) Z Z Z ?_
 intro sA Cp
 have Cq:sW w φ ls [.blk mI 28 lT,lS,lR,lQ,lP,B9,.blk ao 28 B7,B1,B0] sA:=Cp
 refine zb ?_
 cases fT
 have wJ:=oU.le dY
 have wK:=oV.le dY
 have wL:=oW.le dY
 have wM:=qz.le dY
 exact zH ⟨rfl,⟨ls,bw,bH,bx,bI,bz,bJ,bA,bK,mI,gM,iH,gN,iI,gO,iJ,gP,iK,rfl,rfl,(((((qL.trans qM).trans j0).trans f9).trans dX).trans dY),(Cq.pick [6,8,0,1,2,3,4] _ (by decide) rfl),wJ,wK,wL,wM⟩⟩
 refine zV (cs:=B6) Z Z Z Z Z Zw Z pO ?_
 intro cZ cc Cs
 have q:=Cs.freezeR (k:=3) (n:=ai.Starts.length) rfl (wAD (f:=KL.encI) (sz:=1) (fun _=>rfl) ai.Starts) (by decide)
 obtain ⟨GQ,qO,FJ,Ct⟩:=q
 have Cu:sW w φ GQ [.blk cc 28 B6,B8,.blk ao 28 B7,B4,B3,B2,B1,B0] cZ:=Ct
 have q:=Cu.freezeR (k:=3) (n:=ai.Splits.length) rfl (wAD (f:=wAE) (sz:=2) (fun _=>rfl) ai.Splits) (by decide)
 obtain ⟨GR,j2,FK,Cv⟩:=q
 have Cw:sW w φ GR [.blk cc 28 B6,B8,.blk ao 28 B7,B3,B2,B1,B0] cZ:=Cv
 have q:=Cw.freezeR (k:=3) (n:=ai.Clocks.length) rfl (wAD (f:=wAB) (sz:=3) (fun _=>rfl) ai.Clocks) (by decide)
 obtain ⟨GS,ga,FL,Cx⟩:=q
 have Cy:sW w φ GS [.blk cc 28 B6,B8,.blk ao 28 B7,B2,B1,B0] cZ:=Cx
 have q:=Cy.freezeR (k:=3) (n:=ai.Readings.length) rfl (wAD (f:=wAA) (sz:=4) (fun _=>rfl) ai.Readings) (by decide)
 obtain ⟨lu,dZ,qA,Cz⟩:=q
 have CA:sW w φ lu [.blk cc 28 B6,B8,.blk ao 28 B7,B1,B0] cZ:=Cz
 have wN:=oS.le qO
 have wO:=wN.le j2
 have wP:=wO.le ga
 have wQ:=wP.le dZ
 have wR:=FJ.le j2
 have wS:=wR.le ga
 have oX:=wS.le dZ
 have wU:=FK.le ga
 have oY:=wU.le dZ
 have oZ:=FL.le dZ
 have CB:sW w φ lu [B8,.blk cc 28 B6,.blk ao 28 B7,B1,B0] cZ:=CA.pick [1,0,2,3,4] _ (by decide) rfl
 refine zF 1 Z Z Z Z (zD Z Z Try.call10 (zB Z (zB Z zN)) Z) CB (fun hs=>wDB bU dE gJ iD ai bw bH bx bI bz bJ bA bK cZ lu hs wQ oX oY oZ qA jk) (.inl Z) ?_
 rintro lv Hk IN sC d5 CC ⟨gQ,iL,gR,iM,gS,iN,gT,iO,rG,te,rfl,rfl,Ia⟩
 let lU:Res:=.blk dE 94 [.slice rG bR.bytes.length te,jV bR.next,.int .u32 bR.state]
 let lV:Res:=.row gT iO 39 4 (hD wAA ap.Readings)
 let lW:Res:=.row gS iN 43 3 (hD wAB ap.Clocks)
 let lX:Res:=.row gR iM 41 2 (hD wAE ap.Splits)
 let lY:Res:=.row gQ iL 3 1 (hD KL.encI ap.Starts)
 have CD:sW w φ lv [lY,lX,lW,lV,lU,.blk cc 28 B6,.blk ao 28 B7,B1,B0] sC:=CC
 let lZ:List Value:=[.slice gQ ap.Starts.length iL,.slice gR ap.Splits.length iM,.slice gS ap.Clocks.length iN,.slice gT ap.Readings.length iO]
 refine zW (j:=5) (vs:=lZ) Z Z Z Z CD Z Z Z Z zX (zA Z) Z Z Z ?_
 intro sD CE
 have CF:sW w φ lv [lY,lX,lW,lV,lU,.blk cc 28 lZ,.blk ao 28 B7,B1,B0] sD:=CE
 refine zb ?_
 cases fT
 have wV:=oX.le d5
 have wW:=oY.le d5
 have wX:=oZ.le d5
 have wY:=qA.le d5
 exact zH ⟨rfl,⟨lv,bw,bH,bx,bI,bz,bJ,bA,bK,cc,gQ,iL,gR,iM,gS,iN,gT,iO,rfl,rfl,(((((qL.trans qO).trans j2).trans ga).trans dZ).trans d5),(CF.pick [6,8,5,0,1,2,3] _ (by decide) rfl),wV,wW,wX,wY⟩⟩
 refine zV (cs:=B6) Z Z Z Z Z Zw Z fQ ?_
 intro sE cd CG
 have wZ:=pX.le j5
 have w5:=wZ.le j1
 refine zF 0 Z Z Z Z (zD Z Z Try.call9 (zB Z zN) Z) CG (fun hs=>wDT p1 gj gq sE eE hs w5 pq) (.inr Z) ?_
 rintro GT Hl IP c6 F7 CH ⟨ir,lH,mX,rfl,rfl,w6⟩
 let dz:Res:=.blk ir 94 [.slice lH bU.bytes.length mX,jV bU.next,.int .u32 bU.state]
 have CJ:sW w φ GT [dz,.blk cd 28 B6,.blk ao 28 B7,B5,B4,B3,B2,B1,B0] c6:=CH
 have q:=CJ.freezeR (k:=3) (n:=ai.Starts.length) rfl (wAD (f:=KL.encI) (sz:=1) (fun _=>rfl) ai.Starts) (by decide)
 obtain ⟨GU,qP,FM,CL⟩:=q
 have CM:sW w φ GU [dz,.blk cd 28 B6,.blk ao 28 B7,B4,B3,B2,B1,B0] c6:=CL
 have q:=CM.freezeR (k:=3) (n:=ai.Splits.length) rfl (wAD (f:=wAE) (sz:=2) (fun _=>rfl) ai.Splits) (by decide)
 obtain ⟨GV,j3,FN,CN⟩:=q
 have CO:sW w φ GV [dz,.blk cd 28 B6,.blk ao 28 B7,B3,B2,B1,B0] c6:=CN
 have q:=CO.freezeR (k:=3) (n:=ai.Clocks.length) rfl (wAD (f:=wAB) (sz:=3) (fun _=>rfl) ai.Clocks) (by decide)
 obtain ⟨GW,ge,FO,CP⟩:=q
 have CQ:sW w φ GW [dz,.blk cd 28 B6,.blk ao 28 B7,B2,B1,B0] c6:=CP
 have q:=CQ.freezeR (k:=3) (n:=ai.Readings.length) rfl (wAD (f:=wAA) (sz:=4) (fun _=>rfl) ai.Readings) (by decide)
 obtain ⟨rk,d7,qB,CR⟩:=q
 have CS:sW w φ rk [dz,.blk cd 28 B6,.blk ao 28 B7,B1,B0] c6:=CR
 have w7:=w6.le qP
 have w8:=w7.le j3
 have w9:=w8.le ge
 have xa:=w9.le d7
 have xb:=FM.le j3
 have xc:=xb.le ge
 have o0:=xc.le d7
 have xd:=FN.le ge
 have o3:=xd.le d7
 have o5:=FO.le d7
 refine zF 1 Z Z Z Z (zD Z Z Try.call10 (zB Z (zB Z zN)) Z) CS (fun hs=>wDB bU ir lH mX ai bw bH bx bI bz bJ bA bK c6 rk hs xa o0 o3 o5 qB jk) (.inl Z) ?_
 rintro lw Hm IQ sF d9 CT ⟨gU,iP,gV,iQ,gW,iR,gX,iS,rJ,th,rfl,rfl,Ib⟩
 let l3:Res:=.blk ir 94 [.slice rJ bR.bytes.length th,jV bR.next,.int .u32 bR.state]
 let l4:Res:=.row gX iS 39 4 (hD wAA ap.Readings)
 let l5:Res:=.row gW iR 43 3 (hD wAB ap.Clocks)
 let l6:Res:=.row gV iQ 41 2 (hD wAE ap.Splits)
 let l7:Res:=.row gU iP 3 1 (hD KL.encI ap.Starts)
 have CU:sW w φ lw [l7,l6,l5,l4,l3,.blk cd 28 B6,.blk ao 28 B7,B1,B0] sF:=CT
 let l8:List Value:=[.slice gU ap.Starts.length iP,.slice gV ap.Splits.length iQ,.slice gW ap.Clocks.length iR,.slice gX ap.Readings.length iS]
 refine zW (j:=5) (vs:=l8) Z Z Z Z CU Z Z Z Z zX (zA Z) Z Z Z ?_
 intro sG CV
 have CW:sW w φ lw [l7,l6,l5,l4,l3,.blk cd 28 l8,.blk ao 28 B7,B1,B0] sG:=CV
 refine zb ?_
 cases fT
 have xe:=o0.le d9
 have xf:=o3.le d9
 have xg:=o5.le d9
 have xh:=qB.le d9
 exact zH ⟨rfl,⟨lw,bw,bH,bx,bI,bz,bJ,bA,bK,cd,gU,iP,gV,iQ,gW,iR,gX,iS,rfl,rfl,(((((F7.trans qP).trans j3).trans ge).trans d7).trans d9),(CW.pick [6,8,5,0,1,2,3] _ (by decide) rfl),xe,xf,xg,xh⟩⟩
 rintro Jy sH ⟨GX,eO,fw,eQ,fy,eU,fz,eV,fA,ab,aK,aQ,aT,aW,aU,aX,av,ax,ue,cO,F8,CX,If,Ig,Ih,Ii⟩
 refine sR gFe Z (oM Z ue ?_)
 have xi:=DM.le j5
 have xj:=xi.le j1
 have xk:=xj.le F8
 refine bnK qu fun k5 xl Fb=>zF 0 Z Z Z Z (zD Z Z Try.call9 (zB Z zN) Z) CX (fun hs=>wDT p2 gp gt sH GX hs xk xl) (.inr Z) ?_
 rintro GY Hn IR da Im CZ ⟨aF,lI,mZ,rfl,rfl,xm⟩
 let ac:List Value:=[.slice aK ay.length aQ,.slice aT aR.length aW,.slice aU aS.length aX,.slice av ak.length ax]
 let ae:Res:=.blk ao 28 [.slice eO fV.length fw,.slice eQ fW.length fy,.slice eU fY.length fz,.slice eV fZ.length fA]
 let af:Res:=.blk aF 94 [.slice lI k5.bytes.length mZ,jV k5.next,.int .u32 k5.state]
 let eZ:Res:=.row av ax 39 4 (hD wAA ak)
 let g6:Res:=.row aU aX 43 3 (hD wAB aS)
 let ma:Res:=.row aT aW 41 2 (hD wAE aR)
 have pQ:sW w φ GY [af,ae,B0,.blk ab 28 ac,.row aK aQ 3 1 (hD KL.encI ay),ma,g6,eZ] da:=CZ
 refine oA Z Z (eN (sR (.fl 0 (.fx 1 (wLA (.nil)) .stop)) Z (oL Z (pQ.ldBA (j:=3) Z Z cO zf zX (vs:=ac) Z Z) ?_)))
 have q:=pQ.freezeR (k:=4) (n:=ay.length) rfl (wAD (f:=KL.encI) (sz:=1) (fun _=>rfl) ay) (by decide)
 obtain ⟨GZ,F9,FP,C1⟩:=q
 have C3:sW w φ GZ [af,ae,B0,.blk ab 28 ac,ma,g6,eZ] da:=C1
 have q:=C3.freezeR (k:=4) (n:=aR.length) rfl (wAD (f:=wAE) (sz:=2) (fun _=>rfl) aR) (by decide)
 obtain ⟨G0,qQ,FQ,C4⟩:=q
 have C5:sW w φ G0 [af,ae,B0,.blk ab 28 ac,g6,eZ] da:=C4
 have q:=C5.freezeR (k:=4) (n:=aS.length) rfl (wAD (f:=wAB) (sz:=3) (fun _=>rfl) aS) (by decide)
 obtain ⟨G1,j4,FR,C6⟩:=q
 have C7:sW w φ G1 [af,ae,B0,.blk ab 28 ac,eZ] da:=C6
 have q:=C7.freezeR (k:=4) (n:=ak.length) rfl (wAD (f:=wAA) (sz:=4) (fun _=>rfl) ak) (by decide)
 obtain ⟨rn,gg,qC,C9⟩:=q
 have Da:sW w φ rn [af,ae,B0,.blk ab 28 ac] da:=C9
 have xn:=FP.le qQ
 have xo:=xn.le j4
 have o6:=xo.le gg
 have xp:=FQ.le j4
 have o7:=xp.le gg
 have o8:=FR.le gg
 have q:=bnd Fb
 obtain ⟨⟨k6,dw,k7⟩,xq,qj⟩:=q
 try dsimp only at qj
 refine zF 0 Z Z Z Z (zD Z Z Try.call27 (zB Z zN) Z) Da (fun hs=>wDp (⟨ay,aR,aS,ak⟩:wAC) aK aQ aT aW aU aX av ax da rn hs o6 o7 o8 qC xq) (.inr Z) ?_
 rintro rp Hp IS mA ef Db ⟨eL,ft,tj,eM,fu,rfl,rfl,xr⟩
 let cy:Res:=.row eM fu 3 1 (hD KL.encI dw)
 let cU:Res:=.row eL ft 23 1 tj
 have pR:sW w φ rp [cU,cy,af,ae,B0,.blk ab 28 ac] mA:=Db
 refine oM Z Z (oR Z (zU Z Z (v:=.slice eL k6.length ft) Z) (oR Z (zU Z Z (v:=.slice eM dw.length fu) Z) (oR Z (zU Z Z (v:=jV k7) Z) (oA Z Z (oA Z Z (oA Z Z (eN (sR (.fl 0 (.fx 1 (wFy (.nil)) .stop)) Z (oL Z (pR.ldBA (j:=5) Z Z cO zf zX (vs:=ac) Z Z) ?_)))))))))
 have o9:=o6.le ef
 have pd:=o7.le ef
 have pe:=o8.le ef
 have pf:=qC.le ef
 have q:=bnd qj
 obtain ⟨⟨ek,k8⟩,xt,qk⟩:=q
 try dsimp only at qk
 refine zF 0 Z Z Z Z (zD Z Z Try.call28 (zB Z zN) Z) pR (fun hs=>wHt (⟨ay,aR,aS,ak⟩:wAC) aK aQ aT aW aU aX av ax mA rp hs o9 pd pe pf xt) (.inr Z) ?_
 rintro rq Hq IT mB dm De ⟨gY,iT,rfl,rfl⟩
 let cV:Res:=.row gY iT 78 4 (hD wAP ek)
 have pS:sW w φ rq [cV,cU,cy,af,ae,B0,.blk ab 28 ac] mB:=De
 refine oM Z Z (oR Z (zU Z Z (v:=.slice gY ek.length iT) Z) (oR Z (zU Z Z (v:=jV k8) Z) (oA Z Z (oA Z Z (eN (sR (.fl 0 (.fx 1 (wFy (.nil)) .stop)) Z (oL Z (pS.ldBA (j:=6) Z Z cO zf zX (vs:=ac) Z Z) ?_)))))))
 have pg:=o9.le dm
 have ph:=pd.le dm
 have pj:=pe.le dm
 have pk:=pf.le dm
 have q:=bnd qk
 obtain ⟨⟨aD,bS⟩,xu,qm⟩:=q
 try dsimp only at qm
 refine zF 0 Z Z Z Z (zD Z Z Try.call29 (zB Z zN) Z) pS (fun hs=>wGB (⟨ay,aR,aS,ak⟩:wAC) aK aQ aT aW aU aX av ax mB rq hs pg ph pj pk xu) (.inr Z) ?_
 rintro rv Hr IU mC dn Df ⟨bg,bi,rfl,rfl⟩
 let bY:Res:=.row bg bi 3 1 (hD KL.encI aD)
 have pT:sW w φ rv [bY,cV,cU,cy,af,ae,B0,.blk ab 28 ac] mC:=Df
 refine oM Z Z (oR Z (zU Z Z (v:=.slice bg aD.length bi) Z) (oR Z (zU Z Z (v:=jV bS) Z) (oA Z Z (oA Z Z (eN (sR (.fl 0 (.fx 1 (wFy (.nil)) .stop)) Z (oL Z (pT.ldBA (j:=7) Z Z cO zf zX (vs:=ac) Z Z) ?_)))))))
 have jm:=pg.le dn
 have jo:=ph.le dn
 have jp:=pj.le dn
 have jq:=pk.le dn
 have q:=bnd qm
 obtain ⟨⟨aZ,k9⟩,xv,qn⟩:=q
 try dsimp only at qn
 refine zF 0 Z Z Z Z (zD Z Z Try.call30 (zB Z zN) Z) pT (fun hs=>wGC (⟨ay,aR,aS,ak⟩:wAC) aK aQ aT aW aU aX av ax mC rv hs jm jo jp jq xv) (.inr Z) ?_
 rintro eF Hs IV db br Dg ⟨ba,be,rfl,rfl⟩
 let ah:Res:=.row ba be 3 1 (hD KL.encI aZ)
 have cn:sW w φ eF [ah,bY,cV,cU,cy,af,ae,B0,.blk ab 28 ac] db:=Dg
 refine oM Z Z (oR Z (zU Z Z (v:=.slice ba aZ.length be) Z) (oR Z (zU Z Z (v:=jV k9) Z) (oA Z Z (oA Z Z (eN (zL (sR fL2 Z (oM Z Z (oR Z (Zs Z Z Z) (eN (ifc qn ?_ ?_)))))))))))
 intro iU Fc
 refine cT Z iU (zL (zL (ye fun cu bN=>?_)))
 have ow:cu 10=.pointer (some ⟨ab,0,none⟩):=(bN 10).trans cO
 have uf:cu 11=.pointer (some ⟨aF,0,none⟩):=(bN 11).trans rfl
 have ug:cu 12=.slice eL k6.length ft:=(bN 12).trans rfl
 have uh:cu 13=.slice eM dw.length fu:=(bN 13).trans rfl
 have ui:cu 16=jV k8:=(bN 16).trans rfl
 have uj:cu 17=.slice bg aD.length bi:=(bN 17).trans rfl
 have uk:cu 18=jV bS:=(bN 18).trans rfl
 have um:cu 20=jV k9:=(bN 20).trans rfl
 clear bN
 refine rR (wLS (.fx 19 (.fl 20 (.fl 21 .nil)) .stop)) Z (oM Z ui (oR Z (ZZ Z Z Z) (oM Z Z (ifc Fc ?_ ?_))))
 intro cH Fd
 refine zk Z Z Z (zQ Z Z (zw (fun h=>h cH.out))) Z uk (zg Z Z Z (zQ Z Z (zw (fun h=>h cH.out))) (fun _=>ZZ Z Z Z) (oR Z (zZ Z (zw (fun h=>h cH.out)) Z) (oM Z Z (ifc Fd ?_ ?_))))
 intro cI Fe
 refine zk Z Z Z (zQ Z Z (zw (fun h=>h cI.out))) Z um (zg Z Z Z (zQ Z Z (zw (fun h=>h cI.out))) (fun _=>ZZ Z Z Z) (oR Z (zZ Z (zw (fun h=>h cI.out)) Z) (oM Z Z (ifc Fe ?_ ?_))))
 intro bL Ff
 refine zk Z Z Z (zQ Z Z (zw (fun h=>h bL.out))) Z uj (zg Z Z Z (zQ Z Z (zw (fun h=>h bL.out))) (fun _=>zq Z Z zE) (zg Z Z Z (zQ Z Z (zw (fun h=>h bL.out))) (fun _=>yb Z Z Z) (oR Z (zZ Z (zw (fun h=>h bL.out)) Z) (oM Z Z (ifc Ff ?_ ?_)))))
 intro a9 Fg
 refine oT Z a9 (oT Z a9 (oT Z a9 (ZB Z Z Z (zT Z Z (Zj a9.out) Z) (oT Z a9 (oR Z (zP Z (Zj a9.out) Z) (eN (ZL Z (sR fL1 Z (oA Z Z (eN (zS (zR (zR ?_)))))))))))))
 have hE:=hH Fg;first | subst r | cases hE
 exact ⟨rfl,_,(ZM rfl),eF,_,(cn.pick [] _ (by decide) rfl),rfl,rfl⟩
 intro a9 Fh
 refine ZJ Z Z Z (wF Z a9) (cn.ldBA (j:=8) Z Z ow zf zX (vs:=ac) Z Z) Z (zk Z Z Z (wF Z a9) Z ug (zk Z Z Z (wF Z a9) Z uh ?_))
 have xw:=xr.le dm
 have xx:=xw.le dn
 have xz:=xx.le br
 have q:=cn.freezeRR (R:=wIs) (k:=3) rfl xz rfl (by decide)
 obtain ⟨G2,eg,FS,Dh⟩:=q
 have Di:sW w φ G2 [ah,bY,cV,cy,af,ae,B0,.blk ab 28 ac] db:=Dh
 have q:=Di.freezeR (k:=3) (n:=dw.length) rfl (wAD (f:=KL.encI) (sz:=1) (fun _=>rfl) dw) (by decide)
 obtain ⟨rx,dp,FT,Dj⟩:=q
 have Dk:sW w φ rx [ah,bY,cV,af,ae,B0,.blk ab 28 ac] db:=Dj
 have xA:=jm.le br
 have xB:=xA.le eg
 have pm:=xB.le dp
 have xC:=jo.le br
 have xD:=xC.le eg
 have pn:=xD.le dp
 have xE:=jp.le br
 have xF:=xE.le eg
 have po:=xF.le dp
 have xG:=jq.le br
 have xH:=xG.le eg
 have pp:=xH.le dp
 have xI:=FS.le dp
 refine bnK Fh fun Jc xJ Fi=>zF 0 Z Z Z (wF Z a9) (zD Z Z Try.call24 (zB Z (zB Z (zB Z zN))) Z) Dk (fun hs=>wFJ (⟨ay,aR,aS,ak⟩:wAC) aK aQ aT aW aU aX av ax k6 eL ft dw eM fu db rx hs pm pn po pp xI FT xJ) (.inr Z) ?_
 rintro gE Ht IX sI eh Dl ⟨rfl,rfl⟩
 have pU:sW w φ gE [ah,bY,cV,af,ae,B0,.blk ab 28 ac] sI:=Dl
 refine rU Z (wF Z a9) (Ze Z Z) (oR Z (zZ Z (zw a9.out) Z) (eN (ifc Fi ?_ ?_)))
 intro iV jR
 refine zt (nC iV.out) (kN (zL (sR fL1 Z (oM Z Z (eN (zY ?_))))))
 have q:=wBa jR
 obtain ⟨Iz,jA⟩:=q
 have q:=wBZ jA
 obtain ⟨jO,D0⟩:=q
 replace jO:=zM jO
 refine yH (fun di (dN,lb,lc) σ_ w_=>∃ (φ_:PHeap) (eW:Option Addr) (fB:Nat),σ_ 103=jV (↑di:Int)/\σ_ 10=.pointer (some ⟨ab,0,none⟩)/\σ_ 11=.pointer (some ⟨aF,0,none⟩)/\PHeap.Le gE φ_/\sW w φ φ_ [.blk aF 94 [.slice eW dN.length fB,jV lb,.int .u32 lc],ae,B0,.blk ab 28 ac] w_/\Sl φ_ 1 eW fB dN.length (hD KL.encB8 dN)) D0 ?_ ?_ ?_
 have xK:=xm.le F9
 have xL:=xK.le qQ
 have xM:=xL.le j4
 have xN:=xM.le gg
 have xO:=xN.le ef
 have xP:=xO.le dm
 have xQ:=xP.le dn
 have xR:=xQ.le br
 have xS:=xR.le eg
 have xT:=xS.le dp
 have xU:=xT.le eh
 exact ⟨gE,lI,mZ,rfl,ow,uf,(zO _),(pU.pick [3,4,5,6] _ (by decide) rfl),xU⟩
 rintro di ⟨dN,lb,lc⟩ Jj Jz sJ jH ⟨G3,eW,fB,oC,un,ox,dq,Dm,xV⟩ qG DQ
 try dsimp only at qG
 have m4:Hid ((↑di:Int) < 6):=zM (wAs jH)
 replace jH:=zM jH
 have p7:Hid (w64 ((↑di:Int) + 1)=(↑(di + 1):Int)):=zM (by have h1:=jO.out;have h2:=m4.out;rw [wAT] <;> omega)
 refine sR fL1 Z (oR Z (zc Z oC Z) (eN (zL (cT Z m4 (kN (zL (zY (sR fL1 Z (oA Z Z (eN (zL (sR gFe Z (oM Z ox ?_)))))))))))))
 have q:=bnd qG
 obtain ⟨⟨gz,lf⟩,xW,qo⟩:=q
 try dsimp only at qo
 refine zF 1 Z Z Z Z (zD Z Z yi (zB Z (zB Z (zB Z zN))) Z) Dm (fun hs=>wAa (⟨dN,lb,lc⟩:wAH) aF eW fB 1 5 sJ G3 hs xV xW) (.inl Z) ?_
 rintro lx Hu IY sK dr Dn ⟨lJ,m5,rfl,rfl,xX⟩
 have Do:sW w φ lx [.blk aF 94 [.slice lJ lf.bytes.length m5,jV lf.next,.int .u32 lf.state],ae,B0,.blk ab 28 ac] sK:=Dn
 refine oM Z Z (eN (zY ?_))
 have q:=bnd qo
 obtain ⟨⟨Gw,Gx,Gy,lj⟩,D1,qp⟩:=q
 try dsimp only at qp
 have q:=wBL D1
 obtain ⟨jP,D5⟩:=q
 replace jP:=zM jP
 refine CK.forN' (fun dM (dO,lg,lh,dP) σ_ w_=>∃ (φ_:PHeap) (eX:Option Addr) (fC:Nat) (eY:Option Addr) (fD:Nat),σ_ 107=jV (↑dM:Int)/\σ_ 10=.pointer (some ⟨ab,0,none⟩)/\σ_ 11=.pointer (some ⟨aF,0,none⟩)/\σ_ 21=.slice eY dP.length fD/\σ_ 103=jV (↑di:Int)/\σ_ 106=jV gz/\PHeap.Le lx φ_/\sW w φ φ_ [.blk aF 94 [.slice eX dO.length fC,jV lg,.int .u32 lh],ae,B0,.blk ab 28 ac,.row eY fD 78 4 (hD wAP dP)] w_/\Sl φ_ 1 eX fC dO.length (hD KL.encB8 dO)) D5 ?_ ?_ ?_
 have Dp:=Do.nilrow 78 4
 exact ⟨lx,lJ,m5,none,0,rfl,un,ox,rfl,oC,rfl,(zO _),(Dp.pick [1,2,3,4,0] _ (by decide) rfl),xX⟩
 rintro dM ⟨dO,lg,lh,dP⟩ Jk JA sL jI ⟨G4,eX,fC,eY,fD,oD,uo,dI,up,uq,oy,Ga,Dq,xY⟩ qH
 try dsimp only at qH
 have m6:Hid ((↑dM:Int) < gz):=zM (wAs jI)
 replace jI:=zM jI
 have D8:Hid (w64 ((↑dM:Int) + 1)=(↑(dM + 1):Int)):=zM (by have h1:=jP.out;have h2:=m6.out;rw [wAT] <;> omega)
 refine sR fL1 Z (oR Z (zc Z oD oy) (eN (zL (cT Z m6 (kN (zL (zY (rR (.fl 0 (.fl 1 (.fx 2 (.fl 3 (.fx 4 (.fl 5 (.fx 6 (.fl 7 (.fx 8 (.fl 9 (.fx 10 (.fx 11 (.fl 12 .nil) .stop) .stop)) .stop)) .stop)) .stop)) .stop))) Z (oM Z up (oM Z dI ?_))))))))))
 have q:=bnd qH
 obtain ⟨⟨en,gA⟩,xZ,qq⟩:=q
 try dsimp only at qq
 refine zF 1 Z Z Z Z (zD Z Z Zz (zB Z (zB Z zN)) Z) Dq (fun hs=>wAR (⟨dO,lg,lh⟩:wAH) aF eX fC 4 sL G4 hs xY xZ) (.inl Z) ?_
 rintro ry Hv IZ mE Gb Dr ⟨lK,m7,rfl,rfl,x8⟩
 let dA:Res:=.row eY fD 78 4 (hD wAP dP)
 have Ds:sW w φ ry [.blk aF 94 [.slice lK gA.bytes.length m7,jV gA.next,.int .u32 gA.state],ae,B0,.blk ab 28 ac,dA] mE:=Dr
 refine oM Z dI ?_
 have q:=bnd qq
 obtain ⟨⟨eo,gB⟩,yn,qr⟩:=q
 try dsimp only at qr
 refine zF 1 Z Z Z Z (zD Z Z Zz (zB Z (zB Z zN)) Z) Ds (fun hs=>wAR gA aF lK m7 2 mE ry hs x8 yn) (.inl Z) ?_
 rintro rz Hw I3 mF Gc Dt ⟨lL,m8,rfl,rfl,yo⟩
 have Du:sW w φ rz [.blk aF 94 [.slice lL gB.bytes.length m8,jV gB.next,.int .u32 gB.state],ae,B0,.blk ab 28 ac,dA] mF:=Dt
 refine oM Z dI ?_
 have q:=bnd qr
 obtain ⟨⟨ep,gC⟩,yp,qs⟩:=q
 try dsimp only at qs
 refine zF 1 Z Z Z Z (zD Z Z Zz (zB Z (zB Z zN)) Z) Du (fun hs=>wAR gB aF lL m8 2 mF rz hs yo yp) (.inl Z) ?_
 rintro rA Hx I4 mG Gd Dv ⟨lM,m9,rfl,rfl,yq⟩
 have Dw:sW w φ rA [.blk aF 94 [.slice lM gC.bytes.length m9,jV gC.next,.int .u32 gC.state],ae,B0,.blk ab 28 ac,dA] mG:=Dv
 refine oM Z dI ?_
 have q:=bnd qs
 obtain ⟨⟨er,li⟩,yr,qt⟩:=q
 try dsimp only at qt
 refine zF 1 Z Z Z Z (zD Z Z Try.call33 (zB Z (zB Z zN)) Z) Dw (fun hs=>wDY gC aF lM m9 2 mG rA hs yq yr) (.inl Z) ?_
 rintro gF Hy I5 sM Ge Dx ⟨lN,n3,rfl,rfl,yt⟩
 let g7:Res:=.blk aF 94 [.slice lN li.bytes.length n3,jV li.next,.int .u32 li.state]
 have Dy:sW w φ gF [g7,ae,B0,.blk ab 28 ac,dA] sM:=Dx
 let g8:List Value:=[jV en,jV eo,jV ep,.bool er]
 let mb:List Value:=[jV 0,jV 0,jV 0,.bool false]
 refine oR Z (zl (pv:=[(0,jV en),(1,jV eo),(2,jV ep),(3,.bool er)]) (z:=mb) (cs:=g8) Z (wAG Z (wAG Z (wAG Z (wAG Z wAN)))) Zn wDS Z Z) (zm (pv:=[(0,.agg g8.toArray)]) (zs:=mb) (cs:=g8) Z Z Z Z Z (wAG Z wAN) Zg ZN Zn Z Z Z Z Z Dy ?_)
 intro sN s4 Dz
 let mc:Res:=.row (some ⟨s4,0,none⟩) 1 78 4 (hD wAP [(⟨en,eo,ep,er⟩:wAF)])
 have pV:sW w φ gF [mc,g7,ae,B0,.blk ab 28 ac,dA] sN:=Dz
 refine bnK qt fun qY yu Fj=>Zm (j:=5) (enc:=wAP) (xs:=dP) (ys:=[(⟨en,eo,ep,er⟩:wAF)]) (zs:=qY) rfl rfl rfl rfl rfl Try.underlying69 wLM rfl rfl rfl rfl rfl rfl pV rfl rfl rfl (pV.srcR (j:=0) rfl (by decide) (wAD (f:=wAP) (sz:=4) (fun _=>rfl) [(⟨en,eo,ep,er⟩:wAF)])) (fun _=>rfl) (fun _=>rfl) yu rfl ?_
 intro lO n4 sO DA
 have DB:sW w φ gF [mc,g7,ae,B0,.blk ab 28 ac,.row lO n4 78 4 (hD wAP qY)] sO:=DA
 refine oA Z Z (zb (zo (zH (rR fL2 Z (oR Z (ZG (za Z oD Z) (congrArg (jV) D8.out)) (oM Z Z (zb ?_)))))))
 cases Fj
 exact zH ⟨rfl,⟨gF,lN,n3,lO,n4,rfl,uo,dI,rfl,uq,oy,((((Ga.trans Gb).trans Gc).trans Gd).trans Ge),(DB.pick [1,2,3,4,5] _ (by decide) rfl),yt⟩⟩
 rintro JB mH ⟨JG,gZ,iW,rK,tk,uA,jg,oz,ur,oB,uu,dt,pW,pt⟩
 have tm:Hid (¬ ((↑((gz:Int) - 0).toNat:Int) < gz)):=zM (wAc)
 refine sR fL1 Z (oR Z (zc Z uA uu) (eN (zL (cF Z tm (Za (zi (zi (ZQ (zH (sR (.fl 0 (.fl 1 (.fx 2 (wME (.nil)) .stop))) Z (oL Z (pW.ldBA (j:=3) Z Z jg zf zX (vs:=ac) Z Z) (oM Z ur ?_))))))))))))
 have q:=pW.freezeR (k:=4) (n:=lj.length) rfl (wAD (f:=wAP) (sz:=4) (fun _=>rfl) lj) (by decide)
 obtain ⟨rB,ct,FU,DD⟩:=q
 let md:Res:=.blk aF 94 [.slice gZ Gw.length iW,jV Gx,.int .u32 Gy]
 have DE:sW w φ rB [md,ae,B0,.blk ab 28 ac] mH:=DD
 have yv:=pm.le eh
 have yw:=yv.le dq
 have yy:=yw.le dr
 have yz:=yy.le dt
 have y4:=yz.le ct
 have y5:=pn.le eh
 have y6:=y5.le dq
 have y7:=y6.le dr
 have y8:=y7.le dt
 have y9:=y8.le ct
 have z5:=po.le eh
 have z6:=z5.le dq
 have z7:=z6.le dr
 have z8:=z7.le dt
 have z9:=z8.le ct
 have Aa:=pp.le eh
 have Ab:=Aa.le dq
 have Ac:=Ab.le dr
 have Ad:=Ac.le dt
 have Ae:=Ad.le ct
 have q:=bnd qp
 obtain ⟨⟨Gs,Gt⟩,Af,qv⟩:=q
 try dsimp only at qv
 refine zF 0 Z Z Z Z (zD Z Z Try.call34 (zB Z (zB Z zN)) Z) DE (fun hs=>wEQ (⟨ay,aR,aS,ak⟩:wAC) aK aQ aT aW aU aX av ax lj rK tk mH rB hs y4 y9 z9 Ae FU Af) (.inr Z) ?_
 rintro gG Hz I6 sP gh DF ⟨rfl,rfl⟩
 have jy:sW w φ gG [md,ae,B0,.blk ab 28 ac] sP:=DF
 refine oM Z Z (oR Z (zU Z Z (v:=jV Gs) Z) (oR Z (zU Z Z (v:=jV Gt) Z) (oA Z Z (oA Z Z (eN (sR fL6 Z (oM Z Z (oR Z (ZZ Z Z Z) (oM Z Z (ifc qv ?_ ?_))))))))))
 intro cJ Fk
 refine ZD Z Z Z (zT Z Z (zw (fun h=>h cJ.out)) Z) (ZD Z Z Z (zT Z Z (zw (fun h=>h cJ.out)) Z) (oR Z (zZ Z (zw (fun h=>h cJ.out)) Z) (eN (zt Z (Zh (zo (zH (rR fL2 Z (oR Z (ZG (za Z oB Z) (congrArg (jV) p7.out)) (oM Z Z (zb ?_)))))))))))
 have q:=hH Fk
 obtain rfl:=q
 have Ag:=pt.le ct
 have Ah:=Ag.le gh
 exact zH ⟨Z,_,Z,⟨gG,gZ,iW,Z,jg,oz,((((dq.trans dr).trans dt).trans ct).trans gh),jy,Ah⟩⟩
 intro cJ Fm
 refine zk Z Z Z (wT Z cJ) Z Z (rU Z (wT Z cJ) (ZZ Z Z Z) (oR Z (zP Z (Zj cJ.out) Z) (eN (ifc Fm ?_ ?_))))
 intro iX Fo
 refine zt (zw (fun h=>h iX.out)) (Zh (zo (zH (rR fL2 Z (oR Z (ZG (za Z oB Z) (congrArg (jV) p7.out)) (oM Z Z (zb ?_)))))))
 have q:=hH Fo
 obtain rfl:=q
 have Ai:=pt.le ct
 have Aj:=Ai.le gh
 exact zH ⟨Z,_,Z,⟨gG,gZ,iW,Z,jg,oz,((((dq.trans dr).trans dt).trans ct).trans gh),jy,Aj⟩⟩
 intro iX Fp
 refine cT Z iX (sR fL1 Z (oA Z Z (eN (zS (ze (zR ?_))))))
 have q:=wAZ Fp
 obtain ⟨Gi,Fq,tv⟩:=q
 have q:=wBI jR jA (DQ Gi tv)
 obtain rfl:=q
 refine zR (ze (zR (zR ?_)))
 have hE:=hH Fq;first | subst r | cases hE
 exact ⟨rfl,_,(ZM rfl),gG,_,(jy.pick [] _ (by decide) rfl),rfl,rfl⟩
 rintro ⟨Gz,GA,GB⟩ JC sQ ⟨G5,rL,tn,uB,H2,H3,In,DG,Ij⟩ DR
 have qw:=wCO jR jA DR
 try dsimp only at qw
 have tp:Hid (¬ ((↑((6:Int) - 0).toNat:Int) < 6)):=zM (wAc)
 refine sR fL1 Z (oR Z (zc Z uB Z) (eN (zL (cF Z tp (Za (zi (zi (ZQ (zH (sR gFb Z (bnK qw fun Jd Ak Fr=>zF 0 Z Z Z Z (zD Z Z Try.call19 zN Z) DG (fun hs=>wDt sQ G5 hs Ak) (.inr Z) ?_)))))))))))
 rintro rC HA I7 sS Io DH ⟨rfl,rfl⟩
 have DI:sW w φ rC [.blk aF 94 [.slice rL Gz.length tn,jV GA,.int .u32 GB],ae,B0,.blk ab 28 ac] sS:=DH
 refine oA Z Z (eN (zS (zR ?_)))
 have hE:=hH Fr;first | subst r | cases hE
 exact ⟨rfl,_,(ZM rfl),rC,_,(DI.pick [] _ (by decide) rfl),rfl,rfl⟩
 intro iV Fs
 refine ZL (nF (iV.out)) (sR fL1 Z (oA Z Z (eN (zS (zR (zR ?_))))))
 have hE:=hH Fs;first | subst r | cases hE
 exact ⟨rfl,_,(ZM rfl),gE,_,(pU.pick [] _ (by decide) rfl),rfl,rfl⟩
 intro bL Ft
 refine oT Z bL (oT Z bL (oT Z bL (oR Z (zP Z (Zj bL.out) Z) (oM Z Z (oN Z (oN Z (oN Z (ZB Z Z Z (zT Z Z Z Z) (oN Z (oR Z (zP Z Z Z) (eN (ZL Z (sR fL1 Z (oA Z Z (eN (zS (zR (zR ?_))))))))))))))))))
 have hE:=hH Ft;first | subst r | cases hE
 exact ⟨rfl,_,(ZM rfl),eF,_,(cn.pick [] _ (by decide) rfl),rfl,rfl⟩
 intro cI Fu
 refine oT Z cI (oT Z cI (oR Z (zP Z (Zj cI.out) Z) (oM Z Z (oN Z (oN Z (oN Z (oR Z (zP Z Z Z) (oM Z Z (oN Z (oN Z (oN Z (ZB Z Z Z (zT Z Z Z Z) (oN Z (oR Z (zP Z Z Z) (eN (ZL Z (sR fL1 Z (oA Z Z (eN (zS (zR (zR ?_))))))))))))))))))))))
 have hE:=hH Fu;first | subst r | cases hE
 exact ⟨rfl,_,(ZM rfl),eF,_,(cn.pick [] _ (by decide) rfl),rfl,rfl⟩
 intro cH Fv
 refine oT Z cH (oT Z cH (oR Z (zP Z (Zj cH.out) Z) (oM Z Z (oN Z (oN Z (oR Z (zP Z Z Z) (oM Z Z (oN Z (oN Z (oN Z (oR Z (zP Z Z Z) (oM Z Z (oN Z (oN Z (oN Z (ZB Z Z Z (zT Z Z Z Z) (oN Z (oR Z (zP Z Z Z) (eN (ZL Z (sR fL1 Z (oA Z Z (eN (zS (zR (zR ?_))))))))))))))))))))))))))
 have hE:=hH Fv;first | subst r | cases hE
 exact ⟨rfl,_,(ZM rfl),eF,_,(cn.pick [] _ (by decide) rfl),rfl,rfl⟩
 intro iU Fw
 refine cF Z iU (kN (sR (.fl 0 (.fl 1 (.fx 2 (wME (.nil)) .stop))) Z (oL Z (cn.ldBA (j:=8) Z Z cO zf zX (vs:=ac) Z Z) (oM Z Z ?_))))
 have q:=cn.freezeR (k:=2) (n:=ek.length) rfl (wAD (f:=wAP) (sz:=4) (fun _=>rfl) ek) (by decide)
 obtain ⟨rD,gi,FV,DJ⟩:=q
 have DK:sW w φ rD [ah,bY,cU,cy,af,ae,B0,.blk ab 28 ac] db:=DJ
 have Al:=jm.le br
 have jr:=Al.le gi
 have Am:=jo.le br
 have jt:=Am.le gi
 have An:=jp.le br
 have ju:=An.le gi
 have uC:=jq.le br
 have ji:=uC.le gi
 have q:=bnd Fw
 obtain ⟨⟨qR,qS⟩,uD,p8⟩:=q
 try dsimp only at p8
 refine zF 0 Z Z Z Z (zD Z Z Try.call34 (zB Z (zB Z zN)) Z) DK (fun hs=>wEQ (⟨ay,aR,aS,ak⟩:wAC) aK aQ aT aW aU aX av ax ek gY iT db rD hs jr jt ju ji FV uD) (.inr Z) ?_
 rintro bW G6 IA rM cp AF ⟨rfl,rfl⟩
 have cP:sW w φ bW [ah,bY,cU,cy,af,ae,B0,.blk ab 28 ac] rM:=AF
 refine oM Z Z (oR Z (zU Z Z (v:=jV qR) Z) (oR Z (zU Z Z (v:=jV qS) Z) (oA Z Z (oA Z Z (eN (zL (bnK p8 fun sT qD D9=>yO (fun σ_ w_=>∃ (φ_:PHeap),σ_ 10=.pointer (some ⟨ab,0,none⟩)/\σ_ 17=.slice bg aD.length bi/\σ_ 18=jV bS/\σ_ 19=.slice ba aZ.length be/\σ_ 167=.bool sT/\PHeap.Le bW φ_/\sW w φ φ_ [af,ae,B0,.blk ab 28 ac,bY,ah] w_) ?_ ?_)))))))
 refine ye fun bV bq=>?_
 have cK:bV 10=.pointer (some ⟨ab,0,none⟩):=(bq 10).trans cO
 have tw:bV 14=jV k7:=(bq 14).trans rfl
 have tx:bV 16=jV k8:=(bq 16).trans rfl
 have cL:bV 17=.slice bg aD.length bi:=(bq 17).trans rfl
 have bM:bV 18=jV bS:=(bq 18).trans rfl
 have cM:bV 19=.slice ba aZ.length be:=(bq 19).trans rfl
 have tz:bV 20=jV k9:=(bq 20).trans rfl
 have tA:bV 24=jV qR:=(bq 24).trans rfl
 have tB:bV 25=jV qS:=(bq 25).trans rfl
 clear bq
 refine rR fL26 Z (oM Z tw (oR Z (ZZ Z Z Z) (oM Z Z ?_)))
 by_cases bd:k7=7
 have p9:=qD;rw [if_pos bd] at p9;replace bd:=zM bd
 refine zk Z Z Z (zQ Z Z (zw (fun h=>h bd.out))) Z tx (zg Z Z Z (zQ Z Z (zw (fun h=>h bd.out))) (fun _=>ZZ Z Z Z) (oR Z (zZ Z (zw (fun h=>h bd.out)) Z) (oM Z Z (ifc p9 ?_ ?_))))
 intro cA Ea
 refine zk Z Z Z (zQ Z Z (zw (fun h=>h cA.out))) Z tz (zg Z Z Z (zQ Z Z (zw (fun h=>h cA.out))) (fun _=>ZZ Z Z Z) (oR Z (zZ Z (zw (fun h=>h cA.out)) Z) (oM Z Z (ifc Ea ?_ ?_))))
 intro cB Eb
 refine zk Z Z Z (zQ Z Z (zw (fun h=>h cB.out))) Z tB (zg Z Z Z (zQ Z Z (zw (fun h=>h cB.out))) (fun _=>ZZ Z Z Z) (oR Z (zZ Z (zw (fun h=>h cB.out)) Z) (oM Z Z (ifc Eb ?_ ?_))))
 intro cC Ec
 refine zk Z Z Z (zQ Z Z (zw (fun h=>h cC.out))) Z tA (zg Z Z Z (zQ Z Z (zw (fun h=>h cC.out))) (fun _=>Runs.geq Z Z Z) (oR Z (zZ Z (zw (fun h=>h cC.out)) Z) (oM Z Z (ifc Ec ?_ ?_))))
 intro a7 Ee
 refine oT Z a7 (oT Z a7 (oT Z a7 (ZD Z Z Z (wAx Z Z Z) (ZD Z Z Z (wAx Z Z Z) (oT Z a7 (oR Z (zP Z (Zj a7.out) Z) (zb ?_)))))))
 cases Ee
 exact zH ⟨rfl,⟨bW,cK,cL,bM,cM,rfl,(zO _),(cP.pick [4,5,6,7,1,0] _ (by decide) rfl)⟩⟩
 intro a7 Ef
 refine zk Z Z Z (wF Z a7) Z bM (rU Z (wF Z a7) (ZZ Z Z Z) (zk Z Z Z (wF Z a7) Z Z (ifc Ef ?_ ?_)))
 intro cD Eg
 refine ZD Z Z Z (zT Z Z (zw (fun h=>h cD.out)) Z) (ZD Z Z Z (zT Z Z (zw (fun h=>h cD.out)) Z) (rU Z (wF Z a7) (zZ Z (zw (fun h=>h cD.out)) Z) (oR Z (zZ Z (zw a7.out) Z) (zb ?_))))
 cases Eg
 exact zH ⟨rfl,⟨bW,cK,cL,bM,cM,rfl,(zO _),(cP.pick [4,5,6,7,1,0] _ (by decide) rfl)⟩⟩
 intro cD Eh
 refine zk Z Z Z (wT Z cD) Z bM (rU Z (wT Z cD) (ZZ Z Z Z) (rU Z (wF Z a7) (zP Z (Zj cD.out) Z) (oR Z (zZ Z (zw a7.out) Z) (zb ?_))))
 have q:=hH Eh
 obtain rfl:=q
 exact zH ⟨rfl,⟨bW,cK,cL,bM,cM,rfl,(zO _),(cP.pick [4,5,6,7,1,0] _ (by decide) rfl)⟩⟩
 intro cC Ei
 refine oT Z cC (oT Z cC (oR Z (zP Z (Zj cC.out) Z) (oM Z Z (oN Z (oN Z (oN Z (ZD Z Z Z (wAx Z Z Z) (ZD Z Z Z (wAx Z Z Z) (oN Z (oR Z (zP Z Z Z) (zb ?_)))))))))))
 cases Ei
 exact zH ⟨rfl,⟨bW,cK,cL,bM,cM,rfl,(zO _),(cP.pick [4,5,6,7,1,0] _ (by decide) rfl)⟩⟩
 intro cB Ej
 refine oT Z cB (oT Z cB (oR Z (zP Z (Zj cB.out) Z) (oM Z Z (oN Z (oN Z (oR Z (zP Z Z Z) (oM Z Z (oN Z (oN Z (oN Z (ZD Z Z Z (wAx Z Z Z) (ZD Z Z Z (wAx Z Z Z) (oN Z (oR Z (zP Z Z Z) (zb ?_)))))))))))))))
 cases Ej
 exact zH ⟨rfl,⟨bW,cK,cL,bM,cM,rfl,(zO _),(cP.pick [4,5,6,7,1,0] _ (by decide) rfl)⟩⟩
 intro cA Ek
 refine oT Z cA (oT Z cA (oR Z (zP Z (Zj cA.out) Z) (oM Z Z (oN Z (oN Z (oR Z (zP Z Z Z) (oM Z Z (oN Z (oN Z (oR Z (zP Z Z Z) (oM Z Z (oN Z (oN Z (oN Z (ZD Z Z Z (wAx Z Z Z) (ZD Z Z Z (wAx Z Z Z) (oN Z (oR Z (zP Z Z Z) (zb ?_)))))))))))))))))))
 cases Ek
 exact zH ⟨rfl,⟨bW,cK,cL,bM,cM,rfl,(zO _),(cP.pick [4,5,6,7,1,0] _ (by decide) rfl)⟩⟩
 have qa:=qD;rw [if_neg bd] at qa;replace bd:=zM bd
 refine oT Z bd (oT Z bd (oR Z (zP Z (Zj bd.out) Z) (oM Z Z (oN Z (oN Z (oR Z (zP Z Z Z) (oM Z Z (oN Z (oN Z (oR Z (zP Z Z Z) (oM Z Z (oN Z (oN Z (oR Z (zP Z Z Z) (oM Z Z (oN Z (oN Z (oN Z (ZD Z Z Z (wAx Z Z Z) (ZD Z Z Z (wAx Z Z Z) (oN Z (oR Z (zP Z Z Z) (zb ?_)))))))))))))))))))))))
 cases qa
 exact zH ⟨rfl,⟨bW,cK,cL,bM,cM,rfl,(zO _),(cP.pick [4,5,6,7,1,0] _ (by decide) rfl)⟩⟩
 rintro Jl rN ⟨GC,tC,n5,tD,tE,n6,cq,pu⟩
 refine ifc D9 ?_ ?_
 intro it El
 refine ZL (n6.trans (congrArg hJ it.out)) (sR fL1 Z (oA Z Z (eN (zS (zR ?_)))))
 have hE:=hH El;first | subst r | cases hE
 exact ⟨rfl,_,(ZM rfl),GC,_,(pu.pick [] _ (by decide) rfl),rfl,rfl⟩
 intro it fS
 refine zt (n6.trans (congrArg hJ (hU.2 it.out))) (kN (zL (sR fL3 Z (oM Z n5 (oR Z (zq Z Z zE) (oM Z Z (eN (zY ?_))))))))
 have q:=pu.freezeR (k:=4) (n:=aD.length) rfl (wAD (f:=KL.encI) (sz:=1) (fun _=>rfl) aD) (by decide)
 obtain ⟨lk,cr,jS,AG⟩:=q
 have AH:sW w φ lk [af,ae,B0,.blk ab 28 ac,ah] rN:=AG
 have q:=wBa fS
 obtain ⟨Ix,fR⟩:=q
 have q:=wBZ fR
 obtain ⟨jJ,DS⟩:=q
 replace jJ:=zM jJ
 refine yH (fun bP _ σ_ w_=>∃ (φ_:PHeap),σ_ 170=jV (↑bP:Int)/\σ_ 10=.pointer (some ⟨ab,0,none⟩)/\σ_ 17=.slice bg aD.length bi/\σ_ 18=jV bS/\σ_ 19=.slice ba aZ.length be/\σ_ 169=jV (↑aD.length:Int)/\PHeap.Le lk φ_/\sW w φ φ_ [af,ae,B0,.blk ab 28 ac,ah] w_) DS ?_ ?_ ?_
 exact ⟨lk,Z,tC,n5,tD,tE,Z,(zO _),AH⟩
 rintro bP ⟨⟩ Je Jm mu jC ⟨ey,dd,dF,cg,fE,fG,dG,cS,AI⟩ qE pY
 try dsimp only at qE
 have mJ:Hid ((↑bP:Int) < (↑aD.length:Int)):=zM (wAs jC)
 replace jC:=zM jC
 have D6:Hid (w64 ((↑bP:Int) + 1)=(↑(bP + 1):Int)):=zM (by have h1:=jJ.out;have h2:=mJ.out;rw [wAT] <;> omega)
 refine sR fL1 Z (oR Z (zc Z dd dG) (eN (zL (cT Z mJ (kN (zL (zY (sR fL2 Z (oM Z dd (oA Z Z (eN (zL (bnK qE fun sU FW Em=>yO (fun σ_ w_=>∃ (φ_:PHeap),σ_ 10=.pointer (some ⟨ab,0,none⟩)/\σ_ 17=.slice bg aD.length bi/\σ_ 18=jV bS/\σ_ 19=.slice ba aZ.length be/\σ_ 26=jV (↑bP:Int)/\σ_ 169=jV (↑aD.length:Int)/\σ_ 170=jV (↑bP:Int)/\σ_ 203=.bool sU/\PHeap.Le ey φ_/\sW w φ φ_ [af,ae,B0,.blk ab 28 ac,ah] w_) ?_ ?_)))))))))))))
 refine ZE ZF [3,3,3,1,3,3,3,3,3,1,3,1,3,3,3,3,3,3,3,3,3,3,1,3,3,3,3,1,3,3,3] fL31 (by kernel_rfl) ?_
 have bp:=AI.drew
 generalize hw_W1101:({ mu with drawn:=mu.drawn + 1 }:World)=HB at bp ⊢
 refine oM Z cg (oM Z Z (bnK FW fun j8 df En=>?_))
 have fO:=jS.le cS
 have q:=fO.el (fun _=>rfl) (wAX df)
 obtain ⟨HN,Ip,Ao,Ax⟩:=q
 refine oR Z (Zc Z Z Ao Z zE zC (wBQ df)) (oL Z (bp.ldC (f:=0) Ax (v:=jV j8) Z Z zJ Z) (oR Z (zc Z Z Z) (oM Z Z (ifc En ?_ ?_))))
 intro az Eo
 refine oT Z az (oT Z az (oT Z az (oT Z az (oT Z az (oT Z az (oT Z az (oT Z az (oR Z (zP Z (Zj az.out) Z) (oM Z Z (oN Z (oN Z (oN Z (ZD Z Z Z (wAx Z Z Z) (ZD Z Z Z (wAx Z Z Z) (ZD Z Z Z (wAx Z Z Z) (ZD Z Z Z (wAx Z Z Z) (ZD Z Z Z (wAx Z Z Z) (ZD Z Z Z (wAx Z Z Z) (ZD Z Z Z (wAx Z Z Z) (ZD Z Z Z (wAx Z Z Z) (ZD Z Z Z (wAx Z Z Z) (ZD Z Z Z (wAx Z Z Z) (oN Z (oR Z (zP Z Z Z) (zb ?_)))))))))))))))))))))))))
 cases Eo
 exact zH ⟨Z,⟨ey,dF,cg,fE,fG,Z,dG,dd,Z,(zO _),bp⟩⟩
 intro az Ep
 refine zk Z Z Z (wF Z az) Z cg (zk Z Z Z (wF Z az) Z Z ?_)
 have q:=fO.el (fun _=>rfl) (wAX df)
 obtain ⟨HO,Iq,Ap,Ay⟩:=q
 refine rU Z (wF Z az) (Zc Z Z Ap Z zE zC (wBQ df)) (ZJ Z Z Z (wF Z az) (bp.ldC (f:=0) Ay (v:=jV j8) Z Z zJ Z) Z (rU Z (wF Z az) (zG Z dF zK Z ZH) (ZJ Z Z Z (wF Z az) (bp.ldB (j:=3) Z Z Z Zi (v:=.slice av ak.length ax) Z) Z (rU Z (wF Z az) (zq Z Z zn) (rU Z (wF Z az) (Runs.geq Z Z Z) (oR Z (zZ Z (zw az.out) Z) (oM Z Z (ifc Ep ?_ ?_))))))))
 intro a8 Er
 refine oT Z a8 (oT Z a8 (oT Z a8 (ZD Z Z Z (wAx Z Z Z) (ZD Z Z Z (wAx Z Z Z) (ZD Z Z Z (wAx Z Z Z) (ZD Z Z Z (wAx Z Z Z) (ZD Z Z Z (wAx Z Z Z) (ZD Z Z Z (wAx Z Z Z) (ZD Z Z Z (wAx Z Z Z) (ZD Z Z Z (wAx Z Z Z) (ZD Z Z Z (wAx Z Z Z) (ZD Z Z Z (wAx Z Z Z) (oT Z a8 (oR Z (zP Z (Zj a8.out) Z) (zb ?_)))))))))))))))
 cases Er
 exact zH ⟨Z,⟨ey,dF,cg,fE,fG,Z,dG,dd,Z,(zO _),bp⟩⟩
 intro a8 Es
 refine zk Z Z Z (wF Z a8) Z Z (rU Z (wF Z a8) (yb Z Z Z) (zk Z Z Z (wF Z a8) Z Z (ifc Es ?_ ?_)))
 intro au Et
 refine zk Z Z Z (wT Z au) Z cg (zk Z Z Z (wT Z au) Z Z ?_)
 have q:=fO.el (fun _=>rfl) (wAX df)
 obtain ⟨HP,Ir,Aq,Az⟩:=q
 refine rU Z (wT Z au) (Zc Z Z Aq Z zE zC (wBQ df)) (ZJ Z Z Z (wT Z au) (bp.ldC (f:=0) Az (v:=jV j8) Z Z zJ Z) Z (zk Z Z Z (wT Z au) Z cg (zk Z Z Z (wT Z au) Z Z (rU Z (wT Z au) (yJ Z Z Z) (bnK Et fun Gj jj Eu=>?_)))))
 have q:=fO.el (fun _=>rfl) (wAX jj)
 obtain ⟨HQ,Is,Ar,AA⟩:=q
 refine rU Z (wT Z au) (ZY Z Z Ar Z zE zC (wCG jj) (wCI jj)) (ZJ Z Z Z (wT Z au) (bp.ldC (f:=0) AA (v:=jV Gj) Z Z zJ Z) Z (rU Z (wT Z au) (Runs.leq Z Z Z) (rU Z (wF Z a8) (zP Z (Zj au.out) Z) (oR Z (zZ Z (zw a8.out) Z) (zb ?_)))))
 have q:=hH Eu
 obtain rfl:=q
 exact zH ⟨Z,⟨ey,dF,cg,fE,fG,Z,dG,dd,Z,(zO _),bp⟩⟩
 intro au Ev
 refine oF Z au (oF Z au (oF Z au (oF Z au (oF Z au (oF Z au (oF Z au (oF Z au (oF Z au (oF Z au (rU Z (wF Z a8) (zZ Z (zw au.out) Z) (oR Z (zZ Z (zw a8.out) Z) (zb ?_))))))))))))
 cases Ev
 exact zH ⟨Z,⟨ey,dF,cg,fE,fG,Z,dG,dd,Z,(zO _),bp⟩⟩
 rintro Jn rO ⟨qZ,iY,tF,tG,tH,tI,tJ,tK,n7,dk,jv⟩
 refine ifc Em ?_ ?_
 intro iu Ew
 refine ZL (n7.trans (congrArg hJ iu.out)) (sR fL1 Z (oA Z Z (eN (zS (zR (ze (zR ?_)))))))
 have q:=wAZ Ew
 obtain ⟨Gf,Ex,tq⟩:=q
 have q:=wBI fS fR (pY Gf tq)
 obtain rfl:=q
 refine zR (ze (zR ?_))
 have hE:=hH Ex;first | subst r | cases hE
 exact ⟨rfl,_,(ZM rfl),qZ,_,(jv.pick [] _ (by decide) rfl),rfl,rfl⟩
 intro iu Ey
 refine zt (n7.trans (congrArg hJ (hU.2 iu.out))) (kN (sR gFg Z (oL Z (jv.ldBA (j:=3) Z Z iY zf zX (vs:=ac) Z Z) ?_)))
 have uE:=jr.le cp
 have uF:=uE.le cq
 have uG:=uF.le cr
 have uH:=uG.le cS
 have uI:=uH.le dk
 have uJ:=jt.le cp
 have uK:=uJ.le cq
 have uL:=uK.le cr
 have uM:=uL.le cS
 have uN:=uM.le dk
 have uO:=ju.le cp
 have uP:=uO.le cq
 have uQ:=uP.le cr
 have uR:=uQ.le cS
 have uS:=uR.le dk
 have uT:=ji.le cp
 have uU:=uT.le cq
 have uV:=uU.le cr
 have uW:=uV.le cS
 have oE:=uW.le dk
 refine bnK Ey fun aj uX Ez=>zF 0 Z Z Z Z (zD Z Z Try.call13 (zB Z zN) Z) jv (fun hs=>wDA (⟨ay,aR,aS,ak⟩:wAC) aK aQ aT aW aU aX av ax rO qZ hs uI uN uS oE uX) (.inr Z) ?_
 rintro eA G7 IB rP jT AJ ⟨bt,bD,bu,bE,bv,bF,lz,mK,rfl,rfl⟩
 let aV:Res:=.row bv bF 43 3 (hD wAB aj.Clocks)
 let a6:Res:=.row bu bE 41 2 (hD wAE aj.Splits)
 let bb:Res:=.row bt bD 3 1 (hD KL.encI aj.Starts)
 let g9:Res:=.row lz mK 39 4 (hD wAA aj.Readings)
 have AK:sW w φ eA [bb,a6,aV,g9,af,ae,B0,.blk ab 28 ac,ah] rP:=AJ
 refine zV (cs:=B6) Z Z Z Z Z Zw Z AK ?_
 intro HC bc AL
 let me:List Value:=[.slice bt aj.Starts.length bD,.slice bu aj.Splits.length bE,.slice bv aj.Clocks.length bF,.slice lz aj.Readings.length mK]
 refine zW (j:=0) (vs:=me) Z Z Z Z AL Z Z Z Z zX (zA Z) Z Z Z ?_
 intro rQ AM
 have AN:sW w φ eA [.blk bc 28 me,bb,a6,aV,g9,af,ae,B0,.blk ab 28 ac,ah] rQ:=AM
 refine eN (sR gEz Z (oR Z (zG Z Z zK Z ZH) (zW (j:=0) (vs:=[.slice none 0 0]) Z Z Z Z AN Z Z Z Z ZH (zA Z) Z Z Z ?_)))
 intro rS AO
 have py:sW w φ eA [.blk bc 28 [.slice bt aj.Starts.length bD,.slice bu aj.Splits.length bE,.slice bv aj.Clocks.length bF,.slice none 0 0],bb,a6,aV,g9,af,ae,B0,.blk ab 28 ac,ah] rS:=AO
 refine eN (zL (sR fL4 Z (oR Z (zG Z iY zK Z ZH) (oL Z (py.ldB (j:=8) Z Z Z Zi (v:=.slice av ak.length ax) Z) (oR Z (zq Z Z zn) (oM Z Z (eN (zY (bnK Ez fun eu DT EA=>?_)))))))))
 have q:=wBL DT
 obtain ⟨jK,DU⟩:=q
 replace jK:=zM jK
 refine CK.forN' (fun dg bQ σ_ w_=>∃ (φ_:PHeap) (bX:Option Addr) (cf:Nat),σ_ 210=jV (↑dg:Int)/\σ_ 10=.pointer (some ⟨ab,0,none⟩)/\σ_ 17=.slice bg aD.length bi/\σ_ 18=jV bS/\σ_ 19=.slice ba aZ.length be/\σ_ 26=jV (↑bP:Int)/\σ_ 27=.pointer (some ⟨bc,0,none⟩)/\σ_ 169=jV (↑aD.length:Int)/\σ_ 170=jV (↑bP:Int)/\σ_ 208=.slice av ak.length ax/\σ_ 209=jV (↑ak.length:Int)/\PHeap.Le eA φ_/\sW w φ φ_ [bb,a6,aV,.row bX cf 39 4 (hD wAA bQ),.blk bc 28 [.slice bt aj.Starts.length bD,.slice bu aj.Splits.length bE,.slice bv aj.Clocks.length bF,.slice bX bQ.length cf],af,ae,B0,.blk ab 28 ac,ah] w_) DU ?_ ?_ ?_
 have AP:=py.nilrow 39 4
 exact ⟨eA,none,0,rfl,iY,tF,tG,tH,tI,rfl,tJ,tK,rfl,rfl,(zO _),(AP.pick [2,3,4,0,1,6,7,8,9,10] _ (by decide) rfl)⟩
 rintro dg bQ Jf Jo HD jD ⟨q6,bX,cf,de,iZ,dH,i3,i4,fH,cN,i5,i6,fI,fJ,dQ,pz⟩ FX
 have mM:Hid ((↑dg:Int) < (↑ak.length:Int)):=zM (wAs jD)
 replace jD:=zM jD
 have jB:Hid (w64 ((↑dg:Int) + 1)=(↑(dg + 1):Int)):=zM (by have h1:=jK.out;have h2:=mM.out;rw [wAT] <;> omega)
 refine sR fL1 Z (oR Z (zc Z de fJ) (eN (zL (cT Z mM (kN (zL (zY (sR (wCa gFf) Z (oM Z de (bnK FX fun aY oG EB=>?_))))))))))
 have uY:=oE.le jT
 have uZ:=uY.le dQ
 have q:=uZ.el (fun _=>rfl) (wAX oG)
 obtain ⟨HR,It,As,AB⟩:=q
 refine oR Z (Zc Z fI As de zn ZC (wBQ oG)) (oL Z (pz.ldCA (f:=0) AB Z Z yI ZC (us:=[jV aY.Skier,jV aY.Mat,jV aY.Clock,jV aY.Time]) Z Z) ?_)
 let ib:List Value:=[jV 0,jV 0,jV 0,jV 0]
 refine zV (cs:=ib) Z Z Z Z Z Zb Z pz ?_
 intro HE cb AQ
 refine oA Z Z ?_
 let aL:List Value:=[jV aY.Skier,jV aY.Mat,jV aY.Clock,jV aY.Time]
 refine zW (j:=0) (vs:=aL) Z Z Z Z AQ Z Z Z Z ZC (zA Z) Z Z Z ?_
 intro mw AS
 let cW:Res:=.blk bc 28 [.slice bt aj.Starts.length bD,.slice bu aj.Splits.length bE,.slice bv aj.Clocks.length bF,.slice bX bQ.length cf]
 let fc:Res:=.row bX cf 39 4 (hD wAA bQ)
 have AT:sW w φ q6 [.blk cb 39 aL,bb,a6,aV,fc,cW,af,ae,B0,.blk ab 28 ac,ah] mw:=AS
 refine eN (sR (.fl 0 (.fl 1 (.fx 2 (wNG (.nil)) .stop))) Z (oM Z dH (oM Z Z ?_)))
 have u3:=jS.le cS
 have u4:=u3.le dk
 have u5:=u4.le jT
 have oH:=u5.le dQ
 refine bnK EB fun I8 u6 EC=>zF 0 Z Z Z Z (zD Z Z Try.call26 (zB Z (zB Z zN)) Z) AT (fun hs=>wCM aD bg bi (↑dg:Int) mw q6 hs oH u6) (.inr Z) ?_
 rintro bs G8 IC rT f4 AU ⟨rfl,rfl⟩
 have cm:sW w φ bs [.blk cb 39 aL,bb,a6,aV,fc,cW,af,ae,B0,.blk ab 28 ac,ah] rT:=AU
 refine oR Z (Ze Z Z) (oM Z Z (ifc EC ?_ ?_))
 intro aM ED
 refine zk Z Z Z (zQ Z Z (nC aM.out)) Z Z (zk Z Z Z (zQ Z Z (nC aM.out)) Z dH (zk Z Z Z (zQ Z Z (nC aM.out)) Z fH (bnK ED fun Gk oI EE=>?_)))
 have u7:=oH.le f4
 have q:=u7.el (fun _=>rfl) (wAX oI)
 obtain ⟨HS,Iu,Au,AC⟩:=q
 refine zg Z Z Z (zQ Z Z (nC aM.out)) (fun _=>Zc Z Z Au Z zE zC (wBQ oI)) (ZJ Z Z Z (zQ Z Z (nC aM.out)) (cm.ldC (f:=0) AC (v:=jV Gk) Z Z zJ Z) Z (zg Z Z Z (zQ Z Z (nC aM.out)) (fun _=>Zs Z Z Z) (oR Z (zZ Z (nC aM.out) Z) (eN (ifc EE ?_ ?_)))))
 intro iv EF
 refine cT Z iv (rR (wCa gFh) Z (oR Z (zG Z cN zK Z ZH) (oL Z (cm.ldB (j:=5) Z Z Z Zi (v:=.slice bX bQ.length cf) Z) (oL Z (cm.ldBA (j:=0) Z Z Z yI ZC (vs:=aL) Z Z) (zm (pv:=[(0,.agg aL.toArray)]) (zs:=ib) (cs:=aL) Z Z Z Z Z (wAG Z wAN) zn ZC Zb Z Z Z Z Z cm ?_)))))
 intro rV sV AV
 let ic:Res:=.row (some ⟨sV,0,none⟩) 1 39 4 (hD wAA [aY])
 have pB:sW w φ bs [ic,.blk cb 39 aL,bb,a6,aV,fc,cW,af,ae,B0,.blk ab 28 ac,ah] rV:=AV
 refine bnK EF fun gv u9 EG=>Zm (j:=5) (enc:=wAA) (xs:=bQ) (ys:=[aY]) (zs:=gv) rfl rfl rfl rfl rfl yg wGA rfl rfl rfl rfl rfl rfl pB rfl rfl rfl (pB.srcR (j:=0) rfl (by decide) (wAD (f:=wAA) (sz:=4) (fun _=>rfl) [aY])) (fun _=>rfl) (fun _=>rfl) u9 rfl ?_
 intro eG fh rW AW
 let mf:Res:=.row eG fh 39 4 (hD wAA gv)
 have AX:sW w φ bs [ic,.blk cb 39 aL,bb,a6,aV,mf,cW,af,ae,B0,.blk ab 28 ac,ah] rW:=AW
 refine oR Z (zG Z cN zK Z ZH) (zW (j:=6) (vs:=[.slice eG gv.length fh]) Z Z Z Z AX Z Z Z Z ZH (zA Z) Z Z Z ?_)
 intro rX AY
 have AZ:sW w φ bs [ic,.blk cb 39 aL,bb,a6,aV,mf,.blk bc 28 [.slice bt aj.Starts.length bD,.slice bu aj.Splits.length bE,.slice bv aj.Clocks.length bF,.slice eG gv.length fh],af,ae,B0,.blk ab 28 ac,ah] rX:=AY
 refine zb (zo (zH (rR fL2 Z (oR Z (ZG (za Z de Z) (congrArg (jV) jB.out)) (oM Z Z (zb ?_))))))
 cases EG
 exact zH ⟨rfl,⟨bs,eG,fh,rfl,iZ,dH,i3,i4,fH,cN,i5,i6,fI,fJ,(dQ.trans f4),(AZ.pick [2,3,4,5,6,7,8,9,10,11] _ (by decide) rfl)⟩⟩
 intro iv EH
 refine cF Z iv (Zh (zo (zH (rR fL2 Z (oR Z (ZG (za Z de Z) (congrArg (jV) jB.out)) (oM Z Z (zb ?_)))))))
 cases EH
 exact zH ⟨rfl,⟨bs,bX,cf,rfl,iZ,dH,i3,i4,fH,cN,i5,i6,fI,fJ,(dQ.trans f4),(cm.pick [1,2,3,4,5,6,7,8,9,10] _ (by decide) rfl)⟩⟩
 intro aM EI
 refine ZD Z Z Z (zT Z Z (nF (aM.out)) Z) (ZD Z Z Z (zT Z Z (nF (aM.out)) Z) (ZD Z Z Z (zT Z Z (nF (aM.out)) Z) (ZD Z Z Z (zT Z Z (nF (aM.out)) Z) (ZD Z Z Z (zT Z Z (nF (aM.out)) Z) (ZD Z Z Z (zT Z Z (nF (aM.out)) Z) (oR Z (zP Z (nF (aM.out)) Z) (eN (ZL Z (rR (wCa gFh) Z (oR Z (zG Z cN zK Z ZH) (oL Z (cm.ldB (j:=5) Z Z Z Zi (v:=.slice bX bQ.length cf) Z) (oL Z (cm.ldBA (j:=0) Z Z Z yI ZC (vs:=aL) Z Z) (zm (pv:=[(0,.agg aL.toArray)]) (zs:=ib) (cs:=aL) Z Z Z Z Z (wAG Z wAN) zn ZC Zb Z Z Z Z Z cm ?_)))))))))))))
 intro rY sX A3
 let ie:Res:=.row (some ⟨sX,0,none⟩) 1 39 4 (hD wAA [aY])
 have pC:sW w φ bs [ie,.blk cb 39 aL,bb,a6,aV,fc,cW,af,ae,B0,.blk ab 28 ac,ah] rY:=A3
 refine bnK EI fun gw va EJ=>Zm (j:=5) (enc:=wAA) (xs:=bQ) (ys:=[aY]) (zs:=gw) rfl rfl rfl rfl rfl yg wGA rfl rfl rfl rfl rfl rfl pC rfl rfl rfl (pC.srcR (j:=0) rfl (by decide) (wAD (f:=wAA) (sz:=4) (fun _=>rfl) [aY])) (fun _=>rfl) (fun _=>rfl) va rfl ?_
 intro eH fj rZ A4
 let mg:Res:=.row eH fj 39 4 (hD wAA gw)
 have A5:sW w φ bs [ie,.blk cb 39 aL,bb,a6,aV,mg,cW,af,ae,B0,.blk ab 28 ac,ah] rZ:=A4
 refine oR Z (zG Z cN zK Z ZH) (zW (j:=6) (vs:=[.slice eH gw.length fj]) Z Z Z Z A5 Z Z Z Z ZH (zA Z) Z Z Z ?_)
 intro r6 A6
 have A8:sW w φ bs [ie,.blk cb 39 aL,bb,a6,aV,mg,.blk bc 28 [.slice bt aj.Starts.length bD,.slice bu aj.Splits.length bE,.slice bv aj.Clocks.length bF,.slice eH gw.length fj],af,ae,B0,.blk ab 28 ac,ah] r6:=A6
 refine zb (zo (zH (rR fL2 Z (oR Z (ZG (za Z de Z) (congrArg (jV) jB.out)) (oM Z Z (zb ?_))))))
 cases EJ
 exact zH ⟨rfl,⟨bs,eH,fj,rfl,iZ,dH,i3,i4,fH,cN,i5,i6,fI,fJ,(dQ.trans f4),(A8.pick [2,3,4,5,6,7,8,9,10,11] _ (by decide) rfl)⟩⟩
 rintro Jp dB ⟨JD,gH,iw,uv,tL,tM,tN,tO,HV,tP,tQ,tR,HW,tS,F2,pD⟩
 have s5:Hid (¬ ((↑(((↑ak.length:Int):Int) - 0).toNat:Int) < (↑ak.length:Int))):=zM (wAc)
 refine sR fL1 Z (oR Z (zc Z uv tS) (eN (zL (cF Z s5 (Za (zi (zi (ZQ (zH (sR (.fl 0 (.fx 1 (wLA (.nil)) .stop)) Z ?_))))))))))
 let cX:List Value:=[.slice bt aj.Starts.length bD,.slice bu aj.Splits.length bE,.slice bv aj.Clocks.length bF,.slice gH eu.length iw]
 refine oL Z (pD.ldBA (j:=4) Z Z tP zf zX (vs:=cX) Z Z) ?_
 have q:=pD.freezeR (k:=0) (n:=aj.Starts.length) rfl (wAD (f:=KL.encI) (sz:=1) (fun _=>rfl) aj.Starts) (by decide)
 obtain ⟨GD,F3,Fx,A9⟩:=q
 let ig:Res:=.row gH iw 39 4 (hD wAA eu)
 have Ba:sW w φ GD [a6,aV,ig,.blk bc 28 cX,af,ae,B0,.blk ab 28 ac,ah] dB:=A9
 have q:=Ba.freezeR (k:=0) (n:=aj.Splits.length) rfl (wAD (f:=wAE) (sz:=2) (fun _=>rfl) aj.Splits) (by decide)
 obtain ⟨GE,qI,Fz,Bb⟩:=q
 have Bc:sW w φ GE [aV,ig,.blk bc 28 cX,af,ae,B0,.blk ab 28 ac,ah] dB:=Bb
 have q:=Bc.freezeR (k:=0) (n:=aj.Clocks.length) rfl (wAD (f:=wAB) (sz:=3) (fun _=>rfl) aj.Clocks) (by decide)
 obtain ⟨GF,jU,FA,Bd⟩:=q
 have Be:sW w φ GF [ig,.blk bc 28 cX,af,ae,B0,.blk ab 28 ac,ah] dB:=Bd
 have q:=Be.freezeR (k:=0) (n:=eu.length) rfl (wAD (f:=wAA) (sz:=4) (fun _=>rfl) eu) (by decide)
 obtain ⟨q7,f6,FB,Bf⟩:=q
 have Bg:sW w φ q7 [.blk bc 28 cX,af,ae,B0,.blk ab 28 ac,ah] dB:=Bf
 have vb:=Fx.le qI
 have vc:=vb.le jU
 have vd:=vc.le f6
 have ve:=Fz.le jU
 have vf:=ve.le f6
 have vg:=FA.le f6
 have q:=bnd EA
 obtain ⟨⟨Gl,qT,Gm⟩,vh,qb⟩:=q
 try dsimp only at qb
 refine zF 0 Z Z Z Z (zD Z Z Try.call27 (zB Z zN) Z) Bg (fun hs=>wDp (⟨aj.Starts,aj.Splits,aj.Clocks,eu⟩:wAC) bt bD bu bE bv bF gH iw dB q7 hs vd vf vg FB vh) (.inr Z) ?_
 rintro lm G9 ID r7 F4 Bh ⟨lA,mN,s6,lB,mO,rfl,rfl,H4⟩
 have pE:sW w φ lm [.row lA mN 23 1 s6,.row lB mO 3 1 (hD KL.encI qT),.blk bc 28 cX,af,ae,B0,.blk ab 28 ac,ah] r7:=Bh
 refine oM Z Z (oR Z (zU Z Z (v:=.slice lA Gl.length mN) Z) (oR Z (zU Z Z (v:=.slice lB qT.length mO) Z) (oR Z (zU Z Z (v:=jV Gm) Z) (oA Z Z (oA Z Z (oA Z Z (eN (sR fL2 Z (oM Z Z (oR Z (ZZ Z Z Z) (eN (ifc qb ?_ ?_))))))))))))
 intro iy EK
 refine zt (zw (fun h=>h iy.out)) (Zh (zo (zH (rR fL2 Z (oR Z (ZG (za Z tR Z) (congrArg (jV) D6.out)) (oM Z Z (zb ?_)))))))
 have q:=hH EK
 obtain rfl:=q
 exact zH ⟨rfl,_,rfl,⟨lm,rfl,tL,tM,tN,tO,tQ,((((((((cS.trans dk).trans jT).trans F2).trans F3).trans qI).trans jU).trans f6).trans F4),(pE.pick [3,4,5,6,7] _ (by decide) rfl)⟩⟩
 intro iy EL
 refine cT Z iy (sR fL1 Z (oA Z Z (eN (zS (ze (zR ?_))))))
 have q:=wAZ EL
 obtain ⟨Gg,EM,tr⟩:=q
 have q:=wBI fS fR (pY Gg tr)
 obtain rfl:=q
 refine zR (ze (zR ?_))
 have hE:=hH EM;first | subst r | cases hE
 exact ⟨rfl,_,(ZM rfl),lm,_,(pE.pick [] _ (by decide) rfl),rfl,rfl⟩
 rintro ⟨⟩ Jq r8 ⟨GG,uw,i7,tT,tU,tV,tW,dR,pF⟩ DN
 have qc:=wCO fS fR DN
 try dsimp only at qc
 have s7:Hid (¬ ((↑(((↑aD.length:Int):Int) - 0).toNat:Int) < (↑aD.length:Int))):=zM (wAc)
 refine sR fL1 Z (oR Z (zc Z uw tW) (eN (zL (cF Z s7 (Za (zi (zi (ZQ (zH (sR gFg Z (oL Z (pF.ldBA (j:=3) Z Z i7 zf zX (vs:=ac) Z Z) ?_)))))))))))
 have vj:=jr.le cp
 have vk:=vj.le cq
 have vl:=vk.le cr
 have vm:=vl.le dR
 have vn:=jt.le cp
 have vo:=vn.le cq
 have vp:=vo.le cr
 have vq:=vp.le dR
 have vr:=ju.le cp
 have vt:=vr.le cq
 have vu:=vt.le cr
 have vv:=vu.le dR
 have vw:=ji.le cp
 have vx:=vw.le cq
 have vy:=vx.le cr
 have jl:=vy.le dR
 refine bnK qc fun ag vz EN=>zF 0 Z Z Z Z (zD Z Z Try.call13 (zB Z zN) Z) pF (fun hs=>wDA (⟨ay,aR,aS,ak⟩:wAC) aK aQ aT aW aU aX av ax r8 GG hs vm vq vv jl vz) (.inr Z) ?_
 rintro eB Ha IE r9 jW Bi ⟨aH,aN,aI,aO,aJ,aP,lC,mP,rfl,rfl⟩
 let bh:Res:=.row aJ aP 43 3 (hD wAB ag.Clocks)
 let bn:Res:=.row aI aO 41 2 (hD wAE ag.Splits)
 let bB:Res:=.row aH aN 3 1 (hD KL.encI ag.Starts)
 let ii:Res:=.row lC mP 39 4 (hD wAA ag.Readings)
 have Bj:sW w φ eB [bB,bn,bh,ii,af,ae,B0,.blk ab 28 ac,ah] r9:=Bi
 refine zV (cs:=B6) Z Z Z Z Z Zw Z Bj ?_
 intro HF an Bk
 let mh:List Value:=[.slice aH ag.Starts.length aN,.slice aI ag.Splits.length aO,.slice aJ ag.Clocks.length aP,.slice lC ag.Readings.length mP]
 refine zW (j:=0) (vs:=mh) Z Z Z Z Bk Z Z Z Z zX (zA Z) Z Z Z ?_
 intro sa Bl
 have Bm:sW w φ eB [.blk an 28 mh,bB,bn,bh,ii,af,ae,B0,.blk ab 28 ac,ah] sa:=Bl
 refine eN (sR gEz Z (oR Z (zG Z Z zK Z ZH) (zW (j:=0) (vs:=[.slice none 0 0]) Z Z Z Z Bm Z Z Z Z ZH (zA Z) Z Z Z ?_)))
 intro sb Bn
 let mi:Res:=.blk an 28 [.slice aH ag.Starts.length aN,.slice aI ag.Splits.length aO,.slice aJ ag.Clocks.length aP,.slice none 0 0]
 have pG:sW w φ eB [mi,bB,bn,bh,ii,af,ae,B0,.blk ab 28 ac,ah] sb:=Bn
 refine eN (zL (sR fL4 Z (oR Z (zG Z i7 zK Z ZH) (oL Z (pG.ldB (j:=8) Z Z Z Zi (v:=.slice av ak.length ax) Z) (oR Z (zq Z Z zn) (oM Z Z (eN (zY (bnK EN fun ew DV EO=>?_)))))))))
 have q:=wBL DV
 obtain ⟨jL,DW⟩:=q
 replace jL:=zM jL
 refine CK.forN' (fun dh cQ σ_ w_=>∃ (φ_:PHeap) (cw:Option Addr) (cE:Nat),σ_ 249=jV (↑dh:Int)/\σ_ 10=.pointer (some ⟨ab,0,none⟩)/\σ_ 17=.slice bg aD.length bi/\σ_ 18=jV bS/\σ_ 19=.slice ba aZ.length be/\σ_ 33=.pointer (some ⟨an,0,none⟩)/\σ_ 247=.slice av ak.length ax/\σ_ 248=jV (↑ak.length:Int)/\PHeap.Le eB φ_/\sW w φ φ_ [bB,bn,bh,.row cw cE 39 4 (hD wAA cQ),.blk an 28 [.slice aH ag.Starts.length aN,.slice aI ag.Splits.length aO,.slice aJ ag.Clocks.length aP,.slice cw cQ.length cE],af,ae,B0,.blk ab 28 ac,ah] w_) DW ?_ ?_ ?_
 have Bp:=pG.nilrow 39 4
 exact ⟨eB,none,0,rfl,i7,tT,tU,tV,rfl,rfl,rfl,(zO _),(Bp.pick [2,3,4,0,1,6,7,8,9,10] _ (by decide) rfl)⟩
 rintro dh cQ Jg Jr HG jE ⟨q8,cw,cE,dJ,n8,i8,n9,oa,fK,i9,ja,f7,pH⟩ FY
 have mQ:Hid ((↑dh:Int) < (↑ak.length:Int)):=zM (wAs jE)
 replace jE:=zM jE
 have pZ:Hid (w64 ((↑dh:Int) + 1)=(↑(dh + 1):Int)):=zM (by have h1:=jL.out;have h2:=mQ.out;rw [wAT] <;> omega)
 refine sR fL1 Z (oR Z (zc Z dJ ja) (eN (zL (cT Z mQ (kN (zL (zY (sR (wCa gFf) Z (oM Z dJ (bnK FY fun bj oJ EP=>?_))))))))))
 have vA:=jl.le jW
 have vB:=vA.le f7
 have q:=vB.el (fun _=>rfl) (wAX oJ)
 obtain ⟨HT,Iv,Av,AD⟩:=q
 refine oR Z (Zc Z i9 Av dJ zn ZC (wBQ oJ)) (oL Z (pH.ldCA (f:=0) AD Z Z yI ZC (us:=[jV bj.Skier,jV bj.Mat,jV bj.Clock,jV bj.Time]) Z Z) ?_)
 let mj:List Value:=[jV 0,jV 0,jV 0,jV 0]
 refine zV (cs:=mj) Z Z Z Z Z Zb Z pH ?_
 intro HH dD Bq
 refine oA Z Z ?_
 let bC:List Value:=[jV bj.Skier,jV bj.Mat,jV bj.Clock,jV bj.Time]
 refine zW (j:=0) (vs:=bC) Z Z Z Z Bq Z Z Z Z ZC (zA Z) Z Z Z ?_
 intro mx Br
 let fd:Res:=.blk an 28 [.slice aH ag.Starts.length aN,.slice aI ag.Splits.length aO,.slice aJ ag.Clocks.length aP,.slice cw cQ.length cE]
 let ij:Res:=.row cw cE 39 4 (hD wAA cQ)
 have Bs:sW w φ q8 [.blk dD 39 bC,bB,bn,bh,ij,fd,af,ae,B0,.blk ab 28 ac,ah] mx:=Br
 refine eN (sR (.fl 0 (.fl 1 (.fx 2 (.fl 3 .nil) .stop))) Z (oM Z i8 (oM Z Z ?_)))
 have vC:=jS.le dR
 have vD:=vC.le jW
 have vE:=vD.le f7
 refine bnK EP fun I9 vF EQ=>zF 0 Z Z Z Z (zD Z Z Try.call26 (zB Z (zB Z zN)) Z) Bs (fun hs=>wCM aD bg bi (↑dh:Int) mx q8 hs vE vF) (.inr Z) ?_
 rintro dx Hb IF sc qJ Bt ⟨rfl,rfl⟩
 have fP:sW w φ dx [.blk dD 39 bC,bB,bn,bh,ij,fd,af,ae,B0,.blk ab 28 ac,ah] sc:=Bt
 refine oR Z (Ze Z Z) (eN (ifc EQ ?_ ?_))
 intro iz ER
 refine zt (nC iz.out) (Zh (zo (zH (rR fL2 Z (oR Z (ZG (za Z dJ Z) (congrArg (jV) pZ.out)) (oM Z Z (zb ?_)))))))
 cases ER
 exact zH ⟨rfl,⟨dx,cw,cE,rfl,n8,i8,n9,oa,fK,i9,ja,(f7.trans qJ),(fP.pick [1,2,3,4,5,6,7,8,9,10] _ (by decide) rfl)⟩⟩
 intro iz ES
 refine ZL (nF (iz.out)) (rR (wCa gFh) Z (oR Z (zG Z fK zK Z ZH) (oL Z (fP.ldB (j:=5) Z Z Z Zi (v:=.slice cw cQ.length cE) Z) (oL Z (fP.ldBA (j:=0) Z Z Z yI ZC (vs:=bC) Z Z) (zm (pv:=[(0,.agg bC.toArray)]) (zs:=mj) (cs:=bC) Z Z Z Z Z (wAG Z wAN) zn ZC Zb Z Z Z Z Z fP ?_)))))
 intro sd sY Bu
 let ik:Res:=.row (some ⟨sY,0,none⟩) 1 39 4 (hD wAA [bj])
 have pI:sW w φ dx [ik,.blk dD 39 bC,bB,bn,bh,ij,fd,af,ae,B0,.blk ab 28 ac,ah] sd:=Bu
 refine bnK ES fun gx vG ET=>Zm (j:=5) (enc:=wAA) (xs:=cQ) (ys:=[bj]) (zs:=gx) rfl rfl rfl rfl rfl yg wGA rfl rfl rfl rfl rfl rfl pI rfl rfl rfl (pI.srcR (j:=0) rfl (by decide) (wAD (f:=wAA) (sz:=4) (fun _=>rfl) [bj])) (fun _=>rfl) (fun _=>rfl) vG rfl ?_
 intro eI fk sf Bv
 let ml:Res:=.row eI fk 39 4 (hD wAA gx)
 have Bw:sW w φ dx [ik,.blk dD 39 bC,bB,bn,bh,ml,fd,af,ae,B0,.blk ab 28 ac,ah] sf:=Bv
 refine oR Z (zG Z fK zK Z ZH) (zW (j:=6) (vs:=[.slice eI gx.length fk]) Z Z Z Z Bw Z Z Z Z ZH (zA Z) Z Z Z ?_)
 intro sg Bx
 have By:sW w φ dx [ik,.blk dD 39 bC,bB,bn,bh,ml,.blk an 28 [.slice aH ag.Starts.length aN,.slice aI ag.Splits.length aO,.slice aJ ag.Clocks.length aP,.slice eI gx.length fk],af,ae,B0,.blk ab 28 ac,ah] sg:=Bx
 refine zb (zo (zH (rR fL2 Z (oR Z (ZG (za Z dJ Z) (congrArg (jV) pZ.out)) (oM Z Z (zb ?_))))))
 cases ET
 exact zH ⟨rfl,⟨dx,eI,fk,rfl,n8,i8,n9,oa,fK,i9,ja,(f7.trans qJ),(By.pick [2,3,4,5,6,7,8,9,10,11] _ (by decide) rfl)⟩⟩
 rintro Js dC ⟨JE,eJ,fm,ux,jb,tX,oc,jc,fL,HX,tY,F5,pJ⟩
 have s8:Hid (¬ ((↑(((↑ak.length:Int):Int) - 0).toNat:Int) < (↑ak.length:Int))):=zM (wAc)
 refine sR fL1 Z (oR Z (zc Z ux tY) (eN (zL (cF Z s8 (Za (zi (zi (ZQ (zH (zL (sR (.fl 0 (.fx 1 (wLA (.nil)) .stop)) Z ?_)))))))))))
 let bZ:List Value:=[.slice aH ag.Starts.length aN,.slice aI ag.Splits.length aO,.slice aJ ag.Clocks.length aP,.slice eJ ew.length fm]
 refine oL Z (pJ.ldBA (j:=4) Z Z fL zf zX (vs:=bZ) Z Z) ?_
 have q:=pJ.freezeR (k:=0) (n:=ag.Starts.length) rfl (wAD (f:=KL.encI) (sz:=1) (fun _=>rfl) ag.Starts) (by decide)
 obtain ⟨GH,F6,FC,Bz⟩:=q
 let il:Res:=.row eJ fm 39 4 (hD wAA ew)
 have BA:sW w φ GH [bn,bh,il,.blk an 28 bZ,af,ae,B0,.blk ab 28 ac,ah] dC:=Bz
 have q:=BA.freezeR (k:=0) (n:=ag.Splits.length) rfl (wAD (f:=wAE) (sz:=2) (fun _=>rfl) ag.Splits) (by decide)
 obtain ⟨GI,qK,FD,BB⟩:=q
 have BC:sW w φ GI [bh,il,.blk an 28 bZ,af,ae,B0,.blk ab 28 ac,ah] dC:=BB
 have q:=BC.freezeR (k:=0) (n:=ag.Clocks.length) rfl (wAD (f:=wAB) (sz:=3) (fun _=>rfl) ag.Clocks) (by decide)
 obtain ⟨GJ,jX,FE,BD⟩:=q
 have BE:sW w φ GJ [il,.blk an 28 bZ,af,ae,B0,.blk ab 28 ac,ah] dC:=BD
 have q:=BE.freezeR (k:=0) (n:=ew.length) rfl (wAD (f:=wAA) (sz:=4) (fun _=>rfl) ew) (by decide)
 obtain ⟨q9,f8,qx,BF⟩:=q
 have BG:sW w φ q9 [.blk an 28 bZ,af,ae,B0,.blk ab 28 ac,ah] dC:=BF
 have vH:=FC.le qK
 have vI:=vH.le jX
 have oK:=vI.le f8
 have vJ:=FD.le jX
 have oO:=vJ.le f8
 have oP:=FE.le f8
 have q:=bnd EO
 obtain ⟨⟨Gn,qU,qV⟩,vK,qd⟩:=q
 try dsimp only at qd
 refine zF 0 Z Z Z Z (zD Z Z Try.call27 (zB Z zN) Z) BG (fun hs=>wDp (⟨ag.Starts,ag.Splits,ag.Clocks,ew⟩:wAC) aH aN aI aO aJ aP eJ fm dC q9 hs oK oO oP qx vK) (.inr Z) ?_
 rintro eD Hc IG sh dS BH ⟨lD,mR,s9,lE,mS,rfl,rfl,H5⟩
 have jw:sW w φ eD [.row lD mR 23 1 s9,.row lE mS 3 1 (hD KL.encI qU),.blk an 28 bZ,af,ae,B0,.blk ab 28 ac,ah] sh:=BH
 refine oM Z Z (oR Z (zU Z Z (v:=.slice lD Gn.length mR) Z) (oR Z (zU Z Z (v:=.slice lE qU.length mS) Z) (oR Z (zU Z Z (v:=jV qV) Z) (oA Z Z (oA Z Z (oA Z Z (eN (bnK qd fun sZ qF EU=>yO (fun σ_ w_=>∃ (φ_:PHeap),σ_ 10=.pointer (some ⟨ab,0,none⟩)/\σ_ 19=.slice ba aZ.length be/\σ_ 33=.pointer (some ⟨an,0,none⟩)/\σ_ 284=.bool sZ/\PHeap.Le eD φ_/\sW w φ φ_ [.blk an 28 bZ,af,ae,B0,.blk ab 28 ac,ah] w_) ?_ ?_))))))))
 refine rR fL14 Z (oM Z Z (oR Z (Zs Z Z Z) (oM Z oc (oR Z (Zs Z Z Z) (oR Z (Runs.neB Z Z Z Try.runUnderlying4) (oM Z Z ?_))))))
 by_cases aG:((decide (qV=0)) == (decide (bS=0)))=true
 have qe:=qF;rw [if_pos aG] at qe;replace aG:=zM aG
 refine zk Z Z Z (zQ Z Z (nC aG.out)) Z oc (zg Z Z Z (zQ Z Z (nC aG.out)) (fun _=>Zs Z Z Z) (zk Z Z Z (zQ Z Z (nC aG.out)) Z Z (ifc qe ?_ ?_)))
 intro bG EV
 refine zk Z Z Z (wT Z bG) Z tX (rU Z (wT Z bG) (zq Z Z zE) (rU Z (wT Z bG) (Zs Z Z Z) (zg Z Z Z (zQ Z Z (nC aG.out)) (fun _=>zP Z (Zj bG.out) Z) (oR Z (zZ Z (nC aG.out) Z) (zb ?_)))))
 have q:=hH EV
 obtain rfl:=q
 exact zH ⟨rfl,⟨eD,jb,jc,fL,rfl,(zO _),(jw.pick [2,3,4,5,6,7] _ (by decide) rfl)⟩⟩
 intro bG EW
 refine oF Z bG (oF Z bG (oF Z bG (zg Z Z Z (zQ Z Z (nC aG.out)) (fun _=>zZ Z (zw bG.out) Z) (oR Z (zZ Z (nC aG.out) Z) (zb ?_)))))
 cases EW
 exact zH ⟨rfl,⟨eD,jb,jc,fL,rfl,(zO _),(jw.pick [2,3,4,5,6,7] _ (by decide) rfl)⟩⟩
 have qf:=qF;rw [if_neg aG] at qf;replace aG:=zM aG
 refine ZD Z Z Z (zT Z Z (nF (aG.out)) Z) (ZD Z Z Z (zT Z Z (nF (aG.out)) Z) (ZD Z Z Z (zT Z Z (nF (aG.out)) Z) (ZD Z Z Z (wAx Z Z Z) (ZD Z Z Z (wAx Z Z Z) (ZD Z Z Z (wAx Z Z Z) (ZD Z Z Z (zT Z Z (nF (aG.out)) Z) (oR Z (zP Z (nF (aG.out)) Z) (zb ?_))))))))
 cases qf
 exact zH ⟨rfl,⟨eD,jb,jc,fL,rfl,(zO _),(jw.pick [2,3,4,5,6,7] _ (by decide) rfl)⟩⟩
 rintro Jt sj ⟨GK,od,tZ,t5,oe,dT,jx⟩
 refine ifc EU ?_ ?_
 intro iA EY
 refine ZL (oe.trans (congrArg hJ iA.out)) (sR fL1 Z (oA Z Z (eN (zS (zR ?_)))))
 have hE:=hH EY;first | subst r | cases hE
 exact ⟨rfl,_,(ZM rfl),GK,_,(jx.pick [] _ (by decide) rfl),rfl,rfl⟩
 intro iA jQ
 refine zt (oe.trans (congrArg hJ (hU.2 iA.out))) (kN (zL (sR fL4 Z (oR Z (zG Z od zK Z zy) (oL Z (jx.ldB (j:=4) Z Z Z ZK (v:=.slice aK ay.length aQ) Z) (oR Z (zq Z Z zE) (oM Z Z (eN (zY ?_)))))))))
 have q:=jx.freezeR (k:=5) (n:=aZ.length) rfl (wAD (f:=KL.encI) (sz:=1) (fun _=>rfl) aZ) (by decide)
 obtain ⟨ln,dU,FF,BI⟩:=q
 have BJ:sW w φ ln [.blk an 28 bZ,af,ae,B0,.blk ab 28 ac] sj:=BI
 have q:=wBa jQ
 obtain ⟨Iy,jz⟩:=q
 have q:=wBZ jz
 obtain ⟨jM,DX⟩:=q
 replace jM:=zM jM
 refine yH (fun co fU σ_ w_=>∃ (φ_:PHeap) (gI:Option Addr) (iB:Nat),σ_ 288=jV (↑co:Int)/\σ_ 10=.pointer (some ⟨ab,0,none⟩)/\σ_ 19=.slice ba aZ.length be/\σ_ 33=.pointer (some ⟨an,0,none⟩)/\σ_ 287=jV (↑ay.length:Int)/\PHeap.Le ln φ_/\sW w φ φ_ [.blk an 28 [.slice aH ag.Starts.length aN,.slice aI ag.Splits.length aO,.slice aJ ag.Clocks.length aP,.slice gI fU.length iB],af,ae,B0,.blk ab 28 ac] w_/\Sl φ_ 4 gI iB fU.length (hD wAA fU)) DX ?_ ?_ ?_
 have vL:=qx.le dS
 have vM:=vL.le dT
 have vN:=vM.le dU
 exact ⟨ln,eJ,fm,Z,od,tZ,t5,Z,(zO _),BJ,vN⟩
 rintro co fU Jh Ju HI jF ⟨lp,gI,iB,jh,og,t6,oh,oi,dl,BK,H6⟩ FZ DO
 have mT:Hid ((↑co:Int) < (↑ay.length:Int)):=zM (wAs jF)
 replace jF:=zM jF
 have D7:Hid (w64 ((↑co:Int) + 1)=(↑(co + 1):Int)):=zM (by have h1:=jM.out;have h2:=mT.out;rw [wAT] <;> omega)
 refine sR fL1 Z (oR Z (zc Z jh oi) (eN (zL (cT Z mT (kN (zL (zY (sR fL2 Z (oM Z jh (oA Z Z (eN (sR gEz Z (oR Z (zG Z oh zK Z ZH) (zW (j:=0) (vs:=[.slice none 0 0]) Z Z Z Z BK Z Z Z Z ZH (zA Z) Z Z Z ?_))))))))))))))
 intro sl BL
 have pK:sW w φ lp [mi,af,ae,B0,.blk ab 28 ac] sl:=BL
 refine eN (zL (sR fL4 Z (oR Z (zG Z og zK Z ZH) (oL Z (pK.ldB (j:=4) Z Z Z Zi (v:=.slice av ak.length ax) Z) (oR Z (zq Z Z zn) (oM Z Z (eN (zY (bnK FZ fun gD DY EZ=>?_)))))))))
 have q:=wBL DY
 obtain ⟨jN,DZ⟩:=q
 replace jN:=zM jN
 refine CK.forN' (fun dL cR σ_ w_=>∃ (φ_:PHeap) (cx:Option Addr) (cG:Nat),σ_ 295=jV (↑dL:Int)/\σ_ 10=.pointer (some ⟨ab,0,none⟩)/\σ_ 19=.slice ba aZ.length be/\σ_ 33=.pointer (some ⟨an,0,none⟩)/\σ_ 39=jV (↑co:Int)/\σ_ 287=jV (↑ay.length:Int)/\σ_ 288=jV (↑co:Int)/\σ_ 293=.slice av ak.length ax/\σ_ 294=jV (↑ak.length:Int)/\PHeap.Le lp φ_/\sW w φ φ_ [.row cx cG 39 4 (hD wAA cR),.blk an 28 [.slice aH ag.Starts.length aN,.slice aI ag.Splits.length aO,.slice aJ ag.Clocks.length aP,.slice cx cR.length cG],af,ae,B0,.blk ab 28 ac] w_) DZ ?_ ?_ ?_
 have BM:=pK.nilrow 39 4
 exact ⟨lp,none,0,Z,og,t6,oh,Z,oi,jh,Z,Z,(zO _),BM⟩
 rintro dL cR Ji Jv HJ jG ⟨dy,cx,cG,fN,oj,om,fM,jd,oq,ot,je,jf,jY,pL⟩ F0
 have mU:Hid ((↑dL:Int) < (↑ak.length:Int)):=zM (wAs jG)
 replace jG:=zM jG
 have p6:Hid (w64 ((↑dL:Int) + 1)=(↑(dL + 1):Int)):=zM (by have h1:=jN.out;have h2:=mU.out;rw [wAT] <;> omega)
 refine sR fL1 Z (oR Z (zc Z fN jf) (eN (zL (cT Z mU (kN (zL (zY (sR (.fl 0 (.fl 1 gFc)) Z (bnK F0 fun bf oQ E0=>?_)))))))))
 have vQ:=jl.le jW
 have vR:=vQ.le F5
 have vS:=vR.le F6
 have vT:=vS.le qK
 have vU:=vT.le jX
 have vV:=vU.le f8
 have vW:=vV.le dS
 have vX:=vW.le dT
 have vY:=vX.le dU
 have vZ:=vY.le dl
 have v3:=vZ.le jY
 have q:=v3.el (fun _=>rfl) (wAX oQ)
 obtain ⟨HU,Iw,Aw,AE⟩:=q
 refine oR Z (Zc Z je Aw fN zn ZC (wBQ oQ)) (oL Z (pL.ldCA (f:=0) AE Z Z yI ZC (us:=[jV bf.Skier,jV bf.Mat,jV bf.Clock,jV bf.Time]) Z Z) ?_)
 let mo:List Value:=[jV 0,jV 0,jV 0,jV 0]
 refine zV (cs:=mo) Z Z Z Z Z Zb Z pL ?_
 intro HK fg BO
 let ca:List Value:=[jV bf.Skier,jV bf.Mat,jV bf.Clock,jV bf.Time]
 refine zW (j:=0) (vs:=ca) Z Z Z Z BO Z Z Z Z ZC (zA Z) Z Z Z ?_
 intro sm BP
 let im:Res:=.blk an 28 [.slice aH ag.Starts.length aN,.slice aI ag.Splits.length aO,.slice aJ ag.Clocks.length aP,.slice cx cR.length cG]
 let mp:Res:=.row cx cG 39 4 (hD wAA cR)
 have dK:sW w φ dy [.blk fg 39 ca,mp,im,af,ae,B0,.blk ab 28 ac] sm:=BP
 refine eN (sR fL4 Z (oR Z (zG Z Z zx Z zC) (oL Z (dK.ldB (j:=0) Z Z Z zJ (v:=jV bf.Skier) Z) (oM Z jd (oR Z (ZZ Z Z Z) (eN (ifc E0 ?_ ?_)))))))
 intro iC E1
 refine zt (zw (fun h=>h iC.out)) (Zh (zo (zH (rR fL2 Z (oR Z (ZG (za Z fN Z) (congrArg (jV) p6.out)) (oM Z Z (zb ?_)))))))
 cases E1
 exact zH ⟨rfl,⟨dy,cx,cG,rfl,oj,om,fM,jd,oq,ot,je,jf,jY,(dK.pick [1,2,3,4,5,6] _ (by decide) rfl)⟩⟩
 intro iC E2
 refine cT Z iC (rR (wCa gFh) Z (oR Z (zG Z fM zK Z ZH) (oL Z (dK.ldB (j:=2) Z Z Z Zi (v:=.slice cx cR.length cG) Z) (oL Z (dK.ldBA (j:=0) Z Z Z yI ZC (vs:=ca) Z Z) (zm (pv:=[(0,.agg ca.toArray)]) (zs:=mo) (cs:=ca) Z Z Z Z Z (wAG Z wAN) zn ZC Zb Z Z Z Z Z dK ?_)))))
 intro so s3 BQ
 let io:Res:=.row (some ⟨s3,0,none⟩) 1 39 4 (hD wAA [bf])
 have pM:sW w φ dy [io,.blk fg 39 ca,mp,im,af,ae,B0,.blk ab 28 ac] so:=BQ
 refine bnK E2 fun gy v4 E3=>Zm (j:=2) (enc:=wAA) (xs:=cR) (ys:=[bf]) (zs:=gy) rfl rfl rfl rfl rfl yg wGA rfl rfl rfl rfl rfl rfl pM rfl rfl rfl (pM.srcR (j:=0) rfl (by decide) (wAD (f:=wAA) (sz:=4) (fun _=>rfl) [bf])) (fun _=>rfl) (fun _=>rfl) v4 rfl ?_
 intro eK fq sq BR
 let mq:Res:=.row eK fq 39 4 (hD wAA gy)
 have BS:sW w φ dy [io,.blk fg 39 ca,mq,im,af,ae,B0,.blk ab 28 ac] sq:=BR
 refine oR Z (zG Z fM zK Z ZH) (zW (j:=3) (vs:=[.slice eK gy.length fq]) Z Z Z Z BS Z Z Z Z ZH (zA Z) Z Z Z ?_)
 intro sr BT
 have BU:sW w φ dy [io,.blk fg 39 ca,mq,.blk an 28 [.slice aH ag.Starts.length aN,.slice aI ag.Splits.length aO,.slice aJ ag.Clocks.length aP,.slice eK gy.length fq],af,ae,B0,.blk ab 28 ac] sr:=BT
 refine zb (zo (zH (rR fL2 Z (oR Z (ZG (za Z fN Z) (congrArg (jV) p6.out)) (oM Z Z (zb ?_))))))
 cases E3
 exact zH ⟨rfl,⟨dy,eK,fq,rfl,oj,om,fM,jd,oq,ot,je,jf,jY,(BU.pick [2,3,4,5,6,7] _ (by decide) rfl)⟩⟩
 rintro Jw my ⟨JF,gK,iE,uy,t7,ou,ov,t8,t9,ua,HY,ub,dV,pN⟩
 have ta:Hid (¬ ((↑(((↑ak.length:Int):Int) - 0).toNat:Int) < (↑ak.length:Int))):=zM (wAc)
 refine sR fL1 Z (oR Z (zc Z uy ub) (eN (zL (cF Z ta (Za (zi (zi (ZQ (zH (sR (.fl 0 (.fx 1 (wLA (.nil)) .stop)) Z ?_))))))))))
 let ff:List Value:=[.slice aH ag.Starts.length aN,.slice aI ag.Splits.length aO,.slice aJ ag.Clocks.length aP,.slice gK gD.length iE]
 refine oL Z (pN.ldBA (j:=1) Z Z ov zf zX (vs:=ff) Z Z) ?_
 have q:=pN.freezeR (k:=0) (n:=gD.length) rfl (wAD (f:=wAA) (sz:=4) (fun _=>rfl) gD) (by decide)
 obtain ⟨rc,dW,qy,BV⟩:=q
 have BW:sW w φ rc [.blk an 28 ff,af,ae,B0,.blk ab 28 ac] my:=BV
 have v5:=oK.le dS
 have v7:=v5.le dT
 have v9:=v7.le dU
 have wa:=v9.le dl
 have wb:=wa.le dV
 have wc:=wb.le dW
 have wd:=oO.le dS
 have we:=wd.le dT
 have wg:=we.le dU
 have wh:=wg.le dl
 have wi:=wh.le dV
 have wj:=wi.le dW
 have wk:=oP.le dS
 have wl:=wk.le dT
 have wm:=wl.le dU
 have wn:=wm.le dl
 have wo:=wn.le dV
 have wp:=wo.le dW
 have q:=bnd EZ
 obtain ⟨⟨Gq,qX,Gr⟩,wq,qh⟩:=q
 try dsimp only at qh
 refine zF 0 Z Z Z Z (zD Z Z Try.call27 (zB Z zN) Z) BW (fun hs=>wDp (⟨ag.Starts,ag.Splits,ag.Clocks,gD⟩:wAC) aH aN aI aO aJ aP gK iE my rc hs wc wj wp qy wq) (.inr Z) ?_
 rintro rd He II mz jZ BX ⟨gL,iF,mV,lF,mW,rfl,rfl,H7⟩
 let mr:Res:=.row lF mW 3 1 (hD KL.encI qX)
 have BY:sW w φ rd [.row gL iF 23 1 mV,mr,.blk an 28 ff,af,ae,B0,.blk ab 28 ac] mz:=BX
 refine oM Z Z (oR Z (zU Z Z (v:=.slice gL Gq.length iF) Z) (oR Z (zU Z Z (v:=.slice lF qX.length mW) Z) (oR Z (zU Z Z (v:=jV Gr) Z) (oA Z Z (oA Z Z (oA Z Z (eN (sR (wEI (.fx 4 (.fl 5 .nil) .stop)) Z (oM Z Z (oR Z (Zs Z Z Z) (oM Z ou (oM Z t8 ?_))))))))))))
 have ws:=FF.le dl
 have wt:=ws.le dV
 have wu:=wt.le dW
 have wv:=wu.le jZ
 refine bnK qh fun Ja ww E4=>zF 0 Z Z Z Z (zD Z Z Try.call26 (zB Z (zB Z zN)) Z) BY (fun hs=>wCM aZ ba be (↑co:Int) mz rd hs wv ww) (.inr Z) ?_
 rintro lq Hf IJ ss qN Ca ⟨rfl,rfl⟩
 have pP:sW w φ lq [.row gL iF 23 1 mV,mr,.blk an 28 ff,af,ae,B0,.blk ab 28 ac] ss:=Ca
 refine oR Z (Runs.neB Z Z Z Try.runUnderlying4) (eN (ifc E4 ?_ ?_))
 intro iG E5
 refine zt (nC iG.out) (Zh (zo (zH (rR fL2 Z (oR Z (ZG (za Z ua Z) (congrArg (jV) D7.out)) (oM Z Z (zb ?_)))))))
 have q:=hH E5
 obtain rfl:=q
 have wx:=qy.le jZ
 have wy:=wx.le qN
 exact zH ⟨rfl,_,rfl,⟨lq,gK,iE,rfl,t7,ou,ov,t9,((((dl.trans dV).trans dW).trans jZ).trans qN),(pP.pick [2,3,4,5,6] _ (by decide) rfl),wy⟩⟩
 intro iG E6
 refine ZL (nF (iG.out)) (sR fL1 Z (oA Z Z (eN (zS (ze (zR ?_))))))
 have q:=wAZ E6
 obtain ⟨Gh,E7,tu⟩:=q
 have q:=wBI jQ jz (DO Gh tu)
 obtain rfl:=q
 refine zR (ze (zR ?_))
 have hE:=hH E7;first | subst r | cases hE
 exact ⟨rfl,_,(ZM rfl),lq,_,(pP.pick [] _ (by decide) rfl),rfl,rfl⟩
 rintro Gu Jx su ⟨GO,rE,tb,uz,HZ,H0,H1,ud,Ik,Cc,H8⟩ DP
 have E8:=wCO jQ jz DP
 have tc:Hid (¬ ((↑(((↑ay.length:Int):Int) - 0).toNat:Int) < (↑ay.length:Int))):=zM (wAc)
 refine sR fL1 Z (oR Z (zc Z uz ud) (eN (zL (cF Z tc (Za (zi (zi (ZQ (zH (sR gFb Z (bnK E8 fun Jb wz E9=>zF 0 Z Z Z Z (zD Z Z Try.call19 zN Z) Cc (fun hs=>wDt su GO hs wz) (.inr Z) ?_)))))))))))
 rintro rf Hg IK sv Il Cd ⟨rfl,rfl⟩
 have Ce:sW w φ rf [.blk an 28 [.slice aH ag.Starts.length aN,.slice aI ag.Splits.length aO,.slice aJ ag.Clocks.length aP,.slice rE Gu.length tb],af,ae,B0,.blk ab 28 ac] sv:=Cd
 refine oA Z Z (eN (zS ?_))
 have hE:=hH E9;first | subst r | cases hE
 exact ⟨rfl,_,(ZM rfl),rf,_,(Ce.pick [] _ (by decide) rfl),rfl,rfl⟩
end Go.Proofs.Ytlnfbjphfoipaaa
