import Derived.Test.YtglpalgiipahjaaGreatR8
import Derived.Test.YtglpalgiipahjaaGreatR7
set_option linter.all false
open List renaming flatMap->nA,set->nG,length_set->nH,getElem_cons_succ->nI,getElem_cons_zero->nJ,getElem_toArray->nK
open Option.some renaming inj->nB
open Go.Value renaming bool->nD
open Bool renaming eq_false_iff->nE
open Int renaming toNat_natCast->nL
open Eq renaming trans->nM
namespace Go.Proofs.YtglpalgiipahjaaGreat
open Go.KL
def gBa:Sch:=.fx 2 (.fl 3 .nil) .stop
def gBb:Sch:=.fx 1 (.fl 2 .nil) .stop
def gBc:Sch:=.fx 0 (.fl 1 .nil) .stop
def gBd:Sch:=.fx 0 (.fx 1 .nil .stop) .stop
def gBe:Sch:=.fl 0 (.fx 1 .nil .stop)
def gBf:Sch:=.fx 11 (.fx 12 .nil .stop) .stop
def gBg:Sch:=.fx 10 (.fx 12 .nil .stop) .stop
def gBh:Sch:=.fx 2 (.fx 3 .nil .stop) .stop
def gBi:Sch:=.fl 5 (.fx 7 .nil .stop)
def gBj:Sch:=.fl 0 gBb
def gBk:Sch:=.fl 0 (.fl 1 (.fx 2 .nil .stop))
def gBl:Sch:=.fx 0 gBb .stop
def gBm:Sch:=.fx 0 (.fl 1 (.fl 2 .nil)) .stop
def gBn:Sch:=.fx 2 (.fl 3 (.fx 4 .nil .stop)) .stop
def gBo:Sch:=.fx 4 (.fx 5 (.fl 6 .nil) .stop) .stop
def gBp:Sch:=.fl 5 (.fx 6 (.fx 7 .nil .stop) .stop)
def gBq:Sch:=.fl 0 (.fl 1 gBa)
def gBr:Sch:=.fl 0 (.fx 1 gBa .stop)
def gBs:Sch:=.fx 8 (.fl 9 gBg) .stop
def gBt:Sch:=.fx 4 (.fl 9 gBg) .stop
def gBu:Sch:=.fl 0 (.fl 1 gBh)
def gBv:Sch:=.fl 0 (.fx 1 gBh .stop)
def gBw:Sch:=.fx 4 (.fx 9 (.fx 10 (.fx 11 (.fl 12 .nil) .stop) .stop) .stop) .stop
def gBx:Sch:=.fl 9 (.fx 10 gBf (.fx 11 gBg .stop))
def gBy:Sch:=.fl 0 (.fl 1 (.fx 2 (.fl 3 (.fl 4 .nil)) .stop))
set_option maxHeartbeats 4000000
theorem wHH (p0:Int) (p1:Int) (p2:Int) (w:World) (φ:PHeap) (hS:St0 w φ [])  {r:Bool} (hm:wDj p0 p1 p2=some r):Gv Tryz.prog 142 [jV p0,jV p1,jV p2] w (wCM w [] φ (fun φ_ L_ v=>v=.bool r/\L_=[])):=by
 unfold wDj at hm
 refine Gv.of Tryz.func142 Z Tryz.ntmps142 Tryz.results142 Z (sR fL1 Z (oA Z Z (eN (sR fL9 Z (oM Z Z (oM Z Z (oR Z (yb Z Z Z) (oM Z Z ?_))))))))
 by_cases c1:p1 <= p0
 have ah:=hm;rw [if_pos c1] at ah;replace c1:=zH c1
 refine zf Z Z Z (wT Z c1) Z Z (zf Z Z Z (wT Z c1) Z Z (rU Z (wT Z c1) (Runs.leq Z Z Z) (oR Z (zh Z (Zk c1.out) Z) (oA Z Z (eN (zP ?_))))))
 cases ah
 exact ⟨Z,_,(zw Z),φ,_,hS,Z,Z⟩
 have ai:=hm;rw [if_neg c1] at ai;replace c1:=zH c1
 refine oF Z c1 (oF Z c1 (oF Z c1 (oR Z (zk Z (ZI c1.out) Z) (oA Z Z (eN (zP ?_))))))
 have hE:=nB ai;first | subst r | cases hE
 exact ⟨Z,_,(zw Z),φ,_,hS,Z,Z⟩
theorem wGR (p0:List Int) (ae:Option Addr) (ak:Nat) (p1:wAM) (aj:Nat) (ah:Option Addr) (am:Nat) (ai:Option Addr) (ap:Nat) (w:World) (φ:PHeap) (hS:St0 w φ []) (au:Sl φ 1 ae ak p0.length (nA KL.encI p0)) (aq:Cl φ aj 0 [jV p1.Laps,.slice ah p1.Bibs.length am,.slice ai p1.Times.length ap]) (av:Sl φ 1 ah am p1.Bibs.length (nA KL.encI p1.Bibs)) (aw:SlR φ wGO ai ap p1.Times) {r:Bool} (hm:wBq p0 p1=some r):Gv Tryz.prog 179 [.slice ae p0.length ak,.pointer (some ⟨aj,0,none⟩)] w (wCM w [] φ (fun φ_ L_ v=>v=.bool r/\L_=[])):=by
 unfold wBq at hm
 refine Gv.of Tryz.func179 Z Tryz.ntmps179 Tryz.results179 Z (sR fL1 Z (oA Z Z (eN (sR fL6 Z (oM Z Z (oR Z (zd Z Z zB) (oR Z (zD Z Z zo Z zF) (oL Z (hS.ldC (f:=0) aq (v:=jV p1.Laps) Z Z zK Z) (oR Z (Runs.leq Z Z Z) (oA Z Z (eN (zP ?_))))))))))))
 cases hm
 exact ⟨Z,_,(zw Z),φ,_,hS,Z,Z⟩
theorem wFX (p0:List (List Int)) (aq:Option Addr) (av:Nat) (p1:((List Int)->Option Bool)) (az:Value) (w:World) (φ:PHeap) (hS:St0 w φ []) (bv:SlR φ wGO aq av p0) (bw:FnOK Tryz.prog φ az wTS wTT p1) {r:Bool} (hm:wCp p0 p1=some r):Gv Tryz.prog 178 [.slice aq p0.length av,az] w (wCM w [] φ (fun φ_ L_ v=>v=.bool r/\L_=[])):=by
 unfold wCp at hm
 refine Gv.of Tryz.func178 Z Tryz.ntmps178 Tryz.results178 Z (sR fL1 Z (oA Z Z (eN (zG (sR fL3 Z (oM Z Z (oR Z (zd Z Z ZO) (oM Z Z (eN (zR ?_))))))))))
 have q:=wCc hm
 obtain ⟨r3,aj⟩:=q
 have q:=wCj aj
 obtain ⟨am,bB⟩:=q
 replace am:=zH am
 refine yG (fun k2 _ σ_ w_=>∃ (φ_:PHeap),σ_ 9=jV (↑k2:Int)/\σ_ 1=az/\σ_ 7=.slice aq p0.length av/\σ_ 8=jV (↑p0.length:Int)/\PHeap.Le φ φ_/\sW w φ φ_ [] w_) bB ?_ ?_ ?_
 exact ⟨φ,Z,Z,Z,Z,(zS _),hS⟩
 rintro k2 ⟨⟩ bX bZ W8 ak ⟨bM,ah,aX,aY,aZ,ap,bb⟩ bf bz
 try dsimp only at bf
 have aW:Hid ((↑k2:Int) < (↑p0.length:Int)):=zH (wBI ak)
 replace ak:=zH ak
 have bC:Hid (w64 ((↑k2:Int) + 1)=(↑(k2 + 1):Int)):=zH (by have h1:=am.out;have h2:=aW.out;rw [wAU] <;> omega)
 refine sR fL1 Z (oR Z (zU Z ah aZ) (eN (zG (cT Z aW (kN (zG (zR (sR fL3 Z (bnK bf fun aU ba bD=>?_)))))))))
 have bn:=bv.le ap
 have q:=bn.el (wAZ ba)
 obtain ⟨bi,bK,bW,bs,ai,bI⟩:=q
 obtain ⟨au,aw,rfl,bp⟩:=bI
 replace ai:Cl bM bi (bK + k2 * 1) [.slice au aU.length aw]:=ai
 refine oR Z (ZH Z aY bs ah ZO zW (wBT ba)) (oL Z (bb.ldC (f:=0) ai (v:=.slice au aU.length aw) Z Z zm Z) (oA Z Z (eN (sR gBq Z (oM Z aX (oM Z Z (bnK bD fun x35 bq bE=>?_)))))))
 have br:=bw.le ap
 refine yY (a:=aU) Z Z Z Z Z Z (zC Z zQ) bb br ⟨au,aw,Z,bp⟩ bq ?_
 rintro aV bO bV bh bJ bt ⟨rfl,rfl⟩
 have bd:sW w φ aV [] bh:=bt
 refine oR Z (ZW Z Z) (eN (ifc bE ?_ ?_))
 intro ae bF
 refine zu (nC ae.out) (Zf (ze (zI (rR fL2 Z (oR Z (ZC (zY Z ah Z) (congrArg (jV) bC.out)) (oM Z Z (zn ?_)))))))
 obtain rfl:=nB bF
 exact zI ⟨Z,_,Z,⟨aV,Z,aX,aY,aZ,(ap.trans bJ),bd⟩⟩
 intro ae bG
 refine ZG (nF (ae.out)) (sR fL1 Z (oA Z Z (eN (zP (zg (zN ?_))))))
 have q:=wAW bG
 obtain ⟨bL,bH,bk⟩:=q
 obtain rfl:=wBQ hm aj (bz bL bk)
 refine zN (zg (zN ?_))
 have hE:=nB bH;first | subst r | cases hE
 exact ⟨Z,_,(zw Z),aV,_,bd,Z,Z⟩
 rintro ⟨⟩ bY bP ⟨bN,bm,bR,bS,bl,bT,bu⟩ bA
 have be:=wDL hm aj bA
 try dsimp only at be
 have bj:Hid (¬ ((↑(((↑p0.length:Int):Int) - 0).toNat:Int) < (↑p0.length:Int))):=zH (wAp)
 refine sR fL1 Z (oR Z (zU Z bm bl) (eN (zG (cF Z bj (ZJ (zX (zX (ZB (zI (sR fL1 Z (oA Z Z (eN (zP ?_)))))))))))))
 have hE:=nB be;first | subst r | cases hE
 exact ⟨Z,_,(zw Z),bN,_,bu,Z,Z⟩
theorem wEM (p0:List Int) (ap:Option Addr) (aq:Nat) (p1:(Int->Option Bool)) (au:Value) (w:World) (φ:PHeap) (hS:St0 w φ []) (br:Sl φ 1 ap aq p0.length (nA KL.encI p0)) (bs:FnOK Tryz.prog φ au wHd wJG p1) {r:Bool} (hm:wBr p0 p1=some r):Gv Tryz.prog 180 [.slice ap p0.length aq,au] w (wCM w [] φ (fun φ_ L_ v=>v=.bool r/\L_=[])):=by
 unfold wBr at hm
 refine Gv.of Tryz.func180 Z Tryz.ntmps180 Tryz.results180 Z (sR fL1 Z (oA Z Z (eN (zG (sR fL3 Z (oM Z Z (oR Z (zd Z Z zB) (oM Z Z (eN (zR ?_))))))))))
 have q:=wCc hm
 obtain ⟨r3,ai⟩:=q
 have q:=wCj ai
 obtain ⟨ak,bv⟩:=q
 replace ak:=zH ak
 refine yG (fun k2 _ σ_ w_=>∃ (φ_:PHeap),σ_ 9=jV (↑k2:Int)/\σ_ 1=au/\σ_ 7=.slice ap p0.length aq/\σ_ 8=jV (↑p0.length:Int)/\PHeap.Le φ φ_/\sW w φ φ_ [] w_) bv ?_ ?_ ?_
 exact ⟨φ,Z,Z,Z,Z,(zS _),hS⟩
 rintro k2 ⟨⟩ bR bT W8 aj ⟨bU,ah,az,aU,aV,am,aX⟩ ba bt
 try dsimp only at ba
 have aw:Hid ((↑k2:Int) < (↑p0.length:Int)):=zH (wBI aj)
 replace aj:=zH aj
 have bw:Hid (w64 ((↑k2:Int) + 1)=(↑(k2 + 1):Int)):=zH (by have h1:=ak.out;have h2:=aw.out;rw [wAU] <;> omega)
 refine sR fL1 Z (oR Z (zU Z ah aV) (eN (zG (cT Z aw (kN (zG (zR (sR fL3 Z (bnK ba fun bd aW bz=>?_)))))))))
 have bj:=br.le am
 have q:=bj.el (fun _=>rfl) (wAZ aW)
 obtain ⟨bK,bO,bm,bn⟩:=q
 refine oR Z (ZH Z aU bm ah zB zF (wBT aW)) (oL Z (aX.ldC (f:=0) bn (v:=jV bd) Z Z zK Z) (oA Z Z (eN (sR gBq Z (oM Z az (oM Z Z (bnK bz fun x30 bk bA=>?_)))))))
 have bl:=bs.le am
 refine yY (a:=bd) Z Z Z Z Z Z (zC Z zQ) aX bl Z bk ?_
 rintro av bH bQ be bE bp ⟨rfl,rfl⟩
 have aY:sW w φ av [] be:=bp
 refine oR Z (ZW Z Z) (eN (ifc bA ?_ ?_))
 intro ae bB
 refine zu (nC ae.out) (Zf (ze (zI (rR fL2 Z (oR Z (ZC (zY Z ah Z) (congrArg (jV) bw.out)) (oM Z Z (zn ?_)))))))
 obtain rfl:=nB bB
 exact zI ⟨Z,_,Z,⟨av,Z,az,aU,aV,(am.trans bE),aY⟩⟩
 intro ae bC
 refine ZG (nF (ae.out)) (sR fL1 Z (oA Z Z (eN (zP (zg (zN ?_))))))
 have q:=wAW bC
 obtain ⟨bF,bD,bg⟩:=q
 obtain rfl:=wBQ hm ai (bt bF bg)
 refine zN (zg (zN ?_))
 have hE:=nB bD;first | subst r | cases hE
 exact ⟨Z,_,(zw Z),av,_,aY,Z,Z⟩
 rintro ⟨⟩ bS bI ⟨bG,bi,bL,bM,bh,bN,bq⟩ bu
 have aZ:=wDL hm ai bu
 try dsimp only at aZ
 have bf:Hid (¬ ((↑(((↑p0.length:Int):Int) - 0).toNat:Int) < (↑p0.length:Int))):=zH (wAp)
 refine sR fL1 Z (oR Z (zU Z bi bh) (eN (zG (cF Z bf (ZJ (zX (zX (ZB (zI (sR fL1 Z (oA Z Z (eN (zP ?_)))))))))))))
 have hE:=nB aZ;first | subst r | cases hE
 exact ⟨Z,_,(zw Z),bG,_,bq,Z,Z⟩
theorem wGS (p0:Int) (w:World) (φ:PHeap) (hS:St0 w φ [])  {r:Bool} (hm:wBs p0=some r):Gv Tryz.prog 181 [jV p0] w (wCM w [] φ (fun φ_ L_ v=>v=.bool r/\L_=[])):=by
 unfold wBs at hm
 refine Gv.of Tryz.func181 Z Tryz.ntmps181 Tryz.results181 Z (sR fL1 Z (oA Z Z (eN (sR gBj Z (oM Z Z (bnK hm fun x1 h2 ak=>zM 0 Z Z Z Z (zL Z Z Tryz.call142 (zC Z (zC Z (zC Z zQ))) Z) hS (fun hs=>wHH p0 1 999 w φ hs h2) (.inr Z) ?_))))))
 rintro ab L5 v6 W7 ap aj ⟨rfl,rfl⟩
 have ai:sW w φ ab [] W7:=aj
 refine oA Z Z (eN (zP ?_))
 have hE:=nB ak;first | subst r | cases hE
 exact ⟨Z,_,(zw Z),ab,_,ai,Z,Z⟩
theorem wFY (p0:Int) (w:World) (φ:PHeap) (hS:St0 w φ [])  {r:Bool} (hm:wBb p0=some r):Gv Tryz.prog 183 [jV p0] w (wCM w [] φ (fun φ_ L_ v=>v=.bool r/\L_=[])):=by
 unfold wBb at hm
 refine Gv.of Tryz.func183 Z Tryz.ntmps183 Tryz.results183 Z (sR fL1 Z (oA Z Z (eN (sR gBj Z (oM Z Z (bnK hm fun x1 h2 ak=>zM 0 Z Z Z Z (zL Z Z Tryz.call142 (zC Z (zC Z (zC Z zQ))) Z) hS (fun hs=>wHH p0 0 360000 w φ hs h2) (.inr Z) ?_))))))
 rintro ab L5 v6 W7 ap aj ⟨rfl,rfl⟩
 have ai:sW w φ ab [] W7:=aj
 refine oA Z Z (eN (zP ?_))
 have hE:=nB ak;first | subst r | cases hE
 exact ⟨Z,_,(zw Z),ab,_,ai,Z,Z⟩
theorem wGT (p0:List Int) (ab:Option Addr) (ae:Nat) (w:World) (φ:PHeap) (hS:St0 w φ []) (aq:Sl φ 1 ab ae p0.length (nA KL.encI p0)) {r:Bool} (hm:wBt p0=some r):Gv Tryz.prog 182 [.slice ab p0.length ae] w (wCM w [] φ (fun φ_ L_ v=>v=.bool r/\L_=[])):=by
 unfold wBt at hm
 refine Gv.of Tryz.func182 Z Tryz.ntmps182 Tryz.results182 Z (sR fL1 Z (oA Z Z (eN (sR gBj Z (oM Z Z ?_)))))
 have ak:FnOK Tryz.prog φ (.func (.func 183) #[] #[]) wHd wJG wBb:=⟨183,[],[],rfl,Tryz.call183,fun aw w1 x y vs le hs ha hm=>by obtain rfl:=ha;exact wFY x w1 aw hs  hm⟩
 refine bnK hm fun x2 h3 au=>zM 0 Z Z Z Z (zL Z Z Tryz.call180 (zC Z (zC Z zQ)) Z) hS (fun hs=>wEM p0 ab ae wBb (.func (.func 183) #[] #[]) w φ hs aq ak h3) (.inr Z) ?_
 rintro ah L6 v7 W8 aU am ⟨rfl,rfl⟩
 have ap:sW w φ ah [] W8:=am
 refine oA Z Z (eN (zP ?_))
 have hE:=nB au;first | subst r | cases hE
 exact ⟨Z,_,(zw Z),ah,_,ap,Z,Z⟩
theorem wKP (p0:List Int) (av:Option Addr) (aw:Nat) (w:World) (φ:PHeap) (hS:St0 w φ []) (bt:Sl φ 1 av aw p0.length (nA KL.encI p0)) {r:Bool} (hm:wDc p0=some r):Gv Tryz.prog 184 [.slice av p0.length aw] w (wCM w [] φ (fun φ_ L_ v=>v=.bool r/\L_=[])):=by
 unfold wDc at hm
 refine Gv.of Tryz.func184 Z Tryz.ntmps184 Tryz.results184 Z (sR fL1 Z (oA Z Z (eN (sR gBc Z (OKS.makeMap Z Z Z Z Z hS ?_)))))
 intro W1 b2 bp
 have bF:=MpR.nil wHF wHe
 refine oA Z Z (eN (zG (sR fL3 Z (oM Z Z (oR Z (zd Z Z zB) (oM Z Z (eN (zR ?_))))))))
 have q:=wCc hm
 obtain ⟨bV,ap⟩:=q
 have q:=wCj ap
 obtain ⟨au,bw⟩:=q
 replace au:=zH au
 refine yG (fun ab be σ_ w_=>∃ (φ_:PHeap) (aj:Array MapEntry) (aW:Nat),σ_ 9=jV (↑ab:Int)/\σ_ 3=.map (some b2)/\σ_ 7=.slice av p0.length aw/\σ_ 8=jV (↑p0.length:Int)/\PHeap.Le φ φ_/\sW w φ φ_ [.obj b2 (.map aj aW)] w_/\MpR aj wHF wHe be) bw ?_ ?_ ?_
 exact ⟨φ,#[],0,Z,Z,Z,Z,(zS _),bp,bF⟩
 rintro ab be bW bY bL aq ⟨aU,aj,aW,am,ak,aZ,ba,bf,ae,bb⟩ bH bu
 have aV:Hid ((↑ab:Int) < (↑p0.length:Int)):=zH (wBI aq)
 replace aq:=zH aq
 have bz:Hid (w64 ((↑ab:Int) + 1)=(↑(ab + 1):Int)):=zH (by have h1:=au.out;have h2:=aV.out;rw [wAU] <;> omega)
 refine sR fL1 Z (oR Z (zU Z am ba) (eN (zG (cT Z aV (kN (zG (zR (sR fL3 Z (bnK bH fun az bd bA=>?_)))))))))
 have bl:=bt.le bf
 have q:=bl.el (fun _=>rfl) (wAZ bd)
 obtain ⟨bN,bU,bm,bn⟩:=q
 refine oR Z (ZH Z aZ bm am zB zF (wBT bd)) (oL Z (ae.ldC (f:=0) bn (v:=jV az) Z Z zK Z) (oA Z Z (eN (zG (sR fL3 Z (oM Z ak (oM Z Z (oL Z (ae.lookup1 (j:=0) (mk:=wHF) (mv:=wHe) (a:=az) (z:=false) Z Z Z Z (wDH yM) wIl Tryz.zeroValue4 bb) (eN (ifc bA ?_ ?_))))))))))
 intro ai bB
 refine ZG (congrArg nD ai.out) (sR fL1 Z (oA Z Z (eN (zP (zN (zg (zN ?_)))))))
 have q:=wAW bB
 obtain ⟨bI,bC,bi⟩:=q
 obtain rfl:=wBQ hm ap (bu bI bi)
 refine zN (zg (zN ?_))
 have hE:=nB bC;first | subst r | cases hE
 exact ⟨rfl,_,(zw rfl),aU,_,(ae.pick [] _ (by decide) rfl),rfl,rfl⟩
 intro ai bD
 refine zu (congrArg nD (nE.2 ai.out)) (kN (rR gBk rfl (zf rfl rfl rfl rfl rfl ak (zf rfl rfl rfl rfl rfl rfl (OKS.mapPut (x:=.tmp 16) (y:=.tmp 17) (j:=0) (mk:=wHF) (mv:=wHe) (a:=az) (v:=true) rfl rfl rfl (by first | exact .inl rfl | exact .inr rfl) ae rfl rfl rfl rfl (wDH yM) wIl bb rfl ?_)))))
 intro aY aX bg bG bq
 have br:sW w φ aU [.obj b2 (.map aY aX)] bg:=bq
 refine zn (ze (zI (rR fL2 Z (oR Z (ZC (zY Z am Z) (congrArg (jV) bz.out)) (oM Z Z (zn ?_))))))
 obtain rfl:=nB bD
 exact zI ⟨Z,_,Z,⟨aU,aY,aX,Z,ak,aZ,ba,bf,br,bG⟩⟩
 rintro bX bZ bM ⟨bJ,bP,bO,bk,bQ,bR,bj,bT,bs,bS⟩ bv
 have bE:=wDL hm ap bv
 have bh:Hid (¬ ((↑(((↑p0.length:Int):Int) - 0).toNat:Int) < (↑p0.length:Int))):=zH (wAp)
 refine sR fL1 Z (oR Z (zU Z bk bj) (eN (zG (cF Z bh (ZJ (zX (zX (ZB (zI (sR fL1 Z (oA Z Z (eN (zP ?_)))))))))))))
 have hE:=nB bE;first | subst r | cases hE
 exact ⟨rfl,_,(zw rfl),bJ,_,(bs.pick [] _ (by decide) rfl),rfl,rfl⟩
theorem wEk (p0:wAM) (am:Option Addr) (ap:Nat) (ah:Option Addr) (ai:Nat) (w:World) (φ:PHeap) (hS:St0 w φ []) (dO:Sl φ 1 am ap p0.Bibs.length (nA KL.encI p0.Bibs)) (dP:SlR φ wGO ah ai p0.Times) {r:Int} (hm:wCO p0=some r):Gv Tryz.prog 106 [.agg #[jV p0.Laps,.slice am p0.Bibs.length ap,.slice ah p0.Times.length ai]] w (wCM w [] φ (fun φ_ L_ v=>v=jV r/\L_=[])):=by
 unfold wCO at hm
 refine Gv.of Tryz.func106 Z Tryz.ntmps106 Tryz.results106 Z (sR gBc Z ?_)
 let B0:List Value:=[jV p0.Laps,.slice am p0.Bibs.length ap,.slice ah p0.Times.length ai]
 refine Za (cs:=B0) rfl rfl rfl rfl rfl rfl (by rfl) hS ?_
 intro W1 b2 dI
 have q:=dI.freeze (k:=0) rfl
 obtain ⟨bL,cC,az,dM⟩:=q
 replace az:=Cl.of az
 have cq:sW w φ bL [] W1:=dM
 replace az:Cl bL b2 0 B0:=az
 refine oA Z Z (eN (zG (zR (sR (.fl 0 (.fl 1 (.fx 2 (wVO (.fx 23 (wTy (.nil)) .stop)) .stop))) Z (oR Z (zD Z Z zo Z zF) (oL Z (cq.ldC (f:=0) az (v:=jV p0.Laps) Z Z zK Z) (bnK hm fun fP cY dY=>zM 0 Z Z Z Z (zL Z Z Tryz.call142 (zC Z (zC Z (zC Z zQ))) Z) cq (fun hs=>wHH p0.Laps 1 20 W1 bL hs cY) (.inr Z) ?_)))))))
 rintro aV fg fJ bQ bE dF ⟨rfl,rfl⟩
 have aq:sW w φ aV [] bQ:=dF
 refine oR Z (ZW Z Z) (oM Z Z (ifc dY ?_ ?_))
 intro aj eI
 refine zj Z Z Z (zO Z Z (nC aj.out)) (fun _=>zD Z Z zo Z zW) ?_
 have aw:=az.le bE
 refine ZM Z Z Z (zO Z Z (nC aj.out)) (aq.ldC (f:=1) aw (v:=.slice am p0.Bibs.length ap) Z Z zm Z) Z (zj Z Z Z (zO Z Z (nC aj.out)) (fun _=>zd Z Z zB) (zj Z Z Z (zO Z Z (nC aj.out)) (fun _=>yB Z Z Z) (oR Z (zk Z (nC aj.out) Z) (oM Z Z (ifc eI ?_ ?_)))))
 intro ab eJ
 refine oT Z ab (oT Z ab (oT Z ab (oT Z ab (oT Z ab (oT Z ab (oT Z ab (oR Z (zh Z (Zk ab.out) Z) (oM Z Z (oN Z (oN Z (oN Z (yW Z Z Z (zr Z Z Z Z) (oN Z (oR Z (zh Z Z Z) (oA Z Z (eN (ZG Z (sR fL1 Z (oA Z Z (eN (zP (zg (zN ?_)))))))))))))))))))))))
 cases eJ
 exact ⟨Z,_,(zw Z),aV,_,aq,Z,Z⟩
 intro ab eK
 refine rU Z (wF Z ab) (zD Z Z zo Z Zn) (ZM Z Z Z (wF Z ab) (aq.ldC (f:=2) aw (v:=.slice ah p0.Times.length ai) Z Z Zv Z) Z (rU Z (wF Z ab) (zd Z Z ZO) (rU Z (wF Z ab) (zD Z Z zo Z zW) (ZM Z Z Z (wF Z ab) (aq.ldC (f:=1) aw (v:=.slice am p0.Bibs.length ap) Z Z zm Z) Z (rU Z (wF Z ab) (zd Z Z zB) (rU Z (wF Z ab) (Zq Z Z Z) (oR Z (zk Z (ZI ab.out) Z) (oM Z Z (ifc eK ?_ ?_)))))))))
 intro ae eM
 refine zj Z Z Z (zO Z Z (ZI (fun h=>h ae.out))) (fun _=>zD Z Z zo Z Zn) (ZM Z Z Z (zO Z Z (ZI (fun h=>h ae.out))) (aq.ldC (f:=2) aw (v:=.slice ah p0.Times.length ai) Z Z Zv Z) Z (zj Z Z Z (zO Z Z (ZI (fun h=>h ae.out))) (fun _=>yc Z zQ (zC Z zQ)) ?_))
 have df:=dP.le cC
 have bn:=df.le bE
 have dg:=dO.le cC
 have b5:=dg.le bE
 have dB:FnOK Tryz.prog aV (.func (.func 179) #[] #[.pointer (some ⟨b2,0,none⟩)]) wTS wTT (fun x=>wBq x p0):=⟨179,[],[.pointer (some ⟨b2,0,none⟩)],rfl,Tryz.call179,fun aZ w1 x y vs le hs ha hm=>by obtain ⟨pA_0,pc_0,rfl,hq0_0⟩:=ha;exact wGR x pA_0 pc_0 p0 b2 am ap ah ai w1 aZ hs hq0_0 (aw.le le) (b5.le le) (bn.le le) hm⟩
 refine bnK eM fun fQ dh eP=>zM 0 Z Z Z (zO Z Z (ZI (fun h=>h ae.out))) (zL Z Z Tryz.call178 (zC Z (zC Z zQ)) Z) aq (fun hs=>wFX p0.Times ah ai (fun x=>wBq x p0) (.func (.func 179) #[] #[.pointer (some ⟨b2,0,none⟩)]) bQ aV hs bn dB dh) (.inr Z) ?_
 rintro bd fh fK bR bF dJ ⟨rfl,rfl⟩
 have bq:sW w φ bd [] bR:=dJ
 refine zj Z Z Z (zO Z Z (ZI (fun h=>h ae.out))) (fun _=>ZW Z Z) (oR Z (zk Z (ZI (fun h=>h ae.out)) Z) (oA Z Z (eN (ifc eP ?_ ?_))))
 intro bh eQ
 refine zu (nC bh.out) (sR (.fl 0 (.fl 1 (.fx 2 (wRq (.fx 7 (wQg (.nil)) .stop)) .stop))) Z (oR Z (zD Z Z zo Z zW) ?_))
 have cd:=aw.le bF
 refine oL Z (bq.ldC (f:=1) cd (v:=.slice am p0.Bibs.length ap) Z Z zm Z) ?_
 have cg:=b5.le bF
 have dC:FnOK Tryz.prog bd (.func (.func 181) #[] #[]) wHd wJG wBs:=⟨181,[],[],rfl,Tryz.call181,fun aZ w1 x y vs le hs ha hm=>by obtain rfl:=ha;exact wGS x w1 aZ hs  hm⟩
 refine bnK eQ fun fR dm eR=>zM 0 Z Z Z Z (zL Z Z Tryz.call180 (zC Z (zC Z zQ)) Z) bq (fun hs=>wEM p0.Bibs am ap wBs (.func (.func 181) #[] #[]) bR bd hs cg dC dm) (.inr Z) ?_
 rintro be fj fL bS bG dK ⟨rfl,rfl⟩
 have br:sW w φ be [] bS:=dK
 refine oR Z (ZW Z Z) (oM Z Z (ifc eR ?_ ?_))
 intro ak eS
 refine zj Z Z Z (zO Z Z (nC ak.out)) (fun _=>zD Z Z zo Z Zn) ?_
 have ci:=cd.le bG
 refine ZM Z Z Z (zO Z Z (nC ak.out)) (br.ldC (f:=2) ci (v:=.slice ah p0.Times.length ai) Z Z Zv Z) Z ?_
 have dp:=bn.le bF
 have cj:=dp.le bG
 have dD:FnOK Tryz.prog be (.func (.func 182) #[] #[]) wTS wTT wBt:=⟨182,[],[],rfl,Tryz.call182,fun aZ w1 x y vs le hs ha hm=>by obtain ⟨pA_0,pc_0,rfl,hq0_0⟩:=ha;exact wGT x pA_0 pc_0 w1 aZ hs hq0_0 hm⟩
 refine bnK eS fun fS dq eT=>zM 0 Z Z Z (zO Z Z (nC ak.out)) (zL Z Z Tryz.call178 (zC Z (zC Z zQ)) Z) br (fun hs=>wFX p0.Times ah ai wBt (.func (.func 182) #[] #[]) bS be hs cj dD dq) (.inr Z) ?_
 rintro bM fm fM bT bH dL ⟨rfl,rfl⟩
 have bs:sW w φ bM [] bT:=dL
 refine zj Z Z Z (zO Z Z (nC ak.out)) (fun _=>ZW Z Z) (oR Z (zk Z (nC ak.out) Z) (oA Z Z (eN (ifc eT ?_ ?_))))
 intro bi eU
 refine zu (nC bi.out) (sR gBq Z (oR Z (zD Z Z zo Z zW) ?_))
 have cm:=ci.le bH
 refine oL Z (bs.ldC (f:=1) cm (v:=.slice am p0.Bibs.length ap) Z Z zm Z) ?_
 have dr:=cg.le bG
 have dt:=dr.le bH
 refine bnK eU fun x79 du eV=>zM 0 Z Z Z Z (zL Z Z Tryz.call184 (zC Z zQ) Z) bs (fun hs=>wKP p0.Bibs am ap bT bM hs dt du) (.inr Z) ?_
 rintro bf fq fN cG cD dN ⟨rfl,rfl⟩
 have bt:sW w φ bf [] cG:=dN
 refine oA Z Z (eN (ifc eV ?_ ?_))
 intro bj eW
 refine ZG (congrArg nD bj.out) (sR fL1 Z (oA Z Z (eN (zP (zg (zN ?_))))))
 cases eW
 exact ⟨Z,_,(zw Z),bf,_,bt,Z,Z⟩
 intro bj bD
 refine zu (congrArg nD (nE.2 bj.out)) (Zf (ze (zI (zG (zG (yH fun fd cy=>?_))))))
 have cV:fd 1=.pointer (some ⟨b2,0,none⟩):=(cy 1).trans rfl
 clear cy
 refine rR fL4 Z (oR Z (zD Z cV zo Z Zn) ?_)
 have dv:=cm.le cD
 refine oL Z (bt.ldC (f:=2) dv (v:=.slice ah p0.Times.length ai) Z Z Zv Z) (oR Z (zd Z Z ZO) (oM Z Z (eN (zR ?_))))
 have q:=wCc bD
 obtain ⟨fH,bv⟩:=q
 have q:=wCj bv
 obtain ⟨bA,dU⟩:=q
 replace bA:=zH bA
 refine yG (fun au _ σ_ w_=>∃ (φ_:PHeap),σ_ 51=jV (↑au:Int)/\σ_ 49=.slice ah p0.Times.length ai/\σ_ 50=jV (↑p0.Times.length:Int)/\PHeap.Le bf φ_/\sW w φ φ_ [] w_) dU ?_ ?_ ?_
 exact ⟨bf,Z,Z,Z,(zS _),bt⟩
 rintro au ⟨⟩ fT fV ft bw ⟨bK,bk,bW,bX,cz,cp⟩ cu dQ
 try dsimp only at cu
 have bU:Hid ((↑au:Int) < (↑p0.Times.length:Int)):=zH (wBI bw)
 replace bw:=zH bw
 have dW:Hid (w64 ((↑au:Int) + 1)=(↑(au + 1):Int)):=zH (by have h1:=bA.out;have h2:=bU.out;rw [wAU] <;> omega)
 refine sR fL1 Z (oR Z (zU Z bk bX) (eN (zG (cT Z bU (kN (zG (zR (sR fL3 Z (bnK cu fun aU bY bC=>?_)))))))))
 have cZ:=cj.le bH
 have da:=cZ.le cD
 have db:=da.le cz
 have q:=db.el (wAZ bY)
 obtain ⟨cH,eZ,fO,dw,bp,eX⟩:=q
 obtain ⟨bI,bJ,rfl,de⟩:=eX
 replace bp:Cl bK cH (eZ + au * 1) [.slice bI aU.length bJ]:=bp
 refine oR Z (ZH Z bW dw bk ZO zW (wBT bY)) (oL Z (cp.ldC (f:=0) bp (v:=.slice bI aU.length bJ) Z Z zm Z) (oA Z Z (eN (sR fL1 Z (oA Z Z (eN (zR ?_)))))))
 have q:=wCc bC
 obtain ⟨fG,bu⟩:=q
 have q:=wCj bu
 obtain ⟨bB,dV⟩:=q
 replace bB:=zH bB
 refine yG (fun aX _ σ_ w_=>∃ (φ_:PHeap),σ_ 5=jV (1 + ↑aX:Int)/\σ_ 4=.slice bI aU.length bJ/\σ_ 49=.slice ah p0.Times.length ai/\σ_ 50=jV (↑p0.Times.length:Int)/\σ_ 51=jV (↑au:Int)/\PHeap.Le bK φ_/\sW w φ φ_ [] w_) dV ?_ ?_ ?_
 exact ⟨bK,Z,Z,bW,bX,bk,(zS _),cp⟩
 rintro aX ⟨⟩ fU fW bP bz ⟨cE,bb,ba,cM,cN,cO,cA,dE⟩ cw dR
 try dsimp only at cw
 have bV:Hid ((1 + ↑aX:Int) < (↑aU.length:Int)):=zH (lp_lt bz)
 replace bz:=zH bz
 have dX:Hid (w64 ((1 + ↑aX:Int) + 1)=(1 + ↑(aX + 1):Int)):=zH (by have h1:=bB.out;have h2:=bV.out;rw [wAU] <;> omega)
 refine zG (sR fL4 rfl (zf rfl rfl rfl rfl rfl bb (zf rfl rfl rfl rfl rfl ba (zj rfl rfl rfl rfl (fun _=>zd rfl rfl zB) (zj rfl rfl rfl rfl (fun _=>zU rfl rfl rfl) (eN (cT Z bV (kN (zG (zR (zG (Zb ZT [3,3,3,1,3,3,3,3,1,3] fL10 (by kernel_rfl) ?_))))))))))))
 have aW:=dE.drew
 generalize hw_W154:({ bP with drawn:=bP.drawn + 1 }:World)=fu at aW ⊢
 refine oM Z ba (oM Z bb (bnK cw fun fb bl dZ=>?_))
 have bZ:=de.le cA
 have q:=bZ.el (fun _=>rfl) (wAZ bl)
 obtain ⟨fz,fD,dx,dz⟩:=q
 refine oR Z (Zj Z Z dx Z zB zF (wDO bl) (wDV bl)) (oL Z (aW.ldC (f:=0) dz (v:=jV fb) Z Z zK Z) (oM Z ba (oM Z bb (oR Z (Zo Z Z Z) (bnK dZ fun fc bm d7=>?_)))))
 have q:=bZ.el (fun _=>rfl) (wAZ bm)
 obtain ⟨fA,fE,dy,dA⟩:=q
 refine oR Z (Zj Z Z dy Z zB zF (wDO bm) (wDV bm)) (oL Z (aW.ldC (f:=0) dA (v:=jV fc) Z Z zK Z) (oR Z (Runs.leq Z Z Z) (eN (ifc d7 ?_ ?_))))
 intro bg d8
 refine cT Z bg (sR fL1 Z (oA Z Z (eN (zP (zg (zN ?_))))))
 have q:=wAW d8
 obtain ⟨e8,d9,cK⟩:=q
 obtain rfl:=wBQ bC bu (dR e8 cK)
 refine zN (zg (zg (zN ?_)))
 have q:=wAW d9
 obtain ⟨e9,ef,cL⟩:=q
 obtain rfl:=wBQ bD bv (dQ e9 cL)
 refine zN (zg (zN ?_))
 cases ef
 exact ⟨Z,_,(zw Z),cE,_,aW,Z,Z⟩
 intro bg eh
 refine cF Z bg (Zf (ze (zI (rR fL3 Z (oM Z bb (oR Z (ZC (zY Z Z Z) (congrArg (jV) dX.out)) (oA Z Z (zn ?_))))))))
 obtain rfl:=nB eh
 exact zI ⟨Z,_,Z,⟨cE,Z,ba,cM,cN,cO,cA,aW⟩⟩
 rintro ⟨⟩ fY fw ⟨fe,cW,cP,cQ,cR,cS,eY,dG⟩ dS
 have cr:=wDL bC bu dS
 try dsimp only at cr
 have cI:Hid (¬ ((1 + ↑(((↑aU.length:Int):Int) - 1).toNat:Int) < (↑aU.length:Int))):=zH (wUO)
 refine zG (sR fL4 Z (oM Z cW (oM Z cP (oR Z (zd Z Z zB) (oR Z (zU Z Z Z) (eN (cF Z cI (ZJ (zX (zX (ZB (ze (zI (rR fL2 Z (oR Z (ZC (zY Z cS Z) (congrArg (jV) dW.out)) (oM Z Z (zn ?_)))))))))))))))))
 obtain rfl:=nB cr
 exact zI ⟨Z,_,Z,⟨fe,Z,cQ,cR,(cz.trans eY),dG⟩⟩
 rintro ⟨⟩ fZ fy ⟨ff,cX,fB,cU,fC,dH⟩ dT
 have ct:=wDL bD bv dT
 try dsimp only at ct
 have cJ:Hid (¬ ((↑(((↑p0.Times.length:Int):Int) - 0).toNat:Int) < (↑p0.Times.length:Int))):=zH (wAp)
 refine sR fL1 Z (oR Z (zU Z cX cU) (eN (zG (cF Z cJ (ZJ (zX (zX (ZB (zI (sR fL1 Z (oA Z Z (eN (zP ?_)))))))))))))
 cases ct
 exact ⟨Z,_,(zw Z),ff,_,dH,Z,Z⟩
 intro bi eu
 refine ZG (nF (bi.out)) (sR fL1 Z (oA Z Z (eN (zP (zg (zN ?_))))))
 cases eu
 exact ⟨Z,_,(zw Z),bM,_,bs,Z,Z⟩
 intro ak eC
 refine zJ Z Z Z (zr Z Z (nF (ak.out)) Z) (zJ Z Z Z (zr Z Z (nF (ak.out)) Z) (yW Z Z Z (zr Z Z (nF (ak.out)) Z) (zJ Z Z Z (zr Z Z (nF (ak.out)) Z) (oR Z (zh Z (nF (ak.out)) Z) (oA Z Z (eN (ZG Z (sR fL1 Z (oA Z Z (eN (zP (zg (zN ?_)))))))))))))
 cases eC
 exact ⟨Z,_,(zw Z),be,_,br,Z,Z⟩
 intro bh eD
 refine ZG (nF (bh.out)) (sR fL1 Z (oA Z Z (eN (zP (zg (zN ?_))))))
 cases eD
 exact ⟨Z,_,(zw Z),bd,_,bq,Z,Z⟩
 intro ae eG
 refine oT Z ae (oT Z ae (oT Z ae (yW Z Z Z (zr Z Z (Zk ae.out) Z) (oT Z ae (oR Z (zh Z (Zk ae.out) Z) (oA Z Z (eN (ZG Z (sR fL1 Z (oA Z Z (eN (zP (zg (zN ?_))))))))))))))
 cases eG
 exact ⟨Z,_,(zw Z),aV,_,aq,Z,Z⟩
 intro aj eH
 refine zJ Z Z Z (zr Z Z (nF (aj.out)) Z) (zJ Z Z Z (zr Z Z (nF (aj.out)) Z) (zJ Z Z Z (zr Z Z (nF (aj.out)) Z) (zJ Z Z Z (zr Z Z (nF (aj.out)) Z) (oR Z (zh Z (nF (aj.out)) Z) (oM Z Z (oN Z (oN Z (oN Z (oN Z (oN Z (oN Z (oN Z (oR Z (zh Z Z Z) (oM Z Z (oN Z (oN Z (oN Z (yW Z Z Z (zr Z Z Z Z) (oN Z (oR Z (zh Z Z Z) (oA Z Z (eN (ZG Z (sR fL1 Z (oA Z Z (eN (zP (zg (zN ?_)))))))))))))))))))))))))))))
 cases eH
 exact ⟨Z,_,(zw Z),aV,_,aq,Z,Z⟩
theorem wFZ (p0:List Int) (p1:Int) (w:World) (φ:PHeap) (hS:St0 w φ [])  {r:(List Int)} (hm:wBx p0 p1=some r):Gv Tryz.prog 300 [.slice none 0 0,jV p1] w (wCM w [] φ (fun φ_ L_ v=>∃ (A0:Option Addr) (c0:Nat),v=.slice A0 r.length c0/\L_=[.row A0 c0 3 1 (nA KL.encI r)])):=by
 unfold wBx at hm
 refine Gv.of Tryz.func300 Z Tryz.ntmps300 Tryz.results300 Z (sR fL1 Z (oA Z Z (eN (zG (sR fL2 Z (oM Z Z (oR Z (zU Z Z Z) (eN ?_))))))))
 by_cases c1:p1 < 0
 have au:=hm;rw [if_pos c1] at au;replace c1:=zH c1
 refine cT Z c1 (rR gBd Z ?_)
 cases au
 have av:=hm;rw [if_neg c1] at av;replace c1:=zH c1
 refine cF Z c1 (kN (zG (sR fL8 rfl (zf rfl rfl rfl rfl rfl rfl (zf rfl rfl rfl rfl rfl rfl (zj rfl rfl rfl rfl (fun _=>Runs.capn rfl rfl zB) (zf rfl rfl rfl rfl rfl rfl (zj rfl rfl rfl rfl (fun _=>zd rfl rfl zB) (zj rfl rfl rfl rfl (fun _=>ZC (Zo rfl rfl rfl) (congrArg (jV) (show w64 (0 - 0)=0 by decide))) (zj rfl rfl rfl rfl (fun _=>Zo rfl rfl rfl) (OKS.ra rfl rfl rfl rfl rfl rfl (eN (sR fL2 rfl (zf rfl rfl rfl rfl rfl rfl (zj rfl rfl rfl rfl (fun _=>yB rfl rfl rfl) (eN (ifc av ?_ ?_)))))))))))))))))
 intro c4 aY
 refine cT Z c4 (rR (wKd (.fx 5 (fC6_9 (.nil)) .stop)) rfl (zf rfl rfl rfl rfl rfl rfl (zf rfl rfl rfl rfl rfl rfl (zj rfl rfl rfl rfl (fun _=>Runs.capn rfl rfl zB) (zj rfl rfl rfl rfl (fun _=>ZC (Runs.slc (sz:=1) (a:=0) (b:=0) rfl rfl (.inr ⟨rfl,rfl⟩) (.inl ⟨_,rfl,rfl⟩) zB zF (by decide) (by decide) (by decide) (Nat.le_refl _)) rfl) (zf rfl rfl rfl rfl rfl rfl (bnK aY fun x6 h7 aZ=>OKS.appendZ (enc:=KL.encI) (z:=(0:Int)) (xs:=x6) rfl rfl rfl rfl rfl Zr Tryz.underlying3 wFU rfl rfl rfl rfl rfl hS rfl rfl h7 rfl ?_)))))))
 intro W9 ab ae az
 have aq:sW w φ φ [.row ab ae 3 1 (nA KL.encI x6)] W9:=az
 refine oM Z Z (oR Z (zd Z Z zB) ?_)
 have ba:=aq.rowCap (j:=0) rfl (by decide) (wAK (f:=KL.encI) (sz:=1) (fun _=>rfl) x6)
 refine zj (v:=.slice ab 0 ae) Z Z Z Z (fun _=>ZC (Runs.slc (sz:=1) (a:=0) (b:=0) Z Z (.inr ⟨Z,Z⟩) (.inl ⟨_,Z,Z⟩) zB zF (Int.le_refl _) (Int.le_refl _) (Int.natCast_nonneg _) ba) slc0) ?_
 have aU:=aq.cutRowM (enc:=KL.encI) (k:=0) (b:=0) rfl
 have aV:sW w φ φ [.row ab ae 3 1 (nA KL.encI ([]:List Int))] W9:=aU
 refine oA Z Z (eN (sR fL2 Z (oM Z Z (oA Z Z (eN (zP ?_))))))
 cases aZ
 exact ⟨Z,_,(zw Z),φ,_,aV,ab,ae,Z,Z⟩
 intro c4 aX
 refine cF Z c4 (kN (sR fL2 Z (oM Z Z (oA Z Z (eN (zP ?_))))))
 have aW:=hS.nilrow 3 1
 cases aX
 exact ⟨Z,_,(zw Z),φ,_,aW,none,0,Z,Z⟩
theorem wEz (p0:List (List Int)) (ah:Option Addr) (ai:Nat) (w:World) (φ:PHeap) (hS:St0 w φ []) (br:SlR φ wGO ah ai p0) {r:(List Int)} (hm:wBc p0=some r):Gv Tryz.prog 252 [.slice ah p0.length ai] w (wCM w [] φ (fun φ_ L_ v=>∃ (A0:Option Addr) (c0:Nat),v=.slice A0 r.length c0/\L_=[.row A0 c0 3 1 (nA KL.encI r)])):=by
 unfold wBc at hm
 refine Gv.of Tryz.func252 Z Tryz.ntmps252 Tryz.results252 Z (sR fL1 Z (oA Z Z (eN (sR fL1 Z (oA Z Z (eN (zG (sR fL3 Z (oM Z Z (oR Z (zd Z Z ZO) (oM Z Z (eN (zR (bnK hm fun cW cy cK=>?_))))))))))))))
 have q:=wBU cy
 obtain ⟨aW,cu⟩:=q
 replace aW:=zH aW
 refine CK.forN' (fun k7 x6 σ_ w_=>∃ (φ_:PHeap),σ_ 11=jV (↑k7:Int)/\σ_ 0=.slice ah p0.length ai/\σ_ 3=jV x6/\σ_ 9=.slice ah p0.length ai/\σ_ 10=jV (↑p0.length:Int)/\PHeap.Le φ φ_/\sW w φ φ_ [] w_) cu ?_ ?_ ?_
 exact ⟨φ,Z,Z,Z,Z,Z,(zS _),hS⟩
 rintro k7 x6 dt dw db aU ⟨bB,aq,bO,bP,bl,bm,bt,bq⟩ cO
 have bh:Hid ((↑k7:Int) < (↑p0.length:Int)):=zH (wBI aU)
 replace aU:=zH aU
 have cC:Hid (w64 ((↑k7:Int) + 1)=(↑(k7 + 1):Int)):=zH (by have h1:=aW.out;have h2:=bh.out;rw [wAU] <;> omega)
 refine sR fL1 Z (oR Z (zU Z aq bm) (eN (zG (cT Z bh (kN (zG (zR (sR fL3 Z (bnK cO fun x29 bp cG=>?_)))))))))
 have b5:=br.le bt
 have q:=b5.el (wAZ bp)
 obtain ⟨bH,cU,dr,ci,aw,cN⟩:=q
 obtain ⟨bv,bz,rfl,dh⟩:=cN
 replace aw:Cl bB bH (cU + k7 * 1) [.slice bv x29.length bz]:=aw
 refine oR Z (ZH Z bl ci aq ZO zW (wBT bp)) (oL Z (bq.ldC (f:=0) aw (v:=.slice bv x29.length bz) Z Z zm Z) (oA Z Z (eN (sR fL5 Z (oM Z bP (oM Z Z (oR Z (zd Z Z zB) (oR Z (zY Z Z Z) (oA Z Z (eN (sR fL2 Z (oM Z Z (oR Z (zU Z Z Z) (eN (ifc cG ?_ ?_)))))))))))))))
 intro am cH
 refine cT Z am (rR gBd Z ?_)
 cases cH
 intro am cI
 refine cF Z am (Zf (ze (zI (rR fL2 Z (oR Z (ZC (zY Z aq Z) (congrArg (jV) cC.out)) (oM Z Z (zn ?_)))))))
 cases cI
 exact zI ⟨Z,⟨bB,Z,bO,Z,bl,bm,bt,bq⟩⟩
 rintro dy bE ⟨cY,bU,bQ,bR,dg,bS,cQ,cq⟩
 have bK:Hid (¬ ((↑(((↑p0.length:Int):Int) - 0).toNat:Int) < (↑p0.length:Int))):=zH (wAp)
 refine sR fL1 Z (oR Z (zU Z bU bS) (eN (zG (cF Z bK (ZJ (zX (zX (ZB (zI (sR gBj Z (oM Z bR (bnK cK fun cV cd cJ=>zM 0 Z Z Z Z (zL Z Z Tryz.call300 (zC Z (zC Z zQ)) Z) cq (fun hs=>wFZ [] cW bE cY hs cd) (.inr Z) ?_))))))))))))
 rintro aY cZ dp bF cR cr ⟨bd,bi,rfl,rfl⟩
 have ct:sW w φ aY [.row bd bi 3 1 (nA KL.encI cV)] bF:=cr
 refine oA Z Z (eN (zG (sR fL3 Z (oM Z bQ (oR Z (zd Z Z ZO) (oM Z Z (eN (zR (bnK cJ fun dv cw cL=>?_)))))))))
 have q:=wBU cw
 obtain ⟨aX,cz⟩:=q
 replace aX:=zH aX
 refine CK.forN' (fun ae aj σ_ w_=>∃ (φ_:PHeap) (ak:Option Addr) (ap:Nat),σ_ 27=jV (↑ae:Int)/\σ_ 6=.slice ak aj.length ap/\σ_ 25=.slice ah p0.length ai/\σ_ 26=jV (↑p0.length:Int)/\PHeap.Le aY φ_/\sW w φ φ_ [.row ak ap 3 1 (nA KL.encI aj)] w_) cz ?_ ?_ ?_
 exact ⟨aY,bd,bi,Z,Z,Z,Z,(zS _),ct⟩
 rintro ae aj du dz de aV ⟨aZ,ak,ap,au,bL,bj,bk,bs,az⟩ cP
 have bf:Hid ((↑ae:Int) < (↑p0.length:Int)):=zH (wBI aV)
 replace aV:=zH aV
 have cA:Hid (w64 ((↑ae:Int) + 1)=(↑(ae + 1):Int)):=zH (by have h1:=aX.out;have h2:=bf.out;rw [wAU] <;> omega)
 refine sR fL1 Z (oR Z (zU Z au bk) (eN (zG (cT Z bf (kN (zG (zR (sR fL3 Z (bnK cP fun x107 bn cD=>?_)))))))))
 have bV:=br.le cQ
 have bW:=bV.le cR
 have bX:=bW.le bs
 have q:=bX.el (wAZ bn)
 obtain ⟨bG,cS,dq,cg,av,cM⟩:=q
 obtain ⟨bu,bw,rfl,bY⟩:=cM
 replace av:Cl aZ bG (cS + ae * 1) [.slice bu x107.length bw]:=av
 refine oR Z (ZH Z bj cg au ZO zW (wBT bn)) (oL Z (az.ldC (f:=0) av (v:=.slice bu x107.length bw) Z Z zm Z) (oA Z Z (eN (rR gBq Z (oM Z bL (oM Z Z (bnK cD fun x122 bZ cE=>Zu (j:=0) (enc:=KL.encI) (xs:=aj) (ys:=x107) (zs:=x122) Z Z Z Z Z Zr wFU Z Z Z Z Z Z az Z Z Z (az.srcS bY) (fun _=>Z) (fun _=>Z) bZ Z ?_)))))))
 intro bb bg bD cj
 have cm:sW w φ aZ [.row bb bg 3 1 (nA KL.encI x122)] bD:=cj
 refine oA Z Z (zn (ze (zI (rR fL2 Z (oR Z (ZC (zY Z au Z) (congrArg (jV) cA.out)) (oM Z Z (zn ?_)))))))
 cases cE
 exact zI ⟨Z,⟨aZ,bb,bg,Z,Z,bj,bk,bs,cm⟩⟩
 rintro dx da ⟨cX,bC,bI,bT,bM,df,bN,dm,cp⟩
 have bJ:Hid (¬ ((↑(((↑p0.length:Int):Int) - 0).toNat:Int) < (↑p0.length:Int))):=zH (wAp)
 refine sR fL1 Z (oR Z (zU Z bT bN) (eN (zG (cF Z bJ (ZJ (zX (zX (ZB (zI (sR fL2 Z (oM Z bM (oA Z Z (eN (zP ?_))))))))))))))
 have hE:=nB cL;first | subst r | cases hE
 exact ⟨Z,_,(zw Z),cX,_,cp,bC,bI,Z,Z⟩
end Go.Proofs.YtglpalgiipahjaaGreat
namespace Go.Proofs.YtglpalgiipahjaaGreat
open Go.KL
set_option maxHeartbeats 4000000
theorem wFa (p0:List Int) (ab:Option Addr) (ae:Nat) (w:World) (φ:PHeap) (hS:St ⟨w,[.row ab ae 3 1 (nA KL.encI p0)],φ⟩ φ [.row ab ae 3 1 (nA KL.encI p0)] w) {r:List Int} (hm:wCh p0=some r):Gv Tryz.prog 253 [.slice ab p0.length ae] w (wCM w [.row ab ae 3 1 (nA KL.encI p0)] φ (fun φ_ L_ v=>v=.tuple #[]/\L_=[.row ab ae 3 1 (nA KL.encI r)]/\r.length=p0.length)) :=
 wQy (fun b o c zs w h1 h2 h3=>Go.Proofs.Tryz.slices_Sort_int b o c zs w h1 h2 h3) (fun p c w=>Go.Proofs.Tryz.slices_Sort_int_none p c w) hS hm
theorem wEl (p0:List Int) (ab:Option Addr) (ae:Nat) (w:World) (φ:PHeap) (hS:St ⟨w,[.row ab ae 3 1 (nA KL.encI p0)],φ⟩ φ [.row ab ae 3 1 (nA KL.encI p0)] w) {r:List Int} (hm:wCB p0=some r):Gv Tryz.prog 255 [.slice ab p0.length ae] w (wCM w [.row ab ae 3 1 (nA KL.encI p0)] φ (fun φ_ L_ v=>∃ (A0:Option Addr) (c0:Nat),v=.slice A0 r.length c0/\L_=[.row A0 c0 3 1 (nA KL.encI r)])) :=
 wLy (fun b o c zs w h1 h2 h3=>Go.Proofs.Tryz.slices_Compact_int b o c zs w h1 h2 h3) (fun p c w=>Go.Proofs.Tryz.slices_Compact_int_empty p c w) hS hm
theorem wEg {S E:Type} (PY:S->PHeap->List Res->Prop) (PE:E->PHeap->List Res->Prop) (f:S->Int->Option (S ⊕ E)) (y:Nat) (s0:S) (p1:List Int) (bd:Nat) (ai:Option Addr) (aj:Nat) (w:World) (L:List Res) (φ:PHeap) (hS:St ⟨w,L,φ⟩ φ L w) (hP:PY s0 φ L) (hY:YOK Tryz.prog y wHd PY PE f φ) (bv:Cl φ bd 0 [.slice ai p1.length aj]) (bw:Sl φ 1 ai aj p1.length (nA KL.encI p1)) {r:S ⊕ E} (hm:wBA f s0 p1=some r):Gv Tryz.prog 302 [.func (.yield y) #[] #[],.pointer (some ⟨bd,0,none⟩)] w (ItS w L φ PY PE r):=by
 unfold wBA at hm
 refine Gv.of Tryz.func302 Z Tryz.ntmps302 Tryz.results302 Z (sR fL3 Z (oL Z (hS.ldC (f:=0) bv (v:=.slice ai p1.length aj) Z Z zm Z) (oR Z (zd Z Z zB) (oM Z Z (eN (zR ?_))))))
 have q:=wCc hm
 obtain ⟨bX,au⟩:=q
 have q:=wCj au
 obtain ⟨aw,bB⟩:=q
 replace aw:=zH aw
 refine yG (fun ab bf σ_ w_=>∃ (φ_:PHeap) (am:List Res),σ_ 7=jV (↑ab:Int)/\σ_ 0=.func (.yield y) #[] #[]/\σ_ 5=.slice ai p1.length aj/\σ_ 6=jV (↑p1.length:Int)/\PHeap.Le φ φ_/\St ⟨w,L,φ⟩ φ_ am w_/\PY bf φ_ am) bB ?_ ?_ ?_
 exact ⟨φ,L,Z,Z,Z,Z,(zS _),hS,hP⟩
 rintro ab bf bY b5 bP av ⟨cg,am,aq,aW,aX,aY,az,ba,bl⟩ bI bz
 have aV:Hid ((↑ab:Int) < (↑p1.length:Int)):=zH (wBI av)
 replace av:=zH av
 have bC:Hid (w64 ((↑ab:Int) + 1)=(↑(ab + 1):Int)):=zH (by have h1:=aw.out;have h2:=aV.out;rw [wAU] <;> omega)
 refine sR fL1 Z (oR Z (zU Z aq aY) (eN (zG (cT Z aV (kN (zG (zR (sR fL3 Z (bnK bI fun bg aZ bD=>?_)))))))))
 have bm:=bw.le az
 have q:=bm.el (fun _=>rfl) (wAZ aZ)
 obtain ⟨bR,bW,bq,br⟩:=q
 refine oR Z (ZH Z aX bq aq zB zF (wBT aZ)) (oL Z (ba.ldC (f:=0) br (v:=jV bg) Z Z zK Z) (oA Z Z (eN (sR gBq Z (oM Z aW (oM Z Z (bnK bD fun bM bn ah=>OKS.yieldT 0 (a:=bg) Z Z Z Z Z Z (zC Z zQ) ba hY az bl Z bn Z ?_)))))))
 rintro ak ap bS aU bJ bb ae
 rcases bM with bK | bK
 try dsimp only at ah ae
 obtain ⟨rfl,bG⟩:=ae
 have bs:St ⟨w,L,φ⟩ ak ap aU:=bb
 refine oR Z (ZW Z Z) (eN (zu Z (Zf (ze (zI (rR fL2 Z (oR Z (ZC (zY Z aq Z) (congrArg (jV) bC.out)) (oM Z Z (zn ?_)))))))))
 obtain rfl:=nB ah
 exact zI ⟨Z,_,Z,⟨ak,ap,Z,aW,aX,aY,(az.trans bJ),bs,bG⟩⟩
 try dsimp only at ah ae
 obtain ⟨rfl,bH⟩:=ae
 have bt:St ⟨w,L,φ⟩ ak ap aU:=bb
 refine oR Z (ZW Z Z) (eN (ZG Z (zP (zg (zN ?_)))))
 have q:=wAW ah
 obtain ⟨bL,bE,bi⟩:=q
 obtain rfl:=wBQ hm au (bz bL bi)
 refine zN (zg ?_)
 cases bE
 exact ⟨Z,_,(res0),ak,_,bt,bH⟩
 rintro bZ cd bQ ⟨bN,bO,bk,bT,bU,bj,bV,bu,bp⟩ bA
 have bF:=wDL hm au bA
 have bh:Hid (¬ ((↑(((↑p1.length:Int):Int) - 0).toNat:Int) < (↑p1.length:Int))):=zH (wAp)
 refine sR fL1 Z (oR Z (zU Z bk bj) (eN (zG (cF Z bh (ZJ (zX (zX (ZB ?_))))))))
 cases bF
 exact ⟨Z,_,(res0),bN,_,bu,bp⟩
theorem wFA (p0:List Int) (ae:Option Addr) (ah:Nat) (w:World) (φ:PHeap) (hS:St0 w φ []) (av:Sl φ 1 ae ah p0.length (nA KL.encI p0)) {r:Unit} (hm:wCK p0=some r):Gv Tryz.prog 254 [.slice ae p0.length ah] w (wCM w [] φ (fun φ_ L_ v=>∃ (b0:Nat),v=.func (.func 302) #[] #[.pointer (some ⟨b0,0,none⟩)]/\L_=[]/\Cl φ_ b0 0 [.slice ae p0.length ah])):=by
 unfold wCK at hm
 refine Gv.of Tryz.func254 rfl Tryz.ntmps254 Tryz.results254 rfl (sR gBc rfl (Za (cs:=[.slice ae p0.length ah]) rfl rfl rfl rfl rfl rfl (by rfl) hS ?_))
 intro W1 b2 ap
 have q:=ap.freeze (k:=0) rfl
 obtain ⟨ai,aw,ab,aq⟩:=q
 replace ab:=Cl.of ab
 have au:sW w φ ai [] W1:=aq
 replace ab:Cl ai b2 0 [.slice ae p0.length ah]:=ab
 refine oA Z Z (eN (sR fL2 Z (oR Z (yc Z zQ (zC Z zQ)) (oA Z Z (eN (zP ?_))))))
 cases hm
 exact ⟨Z,_,(zw Z),ai,_,au,b2,Z,Z,ab⟩
theorem wGo (p0:wAM) (au:Option Addr) (av:Nat) (aj:Option Addr) (ak:Nat) (w:World) (φ:PHeap) (hS:St0 w φ []) (bO:Sl φ 1 au av p0.Bibs.length (nA KL.encI p0.Bibs)) (bE:SlR φ wGO aj ak p0.Times) {r:(List Int)} (hm:wCC p0=some r):Gv Tryz.prog 185 [.agg #[jV p0.Laps,.slice au p0.Bibs.length av,.slice aj p0.Times.length ak]] w (wCM w [] φ (fun φ_ L_ v=>∃ (b0:Nat) (A0:Option Addr) (c0:Nat),v=.func (.func 302) #[] #[.pointer (some ⟨b0,0,none⟩)]/\L_=[]/\Cl φ_ b0 0 [.slice A0 r.length c0]/\Sl φ_ 1 A0 c0 r.length (nA KL.encI r))):=by
 unfold wCC at hm
 refine Gv.of Tryz.func185 Z Tryz.ntmps185 Tryz.results185 Z (sR gBc Z ?_)
 let B0:List Value:=[jV p0.Laps,.slice au p0.Bibs.length av,.slice aj p0.Times.length ak]
 refine Za (cs:=B0) rfl rfl rfl rfl rfl rfl (by rfl) hS ?_
 intro W1 b2 aZ
 refine oA Z Z (eN (sR gBq Z (oR Z (zD Z Z zo Z Zn) (oL Z (aZ.ldB (j:=0) Z Z Z Zv (v:=.slice aj p0.Times.length ak) Z) (bnK hm fun x5 h6 bH=>zM 0 Z Z Z Z (zL Z Z Tryz.call252 (zC Z zQ) Z) aZ (fun hs=>wEz p0.Times aj ak W1 φ hs bE h6) (.inr Z) ?_)))))
 rintro bg L9 bT aV bP bs ⟨ab,ah,rfl,rfl⟩
 have bt:sW w φ bg [.row ab ah 3 1 (nA KL.encI x5),.blk b2 66 B0] aV:=bs
 refine oA Z Z (eN (sR gBe Z (oM Z Z (bnK bH fun aw bk bF=>zM 1 Z Z Z Z (zL Z Z Tryz.call253 (zC Z zQ) Z) bt (fun hs=>wFa x5 ab ah aV bg hs bk) (.inl Z) ?_))))
 rintro bd bK bU aW bQ bu ⟨rfl,rfl,bl⟩
 have bv:sW w φ bd [.row ab ah 3 1 (nA KL.encI aw),.blk b2 66 B0] aW:=bu
 refine eN (sR gBr rfl (zf rfl rfl rfl rfl rfl (nM (b:=(.slice ab x5.length ah:Value)) (c:=(.slice ab aw.length ah:Value)) rfl (by rw [bl])) (bnK bF fun x29 bm bG=>zM 1 rfl rfl rfl rfl (zL rfl rfl Tryz.call255 (zC rfl zQ) rfl) bv (fun hs=>wEl aw ab ah aW bd hs bm) (.inl rfl) ?_)))
 rintro bJ bL bV ap bR bw ⟨am,aq,rfl,rfl⟩
 have bz:sW w φ bJ [.row am aq 3 1 (nA KL.encI x29),.blk b2 66 B0] ap:=bw
 have q:=bz.freezeR (k:=0) (n:=x29.length) rfl (wAK (f:=KL.encI) (sz:=1) (fun _=>rfl) x29) (by decide)
 obtain ⟨be,bS,bb,bA⟩:=q
 have bB:sW w φ be [.blk b2 66 B0] ap:=bA
 have q:=bnd bG
 obtain ⟨⟨⟩,bn,ba⟩:=q
 try dsimp only at ba
 refine zM 0 Z Z Z Z (zL Z Z Tryz.call254 (zC Z zQ) Z) bB (fun hs=>wFA x29 am aq ap be hs bb bn) (.inr Z) ?_
 rintro bf bM bW bi bI bC ⟨bj,rfl,rfl,bp⟩
 have bD:sW w φ bf [.blk b2 66 B0] bi:=bC
 refine oA Z Z (eN (zP ?_))
 have bq:=bb.le bI
 have hE:=nB ba;first | subst r | cases hE
 exact ⟨rfl,_,(zw rfl),bf,_,(bD.pick [] _ (by decide) rfl),bj,am,aq,rfl,rfl,bp,bq⟩
theorem wEN (p0:wAI) (bf:Nat) (bh:Option Addr) (bi:Nat) (br:Option Addr) (bt:Nat) (aZ:Option Addr) (ba:Nat) (bs:Option Addr) (bu:Nat) (p1:Int) (p2:Int) (p3:Int) (w:World) (φ:PHeap) (hS:St0 w φ []) (bF:Cl φ bf 0 [jV p0.Race.Laps,.slice bh p0.Race.Bibs.length bi,.slice br p0.Race.Times.length bt,.slice aZ p0.done.length ba,.slice bs p0.out.length bu]) (cP:Sl φ 1 bh bi p0.Race.Bibs.length (nA KL.encI p0.Race.Bibs)) (cQ:SlR φ wGO br bt p0.Race.Times) (cR:Sl φ 1 aZ ba p0.done.length (nA KL.encI p0.done)) (cS:Sl φ 1 bs bu p0.out.length (nA KL.encT p0.out)) {r:Int} (hm:wBG p0 p1 p2 p3=some r):Gv Tryz.prog 187 [.pointer (some ⟨bf,0,none⟩),jV p1,jV p2,jV p3] w (wCM w [] φ (fun φ_ L_ v=>v=jV r/\L_=[])):=by
 unfold wBG at hm
 refine Gv.of Tryz.func187 Z Tryz.ntmps187 Tryz.results187 Z (sR fL1 Z (oA Z Z (eN (sR fL1 Z (oA Z Z (eN (zG (sR fL6 Z (oM Z Z (oR Z (ZQ Z Z) (oR Z (zD Z Z ZR Z zW) (oL Z (hS.ldC (f:=3) bF (v:=.slice aZ p0.done.length ba) Z Z zm Z) (oR Z (zd Z Z zB) (oM Z Z (eN (zR (bnK hm fun eh cV dt=>?_)))))))))))))))))
 have q:=wBU cV
 obtain ⟨bq,cU⟩:=q
 replace bq:=zH bq
 refine CK.forN' (fun k7 x6 σ_ w_=>∃ (φ_:PHeap),σ_ 17=jV (↑k7:Int)/\σ_ 0=.pointer (some ⟨bf,0,none⟩)/\σ_ 2=jV p2/\σ_ 3=jV p3/\σ_ 9=jV x6/\σ_ 15=.slice aZ p0.done.length ba/\σ_ 16=jV (↑p0.done.length:Int)/\PHeap.Le φ φ_/\sW w φ φ_ [] w_) cU ?_ ?_ ?_
 exact ⟨φ,Z,Z,Z,Z,Z,Z,Z,(zS _),hS⟩
 rintro k7 x6 ef eu bv bp ⟨aU,ap,am,aV,aW,av,aX,aY,bb,bE⟩ dz
 have bw:Hid ((↑k7:Int) < (↑p0.done.length:Int)):=zH (wBI bp)
 replace bp:=zH bp
 have cW:Hid (w64 ((↑k7:Int) + 1)=(↑(k7 + 1):Int)):=zH (by have h1:=bq.out;have h2:=bw.out;rw [wAU] <;> omega)
 refine sR fL1 Z (oR Z (zU Z ap aY) (eN (zG (cT Z bw (kN (bnK dz fun dD dA de=>CK.cut (fun σ_ w_=>∃ (φ_:PHeap),σ_ 0=.pointer (some ⟨bf,0,none⟩)/\σ_ 2=jV p2/\σ_ 3=jV p3/\σ_ 9=jV dD/\σ_ 15=.slice aZ p0.done.length ba/\σ_ 16=jV (↑p0.done.length:Int)/\σ_ 17=jV (↑k7:Int)/\PHeap.Le aU φ_/\sW w φ φ_ [] w_) ?_ ?_))))))
 refine zR (sR fL5 Z (oM Z ap (bnK dA fun x35 bz df=>?_)))
 have cu:=cR.le bb
 have q:=cu.el (fun _=>rfl) (wAZ bz)
 obtain ⟨dN,dZ,cD,cK⟩:=q
 refine zj rfl rfl rfl rfl (fun _=>ZH rfl aX cD ap zB zF (wBT bz)) (ZM rfl rfl rfl rfl (bE.ldC (f:=0) cK (v:=jV x35) rfl rfl zK rfl) rfl (OKS.ra rfl rfl rfl rfl rfl rfl (OKS.ra rfl rfl rfl rfl rfl rfl (eN (zG (Zb ZT [3,3,3,1,3,3,1,3,3,3,3,3,3,3,3,3,3,3,3,1,3,3,1,3,3,3,1,3,3,3,3,3,3,3,3,3,3,3,1,3,3,1,3,3,3,3,1,3,3,1,3,3,3] fL53 (by kernel_rfl) ?_))))))
 have ah:=bE.drew
 generalize hw_W44:({ bv with drawn:=bv.drawn + 1 }:World)=dK at ah ⊢
 refine oM Z am (oR Z (ZQ Z Z) (oR Z (zD Z Z ZR Z yC) ?_))
 have bg:=bF.le bb
 refine oL Z (ah.ldC (f:=4) bg (v:=.slice bs p0.out.length bu) Z Z yS Z) (oM Z Z (bnK df fun dE bA dg=>?_))
 have cw:=cS.le bb
 have q:=cw.el (fun _=>rfl) (wAZ bA)
 obtain ⟨dO,d7,cE,cL⟩:=q
 refine oR Z (ZH Z Z cE Z ZU ya (wBT bA)) (oL Z (ah.ldC (f:=0) cL (v:=.bool dE) Z Z Tryz.isAgg4 Z) (oR Z (ZW Z Z) (oM Z Z (ifc dg ?_ ?_))))
 intro aj dh
 refine zJ Z Z Z (zr Z Z (nC aj.out) Z) (zJ Z Z Z (zr Z Z (nC aj.out) Z) (zJ Z Z Z (zr Z Z (nC aj.out) Z) (zJ Z Z Z (zr Z Z (nC aj.out) Z) (oR Z (zk Z (nC aj.out) Z) (oM Z Z (oN Z (oN Z (oN Z (oN Z (oN Z (oN Z (oN Z (oN Z (oN Z (oN Z (oN Z (oN Z (oN Z (oN Z (oR Z (zk Z Z Z) (oM Z Z (oN Z (oN Z (oN Z (zJ Z Z Z (wAC Z Z Z) (zJ Z Z Z (wAC Z Z Z) (zJ Z Z Z (wAC Z Z Z) (zJ Z Z Z (wAC Z Z Z) (zJ Z Z Z (wAC Z Z Z) (zJ Z Z Z (wAC Z Z Z) (zJ Z Z Z (wAC Z Z Z) (zJ Z Z Z (wAC Z Z Z) (zJ Z Z Z (wAC Z Z Z) (zJ Z Z Z (wAC Z Z Z) (zJ Z Z Z (wAC Z Z Z) (zJ Z Z Z (wAC Z Z Z) (zJ Z Z Z (wAC Z Z Z) (zJ Z Z Z (wAC Z Z Z) (zJ Z Z Z (wAC Z Z Z) (zJ Z Z Z (wAC Z Z Z) (zJ Z Z Z (wAC Z Z Z) (oN Z (oR Z (zk Z Z Z) (eN (zu Z (Zf (ze ?_)))))))))))))))))))))))))))))))))))))))))))))))
 cases dh
 exact zI ⟨Z,⟨aU,am,aV,aW,av,aX,aY,ap,(zS _),ah⟩⟩
 intro aj dm
 refine zf Z Z Z (zO Z Z (nF (aj.out))) Z Z (zf Z Z Z (zO Z Z (nF (aj.out))) Z aV (zj Z Z Z (zO Z Z (nF (aj.out))) (fun _=>zY Z Z Z) (zj Z Z Z (zO Z Z (nF (aj.out))) (fun _=>yb Z Z Z) (oR Z (zh Z (nF (aj.out)) Z) (oM Z Z (ifc dm ?_ ?_))))))
 intro ab dp
 refine zf Z Z Z (wT Z ab) Z am (rU Z (wT Z ab) (ZQ Z Z) (rU Z (wT Z ab) (zD Z Z ZR Z ZS) (rU Z (wT Z ab) (zD Z Z zo Z Zn) (ZM Z Z Z (wT Z ab) (ah.ldC (f:=2) bg (v:=.slice br p0.Race.Times.length bt) Z Z Zv Z) Z (zf Z Z Z (wT Z ab) Z Z (bnK dp fun bJ bB dq=>?_))))))
 have cy:=cQ.le bb
 have q:=cy.el (wAZ bB)
 obtain ⟨bK,dC,d9,cG,bn,dy⟩:=q
 obtain ⟨bH,bI,rfl,cz⟩:=dy
 replace bn:Cl aU bK (dC + k7 * 1) [.slice bH bJ.length bI]:=bn
 refine rU Z (wT Z ab) (ZH Z Z cG Z ZO zW (wBT bB)) (ZM Z Z Z (wT Z ab) (ah.ldC (f:=0) bn (v:=.slice bH bJ.length bI) Z Z zm Z) Z (zf Z Z Z (wT Z ab) Z Z (rU Z (wT Z ab) (Zo Z Z Z) (bnK dq fun dF bm dr=>?_))))
 have q:=cz.el (fun _=>rfl) (wAZ bm)
 obtain ⟨dP,d8,cH,cM⟩:=q
 refine rU Z (wT Z ab) (Zj Z Z cH Z zB zF (wDO bm) (wDV bm)) (ZM Z Z Z (wT Z ab) (ah.ldC (f:=0) cM (v:=jV dF) Z Z zK Z) Z (zf Z Z Z (wT Z ab) Z aW (rU Z (wT Z ab) (yQ Z Z Z) (oR Z (zh Z (Zk ab.out) Z) (oM Z Z (ifc dr ?_ ?_))))))
 intro ai du
 refine zf Z Z Z (wT Z ai) Z av (rU Z (wT Z ai) (zU Z Z Z) (zf Z Z Z (wT Z ai) Z Z (ifc du ?_ ?_)))
 intro aa dv
 refine oT Z aa (oT Z aa (oT Z aa (oT Z aa (oT Z aa (oT Z aa (oT Z aa (oT Z aa (oT Z aa (oT Z aa (oT Z aa (oT Z aa (oT Z aa (oT Z aa (oT Z aa (oT Z aa (oT Z aa (rU Z (wT Z ai) (zh Z (Zk aa.out) Z) (oR Z (zh Z (Zk ai.out) Z) (eN (ZG Z (yH fun az au=>?_)))))))))))))))))))))
 have cg:az 0=.pointer (some ⟨bf,0,none⟩):=(au 0).trans am
 have ci:az 2=jV p2:=(au 2).trans aV
 have cj:az 3=jV p3:=(au 3).trans aW
 have dV:az 9=jV x6:=(au 9).trans av
 have cm:az 10=jV (↑k7:Int):=(au 10).trans rfl
 have cp:az 15=.slice aZ p0.done.length ba:=(au 15).trans aX
 have cq:az 16=jV (↑p0.done.length:Int):=(au 16).trans aY
 have cr:az 17=jV (↑k7:Int):=(au 17).trans ap
 clear au
 refine rR fL2 Z (oM Z cm (oA Z Z (zn (ze ?_))))
 cases dv
 exact zI ⟨Z,⟨aU,cg,ci,cj,Z,cp,cq,cr,(zS _),ah⟩⟩
 intro aa dw
 refine zf Z Z Z (wF Z aa) Z am (rU Z (wF Z aa) (ZQ Z Z) (rU Z (wF Z aa) (zD Z Z ZR Z ZS) (rU Z (wF Z aa) (zD Z Z zo Z zW) (ZM Z Z Z (wF Z aa) (ah.ldC (f:=1) bg (v:=.slice bh p0.Race.Bibs.length bi) Z Z zm Z) Z (zf Z Z Z (wF Z aa) Z Z (bnK dw fun x96 bC dx=>?_))))))
 have bD:=cP.le bb
 have q:=bD.el (fun _=>rfl) (wAZ bC)
 obtain ⟨dL,dX,cA,cI⟩:=q
 refine rU Z (wF Z aa) (ZH Z Z cA Z zB zF (wBT bC)) (ZM Z Z Z (wF Z aa) (ah.ldC (f:=0) cI (v:=jV x96) Z Z zK Z) Z (zf Z Z Z (wF Z aa) Z am (rU Z (wF Z aa) (ZQ Z Z) (rU Z (wF Z aa) (zD Z Z ZR Z ZS) (rU Z (wF Z aa) (zD Z Z zo Z zW) (ZM Z Z Z (wF Z aa) (ah.ldC (f:=1) bg (v:=.slice bh p0.Race.Bibs.length bi) Z Z zm Z) Z (zf Z Z Z (wF Z aa) Z av (bnK dx fun x104 bl cX=>?_))))))))
 have q:=bD.el (fun _=>rfl) (wAZ bl)
 obtain ⟨dM,dY,cC,cJ⟩:=q
 refine rU Z (wF Z aa) (Zj Z Z cC Z zB zF (wDO bl) (wDV bl)) (ZM Z Z Z (wF Z aa) (ah.ldC (f:=0) cJ (v:=jV x104) Z Z zK Z) Z (rU Z (wF Z aa) (zU Z Z Z) (rU Z (wT Z ai) (zk Z (ZI aa.out) Z) (oR Z (zh Z (Zk ai.out) Z) (eN (ifc cX ?_ ?_))))))
 intro bk cY
 refine cT Z bk (yH fun aw aq=>?_)
 have bM:aw 0=.pointer (some ⟨bf,0,none⟩):=(aq 0).trans am
 have bN:aw 2=jV p2:=(aq 2).trans aV
 have bO:aw 3=jV p3:=(aq 3).trans aW
 have dQ:aw 9=jV x6:=(aq 9).trans av
 have bP:aw 10=jV (↑k7:Int):=(aq 10).trans rfl
 have bQ:aw 15=.slice aZ p0.done.length ba:=(aq 15).trans aX
 have bR:aw 16=jV (↑p0.done.length:Int):=(aq 16).trans aY
 have bS:aw 17=jV (↑k7:Int):=(aq 17).trans ap
 clear aq
 refine rR fL2 Z (oM Z bP (oA Z Z (zn (ze ?_))))
 cases cY
 exact zI ⟨Z,⟨aU,bM,bN,bO,Z,bQ,bR,bS,(zS _),ah⟩⟩
 intro bk cZ
 refine cF Z bk (Zf (ze ?_))
 cases cZ
 exact zI ⟨Z,⟨aU,am,aV,aW,av,aX,aY,ap,(zS _),ah⟩⟩
 intro ai da
 refine oF Z ai (oF Z ai (oF Z ai (zJ Z Z Z (wAC Z Z Z) (zJ Z Z Z (wAC Z Z Z) (zJ Z Z Z (wAC Z Z Z) (zJ Z Z Z (wAC Z Z Z) (zJ Z Z Z (wAC Z Z Z) (zJ Z Z Z (wAC Z Z Z) (zJ Z Z Z (wAC Z Z Z) (zJ Z Z Z (wAC Z Z Z) (zJ Z Z Z (wAC Z Z Z) (zJ Z Z Z (wAC Z Z Z) (zJ Z Z Z (wAC Z Z Z) (zJ Z Z Z (wAC Z Z Z) (zJ Z Z Z (wAC Z Z Z) (zJ Z Z Z (wAC Z Z Z) (zJ Z Z Z (wAC Z Z Z) (zJ Z Z Z (wAC Z Z Z) (zJ Z Z Z (wAC Z Z Z) (oF Z ai (oR Z (zk Z (ZI ai.out) Z) (eN (zu Z (Zf (ze ?_)))))))))))))))))))))))))
 cases da
 exact zI ⟨Z,⟨aU,am,aV,aW,av,aX,aY,ap,(zS _),ah⟩⟩
 intro ab db
 refine oF Z ab (oF Z ab (oF Z ab (oF Z ab (oF Z ab (oF Z ab (oF Z ab (oF Z ab (oF Z ab (oF Z ab (oF Z ab (oF Z ab (oF Z ab (oF Z ab (oR Z (zk Z (ZI ab.out) Z) (oM Z Z (oN Z (oN Z (oN Z (zJ Z Z Z (wAC Z Z Z) (zJ Z Z Z (wAC Z Z Z) (zJ Z Z Z (wAC Z Z Z) (zJ Z Z Z (wAC Z Z Z) (zJ Z Z Z (wAC Z Z Z) (zJ Z Z Z (wAC Z Z Z) (zJ Z Z Z (wAC Z Z Z) (zJ Z Z Z (wAC Z Z Z) (zJ Z Z Z (wAC Z Z Z) (zJ Z Z Z (wAC Z Z Z) (zJ Z Z Z (wAC Z Z Z) (zJ Z Z Z (wAC Z Z Z) (zJ Z Z Z (wAC Z Z Z) (zJ Z Z Z (wAC Z Z Z) (zJ Z Z Z (wAC Z Z Z) (zJ Z Z Z (wAC Z Z Z) (zJ Z Z Z (wAC Z Z Z) (oN Z (oR Z (zk Z Z Z) (eN (zu Z (Zf (ze ?_)))))))))))))))))))))))))))))))))))))))))
 cases db
 exact zI ⟨Z,⟨aU,am,aV,aW,av,aX,aY,ap,(zS _),ah⟩⟩
 rintro eC dI ⟨dG,bT,bU,bV,bW,bX,bY,bZ,dB,cN⟩
 refine rR fL2 Z (oR Z (ZC (zY Z bZ Z) (congrArg (jV) cW.out)) (oM Z Z (zn ?_)))
 cases de
 exact zI ⟨Z,⟨dG,Z,bT,bU,bV,bW,bX,bY,(bb.trans dB),cN⟩⟩
 rintro eD dJ ⟨dH,ct,dR,dS,dT,b5,dU,cd,dW,cO⟩
 have bL:Hid (¬ ((↑(((↑p0.done.length:Int):Int) - 0).toNat:Int) < (↑p0.done.length:Int))):=zH (wAp)
 refine sR fL1 Z (oR Z (zU Z ct cd) (eN (zG (cF Z bL (ZJ (zX (zX (ZB (zI (sR fL2 Z (oM Z b5 (oA Z Z (eN (zP ?_))))))))))))))
 have hE:=nB dt;first | subst r | cases hE
 exact ⟨Z,_,(zw Z),dH,_,cO,Z,Z⟩
theorem wFb (p0:wAI) (ae:Nat) (aZ:Option Addr) (ba:Nat) (aV:Option Addr) (aW:Nat) (ah:Option Addr) (ai:Nat) (au:Option Addr) (av:Nat) (p1:Int) (w:World) (φ:PHeap) (hS:St0 w φ [.blk ae 204 [jV p0.Race.Laps,.slice aZ p0.Race.Bibs.length ba,.slice aV p0.Race.Times.length aW,.slice ah p0.done.length ai,.slice au p0.out.length av],.row ah ai 3 1 (nA KL.encI p0.done),.row au av 4 1 (nA KL.encT p0.out)]) (cP:Sl φ 1 aZ ba p0.Race.Bibs.length (nA KL.encI p0.Race.Bibs)) (bT:SlR φ wGO aV aW p0.Race.Times) {r:(List Int) × wAI} (hm:wBH p0 p1=some r):Gv Tryz.prog 186 [.pointer (some ⟨ae,0,none⟩),jV p1] w (wCM w [.blk ae 204 [jV p0.Race.Laps,.slice aZ p0.Race.Bibs.length ba,.slice aV p0.Race.Times.length aW,.slice ah p0.done.length ai,.slice au p0.out.length av],.row ah ai 3 1 (nA KL.encI p0.done),.row au av 4 1 (nA KL.encT p0.out)] φ (fun φ_ L_ v=>∃ (A0:Option Addr) (c0:Nat) (ci:Option Addr) (cA:Nat) (cj:Option Addr) (cC:Nat) (cm:Option Addr) (cD:Nat) (cp:Option Addr) (cE:Nat),v=.slice A0 r.1.length c0/\L_=[.row A0 c0 3 1 (nA KL.encI r.1),.row cm cD 3 1 (nA KL.encI r.2.done),.row cp cE 4 1 (nA KL.encT r.2.out),.blk ae 204 [jV r.2.Race.Laps,.slice ci r.2.Race.Bibs.length cA,.slice cj r.2.Race.Times.length cC,.slice cm r.2.done.length cD,.slice cp r.2.out.length cE]]/\Sl φ_ 1 ci cA r.2.Race.Bibs.length (nA KL.encI r.2.Race.Bibs)/\SlR φ_ wGO cj cC r.2.Race.Times)):=by
 unfold wBH at hm
 refine Gv.of Tryz.func186 Z Tryz.ntmps186 Tryz.results186 Z (sR fL1 Z (oA Z Z (eN (zG (sR fL7 Z (oM Z Z (oR Z (ZQ Z Z) (oR Z (zD Z Z ZR Z ZS) (oR Z (zD Z Z zo Z Zn) (oL Z (hS.ldB (j:=0) Z Z Z Zv (v:=.slice aV p0.Race.Times.length aW) Z) (oR Z (zd Z Z ZO) (oM Z Z (eN (zR (bnK hm fun aw eV fe=>?_)))))))))))))))
 have q:=wBU eV
 obtain ⟨bY,eY⟩:=q
 replace bY:=zH bY
 let B0:Res:=.blk ae 204 [jV p0.Race.Laps,.slice aZ p0.Race.Bibs.length ba,.slice aV p0.Race.Times.length aW,.slice ah p0.done.length ai,.slice au p0.out.length av]
 let B1:Res:=.row au av 4 1 (nA KL.encT p0.out)
 let B2:Res:=.row ah ai 3 1 (nA KL.encI p0.done)
 refine CK.forN' (fun ap l9 σ_ w_=>∃ (φ_:PHeap),σ_ 17=jV (↑ap:Int)/\σ_ 0=.pointer (some ⟨ae,0,none⟩)/\σ_ 1=jV p1/\σ_ 15=.slice aV p0.Race.Times.length aW/\σ_ 16=jV (↑p0.Race.Times.length:Int)/\PHeap.Le φ φ_/\SW w [B0,B2,B1] φ φ_ [.row ah ai 3 1 (nA KL.encI l9),B1,.blk ae 204 [jV p0.Race.Laps,.slice aZ p0.Race.Bibs.length ba,.slice aV p0.Race.Times.length aW,.slice ah l9.length ai,.slice au p0.out.length av]] w_/\l9.length=p0.done.length) eY ?_ ?_ ?_
 exact ⟨φ,rfl,rfl,rfl,rfl,rfl,(zS _),(hS.pick [1,2,0] _ (by decide) rfl),rfl⟩
 rintro ap l9 gH gK gi bW ⟨bh,be,bk,br,bs,bt,bz,aq,bH⟩ fO
 have cz:Hid ((↑ap:Int) < (↑p0.Race.Times.length:Int)):=zH (wBI bW)
 replace bW:=zH bW
 have bI:Hid (w64 ((↑ap:Int) + 1)=(↑(ap + 1):Int)):=zH (by have h1:=bY.out;have h2:=cz.out;rw [wAU] <;> omega)
 refine sR fL1 Z (oR Z (zU Z be bt) (eN (zG (cT Z cz (kN (zG (zR (sR fL5 Z (oM Z be (bnK fO fun cX cI fy=>?_))))))))))
 have dU:=bT.le bz
 have q:=dU.el (wAZ cI)
 obtain ⟨df,fS,gF,dW,bS,fK⟩:=q
 obtain ⟨cU,cV,rfl,dV⟩:=fK
 replace bS:Cl bh df (fS + ap * 1) [.slice cU cX.length cV]:=bS
 refine oR Z (ZH Z bs dW be ZO zW (wBT cI)) (oL Z (aq.ldC (f:=0) bS (v:=.slice cU cX.length cV) Z Z zm Z) (oA Z Z (oA Z Z (eN (sR fL8 Z (oM Z bk (oR Z (ZQ Z Z) (oR Z (zD Z Z ZR Z zW) (oL Z (aq.ldB (j:=2) Z Z Z zm (v:=.slice ah l9.length ai) Z) (oM Z Z (bnK fy fun _ bd fz=>?_)))))))))))
 obtain ⟨gv,bm⟩:=aq.rowSome (j:=0) rfl (by rw [wAK (f:=KL.encI) (sz:=1) (fun _=>rfl) l9];have hz:=wAq bd;omega)
 refine oR Z (ZH Z Z bm Z zB zF (wAq bd)) ?_
 have e9:=wCH (xs:=l9) (wAq bd)
 refine ZM rfl rfl rfl rfl (aq.ldR (j:=0) rfl bm rfl rfl zK (wAo (sz:=1) (fun _=>rfl) _ _ 0 _ e9 (by first | omega | rfl | simp) rfl)) rfl (OKS.ra rfl rfl rfl rfl rfl rfl (eN (sR fL22 rfl (zf rfl rfl rfl rfl rfl bk (zj rfl rfl rfl rfl (fun _=>ZQ rfl rfl) (zj rfl rfl rfl rfl (fun _=>zD rfl rfl ZR rfl yC) (ZM rfl rfl rfl rfl (aq.ldB (j:=2) rfl rfl rfl yS (v:=.slice au p0.out.length av) rfl) rfl (zf rfl rfl rfl rfl rfl rfl (bnK fz fun _ bQ fA=>?_)))))))))
 obtain ⟨gw,cL⟩:=aq.rowSome (j:=1) rfl (by rw [wAK (f:=KL.encT) (sz:=1) (fun _=>rfl) p0.out];have hz:=wAq bQ;omega)
 refine oR Z (ZH Z Z cL Z ZU ya (wAq bQ)) ?_
 have fb:=wCH (xs:=p0.out) (wAq bQ)
 refine ZM rfl rfl rfl rfl (aq.ldR (j:=1) rfl cL rfl rfl Tryz.isAgg4 (wAo (sz:=1) (fun _=>rfl) _ _ 0 _ fb (by first | omega | rfl | simp) rfl)) rfl (zj rfl rfl rfl rfl (fun _=>ZW rfl rfl) (zf rfl rfl rfl rfl rfl rfl (ifc fA ?_ ?_)))
 intro aY fB
 refine zJ Z Z Z (zr Z Z (nC aY.out) Z) (zJ Z Z Z (zr Z Z (nC aY.out) Z) (zJ Z Z Z (zr Z Z (nC aY.out) Z) (zJ Z Z Z (zr Z Z (nC aY.out) Z) (oR Z (zk Z (nC aY.out) Z) (oM Z Z (oN Z (oN Z (oN Z (oN Z (oN Z (oN Z (oR Z (zk Z Z Z) (eN (zu Z (Zf (ze (zI (rR fL2 Z (oR Z (ZC (zY Z be Z) (congrArg (jV) bI.out)) (oM Z Z (zn ?_)))))))))))))))))))))
 cases fB
 exact zI ⟨Z,⟨bh,Z,bk,br,bs,bt,bz,aq,bH⟩⟩
 intro aY fC
 refine zf Z Z Z (zO Z Z (nF (aY.out))) Z Z (zf Z Z Z (zO Z Z (nF (aY.out))) Z Z (zj Z Z Z (zO Z Z (nF (aY.out))) (fun _=>zd Z Z zB) (zj Z Z Z (zO Z Z (nF (aY.out))) (fun _=>zU Z Z Z) (oR Z (zh Z (nF (aY.out)) Z) (oM Z Z (ifc fC ?_ ?_))))))
 intro am fD
 refine zf Z Z Z (wT Z am) Z Z (zf Z Z Z (wT Z am) Z Z (bnK fD fun fW bR fE=>?_))
 have q:=dV.el (fun _=>rfl) (wAZ bR)
 obtain ⟨gx,gD,dX,dY⟩:=q
 refine rU Z (wT Z am) (Zj Z Z dX Z zB zF (wDO bR) (wDV bR)) (ZM Z Z Z (wT Z am) (aq.ldC (f:=0) dY (v:=jV fW) Z Z zK Z) Z (zf Z Z Z (wT Z am) Z br (rU Z (wT Z am) (yQ Z Z Z) (oR Z (zh Z (Zk am.out) Z) (eN (ifc fE ?_ ?_))))))
 intro bM fG
 refine cT Z bM (yH fun bp bg=>?_)
 have cG:bp 0=.pointer (some ⟨ae,0,none⟩):=(bg 0).trans bk
 have dt:bp 1=jV p1:=(bg 1).trans br
 have du:bp 5=jV (↑ap:Int):=(bg 5).trans rfl
 have dv:bp 15=.slice aV p0.Race.Times.length aW:=(bg 15).trans bs
 have dw:bp 16=jV (↑p0.Race.Times.length:Int):=(bg 16).trans bt
 have dx:bp 17=jV (↑ap:Int):=(bg 17).trans be
 clear bg
 refine rR (wVK (.fx 9 .nil .stop)) Z (oM Z cG (oR Z (ZQ Z Z) (oR Z (zD Z Z ZR Z zW) (oL Z (aq.ldB (j:=2) Z Z Z zm (v:=.slice ah l9.length ai) Z) (oM Z du (oR Z (ZH Z Z bm Z zB zF (wAq bd)) ?_))))))
 have fc:=wCH (xs:=l9) (wAq bd)
 refine ZM rfl rfl rfl rfl (aq.ldR (j:=0) rfl bm rfl rfl zK (wAo (sz:=1) (fun _=>rfl) _ _ 0 _ fc (by first | omega | rfl | simp) rfl)) rfl (zj rfl rfl rfl rfl (fun _=>zY rfl rfl rfl) (zj rfl rfl rfl rfl (fun _=>ZH rfl rfl bm rfl zB zF (wAq bd)) ?_))
 have fd:=wCH (xs:=l9) (wAq bd)
 refine OKS.stR (j:=0) (vs:=[jV (w64 ((gd l9 ap) + 1))]) (cs':=nA KL.encI (nG l9 ap (w64 ((gd l9 ap) + 1)))) rfl rfl rfl rfl aq rfl bm rfl rfl rfl zF (by rw [wAK (f:=KL.encI) (sz:=1) (fun _=>rfl)];have hz:=wAq bd;show _ + 1 <= _;first | omega | (simp only [nL];omega) | (simp only [nK,nI,nJ];omega)) rfl (wHA (sz:=1) (fo:=0) (fun _=>rfl) _ _ _ _ fd (by first | omega | (simp only [nL];omega) | (simp only [nK,nI,nJ];omega)) (zA rfl) rfl) rfl ?_
 intro ct eS
 let B3:Res:=.row ah ai 3 1 (nA KL.encI (nG l9 ap (w64 ((gd l9 ap) + 1))))
 have eT:SW w [B0,B2,B1] φ bh [B3,B1,.blk ae 204 [jV p0.Race.Laps,.slice aZ p0.Race.Bibs.length ba,.slice aV p0.Race.Times.length aW,.slice ah l9.length ai,.slice au p0.out.length av]] ct:=eS
 have eU:SW w [B0,B2,B1] φ bh [B3,B1,.blk ae 204 [jV p0.Race.Laps,.slice aZ p0.Race.Bibs.length ba,.slice aV p0.Race.Times.length aW,.slice ah ((nG l9 ap (w64 ((gd l9 ap) + 1))).length) ai,.slice au p0.out.length av]] ct:=by simpa only [nH] using eT
 refine zn (ze (zI (rR fL2 Z (oR Z (ZC (zY Z dx Z) (congrArg (jV) bI.out)) (oM Z Z (zn ?_))))))
 cases fG
 exact zI ⟨Z,⟨bh,Z,cG,dt,dv,dw,bz,eU,(nH.trans bH)⟩⟩
 intro bM fH
 refine cF Z bM (Zf (ze (zI (rR fL2 Z (oR Z (ZC (zY Z be Z) (congrArg (jV) bI.out)) (oM Z Z (zn ?_)))))))
 cases fH
 exact zI ⟨Z,⟨bh,Z,bk,br,bs,bt,bz,aq,bH⟩⟩
 intro am fJ
 refine oF Z am (oF Z am (oF Z am (oF Z am (oF Z am (oF Z am (oR Z (zk Z (ZI am.out) Z) (eN (zu Z (Zf (ze (zI (rR fL2 Z (oR Z (ZC (zY Z be Z) (congrArg (jV) bI.out)) (oM Z Z (zn ?_)))))))))))))))
 cases fJ
 exact zI ⟨Z,⟨bh,Z,bk,br,bs,bt,bz,aq,bH⟩⟩
 rintro gM gm ⟨cY,dA,cH,dy,gy,dp,bK,cO,gC⟩
 have dg:Hid (¬ ((↑(((↑p0.Race.Times.length:Int):Int) - 0).toNat:Int) < (↑p0.Race.Times.length:Int))):=zH (wAp)
 refine sR fL1 Z (oR Z (zU Z dA dp) (eN (zG (cF Z dg (ZJ (zX (zX (ZB (zI (sR fL1 Z (oA Z Z (eN (zG (sR fL6 Z (oM Z cH (oR Z (ZQ Z Z) (oR Z (zD Z Z ZR Z zW) (oL Z (cO.ldB (j:=2) Z Z Z zm (v:=.slice ah aw.length ai) Z) (oR Z (zd Z Z zB) (oM Z Z (eN (zR (bnK fe fun gI eW ff=>?_)))))))))))))))))))))))
 have q:=wBU eW
 obtain ⟨bX,eX⟩:=q
 replace bX:=zH bX
 let B4:List Value:=[jV p0.Race.Laps,.slice aZ p0.Race.Bibs.length ba,.slice aV p0.Race.Times.length aW,.slice ah aw.length ai,.slice au p0.out.length av]
 let B5:Res:=.row ah ai 3 1 (nA KL.encI aw)
 refine CK.forN' (fun aX bv σ_ w_=>∃ (φ_:PHeap) (bi:Option Addr) (bj:Nat),σ_ 66=jV (↑aX:Int)/\σ_ 0=.pointer (some ⟨ae,0,none⟩)/\σ_ 1=jV p1/\σ_ 8=.slice bi bv.length bj/\σ_ 64=.slice ah aw.length ai/\σ_ 65=jV (↑aw.length:Int)/\PHeap.Le cY φ_/\SW w [B0,B2,B1] φ φ_ [B5,B1,.blk ae 204 B4,.row bi bj 3 1 (nA KL.encI bv)] w_) eX ?_ ?_ ?_
 have dZ:=cO.nilrow 3 1
 exact ⟨cY,none,0,rfl,cH,dy,rfl,rfl,rfl,(zS _),(dZ.pick [1,2,3,0] _ (by decide) rfl)⟩
 rintro aX bv gG gJ bC bV ⟨fY,bi,bj,bl,bq,bE,bN,bF,bG,bw,bf⟩ fN
 have cw:Hid ((↑aX:Int) < (↑aw.length:Int)):=zH (wBI bV)
 replace bV:=zH bV
 have bU:Hid (w64 ((↑aX:Int) + 1)=(↑(aX + 1):Int)):=zH (by have h1:=bX.out;have h2:=cw.out;rw [wAU] <;> omega)
 refine sR fL1 Z (oR Z (zU Z bl bG) (eN (zG (cT Z cw (kN (zG (zR (sR fL5 Z (oM Z bl (bnK fN fun _ bO fg=>?_))))))))))
 obtain ⟨gq,cJ⟩:=bf.rowSome (j:=0) rfl (by rw [wAK (f:=KL.encI) (sz:=1) (fun _=>rfl) aw];have hz:=wAq bO;omega)
 refine oR Z (ZH Z bF cJ bl zB zF (wAq bO)) ?_
 have eZ:=wCH (xs:=aw) (wAq bO)
 refine ZM rfl rfl rfl rfl (bf.ldR (j:=0) rfl cJ rfl rfl zK (wAo (sz:=1) (fun _=>rfl) _ _ 0 _ eZ (by first | omega | rfl | simp) rfl)) rfl (OKS.ra rfl rfl rfl rfl rfl rfl (OKS.ra rfl rfl rfl rfl rfl rfl (eN (sR (wSS (.fx 13 (.fl 14 (.fl 15 .nil)) .stop)) rfl (zf rfl rfl rfl rfl rfl bq (zj rfl rfl rfl rfl (fun _=>ZQ rfl rfl) (zj rfl rfl rfl rfl (fun _=>zD rfl rfl ZR rfl yC) (ZM rfl rfl rfl rfl (bf.ldB (j:=2) rfl rfl rfl yS (v:=.slice au p0.out.length av) rfl) rfl (zf rfl rfl rfl rfl rfl rfl (bnK fg fun _ bP fh=>?_))))))))))
 obtain ⟨gu,cK⟩:=bf.rowSome (j:=1) rfl (by rw [wAK (f:=KL.encT) (sz:=1) (fun _=>rfl) p0.out];have hz:=wAq bP;omega)
 refine oR Z (ZH Z Z cK Z ZU ya (wAq bP)) ?_
 have e8:=wCH (xs:=p0.out) (wAq bP)
 refine ZM rfl rfl rfl rfl (bf.ldR (j:=1) rfl cK rfl rfl Tryz.isAgg4 (wAo (sz:=1) (fun _=>rfl) _ _ 0 _ e8 (by first | omega | rfl | simp) rfl)) rfl (zj rfl rfl rfl rfl (fun _=>ZW rfl rfl) (zf rfl rfl rfl rfl rfl rfl (ifc fh ?_ ?_)))
 intro ak fj
 refine zJ Z Z Z (zr Z Z (nC ak.out) Z) (zJ Z Z Z (zr Z Z (nC ak.out) Z) (zJ Z Z Z (zr Z Z (nC ak.out) Z) (zJ Z Z Z (zr Z Z (nC ak.out) Z) (yW Z Z Z (zr Z Z (nC ak.out) Z) (zJ Z Z Z (zr Z Z (nC ak.out) Z) (oR Z (zk Z (nC ak.out) Z) (eN (zu Z (Zf (ze (zI (rR fL2 Z (oR Z (ZC (zY Z bl Z) (congrArg (jV) bU.out)) (oM Z Z (zn ?_)))))))))))))))
 cases fj
 exact zI ⟨Z,⟨fY,bi,bj,Z,bq,bE,bN,bF,bG,bw,bf⟩⟩
 intro ak fm
 refine zf Z Z Z (zO Z Z (nF (ak.out))) Z bq (zf Z Z Z (zO Z Z (nF (ak.out))) Z Z (zf Z Z Z (zO Z Z (nF (ak.out))) Z Z (zf Z Z Z (zO Z Z (nF (ak.out))) Z bE ?_)))
 have q:=bf.freezeT (k:=0) (n:=aw.length) rfl (wAK (f:=KL.encI) (sz:=1) (fun _=>rfl) aw) (by decide)
 obtain ⟨fZ,cQ,fL,d7,fT⟩:=q
 let B6:Res:=.row bi bj 3 1 (nA KL.encI bv)
 have d8:SW w [B0,B2,B1] φ fZ [B1,.blk ae 204 B4,B6] bC:=d7
 have q:=d8.freezeT (k:=0) (n:=p0.out.length) rfl (wAK (f:=KL.encT) (sz:=1) (fun _=>rfl) p0.out) (by decide)
 obtain ⟨gb,bZ,fM,d9,fU⟩:=q
 have ef:SW w [B0,B2,B1] φ gb [.blk ae 204 B4,B6] bC:=d9
 have q:=ef.freezeTB (k:=0) rfl
 obtain ⟨b5,bJ,bu,eh,fV⟩:=q
 replace bu:=Cl.of bu
 have eu:SW w [B0,B2,B1] φ b5 [B6] bC:=eh
 replace bu:Cl b5 ae 0 B4:=bu
 have dB:=cP.le bK
 have dC:=dB.le bw
 have dD:=dC.le cQ
 have dE:=dD.le bZ
 have dF:=dE.le bJ
 have dG:=bT.le bK
 have dH:=dG.le bw
 have dI:=dH.le cQ
 have dJ:=dI.le bZ
 have dK:=dJ.le bJ
 have dL:=fL.le bZ
 have dM:=dL.le bJ
 have dN:=fM.le bJ
 refine bnK fm fun x193 dO fq=>zM 0 rfl rfl rfl (zO rfl rfl (nF (ak.out))) (zL rfl rfl Tryz.call187 (zC rfl (zC rfl (zC rfl (zC rfl zQ)))) rfl) eu (fun hs=>wEN (⟨p0.Race,aw,p0.out⟩:wAI) ae aZ ba aV aW ah ai au av (↑aX:Int) (gd aw aX) p1 bC b5 hs bu dF dK dM dN dO) (.inr rfl) ?_
 rintro gc gh gE bD fP eC ⟨rfl,rfl⟩
 have eD:SW w [B0,B2,B1] φ gc [B6] bD:=eC
 have q:=fV _ _ _ fP eD
 obtain ⟨ge,fQ,eG⟩:=q
 have eH:SW w [B0,B2,B1] φ ge [.blk ae 204 B4,B6] bD:=eG
 have q:=fU _ _ _ fQ eH
 obtain ⟨gf,fR,eI⟩:=q
 have eJ:SW w [B0,B2,B1] φ gf [B1,.blk ae 204 B4,B6] bD:=eI
 have q:=fT _ _ _ fR eJ
 obtain ⟨bA,cR,eK⟩:=q
 have cM:SW w [B0,B2,B1] φ bA [B5,B1,.blk ae 204 B4,B6] bD:=eK
 refine zj Z Z Z (zO Z Z (nF (ak.out))) (fun _=>yb Z Z Z) (oR Z (zh Z (nF (ak.out)) Z) (eN (ifc fq ?_ ?_)))
 intro bL ft
 refine cT Z bL (rR (.fl 0 (.fl 1 (.fx 2 (.fx 3 (.fl 4 .nil) .stop) .stop))) Z (oM Z bN (oM Z Z (ZF (pv:=[(0,jV (↑aX:Int))]) (zs:=[jV 0]) (cs:=[jV (↑aX:Int)]) Z Z Z Z Z (wAN Z wAa) zB zF Zs Z Z Z Z Z cM ?_))))
 intro da de eM
 let B7:Res:=.row (some ⟨de,0,none⟩) 1 3 1 (nA KL.encI [(↑aX:Int)])
 have cN:SW w [B0,B2,B1] φ bA [B7,B5,B1,.blk ae 204 B4,B6] da:=eM
 refine bnK ft fun cW dP fu=>Zu (j:=4) (enc:=KL.encI) (xs:=bv) (ys:=[(↑aX:Int)]) (zs:=cW) rfl rfl rfl rfl rfl Zr wFU rfl rfl rfl rfl rfl rfl cN rfl rfl rfl (cN.srcR (j:=0) rfl (by decide) (wAK (f:=KL.encI) (sz:=1) (fun _=>rfl) [(↑aX:Int)])) (fun _=>rfl) (fun _=>rfl) dP rfl ?_
 intro cg cy db eP
 have eQ:SW w [B0,B2,B1] φ bA [B7,B5,B1,.blk ae 204 B4,.row cg cy 3 1 (nA KL.encI cW)] db:=eP
 refine oA Z Z (zn (ze (zI (rR fL2 Z (oR Z (ZC (zY Z bl Z) (congrArg (jV) bU.out)) (oM Z Z (zn ?_)))))))
 cases fu
 exact zI ⟨rfl,⟨bA,cg,cy,rfl,bq,bE,rfl,bF,bG,(bw.trans cR),(eQ.pick [1,2,3,4] _ (by decide) rfl)⟩⟩
 intro bL fw
 refine cF Z bL (Zf (ze (zI (rR fL2 Z (oR Z (ZC (zY Z bl Z) (congrArg (jV) bU.out)) (oM Z Z (zn ?_)))))))
 cases fw
 exact zI ⟨Z,⟨bA,bi,bj,Z,bq,bE,bN,bF,bG,(bw.trans cR),cM⟩⟩
 rintro gL gj ⟨gg,cZ,dh,dz,gz,gA,dq,gB,dr,cS,eR⟩
 have dm:Hid (¬ ((↑(((↑aw.length:Int):Int) - 0).toNat:Int) < (↑aw.length:Int))):=zH (wAp)
 refine sR fL1 Z (oR Z (zU Z dz dr) (eN (zG (cF Z dm (ZJ (zX (zX (ZB (zI (sR fL2 Z (oM Z dq (oA Z Z (eN (zP ?_))))))))))))))
 have dQ:=cP.le bK
 have dR:=dQ.le cS
 have dS:=bT.le bK
 have dT:=dS.le cS
 cases ff
 exact ⟨rfl,_,(zw rfl),gg,_,(eR.pick [3,0,1,2] _ (by decide) rfl),cZ,dh,aZ,ba,aV,aW,ah,ai,au,av,rfl,rfl,dR,dT⟩
end Go.Proofs.YtglpalgiipahjaaGreat
namespace Go.Proofs.YtglpalgiipahjaaGreat
open Go.KL
set_option maxHeartbeats 4000000
theorem wDN (p0:List wAD) (ab:Option Addr) (ae:Nat) (p1:((wAD × wAD)->Option Int)) (ah:Value) (w:World) (φ:PHeap) (hS:St ⟨w,[.row ab ae 45 4 (nA wAS p0)],φ⟩ φ [.row ab ae 45 4 (nA wAS p0)] w) (aj:FnOK Tryz.prog φ ah wUz wVA p1) (ak:∃ g cb,ah=.func (.func g) #[] cb) {r:List wAD} (hm:wAv p0 p1=some r):Gv Tryz.prog 188 [.slice ab p0.length ae,ah] w (wCM w [.row ab ae 45 4 (nA wAS p0)] φ (fun φ_ L_ v=>v=.tuple #[]/\L_=[.row ab ae 45 4 (nA wAS r)]/\r.length=p0.length)) :=
 wKw (sz:=4) (fun _=>rfl) (fun x v h=>List.all_eq_true.1 (show (wAS x).all (·.oneCell')=true from rfl) v h) (fun _ _ _=>rfl) (fun _ _ _ _ h=>h.1) (fun enc a1 a2 cf b g cb k1 k2 k3 d w h1 h2 h3 h4 h5 h6=>Go.Proofs.Tryz.slices_SortFunc_total_f188 4 Tryz.isAgg45 Tryz.sizeOf45 enc a1 a2 cf b g cb k1 k2 k3 d w h1 h2 h3 h4 h5 h6) (fun p c v w=>Go.Proofs.Tryz.slices_SortFunc_none_f188 (α:=Int) p c v w) hS aj (by decide) ak hm
theorem wFc (p0:Int) (w:World) (φ:PHeap) (hS:St0 w φ [])  {r:Bool} (hm:wCq p0=some r):Gv Tryz.prog 174 [jV p0] w (wCM w [] φ (fun φ_ L_ v=>v=.bool r/\L_=[])):=by
 unfold wCq at hm
 refine Gv.of Tryz.func174 Z Tryz.ntmps174 Tryz.results174 Z (sR fL1 Z (oA Z Z (eN (sR fL4 Z (oM Z Z (oM Z Z (oR Z (Zq Z Z Z) (oA Z Z (eN (zP ?_))))))))))
 cases hm
 exact ⟨Z,_,(zw Z),φ,_,hS,Z,Z⟩
theorem wCP (p0:Int) (p1:Int) (w:World) (φ:PHeap) (hS:St0 w φ [])  {r:Int} (hm:wAr p0 p1=some r):Gv Tryz.prog 95 [jV p0,jV p1] w (wCM w [] φ (fun φ_ L_ v=>v=jV r/\L_=[])):=by
 unfold wAr at hm
 refine Gv.of Tryz.func95 Z Tryz.ntmps95 Tryz.results95 Z (sR fL1 Z (oA Z Z (eN (sR gBj Z (oM Z Z (bnK hm fun x1 h2 bf=>zM 0 Z Z Z Z (zL Z Z Tryz.call174 (zC Z zQ) Z) hS (fun hs=>wFc p0 w φ hs h2) (.inr Z) ?_))))))
 rintro au L5 v6 W7 bn aW ⟨rfl,rfl⟩
 have aU:sW w φ au [] W7:=aW
 refine oA Z Z (eN (sR gBj Z (oM Z Z (bnK bf fun bs aw aX=>zM 0 Z Z Z Z (zL Z Z Tryz.call174 (zC Z zQ) Z) aU (fun hs=>wFc p1 W7 au hs aw) (.inr Z) ?_))))
 rintro aa bk bp av bm aV ⟨rfl,rfl⟩
 have ab:sW w φ aa [] av:=aV
 refine oA Z Z (eN (zG (sR fL1 Z (oM Z Z (eN (ifc aX ?_ ?_))))))
 intro ae aY
 refine ZG (congrArg nD ae.out) (zG (sR fL1 Z (oM Z Z (eN (ifc aY ?_ ?_)))))
 intro ah aZ
 refine ZG (congrArg nD ah.out) (sR fL1 Z (oA Z Z (eN (zP (zN (zN ?_))))))
 cases aZ
 exact ⟨Z,_,(zw Z),aa,_,ab,Z,Z⟩
 intro ah ba
 refine zu (congrArg nD (nE.2 ah.out)) (kN (sR fL1 Z (oA Z Z (eN (zP (zN ?_))))))
 cases ba
 exact ⟨Z,_,(zw Z),aa,_,ab,Z,Z⟩
 intro ae bb
 refine zu (congrArg nD (nE.2 ae.out)) (kN (zG (sR fL1 Z (oM Z Z (eN (ifc bb ?_ ?_))))))
 intro ai bd
 refine ZG (congrArg nD ai.out) (sR fL1 Z (oA Z Z (eN (zP (zN ?_)))))
 cases bd
 exact ⟨Z,_,(zw Z),aa,_,ab,Z,Z⟩
 intro ai be
 refine zu (congrArg nD (nE.2 ai.out)) (kN (zG (sR fL3 Z (oM Z Z (oM Z Z (oR Z (zU Z Z Z) (eN (ifc be ?_ ?_))))))))
 intro aj bg
 refine cT Z aj (sR fL1 Z (oA Z Z (eN (zP (zN ?_)))))
 cases bg
 exact ⟨Z,_,(zw Z),aa,_,ab,Z,Z⟩
 intro aj bh
 refine cF Z aj (kN (zG (sR fL3 Z (oM Z Z (oM Z Z (oR Z (yB Z Z Z) (eN (ifc bh ?_ ?_))))))))
 intro ak bi
 refine cT Z ak (sR fL1 Z (oA Z Z (eN (zP (zN ?_)))))
 cases bi
 exact ⟨Z,_,(zw Z),aa,_,ab,Z,Z⟩
 intro ak bj
 refine cF Z ak (kN (sR fL1 Z (oA Z Z (eN (zP ?_)))))
 cases bj
 exact ⟨Z,_,(zw Z),aa,_,ab,Z,Z⟩
theorem wFd (p0:List Int) (ap:Option Addr) (aq:Nat) (w:World) (φ:PHeap) (hS:St0 w φ []) (bj:Sl φ 1 ap aq p0.length (nA KL.encI p0)) {r:Int} (hm:wCi p0=some r):Gv Tryz.prog 94 [.slice ap p0.length aq] w (wCM w [] φ (fun φ_ L_ v=>v=jV r/\L_=[])):=by
 unfold wCi at hm
 refine Gv.of Tryz.func94 Z Tryz.ntmps94 Tryz.results94 Z (sR fL1 Z (oA Z Z (eN (sR fL1 Z (oA Z Z (eN (zG (sR fL3 Z (oM Z Z (oR Z (zd Z Z zB) (oM Z Z (eN (zR ?_)))))))))))))
 have q:=wCc hm
 obtain ⟨r3,aj⟩:=q
 have q:=wCj aj
 obtain ⟨am,bm⟩:=q
 replace am:=zH am
 refine yG (fun k2 _ σ_ w_=>∃ (φ_:PHeap),σ_ 8=jV (↑k2:Int)/\σ_ 3=jV 0/\σ_ 6=.slice ap p0.length aq/\σ_ 7=jV (↑p0.length:Int)/\PHeap.Le φ φ_/\sW w φ φ_ [] w_) bm ?_ ?_ ?_
 exact ⟨φ,Z,Z,Z,Z,(zS _),hS⟩
 rintro k2 ⟨⟩ bF bH W8 ak ⟨aY,ah,av,aw,az,aX,ai⟩ aW bk
 try dsimp only at aW
 have au:Hid ((↑k2:Int) < (↑p0.length:Int)):=zH (wBI ak)
 replace ak:=zH ak
 have bn:Hid (w64 ((↑k2:Int) + 1)=(↑(k2 + 1):Int)):=zH (by have h1:=am.out;have h2:=au.out;rw [wAU] <;> omega)
 refine sR fL1 Z (oR Z (zU Z ah az) (eN (zG (cT Z au (kN (zG (zR (sR fL3 Z (bnK aW fun bu aU bp=>?_)))))))))
 have bf:=bj.le aX
 have q:=bf.el (fun _=>rfl) (wAZ aU)
 obtain ⟨bA,bD,bg,bh⟩:=q
 refine oR Z (ZH Z aw bg ah zB zF (wBT aU)) (oL Z (ai.ldC (f:=0) bh (v:=jV bu) Z Z zK Z) (oA Z Z (eN (sR fL3 Z (oM Z Z (oM Z av (oR Z (Zq Z Z Z) (eN (ifc bp ?_ ?_)))))))))
 intro ae bq
 refine zu (ZI (fun h=>h ae.out)) (Zf (ze (zI (rR fL2 Z (oR Z (ZC (zY Z ah Z) (congrArg (jV) bn.out)) (oM Z Z (zn ?_)))))))
 obtain rfl:=nB bq
 exact zI ⟨Z,_,Z,⟨aY,Z,av,aw,az,aX,ai⟩⟩
 intro ae br
 refine cT Z ae (sR fL2 Z (oM Z Z (oA Z Z (eN (zP (zg (zN ?_)))))))
 have q:=wAW br
 obtain ⟨bt,bs,ba⟩:=q
 obtain rfl:=wBQ hm aj (bk bt ba)
 refine zN (zg (zN ?_))
 have hE:=nB bs;first | subst r | cases hE
 exact ⟨Z,_,(zw Z),aY,_,ai,Z,Z⟩
 rintro ⟨⟩ bG bw ⟨bv,be,bb,bB,bd,bC,bi⟩ bl
 have aV:=wDL hm aj bl
 try dsimp only at aV
 have aZ:Hid (¬ ((↑(((↑p0.length:Int):Int) - 0).toNat:Int) < (↑p0.length:Int))):=zH (wAp)
 refine sR fL1 Z (oR Z (zU Z be bd) (eN (zG (cF Z aZ (ZJ (zX (zX (ZB (zI (sR fL2 Z (oM Z bb (oA Z Z (eN (zP ?_))))))))))))))
 cases aV
 exact ⟨Z,_,(zw Z),bv,_,bi,Z,Z⟩
theorem wKQ (p0:wAD) (p1:wAD) (w:World) (φ:PHeap) (hS:St0 w φ [])  {r:Int} (hm:wBD p0 p1=some r):Gv Tryz.prog 189 [.agg #[jV p0.Bib,jV p0.Done,jV p0.Time,jV p0.By],.agg #[jV p1.Bib,jV p1.Done,jV p1.Time,jV p1.By]] w (wCM w [] φ (fun φ_ L_ v=>v=jV r/\L_=[])):=by
 unfold wBD at hm
 refine Gv.of Tryz.func189 Z Tryz.ntmps189 Tryz.results189 Z (sR gBl Z ?_)
 let B0:List Value:=[jV p0.Bib,jV p0.Done,jV p0.Time,jV p0.By]
 refine Za (cs:=B0) rfl rfl rfl rfl rfl rfl (by rfl) hS ?_
 intro W1 b2 bh
 let B1:List Value:=[jV p1.Bib,jV p1.Done,jV p1.Time,jV p1.By]
 refine Za (cs:=B1) rfl rfl rfl rfl rfl rfl (by rfl) bh ?_
 intro W5 b6 bq
 refine OKS.ra rfl rfl rfl rfl rfl rfl (eN (zG (Zb ZT [3,1,3,1,2,3,1,3,1,2,2,2,3] (wHQ (wVR gBw)) (by kernel_rfl) ?_)))
 have ai:=bq.drew
 generalize hw_W10:({ W5 with drawn:=W5.drawn + 1 }:World)=aX at ai ⊢
 refine oR Z (zD Z Z yP Z zF) (oL Z (ai.ldB (j:=1) Z Z Z zK (v:=jV p0.Time) Z) (oR Z (zD Z Z yP Z zF) (oL Z (ai.ldB (j:=0) Z Z Z zK (v:=jV p1.Time) Z) (oR Z (zD Z Z yP Z zF) (oL Z (ai.ldB (j:=1) Z Z Z zK (v:=jV p0.Bib) Z) (oR Z (zD Z Z yP Z zF) (oL Z (ai.ldB (j:=0) Z Z Z zK (v:=jV p1.Bib) Z) (bnK hm fun aj ba br=>zM 0 Z Z Z Z (zL Z Z Tryz.call95 (zC Z (zC Z zQ)) Z) ai (fun hs=>wCP p0.Time p1.Time aX φ hs ba) (.inr Z) ?_))))))))
 rintro az bv bF au bB be ⟨rfl,rfl⟩
 have bf:sW w φ az [.blk b6 45 B1,.blk b2 45 B0] au:=be
 refine bnK br fun ak bb bs=>zM 0 Z Z Z Z (zL Z Z Tryz.call95 (zC Z (zC Z zQ)) Z) bf (fun hs=>wCP p0.Bib p1.Bib au az hs bb) (.inr Z) ?_
 rintro aU bw bG aY bC bg ⟨rfl,rfl⟩
 have bi:sW w φ aU [.blk b6 45 B1,.blk b2 45 B0] aY:=bg
 refine ZF (pv:=[(0,jV aj),(1,jV ak)]) (zs:=[jV 0,jV 0]) (cs:=[jV aj,jV ak]) Z Z Z Z Z (wAN Z (wAN Z wAa)) zB zF Zs Z Z Z Z Z bi ?_
 intro aq aw bj
 have bk:sW w φ aU [.row (some ⟨aw,0,none⟩) 2 3 1 (nA KL.encI [aj,ak]),.blk b6 45 B1,.blk b2 45 B0] aq:=bj
 have q:=bk.freezeR (k:=0) (n:=[aj,ak].length) rfl (wAK (f:=KL.encI) (sz:=1) (fun _=>rfl) [aj,ak]) (by decide)
 obtain ⟨aV,bD,bu,bl⟩:=q
 have bm:sW w φ aV [.blk b6 45 B1,.blk b2 45 B0] aq:=bl
 refine bnK bs fun bI bd bt=>zM 0 Z Z Z Z (zL Z Z Tryz.call94 (zC Z zQ) Z) bm (fun hs=>wFd [aj,ak] (some ⟨aw,0,none⟩) 2 aq aV hs bu bd) (.inr Z) ?_
 rintro aW bz bH aZ bE bn ⟨rfl,rfl⟩
 have bp:sW w φ aW [.blk b6 45 B1,.blk b2 45 B0] aZ:=bn
 refine oA Z Z (eN (zP ?_))
 have hE:=nB bt;first | subst r | cases hE
 exact ⟨rfl,_,(zw rfl),aW,_,(bp.pick [] _ (by decide) rfl),rfl,rfl⟩
theorem wIo (p0:wAM) (ak:Option Addr) (am:Nat) (az:Option Addr) (aU:Nat) (w:World) (φ:PHeap) (hS:St0 w φ []) (o3:Sl φ 1 ak am p0.Bibs.length (nA KL.encI p0.Bibs)) (o5:SlR φ wGO az aU p0.Times) {r:wAI × (List wAD)} (hm:wCl p0=some r):Gv Tryz.prog 107 [.agg #[jV p0.Laps,.slice ak p0.Bibs.length am,.slice az p0.Times.length aU]] w (wCM w [] φ (fun φ_ L_ v=>∃ (b0:Nat) (A0p01:Option Addr) (c0p01:Nat) (A0p02:Option Addr) (c0p02:Nat) (A0p1:Option Addr) (c0p1:Nat) (A0p2:Option Addr) (c0p2:Nat) (A1:Option Addr) (c1:Nat),v=.tuple #[.pointer (some ⟨b0,0,none⟩),.slice A1 r.2.length c1]/\L_=[.blk b0 204 [jV r.1.Race.Laps,.slice A0p01 r.1.Race.Bibs.length c0p01,.slice A0p02 r.1.Race.Times.length c0p02,.slice A0p1 r.1.done.length c0p1,.slice A0p2 r.1.out.length c0p2],.row A0p1 c0p1 3 1 (nA KL.encI r.1.done),.row A0p2 c0p2 4 1 (nA KL.encT r.1.out),.row A1 c1 45 4 (nA wAS r.2)]/\Sl φ_ 1 A0p01 c0p01 r.1.Race.Bibs.length (nA KL.encI r.1.Race.Bibs)/\SlR φ_ wGO A0p02 c0p02 r.1.Race.Times)):=by
 unfold wCl at hm
 refine Go.KX.Gv.ofM Tryz.func107 Z Tryz.ntmps107 Tryz.results107 (zA Z) (sR gBm Z ?_)
 let B0:List Value:=[jV p0.Laps,.slice ak p0.Bibs.length am,.slice az p0.Times.length aU]
 refine Za (cs:=B0) rfl rfl rfl rfl rfl rfl (by rfl) hS ?_
 intro W1 b2 oa
 refine oA Z Z (oA Z Z (eN ?_))
 have q:=bnd hm
 obtain ⟨⟨l9,cW⟩,pN,gQ⟩:=q
 try dsimp only at gQ
 refine CK.cut (fun σ_ w_=>∃ (φ_:PHeap) (b6:Nat) (b8:Nat) (bG:Option Addr) (bZ:Nat) (bM:Option Addr) (cg:Nat),σ_ 1=.pointer (some ⟨b2,0,none⟩)/\σ_ 4=.pointer (some ⟨b6,0,none⟩)/\PHeap.Le φ φ_/\sW w φ φ_ [.blk b2 66 B0,.blk b6 200 [.pointer (some ⟨b8,0,none⟩)],.blk b8 204 [jV p0.Laps,.slice ak p0.Bibs.length am,.slice az p0.Times.length aU,.slice bG l9.length bZ,.slice bM cW.length cg],.row bG bZ 3 1 (nA KL.encI l9),.row bM cg 4 1 (nA KL.encT cW)] w_) ?_ ?_
 refine bnK pN fun ah dy pG=>bnK pG fun ai dz pH=>Zb ZT [1,3,1,3,2,3,1,3,2,3,2,2,0] (wHQ (fC5_7 (.fx 4 (.fx 8 gBx (.fx 11 gBs .stop)) (.fx 8 (.fx 4 gBx (.fx 11 gBt .stop)) (.fx 11 (.fx 4 gBs (.fx 8 gBt .stop)) .stop))))) (by kernel_rfl) ?_
 have bE:=oa.drew
 generalize hw_W48:({ W1 with drawn:=W1.drawn + 1 }:World)=qS at bE ⊢
 refine OKS.cutD (s:=.nil) (M:=fun σ_ w_=>∃ (φ_:PHeap) (dq:Nat) (cL:Nat) (bN:Option Addr) (ci:Nat) (bO:Option Addr) (cj:Nat),σ_ 1=.pointer (some ⟨b2,0,none⟩)/\σ_ 4=.pointer (some ⟨dq,0,none⟩)/\σ_ 12=.agg B0.toArray/\σ_ 13=.pointer (some ⟨b2,1,none⟩)/\σ_ 14=.slice ak p0.Bibs.length am/\σ_ 15=jV (↑p0.Bibs.length:Int)/\σ_ 16=.slice bN ah.length ci/\σ_ 17=.pointer (some ⟨b2,1,none⟩)/\σ_ 18=.slice ak p0.Bibs.length am/\σ_ 19=jV (↑p0.Bibs.length:Int)/\σ_ 20=.slice bO ai.length cj/\σ_ 21=.agg #[jV p0.Laps,.slice ak p0.Bibs.length am,.slice az p0.Times.length aU,.slice bN ah.length ci,.slice bO ai.length cj]/\σ_ 22=.pointer (some ⟨cL,0,none⟩)/\PHeap.Le φ φ_/\sW w φ φ_ [.blk b2 66 B0,.blk dq 200 [.pointer (some ⟨cL,0,none⟩)],.blk cL 204 [jV p0.Laps,.slice ak p0.Bibs.length am,.slice az p0.Times.length aU,.slice bN ah.length ci,.slice bO ai.length cj],.row bN ci 3 1 (nA KL.encI ah),.row bO cj 4 1 (nA KL.encT ai)] w_) ?_ fun pO=>?_
 rintro sc qD ⟨qn,dq,cL,bN,ci,bO,cj,je,jf,ro,rp,rq,rt,ru,rx,ry,rC,rD,rE,rF,pV,m6⟩
 refine zn ?_
 cases pH
 exact zI ⟨Z,⟨qn,dq,cL,bN,ci,bO,cj,je,jf,pV,m6⟩⟩
 refine OKS.cutD (s:=.fx 12 .nil .stop) (M:=fun σ_ w_=>∃ (φ_:PHeap) (cM:Nat) (bm:Option Addr) (bu:Nat) (bn:Option Addr) (bv:Nat) (bV:Nat),σ_ 1=.pointer (some ⟨b2,0,none⟩)/\σ_ 4=.pointer (some ⟨cM,0,none⟩)/\σ_ 12=.agg B0.toArray/\σ_ 13=.pointer (some ⟨b2,1,none⟩)/\σ_ 14=.slice ak p0.Bibs.length am/\σ_ 15=jV (↑p0.Bibs.length:Int)/\σ_ 16=.slice bm ah.length bu/\σ_ 17=.pointer (some ⟨b2,1,none⟩)/\σ_ 18=.slice ak p0.Bibs.length am/\σ_ 19=jV (↑p0.Bibs.length:Int)/\σ_ 20=.slice bn ai.length bv/\σ_ 21=.agg #[jV p0.Laps,.slice ak p0.Bibs.length am,.slice az p0.Times.length aU,.slice bm ah.length bu,.slice bn ai.length bv]/\σ_ 22=.pointer (some ⟨bV,0,none⟩)/\PHeap.Le φ φ_/\sW w φ φ_ [.blk b2 66 B0,.blk cM 200 [.pointer none],.row bm bu 3 1 (nA KL.encI ah),.row bn bv 4 1 (nA KL.encT ai),.blk bV 204 [jV p0.Laps,.slice ak p0.Bibs.length am,.slice az p0.Times.length aU,.slice bm ah.length bu,.slice bn ai.length bv]] w_) ?_ fun eW=>?_
 rintro sd qE ⟨im,cM,bm,bu,bn,bv,bV,jg,fZ,jh,ji,jj,jk,jl,jm,jo,jp,jq,jr,gb,pW,m7⟩
 let B1:List Value:=[.pointer (some ⟨bV,0,none⟩)]
 refine zx (j:=1) (vs:=B1) Z Z Z Z m7 Z fZ gb Z Tryz.sizeOf200 (zA Z) Z Z Z ?_
 intro iB m8
 have m9:sW w φ im [.blk b2 66 B0,.blk cM 200 B1,.row bm bu 3 1 (nA KL.encI ah),.row bn bv 4 1 (nA KL.encT ai),.blk bV 204 [jV p0.Laps,.slice ak p0.Bibs.length am,.slice az p0.Times.length aU,.slice bm ah.length bu,.slice bn ai.length bv]] iB:=m8
 exact pO _ _ ⟨im,cM,bV,bm,bu,bn,bv,jg,fZ,jh,ji,jj,jk,jl,jm,jo,jp,jq,jr,gb,pW,(m9.pick [0,1,4,2,3] _ (by decide) rfl)⟩
 refine OKS.cutD (s:=gBg) (M:=fun σ_ w_=>∃ (φ_:PHeap) (dr:Nat) (bP:Option Addr) (cm:Nat) (bQ:Option Addr) (cp:Nat),σ_ 1=.pointer (some ⟨b2,0,none⟩)/\σ_ 4=.pointer (some ⟨dr,0,none⟩)/\σ_ 12=.agg B0.toArray/\σ_ 13=.pointer (some ⟨b2,1,none⟩)/\σ_ 14=.slice ak p0.Bibs.length am/\σ_ 15=jV (↑p0.Bibs.length:Int)/\σ_ 16=.slice bP ah.length cm/\σ_ 17=.pointer (some ⟨b2,1,none⟩)/\σ_ 18=.slice ak p0.Bibs.length am/\σ_ 19=jV (↑p0.Bibs.length:Int)/\σ_ 20=.slice bQ ai.length cp/\σ_ 21=.agg #[jV p0.Laps,.slice ak p0.Bibs.length am,.slice az p0.Times.length aU,.slice bP ah.length cm,.slice bQ ai.length cp]/\PHeap.Le φ φ_/\sW w φ φ_ [.blk b2 66 B0,.blk dr 200 [.pointer none],.row bP cm 3 1 (nA KL.encI ah),.row bQ cp 4 1 (nA KL.encT ai)] w_) ?_ fun pP=>?_
 rintro se qF ⟨qo,dr,bP,cm,bQ,cp,jt,ju,jv,jw,jx,jy,jz,jA,jB,jC,jD,gc,pX,n5⟩
 refine Za (cs:=[jV p0.Laps,.slice ak p0.Bibs.length am,.slice az p0.Times.length aU,.slice bP ah.length cm,.slice bQ ai.length cp]) rfl rfl rfl rfl rfl gc (by rfl) n5 ?_
 intro qG iN n7
 exact eW _ _ ⟨qo,dr,bP,cm,bQ,cp,iN,jt,ju,jv,jw,jx,jy,jz,jA,jB,jC,jD,gc,rfl,pX,(n7.pick [1,2,3,4,0] _ (by decide) rfl)⟩
 refine OKS.cutD (s:=gBf) (M:=fun σ_ w_=>∃ (φ_:PHeap) (bR:Option Addr) (cq:Nat) (bS:Option Addr) (cr:Nat) (dt:Nat),σ_ 1=.pointer (some ⟨b2,0,none⟩)/\σ_ 12=.agg B0.toArray/\σ_ 13=.pointer (some ⟨b2,1,none⟩)/\σ_ 14=.slice ak p0.Bibs.length am/\σ_ 15=jV (↑p0.Bibs.length:Int)/\σ_ 16=.slice bR ah.length cq/\σ_ 17=.pointer (some ⟨b2,1,none⟩)/\σ_ 18=.slice ak p0.Bibs.length am/\σ_ 19=jV (↑p0.Bibs.length:Int)/\σ_ 20=.slice bS ai.length cr/\σ_ 21=.agg #[jV p0.Laps,.slice ak p0.Bibs.length am,.slice az p0.Times.length aU,.slice bR ah.length cq,.slice bS ai.length cr]/\σ_ 22=.pointer (some ⟨dt,0,none⟩)/\PHeap.Le φ φ_/\sW w φ φ_ [.blk b2 66 B0,.row bR cq 3 1 (nA KL.encI ah),.row bS cr 4 1 (nA KL.encT ai),.blk dt 204 [jV p0.Laps,.slice ak p0.Bibs.length am,.slice az p0.Times.length aU,.slice bR ah.length cq,.slice bS ai.length cr]] w_) ?_ fun pQ=>?_
 rintro sf qH ⟨qp,bR,cq,bS,cr,dt,jE,jG,jH,jJ,jK,jL,jM,jN,jO,jP,jQ,jR,pY,n8⟩
 refine ZD (cs:=[.pointer none]) Z Z Z Z Z Tryz.zeroValue200 Z n8 ?_
 intro qI iO n9
 exact eW _ _ ⟨qp,iO,bR,cq,bS,cr,dt,jE,rfl,jG,jH,jJ,jK,jL,jM,jN,jO,jP,jQ,jR,pY,(n9.pick [1,0,2,3,4] _ (by decide) rfl)⟩
 refine OKS.cutD (s:=.fl 9 gBg) (M:=fun σ_ w_=>∃ (φ_:PHeap) (du:Nat) (bT:Option Addr) (ct:Nat) (bU:Option Addr) (cu:Nat),σ_ 1=.pointer (some ⟨b2,0,none⟩)/\σ_ 4=.pointer (some ⟨du,0,none⟩)/\σ_ 12=.agg B0.toArray/\σ_ 13=.pointer (some ⟨b2,1,none⟩)/\σ_ 14=.slice ak p0.Bibs.length am/\σ_ 15=jV (↑p0.Bibs.length:Int)/\σ_ 16=.slice bT ah.length ct/\σ_ 17=.pointer (some ⟨b2,1,none⟩)/\σ_ 18=.slice ak p0.Bibs.length am/\σ_ 19=jV (↑p0.Bibs.length:Int)/\σ_ 20=.slice bU ai.length cu/\PHeap.Le φ φ_/\sW w φ φ_ [.blk b2 66 B0,.blk du 200 [.pointer none],.row bT ct 3 1 (nA KL.encI ah),.row bU cu 4 1 (nA KL.encT ai)] w_) ?_ fun gR=>?_
 rintro sg qJ ⟨qq,du,bT,ct,bU,cu,jS,jU,ge,jW,jX,jY,gf,jZ,j4,j5,gg,pZ,oc⟩
 let B2:List Value:=[jV p0.Laps,.slice ak p0.Bibs.length am,.slice az p0.Times.length aU,.slice bT ah.length ct,.slice bU ai.length cu]
 refine zj rfl rfl rfl rfl (fun _=>Zd (pv:=[(0,.agg B0.toArray),(1,.slice bT ah.length ct),(2,.slice bU ai.length cu)]) (z:=[jV 0,.slice none 0 0,.slice none 0 0,.slice none 0 0,.slice none 0 0]) (cs:=B2) rfl (wAN ge (wAN gf (wAN gg wAa))) Tryz.zeroValue204 wLI rfl rfl) (Za (cs:=B2) rfl rfl rfl rfl rfl rfl (by rfl) oc ?_)
 intro qK iP od
 exact eW _ _ ⟨qq,du,bT,ct,bU,cu,iP,jS,jU,ge,jW,jX,jY,gf,jZ,j4,j5,gg,rfl,rfl,pZ,(od.pick [1,2,3,4,0] _ (by decide) rfl)⟩
 refine OKS.cutD (s:=gBt) (M:=fun σ_ w_=>∃ (φ_:PHeap) (cN:Nat) (cG:Option Addr) (cR:Nat),σ_ 1=.pointer (some ⟨b2,0,none⟩)/\σ_ 4=.pointer (some ⟨cN,0,none⟩)/\σ_ 12=.agg B0.toArray/\σ_ 13=.pointer (some ⟨b2,1,none⟩)/\σ_ 14=.slice ak p0.Bibs.length am/\σ_ 15=jV (↑p0.Bibs.length:Int)/\σ_ 17=.pointer (some ⟨b2,1,none⟩)/\σ_ 18=.slice ak p0.Bibs.length am/\σ_ 19=jV (↑p0.Bibs.length:Int)/\σ_ 20=.slice cG ai.length cR/\PHeap.Le φ φ_/\sW w φ φ_ [.blk b2 66 B0,.blk cN 200 [.pointer none],.row cG cR 4 1 (nA KL.encT ai)] w_) ?_ fun gS=>?_
 rintro sh qL ⟨io,cN,cG,cR,j6,j7,j8,j9,k9,ef,lc,lh,li,lj,p6,oe⟩
 refine yU (enc:=KL.encI) (z:=(0:Int)) (v:=jV 0) Z Z Z Z Z (wDH zB) wFU Z Z Z Z ef ef dy oe ?_
 intro iC fE og
 have oh:sW w φ io [.row (some ⟨fE,0,none⟩) ah.length 3 1 (nA KL.encI ah),.blk b2 66 B0,.blk cN 200 [.pointer none],.row cG cR 4 1 (nA KL.encT ai)] iC:=og
 exact gR _ _ ⟨io,cN,(some ⟨fE,0,none⟩),ah.length,cG,cR,j6,j7,j8,j9,k9,ef,rfl,lc,lh,li,lj,p6,(oh.pick [1,2,0,3] _ (by decide) rfl)⟩
 refine OKS.cutD (s:=gBs) (M:=fun σ_ w_=>∃ (φ_:PHeap) (cO:Nat) (cH:Option Addr) (cS:Nat),σ_ 1=.pointer (some ⟨b2,0,none⟩)/\σ_ 4=.pointer (some ⟨cO,0,none⟩)/\σ_ 12=.agg B0.toArray/\σ_ 13=.pointer (some ⟨b2,1,none⟩)/\σ_ 14=.slice ak p0.Bibs.length am/\σ_ 15=jV (↑p0.Bibs.length:Int)/\σ_ 16=.slice cH ah.length cS/\σ_ 17=.pointer (some ⟨b2,1,none⟩)/\σ_ 18=.slice ak p0.Bibs.length am/\σ_ 19=jV (↑p0.Bibs.length:Int)/\PHeap.Le φ φ_/\sW w φ φ_ [.blk b2 66 B0,.blk cO 200 [.pointer none],.row cH cS 3 1 (nA KL.encI ah)] w_) ?_ fun gT=>?_
 rintro sj qM ⟨ip,cO,cH,cS,lm,ln,lq,ls,lu,lv,lw,lx,ly,eh,p7,oj⟩
 refine yU (enc:=KL.encT) (z:=false) (v:=.bool false) Z Z Z Z Z (wDH ZU) wMO Z Z Z Z eh eh dz oj ?_
 intro iD fG om
 have oq:sW w φ ip [.row (some ⟨fG,0,none⟩) ai.length 4 1 (nA KL.encT ai),.blk b2 66 B0,.blk cO 200 [.pointer none],.row cH cS 3 1 (nA KL.encI ah)] iD:=om
 exact gR _ _ ⟨ip,cO,cH,cS,(some ⟨fG,0,none⟩),ai.length,lm,ln,lq,ls,lu,lv,lw,lx,ly,eh,rfl,p7,(oq.pick [1,2,3,0] _ (by decide) rfl)⟩
 refine OKS.cutD (s:=gBx) (M:=fun σ_ w_=>∃ (φ_:PHeap) (bz:Option Addr) (bB:Nat) (bA:Option Addr) (bC:Nat),σ_ 1=.pointer (some ⟨b2,0,none⟩)/\σ_ 12=.agg B0.toArray/\σ_ 13=.pointer (some ⟨b2,1,none⟩)/\σ_ 14=.slice ak p0.Bibs.length am/\σ_ 15=jV (↑p0.Bibs.length:Int)/\σ_ 16=.slice bz ah.length bB/\σ_ 17=.pointer (some ⟨b2,1,none⟩)/\σ_ 18=.slice ak p0.Bibs.length am/\σ_ 19=jV (↑p0.Bibs.length:Int)/\σ_ 20=.slice bA ai.length bC/\PHeap.Le φ φ_/\sW w φ φ_ [.blk b2 66 B0,.row bz bB 3 1 (nA KL.encI ah),.row bA bC 4 1 (nA KL.encT ai)] w_) ?_ fun gU=>?_
 rintro sm qN ⟨iq,bz,bB,bA,bC,gh,eu,gi,gj,gm,eC,gq,gu,gv,eD,ib,gI⟩
 let B3:List Value:=[jV p0.Laps,.slice ak p0.Bibs.length am,.slice az p0.Times.length aU,.slice bz ah.length bB,.slice bA ai.length bC]
 refine oR Z (Zd (pv:=[(0,.agg B0.toArray),(1,.slice bz ah.length bB),(2,.slice bA ai.length bC)]) (z:=[jV 0,.slice none 0 0,.slice none 0 0,.slice none 0 0,.slice none 0 0]) (cs:=B3) Z (wAN eu (wAN eC (wAN eD wAa))) Tryz.zeroValue204 wLI Z Z) (OKS.both ?_ ?_)
 refine Za (cs:=B3) rfl rfl rfl rfl rfl rfl (by rfl) gI ?_
 intro qO iQ ot
 exact pQ _ _ ⟨iq,bz,bB,bA,bC,iQ,gh,eu,gi,gj,gm,eC,gq,gu,gv,eD,rfl,rfl,ib,(ot.pick [1,2,3,0] _ (by decide) rfl)⟩
 refine ZD (cs:=[.pointer none]) Z Z Z Z Z Tryz.zeroValue200 Z gI ?_
 intro qP iR ou
 exact pP _ _ ⟨iq,iR,bz,bB,bA,bC,gh,rfl,eu,gi,gj,gm,eC,gq,gu,gv,eD,rfl,ib,(ou.pick [1,0,2,3] _ (by decide) rfl)⟩
 refine oL Z (bE.ldBA (j:=0) Z Z Z Zz ZS (vs:=B0) Z Z) (oR Z (zD Z Z zo Z zW) (oL Z (bE.ldB (j:=0) Z Z Z zm (v:=.slice ak p0.Bibs.length am) Z) (oR Z (zd Z Z zB) (oR Z (zD Z Z zo Z zW) (oL Z (bE.ldB (j:=0) Z Z Z zm (v:=.slice ak p0.Bibs.length am) Z) (oR Z (zd Z Z zB) (OKS.both ?_ ?_)))))))
 refine yU (enc:=KL.encI) (z:=(0:Int)) (v:=jV 0) Z Z Z Z Z (wDH zB) wFU Z Z Z Z Z Z dy bE ?_
 intro iE dW ow
 let B4:Res:=.row (some ⟨dW,0,none⟩) ah.length 3 1 (nA KL.encI ah)
 have gJ:sW w φ φ [B4,.blk b2 66 B0] iE:=ow
 refine OKS.both ?_ ?_
 refine yU (enc:=KL.encT) (z:=false) (v:=.bool false) Z Z Z Z Z (wDH ZU) wMO Z Z Z Z Z Z dz gJ ?_
 intro iF fH ox
 have oy:sW w φ φ [.row (some ⟨fH,0,none⟩) ai.length 4 1 (nA KL.encT ai),B4,.blk b2 66 B0] iF:=ox
 exact gU _ _ ⟨φ,(some ⟨dW,0,none⟩),ah.length,(some ⟨fH,0,none⟩),ai.length,rfl,rfl,rfl,rfl,rfl,rfl,rfl,rfl,rfl,rfl,(zS _),(oy.pick [2,1,0] _ (by decide) rfl)⟩
 refine ZD (cs:=[.pointer none]) Z Z Z Z Z Tryz.zeroValue200 Z gJ ?_
 intro qQ iT oz
 exact gT _ _ ⟨φ,iT,(some ⟨dW,0,none⟩),ah.length,rfl,rfl,rfl,rfl,rfl,rfl,rfl,rfl,rfl,rfl,(zS _),(oz.pick [2,0,1] _ (by decide) rfl)⟩
 refine OKS.both ?_ ?_
 refine yU (enc:=KL.encT) (z:=false) (v:=.bool false) Z Z Z Z Z (wDH ZU) wMO Z Z Z Z Z Z dz bE ?_
 intro iG dX oB
 let B5:Res:=.row (some ⟨dX,0,none⟩) ai.length 4 1 (nA KL.encT ai)
 have gK:sW w φ φ [B5,.blk b2 66 B0] iG:=oB
 refine OKS.both ?_ ?_
 refine yU (enc:=KL.encI) (z:=(0:Int)) (v:=jV 0) Z Z Z Z Z (wDH zB) wFU Z Z Z Z Z Z dy gK ?_
 intro iH fJ oG
 have oH:sW w φ φ [.row (some ⟨fJ,0,none⟩) ah.length 3 1 (nA KL.encI ah),B5,.blk b2 66 B0] iH:=oG
 exact gU _ _ ⟨φ,(some ⟨fJ,0,none⟩),ah.length,(some ⟨dX,0,none⟩),ai.length,rfl,rfl,rfl,rfl,rfl,rfl,rfl,rfl,rfl,rfl,(zS _),(oH.pick [2,0,1] _ (by decide) rfl)⟩
 refine ZD (cs:=[.pointer none]) Z Z Z Z Z Tryz.zeroValue200 Z gK ?_
 intro qR iU oI
 exact gS _ _ ⟨φ,iU,(some ⟨dX,0,none⟩),ai.length,rfl,rfl,rfl,rfl,rfl,rfl,rfl,rfl,rfl,rfl,(zS _),(oI.pick [2,0,1] _ (by decide) rfl)⟩
 refine ZD (cs:=[.pointer none]) Z Z Z Z Z Tryz.zeroValue200 Z bE ?_
 intro qT dv gL
 refine OKS.both ?_ ?_
 refine yU (enc:=KL.encI) (z:=(0:Int)) (v:=jV 0) Z Z Z Z Z (wDH zB) wFU Z Z Z Z Z Z dy gL ?_
 intro iI fK oK
 have oO:sW w φ φ [.row (some ⟨fK,0,none⟩) ah.length 3 1 (nA KL.encI ah),.blk dv 200 [.pointer none],.blk b2 66 B0] iI:=oK
 exact gT _ _ ⟨φ,dv,(some ⟨fK,0,none⟩),ah.length,rfl,rfl,rfl,rfl,rfl,rfl,rfl,rfl,rfl,rfl,(zS _),(oO.pick [2,1,0] _ (by decide) rfl)⟩
 refine yU (enc:=KL.encT) (z:=false) (v:=.bool false) Z Z Z Z Z (wDH ZU) wMO Z Z Z Z Z Z dz gL ?_
 intro iJ fL oP
 have oU:sW w φ φ [.row (some ⟨fL,0,none⟩) ai.length 4 1 (nA KL.encT ai),.blk dv 200 [.pointer none],.blk b2 66 B0] iJ:=oP
 exact gS _ _ ⟨φ,dv,(some ⟨fL,0,none⟩),ai.length,rfl,rfl,rfl,rfl,rfl,rfl,rfl,rfl,rfl,rfl,(zS _),(oU.pick [2,1,0] _ (by decide) rfl)⟩
 rintro sn qU ⟨qr,b6,b8,bG,bZ,bM,cg,lz,lA,ic,oW⟩
 refine sR (.fx 0 .nil .stop) Z (ZD (cs:=[.slice none 0 0]) Z Z Z Z Z Tryz.zeroValue36 Z oW ?_)
 intro iK aY gM
 refine eN (zG (sR gBe Z (oL Z (gM.ldBA (j:=1) Z Z lz Zz ZS (vs:=B0) Z Z) ?_)))
 have gz:=o3.le ic
 have gA:=o5.le ic
 refine bnK gQ fun qd mc pI=>zM 0 Z Z Z Z (zL Z Z Tryz.call185 (zC Z zQ) Z) gM (fun hs=>wGo p0 ak am az aU iK qr hs gz gA mc) (.inr Z) ?_
 rintro ir qy rV iL ie oX ⟨fM,it,iX,rfl,rfl,md,me⟩
 let B6:Res:=.blk b6 200 [.pointer (some ⟨b8,0,none⟩)]
 have oY:sW w φ ir [.blk aY 36 [.slice none 0 0],.blk b2 66 B0,B6,.blk b8 204 [jV p0.Laps,.slice ak p0.Bibs.length am,.slice az p0.Times.length aU,.slice bG l9.length bZ,.slice bM cW.length cg],.row bG bZ 3 1 (nA KL.encI l9),.row bM cg 4 1 (nA KL.encT cW)] iL:=oX
 refine eN (zR (yH fun dJ dC=>?_))
 have gw:dJ 4=.pointer (some ⟨b6,0,none⟩):=(dC 4).trans lA
 have eG:dJ 5=.pointer (some ⟨aY,0,none⟩):=(dC 5).trans rfl
 have lB:dJ 24=.func (.func 302) #[] #[.pointer (some ⟨fM,0,none⟩)]:=(dC 24).trans rfl
 clear dC
 have mp:=oY.nilrow 45 4
 have lF:=gz.le ie
 have lG:=gA.le ie
 refine bnK pI fun ig pm gO=>CK.rangeY (S:=(List wAD) × Int × (List Int) × (List (List Int)) × (List Int) × (List Bool)) (E:=Empty) (ar:=wHd) (PY:=(fun (s_:(List wAD) × Int × (List Int) × (List (List Int)) × (List Int) × (List Bool)) (φ_:PHeap) (L_:List Res)=>match s_ with | (l1081,x1085,l1086,l1089,l1092,l1095)=>∃ (bH:Option Addr) (bW:Nat) (cD:Option Addr) (cP:Nat) (cE:Option Addr) (cQ:Nat) (bI:Option Addr) (bX:Nat) (bJ:Option Addr) (bY:Nat),L_=[.row bH bW 45 4 (nA wAS l1081),.blk aY 36 [.slice bH l1081.length bW],.blk b2 66 B0,B6,.row bI bX 3 1 (nA KL.encI l1092),.row bJ bY 4 1 (nA KL.encT l1095),.blk b8 204 [jV x1085,.slice cD l1086.length cP,.slice cE l1089.length cQ,.slice bI l1092.length bX,.slice bJ l1095.length bY]]/\Sl φ_ 1 cD cP l1086.length (nA KL.encI l1086)/\SlR φ_ wGO cE cQ l1089)) (PE:=(fun (_:Empty) _ _=>False)) (exO:=Empty.elim) (s0:=([],p0.Laps,p0.Bibs,p0.Times,l9,cW)) (rr:=ig) lB Tryz.call302 (mp.pick [0,1,2,3,5,6,4] _ (by decide) rfl) (by decide) (fun _ _ _ h=>by obtain rfl:=h;rfl) (fun e=>nomatch e) ⟨none,0,ak,am,az,aU,bG,bZ,bM,cg,rfl,lF,lG⟩ (fun l w1 L1 PY' PE' mo ml o0=>wEg PY' PE' _ l _ qd fM it iX w1 L1 ir mo ml o0 md me pm) ?_ ?_
 rintro aw rP rG ⟨l1081,x1085,l1086,l1089,l1092,l1095⟩ bf rW rN dE qt qc p8 av rI mq mn o6 gN dG cz
 obtain ⟨bH,bW,cD,cP,cE,cQ,bI,bX,bJ,bY,rfl,lH,lI⟩:=mn
 obtain rfl:=o6
 replace cz:∀ t,dG t=upd dJ 25 (jV bf) t:=cz
 have iZ:dG 25=jV bf:=(cz 25).trans (wCe _ _ _)
 have fS:dG 4=.pointer (some ⟨b6,0,none⟩):=(cz 4).trans ((wCb _ _ (by decide)).trans gw)
 have i6:dG 5=.pointer (some ⟨aY,0,none⟩):=(cz 5).trans ((wCb _ _ (by decide)).trans eG)
 clear cz
 let B7:Res:=.blk b8 204 [jV x1085,.slice cD l1086.length cP,.slice cE l1089.length cQ,.slice bI l1092.length bX,.slice bJ l1095.length bY]
 let B8:Res:=.row bH bW 45 4 (nA wAS l1081)
 let B9:Res:=.blk aY 36 [.slice bH l1081.length bW]
 let dO:Res:=.row bI bX 3 1 (nA KL.encI l1092)
 let dP:Res:=.row bJ bY 4 1 (nA KL.encT l1095)
 have mr:St av dE [.obj aw p8,B8,B9,.blk b2 66 B0,B6,dO,dP,B7] qc:=mq
 try dsimp only at gN
 refine rR fL1 Z (oA Z iZ (zn ⟨Z,Z,_,_,mr,fun dV aV ms=>?_⟩))
 have gE:St av dE [.obj aw aV,B8,B9,.blk b2 66 B0,B6,dO,dP,B7] dV:=ms
 refine zR (sR gBq Z (oL Z (gE.ldB (j:=4) Z Z fS yV (v:=.pointer (some ⟨b8,0,none⟩)) Z) (oM Z Z ?_)))
 have q:=bnd gN
 obtain ⟨⟨aq,aj⟩,lJ,gP⟩:=q
 try dsimp only at gP
 have mu:St av dE [B7,dO,dP,.obj aw aV,B8,B9,.blk b2 66 B0,B6] dV:=gE.pick [7,5,6,0,1,2,3,4] _ (by decide) rfl
 refine zM 3 Z Z Z Z (zL Z Z Tryz.call186 (zC Z (zC Z zQ)) Z) mu (fun hs=>wFb (⟨(⟨x1085,l1086,l1089⟩:wAM),l1092,l1095⟩:wAI) b8 cD cP cE cQ bI bX bJ bY bf dV dE hs lH lI lJ) (.inl Z) ?_
 rintro e9 qu rQ iv rJ mw ⟨cZ,dw,bk,bs,bK,b5,bg,bj,bd,be,rfl,rfl,gx,gy⟩
 let ba:List Value:=[jV aj.Race.Laps,.slice bk aj.Race.Bibs.length bs,.slice bK aj.Race.Times.length b5,.slice bg aj.done.length bj,.slice bd aj.out.length be]
 let aX:Res:=.row cZ dw 3 1 (nA KL.encI aq)
 let bh:Res:=.row bg bj 3 1 (nA KL.encI aj.done)
 let bp:Res:=.row bd be 4 1 (nA KL.encT aj.out)
 have my:St av e9 [aX,bh,bp,.blk b8 204 ba,.obj aw aV,B8,B9,.blk b2 66 B0,B6] iv:=mw
 refine oA Z Z (eN (zG (sR fL3 Z (oM Z Z (oR Z (zd Z Z zB) (oM Z Z (eN (zR (bnK gP fun ii o7 pn=>?_)))))))))
 have q:=wBU o7
 obtain ⟨eU,o8⟩:=q
 replace eU:=zH eU
 refine CK.forN' (fun aZ bF σ_ w_=>∃ (φ_:PHeap) (bL:Option Addr) (cd:Nat),σ_ 31=jV (↑aZ:Int)/\σ_ 4=.pointer (some ⟨b6,0,none⟩)/\σ_ 5=.pointer (some ⟨aY,0,none⟩)/\σ_ 6=jV bf/\σ_ 7=.slice cZ aq.length dw/\σ_ 29=.slice cZ aq.length dw/\σ_ 30=jV (↑aq.length:Int)/\PHeap.Le e9 φ_/\St av φ_ [bh,bp,.blk b8 204 ba,.obj aw aV,.row bL cd 45 4 (nA wAS bF),.blk aY 36 [.slice bL bF.length cd],.blk b2 66 B0,B6,aX] w_) o8 ?_ ?_ ?_
 exact ⟨e9,bH,bW,rfl,fS,i6,rfl,rfl,rfl,rfl,(zS _),(my.pick [1,2,3,4,5,6,7,8,0] _ (by decide) rfl)⟩
 rintro aZ bF rY r7 fA eS ⟨sq,bL,cd,eH,cw,d8,d9,i7,fT,fU,eX,eR⟩ pL
 have fO:Hid ((↑aZ:Int) < (↑aq.length:Int)):=zH (wBI eS)
 replace eS:=zH eS
 have pi:Hid (w64 ((↑aZ:Int) + 1)=(↑(aZ + 1):Int)):=zH (by have h1:=eU.out;have h2:=fO.out;rw [wAU] <;> omega)
 refine sR fL1 Z (oR Z (zU Z eH fU) (eN (zG (cT Z fO (kN (zG (zR (sR fL3 Z (bnK pL fun _ eJ po=>?_)))))))))
 obtain ⟨qV,gB⟩:=eR.rowSome (j:=8) rfl (by rw [wAK (f:=KL.encI) (sz:=1) (fun _=>rfl) aq];have hz:=wAq eJ;omega)
 refine oR Z (ZH Z fT gB eH zB zF (wAq eJ)) ?_
 have pb:=wCH (xs:=aq) (wAq eJ)
 refine ZM rfl rfl rfl rfl (eR.ldR (j:=8) rfl gB rfl rfl zK (wAo (sz:=1) (fun _=>rfl) _ _ 0 _ pb (by first | omega | rfl | simp) rfl)) rfl (OKS.ra rfl rfl rfl rfl rfl rfl (eN (Zb ZT [1,1,3,3,3,1,3,3,1,1,3,3,1,3,3,1,3,1,3,3,3,1,1,3,1,3,3,1,3,3,1,3,2,3,1,3,2,0,0] (wVN (.fx 32 (wTz (.fx 36 (.fx 37 (.fx 38 .nil .stop) .stop) .stop)) .stop)) (by kernel_rfl) ?_)))
 have aW:=eR.drew
 generalize hw_W1221:({ fA with drawn:=fA.drawn + 1 }:World)=dh at aW ⊢
 refine oL Z (aW.ldB (j:=5) Z Z d8 Tryz.isAgg36 (v:=.slice bL bF.length cd) Z) (oL Z (aW.ldB (j:=7) Z Z cw yV (v:=.pointer (some ⟨b8,0,none⟩)) Z) (oR Z (ZQ Z Z) (oR Z (zD Z Z ZR Z ZS) (oR Z (zD Z Z zo Z zW) (oL Z (aW.ldB (j:=2) Z Z Z zm (v:=.slice bk aj.Race.Bibs.length bs) Z) (oM Z Z (bnK po fun cA eK pp=>?_)))))))
 have eM:=gx.le eX
 have q:=eM.el (fun _=>rfl) (wAZ eK)
 obtain ⟨qW,rL,mf,mh⟩:=q
 refine oR Z (Zj Z Z mf Z zB zF (wDO eK) (wDV eK)) (oL Z (aW.ldC (f:=0) mh (v:=jV cA) Z Z zK Z) (oL Z (aW.ldB (j:=7) Z Z cw yV (v:=.pointer (some ⟨b8,0,none⟩)) Z) (oR Z (ZQ Z Z) (oR Z (zD Z Z ZR Z zW) (oL Z (aW.ldB (j:=2) Z Z Z zm (v:=.slice bg aj.done.length bj) Z) (oM Z Z (bnK pp fun _ bD pq=>?_)))))))
 obtain ⟨qX,dA⟩:=aW.rowSome (j:=0) rfl (by rw [wAK (f:=KL.encI) (sz:=1) (fun _=>rfl) aj.done];have hz:=wAq bD;omega)
 refine oR Z (Zj Z Z dA Z zB zF (wEW bD) (wEX bD)) ?_
 have pe:=wCH (xs:=aj.done) (wAq bD)
 refine ZM rfl rfl rfl rfl (aW.ldR (j:=0) rfl dA rfl rfl zK (wAo (sz:=1) (fun _=>rfl) _ _ 0 _ pe (by first | omega | rfl | simp) rfl)) rfl (zf rfl rfl rfl rfl rfl d9 (ZM rfl rfl rfl rfl (aW.ldB (j:=7) rfl rfl cw yV (v:=.pointer (some ⟨b8,0,none⟩)) rfl) rfl (zj rfl rfl rfl rfl (fun _=>ZQ rfl rfl) (zj rfl rfl rfl rfl (fun _=>zD rfl rfl ZR rfl ZS) (zj rfl rfl rfl rfl (fun _=>zD rfl rfl zo rfl zW) (ZM rfl rfl rfl rfl (aW.ldB (j:=2) rfl rfl rfl zm (v:=.slice bk aj.Race.Bibs.length bs) rfl) rfl (ZM rfl rfl rfl rfl (aW.ldB (j:=7) rfl rfl cw yV (v:=.pointer (some ⟨b8,0,none⟩)) rfl) rfl (zf rfl rfl rfl rfl rfl rfl (ZM rfl rfl rfl rfl (aW.ldB (j:=7) rfl rfl cw yV (v:=.pointer (some ⟨b8,0,none⟩)) rfl) rfl (zj rfl rfl rfl rfl (fun _=>ZQ rfl rfl) (zj rfl rfl rfl rfl (fun _=>zD rfl rfl ZR rfl zW) (ZM rfl rfl rfl rfl (aW.ldB (j:=2) rfl rfl rfl zm (v:=.slice bg aj.done.length bj) rfl) rfl (zf rfl rfl rfl rfl rfl rfl (zj rfl rfl rfl rfl (fun _=>Zj rfl rfl dA rfl zB zF (wEW bD) (wEX bD)) ?_))))))))))))))
 have pf:=wCH (xs:=aj.done) (wAq bD)
 refine ZM rfl rfl rfl rfl (aW.ldR (j:=0) rfl dA rfl rfl zK (wAo (sz:=1) (fun _=>rfl) _ _ 0 _ pf (by first | omega | rfl | simp) rfl)) rfl (zf rfl rfl rfl rfl rfl d9 ?_)
 have q:=aW.freezeT (k:=0) (n:=aj.done.length) rfl (wAK (f:=KL.encI) (sz:=1) (fun _=>rfl) aj.done) (by decide)
 obtain ⟨qi,gW,pJ,mz,p9⟩:=q
 let bq:Res:=.row bL cd 45 4 (nA wAS bF)
 let bi:Res:=.blk aY 36 [.slice bL bF.length cd]
 have mA:St av qi [bp,.blk b8 204 ba,.obj aw aV,bq,bi,.blk b2 66 B0,B6,aX] dh:=mz
 have q:=mA.freezeT (k:=0) (n:=aj.out.length) rfl (wAK (f:=KL.encT) (sz:=1) (fun _=>rfl) aj.out) (by decide)
 obtain ⟨qj,eY,pK,mB,qa⟩:=q
 have mC:St av qj [.blk b8 204 ba,.obj aw aV,bq,bi,.blk b2 66 B0,B6,aX] dh:=mB
 have q:=mC.freezeTB (k:=0) rfl
 obtain ⟨fb,dD,cV,mD,qb⟩:=q
 replace cV:=Cl.of cV
 have mE:St av fb [.obj aw aV,bq,bi,.blk b2 66 B0,B6,aX] dh:=mD
 replace cV:Cl fb b8 0 ba:=cV
 have lK:=eM.le gW
 have lL:=lK.le eY
 have lM:=lL.le dD
 have lN:=gy.le eX
 have lO:=lN.le gW
 have lP:=lO.le eY
 have lQ:=lP.le dD
 have lR:=pJ.le eY
 have lS:=lR.le dD
 have lT:=pK.le dD
 refine bnK pq fun rX lU pu=>zM 0 rfl rfl rfl rfl (zL rfl rfl Tryz.call187 (zC rfl (zC rfl (zC rfl (zC rfl zQ)))) rfl) mE (fun hs=>wEN aj b8 bk bs bK b5 bg bj bd be (gd aq aZ) (gd aj.done (gd aq aZ).toNat) bf dh fb hs cV lM lQ lS lT lU) (.inr rfl) ?_
 rintro qk qv rS dm pR mF ⟨rfl,rfl⟩
 have mG:St av qk [.obj aw aV,bq,bi,.blk b2 66 B0,B6,aX] dm:=mF
 have q:=qb _ _ _ pR mG
 obtain ⟨ql,pS,mH⟩:=q
 have mI:St av ql [.blk b8 204 ba,.obj aw aV,bq,bi,.blk b2 66 B0,B6,aX] dm:=mH
 have q:=qa _ _ _ pS mI
 obtain ⟨qm,pT,mJ⟩:=q
 have mK:St av qm [bp,.blk b8 204 ba,.obj aw aV,bq,bi,.blk b2 66 B0,B6,aX] dm:=mJ
 have q:=p9 _ _ _ pT mK
 obtain ⟨cY,gX,mL⟩:=q
 have gF:St av cY [bh,bp,.blk b8 204 ba,.obj aw aV,bq,bi,.blk b2 66 B0,B6,aX] dm:=mL
 refine bnK pu fun cC eP py=>?_
 have lV:=eM.le gX
 have q:=lV.el (fun _=>rfl) (wAZ eP)
 obtain ⟨qY,rM,mg,mi⟩:=q
 refine oR Z (Zj Z Z mg Z zB zF (wDO eP) (wDV eP)) (oL Z (gF.ldC (f:=0) mi (v:=jV cC) Z Z zK Z) ?_)
 let dQ:List Value:=[jV cA,jV (gd aj.done (gd aq aZ).toNat),jV bf,jV cC]
 let fj:List Value:=[jV 0,jV 0,jV 0,jV 0]
 refine oR Z (Zd (pv:=[(0,jV cA),(1,jV (gd aj.done (gd aq aZ).toNat)),(2,jV bf),(3,jV cC)]) (z:=fj) (cs:=dQ) Z (wAN Z (wAN Z (wAN Z (wAN Z wAa)))) Tryz.zeroValue45 wRO Z Z) (ZF (pv:=[(0,.agg dQ.toArray)]) (zs:=fj) (cs:=dQ) Z Z Z Z Z (wAN Z wAa) Tryz.runUnderlying36 ye Tryz.zeroValue45 Z Z Z Z Z gF ?_)
 intro iw iM mM
 let dR:Res:=.row (some ⟨iM,0,none⟩) 1 45 4 (nA wAS [(⟨cA,(gd aj.done (gd aq aZ).toNat),bf,cC⟩:wAD)])
 have gG:St av cY [dR,bh,bp,.blk b8 204 ba,.obj aw aV,bq,bi,.blk b2 66 B0,B6,aX] iw:=mM
 refine bnK py fun dH lW pz=>Zu (j:=5) (enc:=wAS) (xs:=bF) (ys:=[(⟨cA,(gd aj.done (gd aq aZ).toNat),bf,cC⟩:wAD)]) (zs:=dH) rfl rfl rfl rfl rfl Tryz.underlying36 wVB rfl rfl rfl rfl rfl rfl gG rfl rfl rfl (gG.srcR (j:=0) rfl (by decide) (wAK (f:=wAS) (sz:=4) (fun _=>rfl) [(⟨cA,(gd aj.done (gd aq aZ).toNat),bf,cC⟩:wAD)])) (fun _=>rfl) (fun _=>rfl) lW rfl ?_
 intro da dx iy mN
 let fq:Res:=.row da dx 45 4 (nA wAS dH)
 have mO:St av cY [dR,bh,bp,.blk b8 204 ba,.obj aw aV,fq,bi,.blk b2 66 B0,B6,aX] iy:=mN
 refine zx (j:=6) (vs:=[.slice da dH.length dx]) Z Z Z Z mO Z d8 Z Z Tryz.sizeOf36 (zA Z) Z Z Z ?_
 intro iz mP
 have mQ:St av cY [dR,bh,bp,.blk b8 204 ba,.obj aw aV,fq,.blk aY 36 [.slice da dH.length dx],.blk b2 66 B0,B6,aX] iz:=mP
 refine zn (ze (zI (rR fL2 Z (oR Z (ZC (zY Z eH Z) (congrArg (jV) pi.out)) (oM Z Z (zn ?_))))))
 cases pz
 exact zI ⟨rfl,⟨cY,da,dx,rfl,cw,d8,d9,i7,fT,fU,(eX.trans gX),(mQ.pick [1,2,3,4,5,6,7,8,9] _ (by decide) rfl)⟩⟩
 rintro r8 qz ⟨il,dL,dY,lD,i8,i9,re,ja,ri,jb,gZ,mR⟩
 have iV:Hid (¬ ((↑(((↑aq.length:Int):Int) - 0).toNat:Int) < (↑aq.length:Int))):=zH (wAp)
 refine sR fL1 Z (oR Z (zU Z lD jb) (eN (zG (cF Z iV (ZJ (zX (zX (ZB (zI (sR fL3 Z (oM Z ja (oR Z (zd Z Z zB) (oM Z Z (eN (zR (bnK pn fun r6 o9 pC=>?_))))))))))))))))
 have q:=wBU o9
 obtain ⟨eV,pa⟩:=q
 replace eV:=zH eV
 let dS:Res:=.row dL dY 45 4 (nA wAS ii)
 let dT:Res:=.blk aY 36 [.slice dL ii.length dY]
 refine CK.forN' (fun bw bb σ_ w_=>∃ (φ_:PHeap),σ_ 76=jV (↑bw:Int)/\σ_ 4=.pointer (some ⟨b6,0,none⟩)/\σ_ 5=.pointer (some ⟨aY,0,none⟩)/\σ_ 74=.slice cZ aq.length dw/\σ_ 75=jV (↑aq.length:Int)/\PHeap.Le il φ_/\St av φ_ [bh,.row bd be 4 1 (nA KL.encT bb),.blk b8 204 [jV aj.Race.Laps,.slice bk aj.Race.Bibs.length bs,.slice bK aj.Race.Times.length b5,.slice bg aj.done.length bj,.slice bd bb.length be],.obj aw aV,dS,dT,.blk b2 66 B0,B6,aX] w_/\bb.length=aj.out.length) pa ?_ ?_ ?_
 exact ⟨il,Z,i8,i9,Z,Z,(zS _),mR,Z⟩
 rintro bw bb rZ r9 qA eT ⟨fc,eI,fV,jc,fW,fY,pU,cy,lX⟩ pM
 have fP:Hid ((↑bw:Int) < (↑aq.length:Int)):=zH (wBI eT)
 replace eT:=zH eT
 have pj:Hid (w64 ((↑bw:Int) + 1)=(↑(bw + 1):Int)):=zH (by have h1:=eV.out;have h2:=fP.out;rw [wAU] <;> omega)
 refine sR fL1 Z (oR Z (zU Z eI fY) (eN (zG (cT Z fP (kN (zG (zR (sR fL3 Z (bnK pM fun _ eQ pD=>?_)))))))))
 obtain ⟨qZ,gC⟩:=cy.rowSome (j:=8) rfl (by rw [wAK (f:=KL.encI) (sz:=1) (fun _=>rfl) aq];have hz:=wAq eQ;omega)
 refine oR Z (ZH Z fW gC eI zB zF (wAq eQ)) ?_
 have pg:=wCH (xs:=aq) (wAq eQ)
 refine ZM rfl rfl rfl rfl (cy.ldR (j:=8) rfl gC rfl rfl zK (wAo (sz:=1) (fun _=>rfl) _ _ 0 _ pg (by first | omega | rfl | simp) rfl)) rfl (OKS.ra rfl rfl rfl rfl rfl rfl (eN (rR (wMe (.fx 6 .nil .stop)) rfl (ZM rfl rfl rfl rfl (cy.ldB (j:=7) rfl rfl fV yV (v:=.pointer (some ⟨b8,0,none⟩)) rfl) rfl (zj rfl rfl rfl rfl (fun _=>ZQ rfl rfl) (zj rfl rfl rfl rfl (fun _=>zD rfl rfl ZR rfl yC) (ZM rfl rfl rfl rfl (cy.ldB (j:=2) rfl rfl rfl yS (v:=.slice bd bb.length be) rfl) rfl (zf rfl rfl rfl rfl rfl rfl (bnK pD fun _ cU pE=>?_)))))))))
 obtain ⟨rc,gD⟩:=cy.rowSome (j:=1) rfl (by rw [wAK (f:=KL.encT) (sz:=1) (fun _=>rfl) bb];have hz:=wAq cU;omega)
 refine oR Z (Zj Z Z gD Z ZU ya (wEW cU) (wEX cU)) ?_
 have ph:=wCH (xs:=bb) (wAq cU)
 refine OKS.stR (j:=1) (vs:=[.bool true]) (cs':=nA KL.encT (nG bb (gd aq bw).toNat true)) rfl rfl rfl rfl cy rfl gD rfl rfl rfl ya (by rw [wAK (f:=KL.encT) (sz:=1) (fun _=>rfl)];have hz:=wAq cU;show _ + 1 <= _;first | omega | (simp only [nL];omega) | (simp only [nK,nI,nJ];omega)) rfl (wHA (sz:=1) (fo:=0) (fun _=>rfl) _ _ _ _ ph (by first | omega | (simp only [nL];omega) | (simp only [nK,nI,nJ];omega)) (zA rfl) rfl) rfl ?_
 intro fB mS
 let ft:Res:=.row bd be 4 1 (nA KL.encT (nG bb (gd aq bw).toNat true))
 have mT:St av fc [bh,ft,.blk b8 204 [jV aj.Race.Laps,.slice bk aj.Race.Bibs.length bs,.slice bK aj.Race.Times.length b5,.slice bg aj.done.length bj,.slice bd bb.length be],.obj aw aV,dS,dT,.blk b2 66 B0,B6,aX] fB:=mS
 have mU:St av fc [bh,ft,.blk b8 204 [jV aj.Race.Laps,.slice bk aj.Race.Bibs.length bs,.slice bK aj.Race.Times.length b5,.slice bg aj.done.length bj,.slice bd ((nG bb (gd aq bw).toNat true).length) be],.obj aw aV,dS,dT,.blk b2 66 B0,B6,aX] fB:=by simpa only [nH] using mT
 refine zn (ze (zI (rR fL2 Z (oR Z (ZC (zY Z eI Z) (congrArg (jV) pj.out)) (oM Z Z (zn ?_))))))
 cases pE
 exact zI ⟨Z,⟨fc,Z,fV,jc,fW,fY,pU,mU,(nH.trans lX)⟩⟩
 rintro sb qB ⟨su,lE,rj,rk,rn,jd,g8,mV,rH⟩
 have iW:Hid (¬ ((↑(((↑aq.length:Int):Int) - 0).toNat:Int) < (↑aq.length:Int))):=zH (wAp)
 refine sR fL1 Z (oR Z (zU Z lE jd) (eN (zG (cF Z iW (ZJ (zX (zX (ZB (ze ?_)))))))))
 have lY:=gx.le gZ
 have lZ:=lY.le g8
 have l3:=gy.le gZ
 have l4:=l3.le g8
 obtain rfl:=nB pC
 exact ⟨_,_,(mV.pick [3,4,5,6,7,0,1,2] _ (by decide) rfl),rfl,⟨dL,dY,bk,bs,bK,b5,bg,bj,bd,be,rfl,lZ,l4⟩⟩
 rintro dF fd qw fC rK mW
 rcases ig with ⟨dI,qe,qf,qg,ij,ik⟩ | iY
 try dsimp only at gO
 rintro ⟨bl,bt,ff,fQ,fg,fR,dM,dZ,dN,d7,rfl,l5,l6⟩
 let cI:Res:=.blk b8 204 [jV qe,.slice ff qf.length fQ,.slice fg qg.length fR,.slice dM ij.length dZ,.slice dN ik.length d7]
 let cJ:Res:=.row dM dZ 3 1 (nA KL.encI ij)
 let cK:Res:=.row dN d7 4 1 (nA KL.encT ik)
 let fu:Res:=.blk aY 36 [.slice bl dI.length bt]
 have gH:sW w φ fd [.row bl bt 45 4 (nA wAS dI),fu,.blk b2 66 B0,B6,cJ,cK,cI,.obj dF (.deferred (some []))] fC:=mW
 refine ze (zI (sR gBe Z (oL Z (gH.ldB (j:=1) Z Z eG Tryz.isAgg36 (v:=.slice bl dI.length bt) Z) ?_)))
 have mj:FnOK Tryz.prog fd (.func (.func 189) #[] #[]) wUz wVA (fun x=>wBD x.1 x.2):=⟨189,[],[],rfl,Tryz.call189,fun qh w1 x y vs le hs ha hm=>by obtain rfl:=ha;exact wKQ x.1 x.2 w1 qh hs  hm⟩
 refine bnK gO fun e8 l7 pF=>zM 1 Z Z Z Z (zL Z Z Tryz.call188 (zC Z (zC Z zQ)) Z) gH (fun hs=>wDN dI bl bt (fun x=>wBD x.1 x.2) (.func (.func 189) #[] #[]) fC fd hs mj ⟨_,_,Z⟩ l7) (.inl Z) ?_
 rintro dK qx rT dp g9 mX ⟨rfl,rfl,l8⟩
 let db:Res:=.row bl bt 45 4 (nA wAS e8)
 have mY:sW w φ dK [db,fu,.blk b2 66 B0,B6,cJ,cK,cI,.obj dF (.deferred (some []))] dp:=mX
 let de:Res:=.blk aY 36 [.slice bl e8.length bt]
 have mZ:sW w φ dK [db,de,.blk b2 66 B0,B6,cJ,cK,cI,.obj dF (.deferred (some []))] dp:=by simp only [de,l8];exact mY
 refine eN (zG (Zb ZT [1,1,3,3] fL4 (by kernel_rfl) ?_))
 have dB:=mZ.drew
 generalize hw_W1451:({ dp with drawn:=dp.drawn + 1 }:World)=qC at dB ⊢
 refine oL Z (dB.ldB (j:=3) Z Z gw yV (v:=.pointer (some ⟨b8,0,none⟩)) Z) (oL Z (dB.ldB (j:=1) Z Z eG Tryz.isAgg36 (v:=.slice bl e8.length bt) Z) (oA Z Z (oA Z Z (eN (zP ?_)))))
 have ma:=l5.le g9
 have mb:=l6.le g9
 refine wEK (by first | exact .inl rfl | exact .inr rfl) (rbs:=[dF]) (L:=[db,de,.blk b2 66 B0,B6,cJ,cK,cI]) dB fun iA m4=>?_
 have m5:sW w φ dK [db,de,.blk b2 66 B0,B6,cJ,cK,cI] iA:=m4
 cases pF
 exact ⟨_,(wNX rfl rfl),dK,_,(m5.pick [6,4,5,0] _ (by decide) rfl),b8,ff,fQ,fg,fR,dM,dZ,dN,d7,bl,bt,rfl,rfl,ma,mb⟩
 exact iY.elim
end Go.Proofs.YtglpalgiipahjaaGreat
namespace Go.Proofs.YtglpalgiipahjaaGreat
open Go.KL
set_option maxHeartbeats 4000000
theorem wFs (p0:wAM) (ae:Option Addr) (ai:Nat) (ah:Option Addr) (aj:Nat) (w:World) (φ:PHeap) (hS:St0 w φ []) (bb:Sl φ 1 ae ai p0.Bibs.length (nA KL.encI p0.Bibs)) (bd:SlR φ wGO ah aj p0.Times) {r:(List wAD) × Int} (hm:wCm p0=some r):Gv Tryz.prog 44 [.agg #[jV p0.Laps,.slice ae p0.Bibs.length ai,.slice ah p0.Times.length aj]] w (wCM w [] φ (fun φ_ L_ v=>∃ (A0:Option Addr) (c0:Nat),v=.tuple #[.slice A0 r.1.length c0,jV r.2]/\L_=[.row A0 c0 45 4 (nA wAS r.1)])):=by
 unfold wCm at hm
 refine Gv.of Tryz.func44 Z Tryz.ntmps44 Tryz.results44 Z (sR gBm Z ?_)
 let B0:List Value:=[jV p0.Laps,.slice ae p0.Bibs.length ai,.slice ah p0.Times.length aj]
 refine Za (cs:=B0) rfl rfl rfl rfl rfl rfl (by rfl) hS ?_
 intro W1 b2 ba
 refine oA Z Z (oA Z Z (eN (zG (sR gBj Z (oL Z (ba.ldBA (j:=0) Z Z Z Zz ZS (vs:=B0) Z Z) (bnK hm fun x5 h6 bA=>zM 0 Z Z Z Z (zL Z Z Tryz.call106 (zC Z zQ) Z) ba (fun hs=>wEk p0 ae ai ah aj W1 φ hs bb bd h6) (.inr Z) ?_))))))
 rintro au L9 bG aU bf bs ⟨rfl,rfl⟩
 have aq:sW w φ au [.blk b2 66 B0] aU:=bs
 refine oA Z Z (eN (sR fL2 Z (oM Z Z (oR Z (Zq Z Z Z) (eN (ifc bA ?_ ?_))))))
 intro am bw
 refine zu (ZI (fun h=>h am.out)) (kN (sR (.fl 0 (.fx 1 (wIz (.nil)) .stop)) Z (oL Z (aq.ldBA (j:=0) Z Z Z Zz ZS (vs:=B0) Z Z) ?_)))
 have bn:=bb.le bf
 have bp:=bd.le bf
 have q:=bnd bw
 obtain ⟨⟨x19,x20⟩,bq,be⟩:=q
 try dsimp only at be
 refine zM 0 Z Z Z Z (zL Z Z Tryz.call107 (zC Z zQ) Z) aq (fun hs=>wIo p0 ae ai ah aj aU au hs bn bp bq) (.inr Z) ?_
 rintro bg bB bH bk bF bt ⟨aW,bh,bl,bi,bm,aw,aY,az,aZ,ak,ap,rfl,rfl,bD,bE⟩
 have bu:sW w φ bg [.blk aW 204 [jV x19.Race.Laps,.slice bh x19.Race.Bibs.length bl,.slice bi x19.Race.Times.length bm,.slice aw x19.done.length aY,.slice az x19.out.length aZ],.row aw aY 3 1 (nA KL.encI x19.done),.row az aZ 4 1 (nA KL.encT x19.out),.row ak ap 45 4 (nA wAS x20),.blk b2 66 B0] bk:=bt
 refine oM Z Z (oR Z (ZX Z Z (v:=.pointer (some ⟨aW,0,none⟩)) Z) (oR Z (ZX Z Z (v:=.slice ak x20.length ap) Z) (oA Z Z (oA Z Z (eN (sR fL3 Z (oM Z Z (oA Z Z (oA Z Z (eN (zP ?_)))))))))))
 cases be
 exact ⟨rfl,_,(wNX rfl rfl),bg,_,(bu.pick [3] _ (by decide) rfl),ak,ap,rfl,rfl⟩
 intro am bz
 refine cT Z am (sR fL3 Z (oM Z Z (oA Z Z (oA Z Z (eN (zP (zN ?_)))))))
 have bv:=aq.nilrow 45 4
 cases bz
 exact ⟨rfl,_,(wNX rfl rfl),au,_,(bv.pick [0] _ (by decide) rfl),none,0,rfl,rfl⟩
theorem wFe (p0:wAM) (ae:Option Addr) (ai:Nat) (ah:Option Addr) (aj:Nat) (w:World) (φ:PHeap) (hS:St0 w φ []) (bd:Sl φ 1 ae ai p0.Bibs.length (nA KL.encI p0.Bibs)) (be:SlR φ wGO ah aj p0.Times) {r:(List Int) × Int} (hm:wBy p0=some r):Gv Tryz.prog 35 [.agg #[jV p0.Laps,.slice ae p0.Bibs.length ai,.slice ah p0.Times.length aj]] w (wCM w [] φ (fun φ_ L_ v=>∃ (A0:Option Addr) (c0:Nat),v=.tuple #[.slice A0 r.1.length c0,jV r.2]/\L_=[.row A0 c0 3 1 (nA KL.encI r.1)])):=by
 unfold wBy at hm
 refine Gv.of Tryz.func35 Z Tryz.ntmps35 Tryz.results35 Z (sR gBm Z ?_)
 let B0:List Value:=[jV p0.Laps,.slice ae p0.Bibs.length ai,.slice ah p0.Times.length aj]
 refine Za (cs:=B0) rfl rfl rfl rfl rfl rfl (by rfl) hS ?_
 intro W1 b2 ba
 refine oA Z Z (oA Z Z (eN (zG (sR gBj Z (oL Z (ba.ldBA (j:=0) Z Z Z Zz ZS (vs:=B0) Z Z) (bnK hm fun x5 h6 bA=>zM 0 Z Z Z Z (zL Z Z Tryz.call106 (zC Z zQ) Z) ba (fun hs=>wEk p0 ae ai ah aj W1 φ hs bd be h6) (.inr Z) ?_))))))
 rintro au L9 bG aU bg bt ⟨rfl,rfl⟩
 have aq:sW w φ au [.blk b2 66 B0] aU:=bt
 refine oA Z Z (eN (sR fL2 Z (oM Z Z (oR Z (Zq Z Z Z) (eN (ifc bA ?_ ?_))))))
 intro ap bw
 refine zu (ZI (fun h=>h ap.out)) (kN (sR (.fl 0 (.fx 1 (wIz (.nil)) .stop)) Z (oL Z (aq.ldBA (j:=0) Z Z Z Zz ZS (vs:=B0) Z Z) ?_)))
 have bp:=bd.le bg
 have bq:=be.le bg
 have q:=bnd bw
 obtain ⟨⟨x19,x20⟩,br,bf⟩:=q
 try dsimp only at bf
 refine zM 0 Z Z Z Z (zL Z Z Tryz.call107 (zC Z zQ) Z) aq (fun hs=>wIo p0 ae ai ah aj aU au hs bp bq br) (.inr Z) ?_
 rintro bh bB bH bl bF bu ⟨aW,bi,bm,bj,bn,ak,am,aw,aY,az,aZ,rfl,rfl,bD,bE⟩
 have bb:sW w φ bh [.blk aW 204 [jV x19.Race.Laps,.slice bi x19.Race.Bibs.length bm,.slice bj x19.Race.Times.length bn,.slice ak x19.done.length am,.slice aw x19.out.length aY],.row ak am 3 1 (nA KL.encI x19.done),.row aw aY 4 1 (nA KL.encT x19.out),.row az aZ 45 4 (nA wAS x20),.blk b2 66 B0] bl:=bu
 refine oM Z Z (oR Z (ZX Z Z (v:=.pointer (some ⟨aW,0,none⟩)) Z) (oR Z (ZX Z Z (v:=.slice az x20.length aZ) Z) (oA Z Z (oA Z Z (eN (sR fL6 Z (oM Z Z (oR Z (ZQ Z Z) (oR Z (zD Z Z ZR Z zW) (oL Z (bb.ldB (j:=0) Z Z Z zm (v:=.slice ak x19.done.length am) Z) (oA Z Z (oA Z Z (eN (zP ?_))))))))))))))
 cases bf
 exact ⟨rfl,_,(wNX rfl rfl),bh,_,(bb.pick [1] _ (by decide) rfl),ak,am,rfl,rfl⟩
 intro ap bz
 refine cT Z ap (sR fL3 Z (oM Z Z (oA Z Z (oA Z Z (eN (zP (zN ?_)))))))
 have bv:=aq.nilrow 3 1
 cases bz
 exact ⟨rfl,_,(wNX rfl rfl),au,_,(bv.pick [0] _ (by decide) rfl),none,0,rfl,rfl⟩
theorem wGU (p0:wAF) (bm:Option Addr) (bq:Nat) (ap:Option Addr) (aq:Nat) (w:World) (φ:PHeap) (hS:St0 w φ []) (dJ:Sl φ 1 bm bq p0.Classes.length (nA KL.encI p0.Classes)) (cR:SlR φ wGN ap aq p0.Legs) {r:Int} (hm:wBu p0=some r):Gv Tryz.prog 91 [.agg #[jV p0.Bib,.slice bm p0.Classes.length bq,.slice ap p0.Legs.length aq]] w (wCM w [] φ (fun φ_ L_ v=>v=jV r/\L_=[])):=by
 unfold wBu at hm
 refine Gv.of Tryz.func91 Z Tryz.ntmps91 Tryz.results91 Z (sR gBc Z ?_)
 let B0:List Value:=[jV p0.Bib,.slice bm p0.Classes.length bq,.slice ap p0.Legs.length aq]
 refine Za (cs:=B0) rfl rfl rfl rfl rfl rfl (by rfl) hS ?_
 intro W1 b2 cN
 refine oA Z Z (eN (sR (.fl 0 (.fx 1 (.fx 2 .nil .stop) .stop)) Z ?_))
 let B1:List Value:=[jV 0,jV 0,jV 0]
 refine oR Z (Zd (pv:=[]) (z:=B1) (cs:=B1) Z wAa Zw wHt Z Z) (ZD (cs:=B1) Z Z Z Z Z Zw Z cN ?_)
 intro W5 b6 cQ
 refine zx (j:=0) (vs:=B1) Z Z Z Z cQ Z Z Z Z Zp (zA Z) Z Z Z ?_
 intro W9 cG
 have bF:sW w φ φ [.blk b6 79 B1,.blk b2 73 B0] W9:=cG
 refine eN (sR fL1 Z (oA Z Z (eN (zG (sR fL4 Z (oR Z (zD Z Z zZ Z Ze) (oL Z (bF.ldB (j:=1) Z Z Z yD (v:=.slice ap p0.Legs.length aq) Z) (oR Z (zd Z Z ZP) (oM Z Z (eN (zR (bnK hm fun dQ cS da=>?_))))))))))))
 have q:=wBU cS
 obtain ⟨bj,cU⟩:=q
 replace bj:=zH bj
 refine CK.forN' (fun aj x17 σ_ w_=>∃ (φ_:PHeap),σ_ 15=jV (↑aj:Int)/\σ_ 3=.pointer (some ⟨b6,0,none⟩)/\σ_ 4=jV x17/\σ_ 13=.slice ap p0.Legs.length aq/\σ_ 14=jV (↑p0.Legs.length:Int)/\PHeap.Le φ φ_/\sW w φ φ_ [.blk b6 79 B1,.blk b2 73 B0] w_) cU ?_ ?_ ?_
 exact ⟨φ,Z,Z,Z,Z,Z,(zS _),bF⟩
 rintro aj x17 dO dU dC bh ⟨aX,be,cq,cr,bv,bw,bM,bG⟩ dm
 have bt:Hid ((↑aj:Int) < (↑p0.Legs.length:Int)):=zH (wBI bh)
 replace bh:=zH bh
 have cX:Hid (w64 ((↑aj:Int) + 1)=(↑(aj + 1):Int)):=zH (by have h1:=bj.out;have h2:=bt.out;rw [wAU] <;> omega)
 refine sR fL1 Z (oR Z (zU Z be bw) (eN (zG (cT Z bt (kN (zG (zR (sR gBu Z (bnK dm fun ab bD db=>?_)))))))))
 have cz:=cR.le bM
 have q:=cz.el (wAZ bD)
 obtain ⟨bV,dr,dN,cE,bg,dh⟩:=q
 obtain ⟨bp,bs,aw,az,rfl,dI,cA⟩:=dh
 replace bg:Cl aX bV (dr + aj * 3) [jV ab.Skier,.slice bp ab.Loops.length bs,.slice aw ab.Bouts.length az]:=bg
 refine oR Z (ZH Z bv cE be ZP ZK (wBT bD)) (oL Z (bG.ldCA (f:=0) bg Z Z yI ZK (us:=[jV ab.Skier,.slice bp ab.Loops.length bs,.slice aw ab.Bouts.length az]) Z Z) (ZD (cs:=[jV 0,.slice none 0 0,.slice none 0 0]) Z Z Z Z Z Zc Z bG ?_))
 intro dE aU cO
 let B2:List Value:=[jV ab.Skier,.slice bp ab.Loops.length bs,.slice aw ab.Bouts.length az]
 refine zx (j:=0) (vs:=B2) Z Z Z Z cO Z Z Z Z ZK (zA Z) Z Z Z ?_
 intro bR cP
 have bH:sW w φ aX [.blk aU 76 B2,.blk b6 79 B1,.blk b2 73 B0] bR:=cP
 refine eN (sR fL4 Z (oR Z (zD Z Z zz Z Zx) (oL Z (bH.ldB (j:=0) Z Z Z yR (v:=.slice aw ab.Bouts.length az) Z) (oR Z (zd Z Z Zg) (oM Z Z (eN (zR (bnK db fun dR cV de=>?_))))))))
 have q:=wBU cV
 obtain ⟨bk,cW⟩:=q
 replace bk:=zH bk
 refine CK.forN' (fun am bN σ_ w_=>∃ (φ_:PHeap),σ_ 22=jV (↑am:Int)/\σ_ 3=.pointer (some ⟨b6,0,none⟩)/\σ_ 4=jV bN/\σ_ 13=.slice ap p0.Legs.length aq/\σ_ 14=jV (↑p0.Legs.length:Int)/\σ_ 15=jV (↑aj:Int)/\σ_ 20=.slice aw ab.Bouts.length az/\σ_ 21=jV (↑ab.Bouts.length:Int)/\PHeap.Le aX φ_/\sW w φ φ_ [.blk aU 76 B2,.blk b6 79 B1,.blk b2 73 B0] w_) cW ?_ ?_ ?_
 exact ⟨aX,Z,cq,cr,bv,bw,be,Z,Z,(zS _),bH⟩
 rintro am bN dP dV bS bi ⟨bO,aV,ba,bz,bA,bB,bC,bb,bd,bl,bI⟩ dp
 have bu:Hid ((↑am:Int) < (↑ab.Bouts.length:Int)):=zH (wBI bi)
 replace bi:=zH bi
 have bJ:Hid (w64 ((↑am:Int) + 1)=(↑(am + 1):Int)):=zH (by have h1:=bk.out;have h2:=bu.out;rw [wAU] <;> omega)
 refine sR fL1 Z (oR Z (zU Z aV bd) (eN (zG (cT Z bu (kN (zG (zR (sR fL3 Z (bnK dp fun x94 bE df=>?_)))))))))
 have cC:=cA.le bl
 have q:=cC.el (wAZ bE)
 obtain ⟨bW,dt,dM,cD,bf,dg⟩:=q
 obtain ⟨bn,br,rfl,cw⟩:=dg
 replace bf:Cl bO bW (dt + am * 1) [.slice bn x94.length br]:=bf
 refine oR Z (ZH Z bb cD aV Zg yC (wBT bE)) (oL Z (bI.ldC (f:=0) bf (v:=.slice bn x94.length br) Z Z yS Z) (oA Z Z (eN (sR (.fl 0 (.fx 1 (wRp (.fx 5 (.fx 6 (.fl 7 .nil) .stop) .stop)) .stop)) Z (oM Z Z ?_)))))
 have q:=bnd df
 obtain ⟨⟨x107,du⟩,cy,bK⟩:=q
 try dsimp only at bK
 refine zM 0 Z Z Z Z (zL Z Z Tryz.call27 (zC Z zQ) Z) bI (fun hs=>wEc x94 bn br bS bO hs cw cy) (.inr Z) ?_
 rintro aW dx dL bP bL cH ⟨rfl,rfl⟩
 have cI:sW w φ aW [.blk aU 76 B2,.blk b6 79 B1,.blk b2 73 B0] bP:=cH
 refine oM Z Z (oR Z (ZX Z Z (v:=.agg #[jV x107.Spares,jV x107.Loops,jV x107.Unused]) Z) (oR Z (ZX Z Z (v:=jV du) Z) (ZD (cs:=B1) Z Z Z Z Z Zw Z cI ?_)))
 intro dz bU cJ
 let B3:List Value:=[jV x107.Spares,jV x107.Loops,jV x107.Unused]
 refine zx (j:=0) (vs:=B3) Z Z Z Z cJ Z Z Z Z Zp (zA Z) Z Z Z ?_
 intro bQ cK
 have av:sW w φ aW [.blk bU 79 B3,.blk aU 76 B2,.blk b6 79 B1,.blk b2 73 B0] bQ:=cK
 refine oA Z Z (eN (sR fL3 Z (oL Z (av.ldBA (j:=0) Z Z Z yd Zp (vs:=B3) Z Z) (oL Z (av.ldBA (j:=2) Z Z ba yd Zp (vs:=B1) Z Z) (oR Z (ZC (Runs.neS (enc:=wCU) (a:=x107) (b:=(⟨0,0,0⟩:wAd)) Z Z Z eqT79 eqG79) (congrArg nD (decide_not).symm)) (eN (ifc bK ?_ ?_)))))))
 intro aZ cY
 refine zu (ZI (fun h=>h aZ.out)) (Zf (ze (zI (rR fL2 Z (oR Z (ZC (zY Z aV Z) (congrArg (jV) bJ.out)) (oM Z Z (zn ?_)))))))
 cases cY
 exact zI ⟨rfl,⟨aW,rfl,ba,bz,bA,bB,bC,bb,bd,(bl.trans bL),(av.pick [1,2,3] _ (by decide) rfl)⟩⟩
 intro aZ cZ
 refine cT Z aZ (rR fL5 Z (oM Z bz (oR Z (zD Z Z Tryz.runUnderlying79 Z zF) (oL Z (av.ldB (j:=0) Z Z Z zK (v:=jV x107.Unused) Z) (oR Z (zY Z Z Z) (oA Z Z (zn (ze (zI (rR fL2 Z (oR Z (ZC (zY Z aV Z) (congrArg (jV) bJ.out)) (oM Z Z (zn ?_)))))))))))))
 cases cZ
 exact zI ⟨rfl,⟨aW,rfl,ba,rfl,bA,bB,bC,bb,bd,(bl.trans bL),(av.pick [1,2,3] _ (by decide) rfl)⟩⟩
 rintro dS dA ⟨dv,ct,bZ,b5,cd,cg,ci,dF,cj,dq,cL⟩
 have bX:Hid (¬ ((↑(((↑ab.Bouts.length:Int):Int) - 0).toNat:Int) < (↑ab.Bouts.length:Int))):=zH (wAp)
 refine sR fL1 Z (oR Z (zU Z ct cj) (eN (zG (cF Z bX (ZJ (zX (zX (ZB (ze (zI (rR fL2 Z (oR Z (ZC (zY Z ci Z) (congrArg (jV) cX.out)) (oM Z Z (zn ?_))))))))))))))
 cases de
 exact zI ⟨rfl,⟨dv,rfl,bZ,b5,cd,cg,(bM.trans dq),(cL.pick [1,2] _ (by decide) rfl)⟩⟩
 rintro dT dB ⟨dw,cu,dG,cm,dH,cp,dK,cM⟩
 have bY:Hid (¬ ((↑(((↑p0.Legs.length:Int):Int) - 0).toNat:Int) < (↑p0.Legs.length:Int))):=zH (wAp)
 refine sR fL1 Z (oR Z (zU Z cu cp) (eN (zG (cF Z bY (ZJ (zX (zX (ZB (zI (sR fL2 Z (oM Z cm (oA Z Z (eN (zP ?_))))))))))))))
 have hE:=nB da;first | subst r | cases hE
 exact ⟨rfl,_,(zw rfl),dw,_,(cM.pick [] _ (by decide) rfl),rfl,rfl⟩
theorem wBe (p0:List wAA) (ab:Option Addr) (ae:Nat) (p1:((wAA × wAA)->Option Int)) (ah:Value) (w:World) (φ:PHeap) (hS:St ⟨w,[.row ab ae 59 3 (nA wAE p0)],φ⟩ φ [.row ab ae 59 3 (nA wAE p0)] w) (aj:FnOK Tryz.prog φ ah wTU wTV p1) (ak:∃ g cb,ah=.func (.func g) #[] cb) {r:List wAA} (hm:wAX p0 p1=some r):Gv Tryz.prog 92 [.slice ab p0.length ae,ah] w (wCM w [.row ab ae 59 3 (nA wAE p0)] φ (fun φ_ L_ v=>v=.tuple #[]/\L_=[.row ab ae 59 3 (nA wAE r)]/\r.length=p0.length)) :=
 wKw (sz:=3) (fun _=>rfl) (fun x v h=>List.all_eq_true.1 (show (wAE x).all (·.oneCell')=true from rfl) v h) (fun _ _ _=>rfl) (fun _ _ _ _ h=>h.1) (fun enc a1 a2 cf b g cb k1 k2 k3 d w h1 h2 h3 h4 h5 h6=>Go.Proofs.Tryz.slices_SortFunc_total_f92 3 Tryz.isAgg59 Tryz.sizeOf59 enc a1 a2 cf b g cb k1 k2 k3 d w h1 h2 h3 h4 h5 h6) (fun p c v w=>Go.Proofs.Tryz.slices_SortFunc_none_f92 (α:=Int) p c v w) hS aj (by decide) ak hm
theorem wHI (p0:wAA) (p1:wAA) (w:World) (φ:PHeap) (hS:St0 w φ [])  {r:Int} (hm:wBN p0 p1=some r):Gv Tryz.prog 93 [.agg #[jV p0.Bib,jV p0.Place,jV p0.Time],.agg #[jV p1.Bib,jV p1.Place,jV p1.Time]] w (wCM w [] φ (fun φ_ L_ v=>v=jV r/\L_=[])):=by
 unfold wBN at hm
 refine Gv.of Tryz.func93 Z Tryz.ntmps93 Tryz.results93 Z (sR gBl Z ?_)
 let B0:List Value:=[jV p0.Bib,jV p0.Place,jV p0.Time]
 refine Za (cs:=B0) rfl rfl rfl rfl rfl rfl (by rfl) hS ?_
 intro W1 b2 bh
 let B1:List Value:=[jV p1.Bib,jV p1.Place,jV p1.Time]
 refine Za (cs:=B1) rfl rfl rfl rfl rfl rfl (by rfl) bh ?_
 intro W5 b6 bq
 refine OKS.ra rfl rfl rfl rfl rfl rfl (eN (zG (Zb ZT [3,1,3,1,2,3,1,3,1,2,2,2,3] (wHQ (wVR gBw)) (by kernel_rfl) ?_)))
 have ai:=bq.drew
 generalize hw_W10:({ W5 with drawn:=W5.drawn + 1 }:World)=aX at ai ⊢
 refine oR Z (zD Z Z zq Z zF) (oL Z (ai.ldB (j:=1) Z Z Z zK (v:=jV p0.Time) Z) (oR Z (zD Z Z zq Z zF) (oL Z (ai.ldB (j:=0) Z Z Z zK (v:=jV p1.Time) Z) (oR Z (zD Z Z zq Z zF) (oL Z (ai.ldB (j:=1) Z Z Z zK (v:=jV p0.Bib) Z) (oR Z (zD Z Z zq Z zF) (oL Z (ai.ldB (j:=0) Z Z Z zK (v:=jV p1.Bib) Z) (bnK hm fun aj ba br=>zM 0 Z Z Z Z (zL Z Z Tryz.call95 (zC Z (zC Z zQ)) Z) ai (fun hs=>wCP p0.Time p1.Time aX φ hs ba) (.inr Z) ?_))))))))
 rintro az bv bF au bB be ⟨rfl,rfl⟩
 have bf:sW w φ az [.blk b6 59 B1,.blk b2 59 B0] au:=be
 refine bnK br fun ak bb bs=>zM 0 Z Z Z Z (zL Z Z Tryz.call95 (zC Z (zC Z zQ)) Z) bf (fun hs=>wCP p0.Bib p1.Bib au az hs bb) (.inr Z) ?_
 rintro aU bw bG aY bC bg ⟨rfl,rfl⟩
 have bi:sW w φ aU [.blk b6 59 B1,.blk b2 59 B0] aY:=bg
 refine ZF (pv:=[(0,jV aj),(1,jV ak)]) (zs:=[jV 0,jV 0]) (cs:=[jV aj,jV ak]) Z Z Z Z Z (wAN Z (wAN Z wAa)) zB zF Zs Z Z Z Z Z bi ?_
 intro aq aw bj
 have bk:sW w φ aU [.row (some ⟨aw,0,none⟩) 2 3 1 (nA KL.encI [aj,ak]),.blk b6 59 B1,.blk b2 59 B0] aq:=bj
 have q:=bk.freezeR (k:=0) (n:=[aj,ak].length) rfl (wAK (f:=KL.encI) (sz:=1) (fun _=>rfl) [aj,ak]) (by decide)
 obtain ⟨aV,bD,bu,bl⟩:=q
 have bm:sW w φ aV [.blk b6 59 B1,.blk b2 59 B0] aq:=bl
 refine bnK bs fun bI bd bt=>zM 0 Z Z Z Z (zL Z Z Tryz.call94 (zC Z zQ) Z) bm (fun hs=>wFd [aj,ak] (some ⟨aw,0,none⟩) 2 aq aV hs bu bd) (.inr Z) ?_
 rintro aW bz bH aZ bE bn ⟨rfl,rfl⟩
 have bp:sW w φ aW [.blk b6 59 B1,.blk b2 59 B0] aZ:=bn
 refine oA Z Z (eN (zP ?_))
 have hE:=nB bt;first | subst r | cases hE
 exact ⟨rfl,_,(zw rfl),aW,_,(bp.pick [] _ (by decide) rfl),rfl,rfl⟩
theorem wHJ (p0:wAA) (p1:wAA) (p2:List (Int × Int)) (aX:Nat) (au:Nat) (bC:Array MapEntry) (bD:Nat) (w:World) (φ:PHeap) (hS:St0 w φ []) (aV:Cl φ aX 0 [.map (some au)]) (aW:MpF φ au bC bD wMN wNy p2) {r:Int} (hm:wBO p0 p1 p2=some r):Gv Tryz.prog 96 [.agg #[jV p0.Bib,jV p0.Place,jV p0.Time],.agg #[jV p1.Bib,jV p1.Place,jV p1.Time],.pointer (some ⟨aX,0,none⟩)] w (wCM w [] φ (fun φ_ L_ v=>v=jV r/\L_=[])):=by
 unfold wBO at hm
 refine Gv.of Tryz.func96 Z Tryz.ntmps96 Tryz.results96 Z (sR gBl Z ?_)
 let B0:List Value:=[jV p0.Bib,jV p0.Place,jV p0.Time]
 refine Za (cs:=B0) rfl rfl rfl rfl rfl rfl (by rfl) hS ?_
 intro W1 b2 bm
 let B1:List Value:=[jV p1.Bib,jV p1.Place,jV p1.Time]
 refine Za (cs:=B1) rfl rfl rfl rfl rfl rfl (by rfl) bm ?_
 intro W5 b6 bv
 refine OKS.ra rfl rfl rfl rfl rfl rfl (eN (zG (Zb ZT [1,3,1,1,1,3,1,1,2,3,1,3,1,2,2,2,3] (fC0_7 (wVS (.fx 8 (.fx 13 (.fx 14 (.fx 15 (.fl 16 .nil) .stop) .stop) .stop) .stop))) (by kernel_rfl) ?_)))
 have ae:=bv.drew
 generalize hw_W10:({ W5 with drawn:=W5.drawn + 1 }:World)=bd at ae ⊢
 refine oL Z (ae.ldC (f:=0) aV (v:=.map (some au)) Z Z Tryz.isAgg177 Z) (oR Z (zD Z Z zq Z zF) (oL Z (ae.ldB (j:=0) Z Z Z zK (v:=jV p1.Bib) Z) (oL Z (ae.lookupF1 (mk:=wMN) (mv:=wNy) (a:=p1.Bib) (z:=0) aW Z Z Z (wDH Tryz.runUnderlying177) wMP Zs) (oL Z (ae.ldC (f:=0) aV (v:=.map (some au)) Z Z Tryz.isAgg177 Z) (oR Z (zD Z Z zq Z zF) (oL Z (ae.ldB (j:=1) Z Z Z zK (v:=jV p0.Bib) Z) (oL Z (ae.lookupF1 (mk:=wMN) (mv:=wNy) (a:=p0.Bib) (z:=0) aW Z Z Z (wDH Tryz.runUnderlying177) wMP Zs) (oR Z (zD Z Z zq Z zF) (oL Z (ae.ldB (j:=1) Z Z Z zK (v:=jV p0.Bib) Z) (oR Z (zD Z Z zq Z zF) (oL Z (ae.ldB (j:=0) Z Z Z zK (v:=jV p1.Bib) Z) (bnK hm fun aj bg bw=>zM 0 Z Z Z Z (zL Z Z Tryz.call95 (zC Z (zC Z zQ)) Z) ae (fun hs=>wCP (wCt p2 p1.Bib 0) (wCt p2 p0.Bib 0) bd φ hs bg) (.inr Z) ?_))))))))))))
 rintro aY bE bM aw bI bj ⟨rfl,rfl⟩
 have bk:sW w φ aY [.blk b6 59 B1,.blk b2 59 B0] aw:=bj
 refine bnK bw fun ak bh bz=>zM 0 Z Z Z Z (zL Z Z Tryz.call95 (zC Z (zC Z zQ)) Z) bk (fun hs=>wCP p0.Bib p1.Bib aw aY hs bh) (.inr Z) ?_
 rintro aZ bF bN be bJ bl ⟨rfl,rfl⟩
 have bn:sW w φ aZ [.blk b6 59 B1,.blk b2 59 B0] be:=bl
 refine ZF (pv:=[(0,jV aj),(1,jV ak)]) (zs:=[jV 0,jV 0]) (cs:=[jV aj,jV ak]) Z Z Z Z Z (wAN Z (wAN Z wAa)) zB zF Zs Z Z Z Z Z bn ?_
 intro av aU bp
 have bq:sW w φ aZ [.row (some ⟨aU,0,none⟩) 2 3 1 (nA KL.encI [aj,ak]),.blk b6 59 B1,.blk b2 59 B0] av:=bp
 have q:=bq.freezeR (k:=0) (n:=[aj,ak].length) rfl (wAK (f:=KL.encI) (sz:=1) (fun _=>rfl) [aj,ak]) (by decide)
 obtain ⟨ba,bK,bB,br⟩:=q
 have bs:sW w φ ba [.blk b6 59 B1,.blk b2 59 B0] av:=br
 refine bnK bz fun bP bi bA=>zM 0 Z Z Z Z (zL Z Z Tryz.call94 (zC Z zQ) Z) bs (fun hs=>wFd [aj,ak] (some ⟨aU,0,none⟩) 2 av ba hs bB bi) (.inr Z) ?_
 rintro bb bG bO bf bL bt ⟨rfl,rfl⟩
 have bu:sW w φ bb [.blk b6 59 B1,.blk b2 59 B0] bf:=bt
 refine oA Z Z (eN (zP ?_))
 have hE:=nB bA;first | subst r | cases hE
 exact ⟨rfl,_,(zw rfl),bb,_,(bu.pick [] _ (by decide) rfl),rfl,rfl⟩
theorem wFf (p0:wAL) (cP:Option Addr) (cS:Nat) (bA:Option Addr) (bB:Nat) (w:World) (φ:PHeap) (hS:St0 w φ []) (mf:Sl φ 1 cP cS p0.Rules.Classes.length (nA KL.encI p0.Rules.Classes)) (gb:SlR φ wFr bA bB p0.Teams) {r:(List wAA) × Int} (hm:wBV p0=some r):Gv Tryz.prog 20 [.agg #[.slice cP p0.Rules.Classes.length cS,jV p0.Rules.Each,jV p0.Rules.Laps,jV p0.Rules.Spare,jV p0.Rules.Loop,jV p0.Rules.Unused,jV p0.Start,.slice bA p0.Teams.length bB]] w (wCM w [] φ (fun φ_ L_ v=>∃ (A0:Option Addr) (c0:Nat),v=.tuple #[.slice A0 r.1.length c0,jV r.2]/\L_=[.row A0 c0 59 3 (nA wAE r.1)])):=by
 unfold wBV at hm
 refine Gv.of Tryz.func20 Z Tryz.ntmps20 Tryz.results20 Z (sR gBm Z ?_)
 let B0:List Value:=[.slice cP p0.Rules.Classes.length cS,jV p0.Rules.Each,jV p0.Rules.Laps,jV p0.Rules.Spare,jV p0.Rules.Loop,jV p0.Rules.Unused,jV p0.Start,.slice bA p0.Teams.length bB]
 refine Za (cs:=B0) rfl rfl rfl rfl rfl rfl (by rfl) hS ?_
 intro W1 b2 fQ
 refine oA Z Z (oA Z Z (eN (sR (.fl 0 (.fx 1 (wIz (.nil)) .stop)) Z (oL Z (fQ.ldBA (j:=0) Z Z Z Zt ZN (vs:=B0) Z Z) ?_))))
 have q:=bnd hm
 obtain ⟨⟨x5,x6⟩,h7,bZ⟩:=q
 try dsimp only at bZ
 refine zM 0 Z Z Z Z (zL Z Z Tryz.call85 (zC Z zQ) Z) fQ (fun hs=>wEy p0 cP cS bA bB W1 φ hs mf gb h7) (.inr Z) ?_
 rintro cY oH pK ct oe fM fL
 rcases x5 with _ | bd
 try dsimp only at bZ
 obtain ⟨rfl,rfl⟩:=fL
 have lh:sW w φ cY [.blk b2 27 B0] ct:=fM
 refine oM Z Z (oR Z (ZX Z Z (v:=.pointer none) Z) (oR Z (ZX Z Z (v:=jV x6) Z) (oA Z Z (oA Z Z (eN (zG (sR fL2 Z (oM Z Z (oR Z (Zq Z Z Z) (eN (ifc bZ ?_ ?_)))))))))))
 intro dp mC
 refine zu (ZI (fun h=>h dp.out)) (kN (sR gBv Z (oM Z Z ?_)))
 cases mC
 intro dp mD
 refine cT Z dp (sR fL3 Z (oM Z Z (oA Z Z (oA Z Z (eN (zP (zN ?_)))))))
 have lm:=lh.nilrow 59 3
 cases mD
 exact ⟨rfl,_,(wNX rfl rfl),cY,_,(lm.pick [0] _ (by decide) rfl),none,0,rfl,rfl⟩
 try dsimp only at bZ
 obtain ⟨bG,eG,fb,eH,fc,bP,bV,im,rfl,rfl,jh,ji,jk⟩:=fL
 let B1:Res:=.blk bG 179 [.slice eG bd.Race.Rules.Classes.length fb,jV bd.Race.Rules.Each,jV bd.Race.Rules.Laps,jV bd.Race.Rules.Spare,jV bd.Race.Rules.Loop,jV bd.Race.Rules.Unused,jV bd.Race.Start,.slice eH bd.Race.Teams.length fc,.slice bP bd.after.length bV]
 have fS:sW w φ cY [B1,.row bP bV 22 1 im,.blk b2 27 B0] ct:=fM
 refine oM Z Z (oR Z (ZX Z Z (v:=.pointer (some ⟨bG,0,none⟩)) Z) (oR Z (ZX Z Z (v:=jV x6) Z) (oA Z Z (oA Z Z (eN (zG (sR fL2 Z (oM Z Z (oR Z (Zq Z Z Z) (eN (ifc bZ ?_ ?_)))))))))))
 intro dq mK
 refine zu (ZI (fun h=>h dq.out)) (kN (sR gBv Z (oM Z Z ?_)))
 have q:=fS.freezeRR (R:=wGO) (k:=1) rfl jk rfl (by decide)
 obtain ⟨gF,dW,gg,lD⟩:=q
 have lE:sW w φ gF [B1,.blk b2 27 B0] ct:=lD
 have jv:=jh.le dW
 have jx:=ji.le dW
 refine bnK mK fun bn jz mR=>zM 1 Z Z Z Z (zL Z Z Tryz.call86 (zC Z zQ) Z) lE (fun hs=>wDp bd bG eG fb eH fc bP bV ct gF hs jv jx gg jz) (.inl Z) ?_
 rintro gG oO pM gZ gv lT ⟨cp,cw,cq,cy,ip,rfl,rfl,jH⟩
 let B2:Res:=.row cp cw 3 1 (nA KL.encI bn.Bibs)
 let B3:Res:=.row cq cy 22 1 ip
 have l6:sW w φ gG [B2,B3,B1,.blk b2 27 B0] gZ:=lT
 let B4:List Value:=[jV 0,.slice none 0 0,.slice none 0 0]
 refine ZD (cs:=B4) Z Z Z Z Z yK Z l6 ?_
 intro pf am l7
 let B5:List Value:=[jV bn.Laps,.slice cp bn.Bibs.length cw,.slice cq bn.Times.length cy]
 refine zx (j:=0) (vs:=B5) Z Z Z Z l7 Z Z Z Z ZS (zA Z) Z Z Z ?_
 intro cu l8
 have fY:sW w φ gG [.blk am 66 B5,B2,B3,B1,.blk b2 27 B0] cu:=l8
 refine eN (sR (.fl 0 (.fx 1 (wIz (.nil)) .stop)) Z (oL Z (fY.ldBA (j:=0) Z Z Z Zz ZS (vs:=B5) Z Z) ?_))
 have q:=fY.freezeR (k:=1) (n:=bn.Bibs.length) rfl (wAK (f:=KL.encI) (sz:=1) (fun _=>rfl) bn.Bibs) (by decide)
 obtain ⟨oG,dY,oa,ma⟩:=q
 have mb:sW w φ oG [.blk am 66 B5,B3,B1,.blk b2 27 B0] cu:=ma
 have jK:=jH.le dY
 have q:=mb.freezeRR (R:=wGO) (k:=1) rfl jK rfl (by decide)
 obtain ⟨gI,dZ,gh,mc⟩:=q
 have md:sW w φ gI [.blk am 66 B5,B1,.blk b2 27 B0] cu:=mc
 have fH:=oa.le dZ
 have q:=bnd mR
 obtain ⟨⟨x83,ox⟩,jL,gf⟩:=q
 try dsimp only at gf
 refine zM 0 Z Z Z Z (zL Z Z Tryz.call44 (zC Z zQ) Z) md (fun hs=>wFs bn cp cw cq cy cu gI hs fH gh jL) (.inr Z) ?_
 rintro gJ oW pP eY cO me ⟨cZ,dv,rfl,rfl⟩
 let B6:Res:=.row cZ dv 45 4 (nA wAS x83)
 have fZ:sW w φ gJ [B6,.blk am 66 B5,B1,.blk b2 27 B0] eY:=me
 refine oM Z Z (oR Z (ZX Z Z (v:=.slice cZ x83.length dv) Z) (oR Z (ZX Z Z (v:=jV ox) Z) (oA Z Z (oA Z Z (eN (sR (.fl 0 (.fx 1 (wIz (.nil)) .stop)) Z (oL Z (fZ.ldBA (j:=1) Z Z Z Zz ZS (vs:=B5) Z Z) ?_)))))))
 have jM:=fH.le cO
 have jN:=gh.le cO
 have q:=bnd gf
 obtain ⟨⟨bs,ou⟩,iW,gc⟩:=q
 try dsimp only at gc
 refine zM 0 Z Z Z Z (zL Z Z Tryz.call35 (zC Z zQ) Z) fZ (fun hs=>wFe bn cp cw cq cy eY gJ hs jM jN iW) (.inr Z) ?_
 rintro cW oI pJ gL gq jX ⟨bO,bU,rfl,rfl⟩
 let B7:Res:=.row bO bU 3 1 (nA KL.encI bs)
 have jY:sW w φ cW [B7,B6,.blk am 66 B5,B1,.blk b2 27 B0] gL:=jX
 refine oM Z Z (oR Z (ZX Z Z (v:=.slice bO bs.length bU) Z) (oR Z (ZX Z Z (v:=jV ou) Z) (oA Z Z (oA Z Z (eN (sR (.fx 0 (.fx 1 gBn .stop) .stop) Z (OKS.makeMap Z Z Z Z Z jY ?_)))))))
 intro oX au jZ
 have m8:=MpR.nil wHF wHe
 refine OKS.makeMap Z Z Z Z Z jZ ?_
 intro oY aZ j4
 have m9:=MpR.nil wMN wNy
 refine ZD (cs:=[.map none]) Z Z Z Z Z Tryz.zeroValue177 Z j4 ?_
 intro o0 az j5
 refine oA Z Z ?_
 let B8:List Value:=[.map (some aZ)]
 refine zx (j:=0) (vs:=B8) Z Z Z Z j5 Z Z Z Z Tryz.sizeOf177 (zA Z) Z Z Z ?_
 intro gM j6
 have j7:sW w φ cW [.blk az 177 B8,.obj aZ (.map #[] 0),.obj au (.map #[] 0),B7,B6,.blk am 66 B5,B1,.blk b2 27 B0] gM:=j6
 refine eN (zG (sR fL3 Z (oM Z Z (oR Z (zd Z Z Tryz.runUnderlying36) (oM Z Z (eN (zR (bnK gc fun pW mg mA=>?_))))))))
 have q:=wBU mg
 obtain ⟨dS,mh⟩:=q
 replace dS:=zH dS
 refine CK.forN' (fun bj gj σ_ w_=>∃ (φ_:PHeap) (cz:Array MapEntry) (dw:Nat),σ_ 44=jV (↑bj:Int)/\σ_ 1=.pointer (some ⟨b2,0,none⟩)/\σ_ 4=.pointer (some ⟨bG,0,none⟩)/\σ_ 6=.pointer (some ⟨am,0,none⟩)/\σ_ 9=.slice bO bs.length bU/\σ_ 11=.map (some au)/\σ_ 12=.pointer (some ⟨az,0,none⟩)/\σ_ 42=.slice cZ x83.length dv/\σ_ 43=jV (↑x83.length:Int)/\PHeap.Le cW φ_/\sW w φ φ_ [.blk az 177 B8,.obj aZ (.map #[] 0),.obj au (.map cz dw),.blk am 66 B5,B1,.blk b2 27 B0,B7,B6] w_/\MpR cz wHF wHe gj) mh ?_ ?_ ?_
 exact ⟨cW,#[],0,rfl,rfl,rfl,rfl,rfl,rfl,rfl,rfl,rfl,(zS _),(j7.pick [0,1,2,5,6,7,3,4] _ (by decide) rfl),m8⟩
 rintro bj gj pT pX o3 dP ⟨eh,cz,dw,dE,ir,it,iu,iv,ft,iw,fu,fw,og,dN,iX⟩ oc
 have e9:Hid ((↑bj:Int) < (↑x83.length:Int)):=zH (wBI dP)
 replace dP:=zH dP
 have mz:Hid (w64 ((↑bj:Int) + 1)=(↑(bj + 1):Int)):=zH (by have h1:=dS.out;have h2:=e9.out;rw [wAU] <;> omega)
 refine sR fL1 Z (oR Z (zU Z dE fw) (eN (zG (cT Z e9 (kN (zG (zR (sR gBu Z (bnK oc fun _ dF mB=>?_)))))))))
 obtain ⟨pg,fJ⟩:=dN.rowSome (j:=7) rfl (by rw [wAK (f:=wAS) (sz:=4) (fun _=>rfl) x83];have hz:=wAq dF;omega)
 refine oR Z (ZH Z fu fJ dE Tryz.runUnderlying36 ye (wAq dF)) ?_
 have mp:=wCH (xs:=x83) (wAq dF)
 let B9:List Value:=[jV ((gd x83 bj).Bib),jV ((gd x83 bj).Done),jV ((gd x83 bj).Time),jV ((gd x83 bj).By)]
 refine ZM rfl rfl rfl rfl (dN.ldRA (j:=7) rfl fJ rfl rfl Tryz.isAgg45 ye (vs:=B9) (wLd (sz:=4) (fun _=>rfl) _ _ _ mp (by first | omega | rfl | simp) rfl) rfl) rfl (ZD (cs:=[jV 0,jV 0,jV 0,jV 0]) rfl rfl rfl rfl rfl Tryz.zeroValue45 rfl dN ?_)
 intro o5 eZ j8
 refine zx (j:=0) (vs:=B9) Z Z Z Z j8 Z Z Z Z ye (zA Z) Z Z Z ?_
 intro gN j9
 have fN:sW w φ eh [.blk eZ 45 B9,.blk az 177 B8,.obj aZ (.map #[] 0),.obj au (.map cz dw),.blk am 66 B5,B1,.blk b2 27 B0,B7,B6] gN:=j9
 refine eN (rR (wDy (.fx 3 .nil .stop)) rfl (zf rfl rfl rfl rfl rfl ft (zj rfl rfl rfl rfl (fun _=>zD rfl rfl yP rfl zF) (ZM rfl rfl rfl rfl (fN.ldB (j:=0) rfl rfl rfl zK (v:=jV ((gd x83 bj).Bib)) rfl) rfl (OKS.mapPut (x:=.tmp 48) (y:=.tmp 50) (j:=3) (mk:=wHF) (mv:=wHe) (a:=(gd x83 bj).Bib) (v:=true) rfl rfl rfl (by first | exact .inl rfl | exact .inr rfl) fN rfl rfl rfl rfl (wDH yM) wIl iX rfl ?_)))))
 intro fq fm gO n5 k9
 have lc:sW w φ eh [.blk eZ 45 B9,.blk az 177 B8,.obj aZ (.map #[] 0),.obj au (.map fq fm),.blk am 66 B5,B1,.blk b2 27 B0,B7,B6] gO:=k9
 refine zn (ze (zI (rR fL2 Z (oR Z (ZC (zY Z dE Z) (congrArg (jV) mz.out)) (oM Z Z (zn ?_))))))
 cases mB
 exact zI ⟨rfl,⟨eh,fq,fm,rfl,ir,it,iu,iv,ft,iw,fu,fw,og,(lc.pick [1,2,3,4,5,6,7,8] _ (by decide) rfl),n5⟩⟩
 rintro pY o6 ⟨gE,aX,aW,iT,fy,iy,iz,iA,iB,iC,pm,iD,gu,fO,iY⟩
 have il:Hid (¬ ((↑(((↑x83.length:Int):Int) - 0).toNat:Int) < (↑x83.length:Int))):=zH (wAp)
 refine sR fL1 Z (oR Z (zU Z iT iD) (eN (zG (cF Z il (ZJ (zX (zX (ZB (zI (sR fL2 Z (oA Z Z (oA Z Z (eN (zG (sR fL4 Z (oR Z (zD Z fy zV Z ZL) (oL Z (fO.ldB (j:=5) Z Z Z Zh (v:=.slice bA p0.Teams.length bB) Z) (oR Z (zd Z Z zt) (oM Z Z (eN (zR ?_)))))))))))))))))))))
 have q:=bnd mA
 obtain ⟨⟨d8,ci,d9⟩,mi,ge⟩:=q
 try dsimp only at ge
 have q:=wBU mi
 obtain ⟨dT,mj⟩:=q
 replace dT:=zH dT
 refine CK.forN' (fun bk (gm,bM,bz) σ_ w_=>∃ (φ_:PHeap) (cA:Array MapEntry) (dx:Nat) (bt:Option Addr) (bv:Nat) (bD:Option Addr) (bH:Nat),σ_ 55=jV (↑bk:Int)/\σ_ 1=.pointer (some ⟨b2,0,none⟩)/\σ_ 4=.pointer (some ⟨bG,0,none⟩)/\σ_ 6=.pointer (some ⟨am,0,none⟩)/\σ_ 9=.slice bO bs.length bU/\σ_ 11=.map (some au)/\σ_ 12=.pointer (some ⟨az,0,none⟩)/\σ_ 15=.slice bt bM.length bv/\σ_ 16=.slice bD bz.length bH/\σ_ 53=.slice bA p0.Teams.length bB/\σ_ 54=jV (↑p0.Teams.length:Int)/\PHeap.Le gE φ_/\sW w φ φ_ [.blk az 177 B8,.obj aZ (.map cA dx),.obj au (.map aX aW),.blk am 66 B5,B1,.blk b2 27 B0,B7,.row bt bv 59 3 (nA wAE bM),.row bD bH 59 3 (nA wAE bz)] w_/\MpR cA wMN wNy gm) mj ?_ ?_ ?_
 have li:=fO.nilrow 59 3
 have lj:=li.nilrow 59 3
 exact ⟨gE,#[],0,none,0,none,0,rfl,fy,iy,iz,iA,iB,iC,rfl,rfl,rfl,rfl,(zS _),(lj.pick [2,3,4,5,6,7,8,1,0] _ (by decide) rfl),m9⟩
 rintro bk ⟨gm,bM,bz⟩ pU pZ o7 dQ ⟨be,cA,dx,bt,bv,bD,bH,bJ,dz,cC,cD,cE,cG,cH,dA,dB,cI,cJ,b5,fP,iZ⟩ gi
 try dsimp only at gi
 have fd:Hid ((↑bk:Int) < (↑p0.Teams.length:Int)):=zH (wBI dQ)
 replace dQ:=zH dQ
 have dO:Hid (w64 ((↑bk:Int) + 1)=(↑(bk + 1):Int)):=zH (by have h1:=dT.out;have h2:=fd.out;rw [wAU] <;> omega)
 refine sR fL1 Z (oR Z (zU Z bJ cJ) (eN (zG (cT Z fd (kN (zG (zR (sR (wDy (.fx 3 (.fl 4 (.fx 5 .nil .stop)) .stop)) Z (oM Z bJ (bnK gi fun ap fE mE=>?_))))))))))
 have i6:=gb.le oe
 have i7:=i6.le dW
 have i8:=i7.le gv
 have i9:=i8.le dY
 have ja:=i9.le dZ
 have jb:=ja.le cO
 have jc:=jb.le gq
 have jd:=jc.le gu
 have je:=jd.le b5
 have q:=je.el (wAZ fE)
 obtain ⟨ic,om,pQ,jO,dK,n7⟩:=q
 obtain ⟨cQ,cU,cR,cV,rfl,jf,jg⟩:=n7
 replace dK:Cl be ic (om + bk * 3) [jV ap.Bib,.slice cQ ap.Classes.length cU,.slice cR ap.Legs.length cV]:=dK
 refine oR Z (ZH Z cI jO bJ zt zy (wBT fE)) (oL Z (fP.ldCA (f:=0) dK Z Z Zy zy (us:=[jV ap.Bib,.slice cQ ap.Classes.length cU,.slice cR ap.Legs.length cV]) Z Z) (ZD (cs:=B4) Z Z Z Z Z Zi Z fP ?_))
 intro o8 bl ln
 refine oA Z Z ?_
 let bf:List Value:=[jV ap.Bib,.slice cQ ap.Classes.length cU,.slice cR ap.Legs.length cV]
 refine zx (j:=0) (vs:=bf) Z Z Z Z ln Z Z Z Z zy (zA Z) Z Z Z ?_
 intro dg lq
 let bq:Res:=.row bt bv 59 3 (nA wAE bM)
 let bu:Res:=.row bD bH 59 3 (nA wAE bz)
 have ls:sW w φ be [.blk bl 73 bf,.blk az 177 B8,.obj aZ (.map cA dx),.obj au (.map aX aW),.blk am 66 B5,B1,.blk b2 27 B0,B7,bq,bu] dg:=lq
 refine eN (zG (Zb ZT [1,3,1,3,3,3,1,0] (wRo (.fx 7 .nil .stop)) (by kernel_rfl) ?_))
 have bL:=ls.drew
 generalize hw_W325:({ dg with drawn:=dg.drawn + 1 }:World)=o9 at bL ⊢
 refine oL Z (bL.ldB (j:=1) Z Z cH Tryz.isAgg177 (v:=.map (some aZ)) Z) (oR Z (zD Z Z zZ Z zF) (oL Z (bL.ldB (j:=0) Z Z Z zK (v:=jV ap.Bib) Z) (oM Z cE (oM Z Z (bnK mE fun _ dG mF=>?_)))))
 obtain ⟨ph,fK⟩:=bL.rowSome (j:=7) rfl (by rw [wAK (f:=KL.encI) (sz:=1) (fun _=>rfl) bs];have hz:=wAq dG;omega)
 refine oR Z (ZH Z Z fK Z zB zF (wAq dG)) ?_
 have mq:=wCH (xs:=bs) (wAq dG)
 refine ZM rfl rfl rfl rfl (bL.ldR (j:=7) rfl fK rfl rfl zK (wAo (sz:=1) (fun _=>rfl) _ _ 0 _ mq (by first | omega | rfl | simp) rfl)) rfl (OKS.mapPut (x:=.tmp 60) (y:=.tmp 62) (z:=.tmp 66) (j:=2) (mk:=wMN) (mv:=wNy) (a:=ap.Bib) (v:=(gd bs bk)) rfl rfl rfl (by first | exact .inl rfl | exact .inr rfl) bL rfl rfl rfl rfl (wDH Tryz.runUnderlying177) wMP iZ rfl ?_)
 intro bh bg dh dV lu
 have lv:sW w φ be [.blk bl 73 bf,.blk az 177 B8,.obj aZ (.map bh bg),.obj au (.map aX aW),.blk am 66 B5,B1,.blk b2 27 B0,B7,bq,bu] dh:=lu
 refine eN (zG (zG (Zb ZT [3,3,1,1,3,3,3,3,1,3,3,1,3,3,1,3,3] fL17 (by kernel_rfl) ?_)))
 have bi:=lv.drew
 generalize hw_W338:({ dh with drawn:=dh.drawn + 1 }:World)=eW at bi ⊢
 refine oM Z cG (oR Z (zD Z Z zZ Z zF) (oL Z (bi.ldB (j:=0) Z Z Z zK (v:=jV ap.Bib) Z) (oL Z (bi.lookup1 (j:=3) (mk:=wHF) (mv:=wHe) (a:=ap.Bib) (z:=false) Z Z Z Z (wDH yM) wIl Tryz.zeroValue4 iY) (oM Z Z (ifc mF ?_ ?_)))))
 intro aU mG
 refine zJ Z Z Z (zr Z Z (congrArg nD aU.out) Z) (zJ Z Z Z (zr Z Z (congrArg nD aU.out) Z) (zJ Z Z Z (zr Z Z (congrArg nD aU.out) Z) (zJ Z Z Z (zr Z Z (congrArg nD aU.out) Z) (zJ Z Z Z (zr Z Z (congrArg nD aU.out) Z) (zJ Z Z Z (zr Z Z (congrArg nD aU.out) Z) (zJ Z Z Z (zr Z Z (congrArg nD aU.out) Z) (zJ Z Z Z (zr Z Z (congrArg nD aU.out) Z) (zJ Z Z Z (zr Z Z (congrArg nD aU.out) Z) (zJ Z Z Z (zr Z Z (congrArg nD aU.out) Z) (zJ Z Z Z (zr Z Z (congrArg nD aU.out) Z) (oR Z (zh Z (congrArg nD aU.out) Z) (eN (ZG Z (sR (wHQ gBo) Z (oM Z dB (oR Z (zD Z Z zZ Z zF) (oL Z (bi.ldB (j:=0) Z Z Z zK (v:=jV ap.Bib) Z) ?_)))))))))))))))))
 let da:List Value:=[jV ap.Bib,jV 0,jV 0]
 let eP:List Value:=[jV 0,jV 0,jV 0]
 refine oR Z (Zd (pv:=[(0,jV ap.Bib)]) (z:=eP) (cs:=da) Z (wAN Z wAa) yL wKK Z Z) (ZF (pv:=[(0,.agg da.toArray)]) (zs:=eP) (cs:=da) Z Z Z Z Z (wAN Z wAa) ZA ZV yL Z Z Z Z Z bi ?_)
 intro gP ie lw
 let eQ:Res:=.row (some ⟨ie,0,none⟩) 1 59 3 (nA wAE [(⟨ap.Bib,0,0⟩:wAA)])
 have fR:sW w φ be [eQ,.blk bl 73 bf,.blk az 177 B8,.obj aZ (.map bh bg),.obj au (.map aX aW),.blk am 66 B5,B1,.blk b2 27 B0,B7,bq,bu] gP:=lw
 refine bnK mG fun x346 jj mH=>Zu (j:=10) (enc:=wAE) (xs:=bz) (ys:=[(⟨ap.Bib,0,0⟩:wAA)]) (zs:=x346) rfl rfl rfl rfl rfl Tryz.underlying51 wNG rfl rfl rfl rfl rfl rfl fR rfl rfl rfl (fR.srcR (j:=0) rfl (by decide) (wAK (f:=wAE) (sz:=3) (fun _=>rfl) [(⟨ap.Bib,0,0⟩:wAA)])) (fun _=>rfl) (fun _=>rfl) jj rfl ?_
 intro eI fe gQ lx
 have ly:sW w φ be [eQ,.blk bl 73 bf,.blk az 177 B8,.obj aZ (.map bh bg),.obj au (.map aX aW),.blk am 66 B5,B1,.blk b2 27 B0,B7,bq,.row eI fe 59 3 (nA wAE x346)] gQ:=lx
 refine oA Z Z (eN (ZJ (zX (ZB (zI (rR fL2 Z (oR Z (ZC (zY Z bJ Z) (congrArg (jV) dO.out)) (oM Z Z (zn ?_)))))))))
 cases mH
 exact zI ⟨rfl,⟨be,bh,bg,bt,bv,eI,fe,rfl,dz,cC,cD,cE,cG,cH,dA,rfl,cI,cJ,b5,(ly.pick [2,3,4,5,6,7,8,9,10] _ (by decide) rfl),dV⟩⟩
 intro aU mI
 refine zf Z Z Z (zO Z Z (congrArg nD (nE.2 aU.out))) Z cC (zj Z Z Z (zO Z Z (congrArg nD (nE.2 aU.out))) (fun _=>ZQ Z Z) (zj Z Z Z (zO Z Z (congrArg nD (nE.2 aU.out))) (fun _=>zD Z Z Zm Z Zn) (ZM Z Z Z (zO Z Z (congrArg nD (nE.2 aU.out))) (bi.ldB (j:=5) Z Z Z Zv (v:=.slice bP bd.after.length bV) Z) Z (zf Z Z Z (zO Z Z (congrArg nD (nE.2 aU.out))) Z Z (bnK mI fun x364 cL mJ=>?_)))))
 have jl:=gg.le gv
 have jm:=jl.le dY
 have jo:=jm.le dZ
 have jp:=jo.le cO
 have jq:=jp.le gq
 have jr:=jq.le gu
 have fG:=jr.le b5
 have q:=fG.el (wAZ cL)
 obtain ⟨ig,oq,pR,jP,dL,n8⟩:=q
 obtain ⟨gw,gy,rfl,pz⟩:=n8
 replace dL:Cl be ig (oq + bk * 1) [.slice gw x364.length gy]:=dL
 refine zj Z Z Z (zO Z Z (congrArg nD (nE.2 aU.out))) (fun _=>ZH Z Z jP Z ZO zW (wBT cL)) (ZM Z Z Z (zO Z Z (congrArg nD (nE.2 aU.out))) (bi.ldC (f:=0) dL (v:=.slice gw x364.length gy) Z Z zm Z) Z (zj Z Z Z (zO Z Z (congrArg nD (nE.2 aU.out))) (fun _=>zd Z Z zB) (zj Z Z Z (zO Z Z (congrArg nD (nE.2 aU.out))) (fun _=>zD Z cD zo Z zF) (ZM Z Z Z (zO Z Z (congrArg nD (nE.2 aU.out))) (bi.ldB (j:=4) Z Z Z zK (v:=jV bn.Laps) Z) Z (zj Z Z Z (zO Z Z (congrArg nD (nE.2 aU.out))) (fun _=>zU Z Z Z) (oR Z (zk Z (congrArg nD (nE.2 aU.out)) Z) (eN (ifc mJ ?_ ?_))))))))
 intro dr mL
 refine cT Z dr (sR (wHQ gBo) Z (oM Z dB (oR Z (zD Z Z zZ Z zF) (oL Z (bi.ldB (j:=0) Z Z Z zK (v:=jV ap.Bib) Z) ?_))))
 let db:List Value:=[jV ap.Bib,jV 0,jV 0]
 let eR:List Value:=[jV 0,jV 0,jV 0]
 refine oR Z (Zd (pv:=[(0,jV ap.Bib)]) (z:=eR) (cs:=db) Z (wAN Z wAa) yL wKK Z Z) (ZF (pv:=[(0,.agg db.toArray)]) (zs:=eR) (cs:=db) Z Z Z Z Z (wAN Z wAa) ZA ZV yL Z Z Z Z Z bi ?_)
 intro gR ii lz
 let eS:Res:=.row (some ⟨ii,0,none⟩) 1 59 3 (nA wAE [(⟨ap.Bib,0,0⟩:wAA)])
 have fT:sW w φ be [eS,.blk bl 73 bf,.blk az 177 B8,.obj aZ (.map bh bg),.obj au (.map aX aW),.blk am 66 B5,B1,.blk b2 27 B0,B7,bq,bu] gR:=lz
 refine bnK mL fun gA jt mM=>Zu (j:=10) (enc:=wAE) (xs:=bz) (ys:=[(⟨ap.Bib,0,0⟩:wAA)]) (zs:=gA) rfl rfl rfl rfl rfl Tryz.underlying51 wNG rfl rfl rfl rfl rfl rfl fT rfl rfl rfl (fT.srcR (j:=0) rfl (by decide) (wAK (f:=wAE) (sz:=3) (fun _=>rfl) [(⟨ap.Bib,0,0⟩:wAA)])) (fun _=>rfl) (fun _=>rfl) jt rfl ?_
 intro eJ ff gS lA
 have lB:sW w φ be [eS,.blk bl 73 bf,.blk az 177 B8,.obj aZ (.map bh bg),.obj au (.map aX aW),.blk am 66 B5,B1,.blk b2 27 B0,B7,bq,.row eJ ff 59 3 (nA wAE gA)] gS:=lA
 refine oA Z Z (eN (ZJ (zX (ZB (zI (rR fL2 Z (oR Z (ZC (zY Z bJ Z) (congrArg (jV) dO.out)) (oM Z Z (zn ?_)))))))))
 cases mM
 exact zI ⟨rfl,⟨be,bh,bg,bt,bv,eJ,ff,rfl,dz,cC,cD,cE,cG,cH,dA,rfl,cI,cJ,b5,(lB.pick [2,3,4,5,6,7,8,9,10] _ (by decide) rfl),dV⟩⟩
 intro dr mN
 refine cF Z dr (kN (yH fun bb ba=>?_))
 have fz:bb 1=.pointer (some ⟨b2,0,none⟩):=(ba 1).trans dz
 have fA:bb 4=.pointer (some ⟨bG,0,none⟩):=(ba 4).trans cC
 have fB:bb 6=.pointer (some ⟨am,0,none⟩):=(ba 6).trans cD
 have iE:bb 9=.slice bO bs.length bU:=(ba 9).trans cE
 have iF:bb 11=.map (some au):=(ba 11).trans cG
 have iG:bb 12=.pointer (some ⟨az,0,none⟩):=(ba 12).trans cH
 have iH:bb 15=.slice bt bM.length bv:=(ba 15).trans dA
 have iI:bb 16=.slice bD bz.length bH:=(ba 16).trans dB
 have iJ:bb 17=jV (↑bk:Int):=(ba 17).trans rfl
 have fC:bb 18=.pointer (some ⟨bl,0,none⟩):=(ba 18).trans rfl
 have iK:bb 53=.slice bA p0.Teams.length bB:=(ba 53).trans cI
 have iL:bb 54=jV (↑p0.Teams.length:Int):=(ba 54).trans cJ
 have iM:bb 55=jV (↑bk:Int):=(ba 55).trans bJ
 clear ba
 refine Zb ZT [3,3,1,3,3,3,1,3,3,1,3,1,3,3,1,1,2,3,3,1,3,3,3,2,0,3] (wVM (wTw (.fx 16 (wTx (.fx 23 (.fx 24 (.fl 25 .nil) .stop) .stop)) .stop))) (by kernel_rfl) ?_
 have bp:=bi.drew
 generalize hw_W424:({ eW with drawn:=eW.drawn + 1 }:World)=gT at bp ⊢
 refine oM Z iH (oR Z (zD Z fC zZ Z zF) (oL Z (bp.ldB (j:=0) Z Z Z zK (v:=jV ap.Bib) Z) (oM Z fA (oR Z (ZQ Z Z) (oR Z (zD Z Z Zm Z Zn) (oL Z (bp.ldB (j:=5) Z Z Z Zv (v:=.slice bP bd.after.length bV) Z) (oM Z iJ ?_)))))))
 have q:=fG.el (wAZ cL)
 obtain ⟨ij,ot,pS,jQ,dM,n9⟩:=q
 obtain ⟨gx,gz,rfl,ju⟩:=n9
 replace dM:Cl be ij (ot + bk * 1) [.slice gx x364.length gz]:=dM
 refine oR Z (ZH Z Z jQ Z ZO zW (wBT cL)) (oL Z (bp.ldC (f:=0) dM (v:=.slice gx x364.length gz) Z Z zm Z) (oR Z (zD Z fB zo Z zF) (oL Z (bp.ldB (j:=4) Z Z Z zK (v:=jV bn.Laps) Z) (oR Z (Zo Z Z Z) (bnK mN fun bN dH mO=>?_)))))
 have q:=ju.el (fun _=>rfl) (wAZ dH)
 obtain ⟨pi,pI,jR,jS⟩:=q
 refine oR Z (Zj Z Z jR Z zB zF (wDO dH) (wDV dH)) (oL Z (bp.ldC (f:=0) jS (v:=jV bN) Z Z zK Z) (oL Z (bp.ldBA (j:=0) Z Z fC Zy zy (vs:=bf) Z Z) (oR Z (zD Z fz zV Z ZY) (oR Z (zD Z Z ZE Z zF) (oL Z (bp.ldB (j:=6) Z Z Z zK (v:=jV p0.Rules.Unused) Z) (bnK mO fun cd jw mP=>zM 0 Z Z Z Z (zL Z Z Tryz.call91 (zC Z zQ) Z) bp (fun hs=>wGU ap cQ cU cR cV gT be hs jf jg jw) (.inr Z) ?_))))))
 rintro cX oK pL gU oh lF ⟨rfl,rfl⟩
 have lG:sW w φ cX [.blk bl 73 bf,.blk az 177 B8,.obj aZ (.map bh bg),.obj au (.map aX aW),.blk am 66 B5,B1,.blk b2 27 B0,B7,bq,bu] gU:=lF
 refine oR Z (Runs.mulw Z Z Z) (oR Z (zY Z Z Z) ?_)
 let de:List Value:=[jV ap.Bib,jV 0,jV (w64 (bN + (w64 (cd * p0.Rules.Unused))))]
 let eU:List Value:=[jV 0,jV 0,jV 0]
 refine oR Z (Zd (pv:=[(0,jV ap.Bib),(2,jV (w64 (bN + (w64 (cd * p0.Rules.Unused)))))]) (z:=eU) (cs:=de) Z (wAN Z (wAN Z wAa)) yL wKK Z Z) (ZF (pv:=[(0,.agg de.toArray)]) (zs:=eU) (cs:=de) Z Z Z Z Z (wAN Z wAa) ZA ZV yL Z Z Z Z Z lG ?_)
 intro gW ik lH
 let eV:Res:=.row (some ⟨ik,0,none⟩) 1 59 3 (nA wAE [(⟨ap.Bib,0,w64 (bN + (w64 (cd * p0.Rules.Unused)))⟩:wAA)])
 have fU:sW w φ cX [eV,.blk bl 73 bf,.blk az 177 B8,.obj aZ (.map bh bg),.obj au (.map aX aW),.blk am 66 B5,B1,.blk b2 27 B0,B7,bq,bu] gW:=lH
 refine bnK mP fun gB jy mQ=>Zu (j:=9) (enc:=wAE) (xs:=bM) (ys:=[(⟨ap.Bib,0,w64 (bN + (w64 (cd * p0.Rules.Unused)))⟩:wAA)]) (zs:=gB) rfl rfl rfl rfl rfl Tryz.underlying51 wNG rfl rfl rfl rfl rfl rfl fU rfl rfl rfl (fU.srcR (j:=0) rfl (by decide) (wAK (f:=wAE) (sz:=3) (fun _=>rfl) [(⟨ap.Bib,0,w64 (bN + (w64 (cd * p0.Rules.Unused)))⟩:wAA)])) (fun _=>rfl) (fun _=>rfl) jy rfl ?_
 intro eK fg gX lI
 have lJ:sW w φ cX [eV,.blk bl 73 bf,.blk az 177 B8,.obj aZ (.map bh bg),.obj au (.map aX aW),.blk am 66 B5,B1,.blk b2 27 B0,B7,.row eK fg 59 3 (nA wAE gB),bu] gX:=lI
 refine oA Z Z (zn (ze (zI (rR fL2 Z (oR Z (ZC (zY Z iM Z) (congrArg (jV) dO.out)) (oM Z Z (zn ?_)))))))
 cases mQ
 exact zI ⟨rfl,⟨cX,bh,bg,eK,fg,bD,bH,rfl,fz,fA,fB,iE,iF,iG,rfl,iI,iK,iL,(b5.trans oh),(lJ.pick [2,3,4,5,6,7,8,9,10] _ (by decide) rfl),dV⟩⟩
 rintro p6 eX ⟨eu,dy,dt,aq,av,bE,bI,iU,pn,po,pp,pq,pu,iN,dC,fD,py,iO,pD,lK,jA⟩
 have io:Hid (¬ ((↑(((↑p0.Teams.length:Int):Int) - 0).toNat:Int) < (↑p0.Teams.length:Int))):=zH (wAp)
 refine sR fL1 Z (oR Z (zU Z iU iO) (eN (zG (cF Z io (ZJ (zX (zX (ZB (zI (sR gBe Z (oM Z dC ?_)))))))))))
 have jU:FnOK Tryz.prog eu (.func (.func 93) #[] #[]) wTU wTV (fun x=>wBN x.1 x.2):=⟨93,[],[],rfl,Tryz.call93,fun ef w1 x y vs le hs ha hm=>by obtain rfl:=ha;exact wHI x.1 x.2 w1 ef hs  hm⟩
 refine bnK ge fun bC jB mS=>?_
 let bQ:Res:=.row bE bI 59 3 (nA wAE d9)
 have lL:sW w φ eu [.row aq av 59 3 (nA wAE ci),.blk az 177 B8,.obj aZ (.map dy dt),.obj au (.map aX aW),.blk am 66 B5,B1,.blk b2 27 B0,B7,bQ] eX:=lK.pick [7,0,1,2,3,4,5,6,8] _ (by decide) rfl
 refine zM 1 Z Z Z Z (zL Z Z Tryz.call92 (zC Z (zC Z zQ)) Z) lL (fun hs=>wBe ci aq av (fun x=>wBN x.1 x.2) (.func (.func 93) #[] #[]) eX eu hs jU ⟨_,_,Z⟩ jB) (.inl Z) ?_
 rintro oz oP pN bT pE lM ⟨rfl,rfl,dI⟩
 let bR:Res:=.row aq av 59 3 (nA wAE bC)
 have lN:sW w φ oz [bR,.blk az 177 B8,.obj aZ (.map dy dt),.obj au (.map aX aW),.blk am 66 B5,B1,.blk b2 27 B0,B7,bQ] bT:=lM
 refine eN (sR gBk Z (oM Z fD ?_))
 have q:=lN.freezeM (k:=2) rfl jA
 obtain ⟨oB,pF,ml,lP⟩:=q
 have lQ:sW w φ oB [bR,.blk az 177 B8,.obj au (.map aX aW),.blk am 66 B5,B1,.blk b2 27 B0,B7,bQ] bT:=lP
 have q:=lQ.freeze (k:=1) rfl
 obtain ⟨cj,oj,bY,lO⟩:=q
 replace bY:=Cl.of bY
 have lR:sW w φ cj [bR,.obj au (.map aX aW),.blk am 66 B5,B1,.blk b2 27 B0,B7,bQ] bT:=lO
 replace bY:Cl cj az 0 B8:=bY
 refine oR Z (yc Z zQ (zC iN zQ)) ?_
 have jC:=ml.le oj
 have jW:FnOK Tryz.prog cj (.func (.func 96) #[] #[.pointer (some ⟨az,0,none⟩)]) wTU wTV (fun x=>wBO x.1 x.2 d8):=⟨96,[],[.pointer (some ⟨az,0,none⟩)],rfl,Tryz.call96,fun ef w1 x y vs le hs ha hm=>by obtain rfl:=ha;exact wHJ x.1 x.2 d8 az aZ dy dt w1 ef hs (bY.le le) (jC.le le) hm⟩
 refine bnK mS fun cg jD mT=>?_
 have lS:sW w φ cj [bQ,bR,.obj au (.map aX aW),.blk am 66 B5,B1,.blk b2 27 B0,B7] bT:=lR.pick [6,0,1,2,3,4,5] _ (by decide) rfl
 refine zM 1 Z Z Z Z (zL Z Z Tryz.call92 (zC Z (zC Z zQ)) Z) lS (fun hs=>wBe d9 bE bI (fun x=>wBO x.1 x.2 d8) (.func (.func 96) #[] #[.pointer (some ⟨az,0,none⟩)]) bT cj hs jW ⟨_,_,Z⟩ jD) (.inl Z) ?_
 rintro eC oU pO g8 pG lU ⟨rfl,rfl,jE⟩
 let bS:Res:=.row bE bI 59 3 (nA wAE cg)
 have lV:sW w φ eC [bS,bR,.obj au (.map aX aW),.blk am 66 B5,B1,.blk b2 27 B0,B7] g8:=lU
 refine eN (zG (sR fL3 rfl (zf rfl rfl rfl rfl rfl (nM (b:=(.slice aq ci.length av:Value)) (c:=(.slice aq bC.length av:Value)) dC (by rw [dI])) (zj rfl rfl rfl rfl (fun _=>zd rfl rfl ZA) (zf rfl rfl rfl rfl rfl rfl (eN (zR (bnK mT fun oy mn mU=>?_))))))))
 have q:=wBU mn
 obtain ⟨dU,mo⟩:=q
 replace dU:=zH dU
 refine CK.forN' (fun aa ab σ_ w_=>∃ (φ_:PHeap),σ_ 123=jV (↑aa:Int)/\σ_ 15=.slice aq ab.length av/\σ_ 16=.slice bE cg.length bI/\σ_ 122=jV (↑bC.length:Int)/\PHeap.Le eC φ_/\sW w φ φ_ [.obj au (.map aX aW),.blk am 66 B5,B1,.blk b2 27 B0,.row aq av 59 3 (nA wAE ab),bS] w_/\ab.length=ci.length) mo ?_ ?_ ?_
 exact ⟨eC,rfl,(nM (b:=(.slice aq ci.length av:Value)) (c:=(.slice aq bC.length av:Value)) dC (by rw [dI])),(nM (b:=(.slice bE d9.length bI:Value)) (c:=(.slice bE cg.length bI:Value)) fD (by rw [jE])),rfl,(zS _),(lV.pick [2,3,4,5,1,0] _ (by decide) rfl),dI⟩
 rintro aa ab pV p7 pa dR ⟨cm,bW,br,dD,cK,dX,fV,dJ⟩ od
 have fh:Hid ((↑aa:Int) < (↑bC.length:Int)):=zH (wBI dR)
 replace dR:=zH dR
 have cN:Hid (w64 ((↑aa:Int) + 1)=(↑(aa + 1):Int)):=zH (by have h1:=dU.out;have h2:=fh.out;rw [wAU] <;> omega)
 refine sR fL1 Z (oR Z (zU Z bW cK) (eN (zG (cT Z fh (kN (zG (zR (sR fL2 Z (oM Z bW (oA Z Z (eN (sR (wMe (.fx 6 .nil .stop)) Z (oM Z br (oM Z Z (oM Z Z (oR Z (ZC (zY Z Z Z) (congrArg (jV) cN.out)) (bnK od fun _ cM mV=>?_)))))))))))))))))
 obtain ⟨pj,bm⟩:=fV.rowSome (j:=4) rfl (by rw [wAK (f:=wAE) (sz:=3) (fun _=>rfl) ab];have hz:=wAq cM;omega)
 refine oR Z (ZH Z Z bm Z ZA ZV (wAq cM)) (oR Z (zD Z Z zq Z zF) ?_)
 have mr:=wCH (xs:=ab) (wAq cM)
 refine OKS.stR (j:=4) (vs:=[jV (↑(aa + 1):Int)]) (cs':=nA wAE (nG ab aa (⟨(gd ab aa).Bib,(↑(aa + 1):Int),(gd ab aa).Time⟩:wAA))) rfl rfl rfl rfl fV rfl bm rfl rfl rfl zF (by rw [wAK (f:=wAE) (sz:=3) (fun _=>rfl)];have hz:=wAq cM;show _ + 1 <= _;first | omega | (simp only [nL];omega) | (simp only [nK,nI,nJ];omega)) rfl (wHA (sz:=3) (fo:=1) (fun _=>rfl) _ _ _ _ mr (by first | omega | (simp only [nL];omega) | (simp only [nK,nI,nJ];omega)) (zA rfl) rfl) rfl ?_
 intro dm lW
 have lX:sW w φ cm [.obj au (.map aX aW),.blk am 66 B5,B1,.blk b2 27 B0,.row aq av 59 3 (nA wAE (nG ab aa (⟨(gd ab aa).Bib,(↑(aa + 1):Int),(gd ab aa).Time⟩:wAA))),bS] dm:=lW
 refine eN (zG (Zb ZT [3,3,3,3,3,3,3,1,3,3,3,3,3,1,3,3] fL16 (by kernel_rfl) ?_))
 have bw:=lX.drew
 generalize hw_W581:({ dm with drawn:=dm.drawn + 1 }:World)=pb at bw ⊢
 refine oM Z Z (oR Z (yB Z Z Z) (oM Z Z (ifc mV ?_ ?_)))
 intro aw mW
 refine zf rfl rfl rfl (zO rfl rfl (Zk aw.out)) rfl (nM (b:=(.slice aq ab.length av:Value)) (c:=(.slice aq ((nG ab aa (⟨(gd ab aa).Bib,(↑(aa + 1):Int),(gd ab aa).Time⟩:wAA)).length) av:Value)) br (by simp only [nH])) (zf rfl rfl rfl (zO rfl rfl (Zk aw.out)) rfl rfl (bnK mW fun _ bX mX=>zj rfl rfl rfl (zO rfl rfl (Zk aw.out)) (fun _=>ZH rfl rfl bm rfl ZA ZV (wAq bX)) (zj rfl rfl rfl (zO rfl rfl (Zk aw.out)) (fun _=>zD rfl rfl zq rfl zF) ?_)))
 have ms:=wCH (xs:=(nG ab aa (⟨(gd ab aa).Bib,(↑(aa + 1):Int),(gd ab aa).Time⟩:wAA))) (wAq bX)
 refine ZM rfl rfl rfl (zO rfl rfl (Zk aw.out)) (bw.ldR (j:=4) rfl bm rfl rfl zK (wAo (sz:=3) (fun _=>rfl) _ _ 2 _ ms (by first | omega | rfl | simp) rfl)) rfl (zf rfl rfl rfl (zO rfl rfl (Zk aw.out)) rfl (nM (b:=(.slice aq ab.length av:Value)) (c:=(.slice aq ((nG ab aa (⟨(gd ab aa).Bib,(↑(aa + 1):Int),(gd ab aa).Time⟩:wAA)).length) av:Value)) br (by simp only [nH])) (zf rfl rfl rfl (zO rfl rfl (Zk aw.out)) rfl rfl (zj rfl rfl rfl (zO rfl rfl (Zk aw.out)) (fun _=>Zo rfl rfl rfl) (bnK mX fun _ bK mY=>zj rfl rfl rfl (zO rfl rfl (Zk aw.out)) (fun _=>Zj rfl rfl bm rfl ZA ZV (wEW bK) (wEX bK)) (zj rfl rfl rfl (zO rfl rfl (Zk aw.out)) (fun _=>zD rfl rfl zq rfl zF) ?_)))))
 have mu:=wCH (xs:=(nG ab aa (⟨(gd ab aa).Bib,(↑(aa + 1):Int),(gd ab aa).Time⟩:wAA))) (wAq bK)
 refine ZM rfl rfl rfl (zO rfl rfl (Zk aw.out)) (bw.ldR (j:=4) rfl bm rfl rfl zK (wAo (sz:=3) (fun _=>rfl) _ _ 2 _ mu (by first | omega | rfl | simp) rfl)) rfl (zj rfl rfl rfl (zO rfl rfl (Zk aw.out)) (fun _=>yQ rfl rfl rfl) (zj rfl rfl rfl rfl (fun _=>zh rfl (Zk aw.out) rfl) (eN (ifc mY ?_ ?_))))
 intro du mZ
 refine cT Z du (rR (fC0_9 (.fx 10 .nil .stop)) rfl (zf rfl rfl rfl rfl rfl (nM (b:=(.slice aq ab.length av:Value)) (c:=(.slice aq ((nG ab aa (⟨(gd ab aa).Bib,(↑(aa + 1):Int),(gd ab aa).Time⟩:wAA)).length) av:Value)) br (by simp only [nH])) (zf rfl rfl rfl rfl rfl rfl (zf rfl rfl rfl rfl rfl (nM (b:=(.slice aq ab.length av:Value)) (c:=(.slice aq ((nG ab aa (⟨(gd ab aa).Bib,(↑(aa + 1):Int),(gd ab aa).Time⟩:wAA)).length) av:Value)) br (by simp only [nH])) (zf rfl rfl rfl rfl rfl rfl (zj rfl rfl rfl rfl (fun _=>Zo rfl rfl rfl) (zj rfl rfl rfl rfl (fun _=>Zj rfl rfl bm rfl ZA ZV (wEW bK) (wEX bK)) (zj rfl rfl rfl rfl (fun _=>zD rfl rfl zq rfl zF) ?_))))))))
 have mw:=wCH (xs:=(nG ab aa (⟨(gd ab aa).Bib,(↑(aa + 1):Int),(gd ab aa).Time⟩:wAA))) (wAq bK)
 refine ZM rfl rfl rfl rfl (bw.ldR (j:=4) rfl bm rfl rfl zK (wAo (sz:=3) (fun _=>rfl) _ _ 1 _ mw (by first | omega | rfl | simp) rfl)) rfl (zj rfl rfl rfl rfl (fun _=>ZH rfl rfl bm rfl ZA ZV (wAq bX)) (zj rfl rfl rfl rfl (fun _=>zD rfl rfl zq rfl zF) ?_))
 have my:=wCH (xs:=(nG ab aa (⟨(gd ab aa).Bib,(↑(aa + 1):Int),(gd ab aa).Time⟩:wAA))) (wAq bX)
 refine OKS.stR (j:=4) (vs:=[jV ((gd (nG ab aa (⟨(gd ab aa).Bib,(↑(aa + 1):Int),(gd ab aa).Time⟩:wAA)) (w64 ((↑aa:Int) - 1)).toNat).Place)]) (cs':=nA wAE (nG (nG ab aa (⟨(gd ab aa).Bib,(↑(aa + 1):Int),(gd ab aa).Time⟩:wAA)) aa (⟨(gd (nG ab aa (⟨(gd ab aa).Bib,(↑(aa + 1):Int),(gd ab aa).Time⟩:wAA)) aa).Bib,(gd (nG ab aa (⟨(gd ab aa).Bib,(↑(aa + 1):Int),(gd ab aa).Time⟩:wAA)) (w64 ((↑aa:Int) - 1)).toNat).Place,(gd (nG ab aa (⟨(gd ab aa).Bib,(↑(aa + 1):Int),(gd ab aa).Time⟩:wAA)) aa).Time⟩:wAA))) rfl rfl rfl rfl bw rfl bm rfl rfl rfl zF (by rw [wAK (f:=wAE) (sz:=3) (fun _=>rfl)];have hz:=wAq bX;show _ + 1 <= _;first | omega | (simp only [nL];omega) | (simp only [nK,nI,nJ];omega)) rfl (wHA (sz:=3) (fo:=1) (fun _=>rfl) _ _ _ _ my (by first | omega | (simp only [nL];omega) | (simp only [nK,nI,nJ];omega)) (zA rfl) rfl) rfl ?_
 intro g9 lY
 have lZ:sW w φ cm [.obj au (.map aX aW),.blk am 66 B5,B1,.blk b2 27 B0,.row aq av 59 3 (nA wAE (nG (nG ab aa (⟨(gd ab aa).Bib,(↑(aa + 1):Int),(gd ab aa).Time⟩:wAA)) aa (⟨(gd (nG ab aa (⟨(gd ab aa).Bib,(↑(aa + 1):Int),(gd ab aa).Time⟩:wAA)) aa).Bib,(gd (nG ab aa (⟨(gd ab aa).Bib,(↑(aa + 1):Int),(gd ab aa).Time⟩:wAA)) (w64 ((↑aa:Int) - 1)).toNat).Place,(gd (nG ab aa (⟨(gd ab aa).Bib,(↑(aa + 1):Int),(gd ab aa).Time⟩:wAA)) aa).Time⟩:wAA))),bS] g9:=lY
 refine zn (ze (zI (rR fL2 Z (oR Z (ZC (zY Z bW Z) (congrArg (jV) cN.out)) (oM Z Z (zn ?_))))))
 cases mZ
 exact zI ⟨rfl,⟨cm,rfl,(nM (b:=(.slice aq ((nG ab aa (⟨(gd ab aa).Bib,(↑(aa + 1):Int),(gd ab aa).Time⟩:wAA)).length) av:Value)) (c:=(.slice aq ((nG (nG ab aa (⟨(gd ab aa).Bib,(↑(aa + 1):Int),(gd ab aa).Time⟩:wAA)) aa (⟨(gd (nG ab aa (⟨(gd ab aa).Bib,(↑(aa + 1):Int),(gd ab aa).Time⟩:wAA)) aa).Bib,(gd (nG ab aa (⟨(gd ab aa).Bib,(↑(aa + 1):Int),(gd ab aa).Time⟩:wAA)) (w64 ((↑aa:Int) - 1)).toNat).Place,(gd (nG ab aa (⟨(gd ab aa).Bib,(↑(aa + 1):Int),(gd ab aa).Time⟩:wAA)) aa).Time⟩:wAA)).length) av:Value)) (nM (b:=(.slice aq ab.length av:Value)) (c:=(.slice aq ((nG ab aa (⟨(gd ab aa).Bib,(↑(aa + 1):Int),(gd ab aa).Time⟩:wAA)).length) av:Value)) br (by simp only [nH])) (by simp only [nH])),dD,cK,dX,lZ,((nH.trans nH).trans dJ)⟩⟩
 intro du m4
 refine cF Z du (Zf (ze (zI (rR fL2 Z (oR Z (ZC (zY Z bW Z) (congrArg (jV) cN.out)) (oM Z Z (zn ?_)))))))
 cases m4
 exact zI ⟨rfl,⟨cm,rfl,(nM (b:=(.slice aq ab.length av:Value)) (c:=(.slice aq ((nG ab aa (⟨(gd ab aa).Bib,(↑(aa + 1):Int),(gd ab aa).Time⟩:wAA)).length) av:Value)) br (by simp only [nH])),dD,cK,dX,bw,(nH.trans dJ)⟩⟩
 intro aw m5
 refine oF Z aw (oF Z aw (oF Z aw (oF Z aw (oF Z aw (oF Z aw (oF Z aw (oF Z aw (oF Z aw (oF Z aw (oF Z aw (oF Z aw (oR Z (zk Z (ZI aw.out) Z) (eN (zu Z (Zf (ze (zI (rR fL2 Z (oR Z (ZC (zY Z bW Z) (congrArg (jV) cN.out)) (oM Z Z (zn ?_)))))))))))))))))))))
 cases m5
 exact zI ⟨rfl,⟨cm,rfl,(nM (b:=(.slice aq ab.length av:Value)) (c:=(.slice aq ((nG ab aa (⟨(gd ab aa).Bib,(↑(aa + 1):Int),(gd ab aa).Time⟩:wAA)).length) av:Value)) br (by simp only [nH])),dD,cK,dX,bw,(nH.trans dJ)⟩⟩
 rintro p8 pe ⟨gH,iV,iP,iQ,iR,pH,fW,pC⟩
 have iq:Hid (¬ ((↑(((↑bC.length:Int):Int) - 0).toNat:Int) < (↑bC.length:Int))):=zH (wAp)
 refine sR fL1 rfl (zj rfl rfl rfl rfl (fun _=>zU rfl iV iR) (eN (zG (cF Z iq (ZJ (zX (zX (ZB (zI (sR gBy rfl (zf rfl rfl rfl rfl rfl iP (zf rfl rfl rfl rfl rfl iQ (bnK mU fun gD jG m6=>Zu (j:=4) (enc:=wAE) (xs:=oy) (ys:=cg) (zs:=gD) rfl rfl rfl rfl rfl Tryz.underlying51 wNG rfl rfl rfl rfl rfl rfl fW rfl rfl rfl (fW.srcR (j:=5) rfl (by decide) (wAK (f:=wAE) (sz:=3) (fun _=>rfl) cg)) (fun _=>rfl) (fun _=>rfl) jG rfl ?_)))))))))))))
 intro eM fj ib l3
 have l4:sW w φ gH [.obj au (.map aX aW),.blk am 66 B5,B1,.blk b2 27 B0,.row eM fj 59 3 (nA wAE gD),bS] ib:=l3
 refine oA Z Z (oA Z Z (eN (zP ?_)))
 cases m6
 exact ⟨rfl,_,(wNX rfl rfl),gH,_,(l4.pick [4] _ (by decide) rfl),eM,fj,rfl,rfl⟩
 intro dq m7
 refine cT Z dq (sR fL3 Z (oM Z Z (oA Z Z (oA Z Z (eN (zP (zN ?_)))))))
 have l5:=fS.nilrow 59 3
 cases m7
 exact ⟨rfl,_,(wNX rfl rfl),cY,_,(l5.pick [0] _ (by decide) rfl),none,0,rfl,rfl⟩
end Go.Proofs.YtglpalgiipahjaaGreat
namespace Go.Proofs.YtglpalgiipahjaaGreat
open Go.KL
set_option maxHeartbeats 4000000
theorem wLK (p0:wAL) (aU:Option Addr) (aW:Nat) (aV:Option Addr) (aX:Nat) (w:World) (φ:PHeap) (hS:St0 w φ []) (cm:Sl φ 1 aU aW p0.Rules.Classes.length (nA KL.encI p0.Rules.Classes)) (cp:SlR φ wFr aV aX p0.Teams) {r:wAM × Int} (hm:wDI p0=some r):Gv Tryz.prog 25 [.agg #[.slice aU p0.Rules.Classes.length aW,jV p0.Rules.Each,jV p0.Rules.Laps,jV p0.Rules.Spare,jV p0.Rules.Loop,jV p0.Rules.Unused,jV p0.Start,.slice aV p0.Teams.length aX]] w (wCM w [] φ (fun φ_ L_ v=>∃ (bi:Option Addr) (bn:Nat) (bj:Option Addr) (bp:Nat) (bt:List Value),v=.tuple #[.agg #[jV r.1.Laps,.slice bi r.1.Bibs.length bn,.slice bj r.1.Times.length bp],jV r.2]/\L_=[.row bi bn 3 1 (nA KL.encI r.1.Bibs),.row bj bp 22 1 bt]/\RlL φ_ wGO r.1.Times bt)):=by
 unfold wDI at hm
 refine Gv.of Tryz.func25 Z Tryz.ntmps25 Tryz.results25 Z (sR gBl Z ?_)
 let B0:List Value:=[.slice aU p0.Rules.Classes.length aW,jV p0.Rules.Each,jV p0.Rules.Laps,jV p0.Rules.Spare,jV p0.Rules.Loop,jV p0.Rules.Unused,jV p0.Start,.slice aV p0.Teams.length aX]
 refine Za (cs:=B0) rfl rfl rfl rfl rfl rfl (by rfl) hS ?_
 intro W1 b2 bT
 let B1:List Value:=[jV 0,.slice none 0 0,.slice none 0 0]
 refine ZD (cs:=B1) Z Z Z Z Z yK Z bT ?_
 intro W5 b6 bA
 refine oA Z Z (eN (sR (.fl 0 (.fx 1 (wIz (.nil)) .stop)) Z (oL Z (bA.ldBA (j:=1) Z Z Z Zt ZN (vs:=B0) Z Z) ?_)))
 have q:=bnd hm
 obtain ⟨⟨x9,aY⟩,bK,ap⟩:=q
 try dsimp only at ap
 refine zM 0 Z Z Z Z (zL Z Z Tryz.call85 (zC Z zQ) Z) bA (fun hs=>wEy p0 aU aW aV aX W5 φ hs cm cp bK) (.inr Z) ?_
 rintro ak cA cH av cE bv bu
 rcases x9 with _ | ae
 try dsimp only at ap
 obtain ⟨rfl,rfl⟩:=bu
 have bS:sW w φ ak [.blk b6 66 B1,.blk b2 27 B0] av:=bv
 refine oM Z Z (oR Z (ZX Z Z (v:=.pointer none) Z) (oR Z (ZX Z Z (v:=jV aY) Z) (oA Z Z (oA Z Z (eN (zG (sR fL2 Z (oM Z Z (oR Z (Zq Z Z Z) (eN (ifc ap ?_ ?_)))))))))))
 intro bd cq
 refine zu (ZI (fun h=>h bd.out)) (kN (sR gBr Z (oM Z Z ?_)))
 cases cq
 intro bd cr
 refine cT Z bd (sR gBq Z (oR Z (Zd (pv:=[]) (z:=B1) (cs:=B1) Z wAa yK wKL Z Z) (oM Z Z (zx (j:=0) (vs:=B1) Z Z Z Z bS Z Z Z Z ZS (zA Z) Z Z Z ?_))))
 intro bF bU
 have bV:sW w φ ak [.blk b6 66 B1,.blk b2 27 B0] bF:=bU
 refine oA Z Z (eN (zP (zN ?_)))
 have bW:=bV.nilrow 3 1
 have bw:=bW.nilrow 22 1
 cases cr
 exact ⟨rfl,_,(wKl (rs:=[.cell 2 66,.tmp 3]) (vs:=[.agg B1.toArray,jV aY]) ⟨⟨_,rfl,(wFD Zz ZS (bw.blkAt (k:=2) rfl) (vs:=B1) rfl rfl)⟩,⟨rfl,trivial⟩⟩ rfl),ak,_,(bw.pick [1,0] _ (by decide) rfl),none,0,none,0,[],rfl,rfl,RlL.nil⟩
 try dsimp only at ap
 obtain ⟨bb,bk,bq,bl,br,aq,aw,bs,rfl,rfl,bL,bM,bN⟩:=bu
 let B2:Res:=.blk bb 179 [.slice bk ae.Race.Rules.Classes.length bq,jV ae.Race.Rules.Each,jV ae.Race.Rules.Laps,jV ae.Race.Rules.Spare,jV ae.Race.Rules.Loop,jV ae.Race.Rules.Unused,jV ae.Race.Start,.slice bl ae.Race.Teams.length br,.slice aq ae.after.length aw]
 have bz:sW w φ ak [B2,.row aq aw 22 1 bs,.blk b6 66 B1,.blk b2 27 B0] av:=bv
 refine oM Z Z (oR Z (ZX Z Z (v:=.pointer (some ⟨bb,0,none⟩)) Z) (oR Z (ZX Z Z (v:=jV aY) Z) (oA Z Z (oA Z Z (eN (zG (sR fL2 Z (oM Z Z (oR Z (Zq Z Z Z) (eN (ifc ap ?_ ?_)))))))))))
 intro be ct
 refine zu (ZI (fun h=>h be.out)) (kN (sR gBr Z (oM Z Z ?_)))
 have q:=bz.freezeRR (R:=wGO) (k:=1) rfl bN rfl (by decide)
 obtain ⟨bE,bD,cy,bX⟩:=q
 have bY:sW w φ bE [B2,.blk b6 66 B1,.blk b2 27 B0] av:=bX
 have bO:=bL.le bD
 have bP:=bM.le bD
 refine bnK ct fun aZ bQ cu=>zM 1 Z Z Z Z (zL Z Z Tryz.call86 (zC Z zQ) Z) bY (fun hs=>wDp ae bb bk bq bl br aq aw av bE hs bO bP cy bQ) (.inl Z) ?_
 rintro bh cC cI bH cG bZ ⟨ba,bf,au,az,bg,rfl,rfl,bR⟩
 let B3:Res:=.row ba bf 3 1 (nA KL.encI aZ.Bibs)
 have b5:sW w φ bh [B3,.row au az 22 1 bg,B2,.blk b6 66 B1,.blk b2 27 B0] bH:=bZ
 let B4:List Value:=[jV aZ.Laps,.slice ba aZ.Bibs.length bf,.slice au aZ.Times.length az]
 refine zx (j:=3) (vs:=B4) Z Z Z Z b5 Z Z Z Z ZS (zA Z) Z Z Z ?_
 intro bI cd
 have bB:sW w φ bh [B3,.row au az 22 1 bg,B2,.blk b6 66 B4,.blk b2 27 B0] bI:=cd
 refine oA Z Z (eN (zP ?_))
 cases cu
 exact ⟨rfl,_,(wKl (rs:=[.cell 2 66,.tmp 3]) (vs:=[.agg B4.toArray,jV 0]) ⟨⟨_,rfl,(wFD Zz ZS (bB.blkAt (k:=3) rfl) (vs:=B4) rfl rfl)⟩,⟨rfl,trivial⟩⟩ rfl),bh,_,(bB.pick [0,1] _ (by decide) rfl),ba,bf,au,az,bg,rfl,rfl,bR⟩
 intro be cw
 refine cT Z be (sR gBq Z (oR Z (Zd (pv:=[]) (z:=B1) (cs:=B1) Z wAa yK wKL Z Z) (oM Z Z (zx (j:=2) (vs:=B1) Z Z Z Z bz Z Z Z Z ZS (zA Z) Z Z Z ?_))))
 intro bJ cg
 have ci:sW w φ ak [B2,.row aq aw 22 1 bs,.blk b6 66 B1,.blk b2 27 B0] bJ:=cg
 refine oA Z Z (eN (zP (zN ?_)))
 have cj:=ci.nilrow 3 1
 have bC:=cj.nilrow 22 1
 cases cw
 exact ⟨rfl,_,(wKl (rs:=[.cell 2 66,.tmp 3]) (vs:=[.agg B1.toArray,jV aY]) ⟨⟨_,rfl,(wFD Zz ZS (bC.blkAt (k:=4) rfl) (vs:=B1) rfl rfl)⟩,⟨rfl,trivial⟩⟩ rfl),ak,_,(bC.pick [1,0] _ (by decide) rfl),none,0,none,0,[],rfl,rfl,RlL.nil⟩
theorem wMQ (p0:wAL) (ap:Option Addr) (au:Nat) (aq:Option Addr) (av:Nat) (w:World) (φ:PHeap) (hS:St0 w φ []) (cg:Sl φ 1 ap au p0.Rules.Classes.length (nA KL.encI p0.Rules.Classes)) (ci:SlR φ wFr aq av p0.Teams) {r:(List wAD) × Int} (hm:wDk p0=some r):Gv Tryz.prog 15 [.agg #[.slice ap p0.Rules.Classes.length au,jV p0.Rules.Each,jV p0.Rules.Laps,jV p0.Rules.Spare,jV p0.Rules.Loop,jV p0.Rules.Unused,jV p0.Start,.slice aq p0.Teams.length av]] w (wCM w [] φ (fun φ_ L_ v=>∃ (A0:Option Addr) (c0:Nat),v=.tuple #[.slice A0 r.1.length c0,jV r.2]/\L_=[.row A0 c0 45 4 (nA wAS r.1)])):=by
 unfold wDk at hm
 refine Gv.of Tryz.func15 Z Tryz.ntmps15 Tryz.results15 Z (sR gBm Z ?_)
 let B0:List Value:=[.slice ap p0.Rules.Classes.length au,jV p0.Rules.Each,jV p0.Rules.Laps,jV p0.Rules.Spare,jV p0.Rules.Loop,jV p0.Rules.Unused,jV p0.Start,.slice aq p0.Teams.length av]
 refine Za (cs:=B0) rfl rfl rfl rfl rfl rfl (by rfl) hS ?_
 intro W1 b2 bq
 refine oA Z Z (oA Z Z (eN (sR (.fl 0 (.fx 1 (wIz (.nil)) .stop)) Z (oL Z (bq.ldBA (j:=0) Z Z Z Zt ZN (vs:=B0) Z Z) ?_))))
 have q:=bnd hm
 obtain ⟨⟨x5,x6⟩,h7,aj⟩:=q
 try dsimp only at aj
 refine zM 0 Z Z Z Z (zL Z Z Tryz.call85 (zC Z zQ) Z) bq (fun hs=>wEy p0 ap au aq av W1 φ hs cg ci h7) (.inr Z) ?_
 rintro az cG cM ak cJ bp bn
 rcases x5 with _ | ab
 try dsimp only at aj
 obtain ⟨rfl,rfl⟩:=bn
 have bP:sW w φ az [.blk b2 27 B0] ak:=bp
 refine oM Z Z (oR Z (ZX Z Z (v:=.pointer none) Z) (oR Z (ZX Z Z (v:=jV x6) Z) (oA Z Z (oA Z Z (eN (zG (sR fL2 Z (oM Z Z (oR Z (Zq Z Z Z) (eN (ifc aj ?_ ?_)))))))))))
 intro aZ cj
 refine zu (ZI (fun h=>h aZ.out)) (kN (sR (.fl 0 (.fx 1 (.fx 2 (wRq (.nil)) .stop) .stop)) Z (oM Z Z ?_)))
 cases cj
 intro aZ cm
 refine cT Z aZ (sR fL3 Z (oM Z Z (oA Z Z (oA Z Z (eN (zP (zN ?_)))))))
 have bQ:=bP.nilrow 45 4
 cases cm
 exact ⟨rfl,_,(wNX rfl rfl),az,_,(bQ.pick [0] _ (by decide) rfl),none,0,rfl,rfl⟩
 try dsimp only at aj
 obtain ⟨aX,bf,bj,bg,bk,aU,aY,bD,rfl,rfl,bE,bF,bG⟩:=bn
 let B1:Res:=.blk aX 179 [.slice bf ab.Race.Rules.Classes.length bj,jV ab.Race.Rules.Each,jV ab.Race.Rules.Laps,jV ab.Race.Rules.Spare,jV ab.Race.Rules.Loop,jV ab.Race.Rules.Unused,jV ab.Race.Start,.slice bg ab.Race.Teams.length bk,.slice aU ab.after.length aY]
 have br:sW w φ az [B1,.row aU aY 22 1 bD,.blk b2 27 B0] ak:=bp
 refine oM Z Z (oR Z (ZX Z Z (v:=.pointer (some ⟨aX,0,none⟩)) Z) (oR Z (ZX Z Z (v:=jV x6) Z) (oA Z Z (oA Z Z (eN (zG (sR fL2 Z (oM Z Z (oR Z (Zq Z Z Z) (eN (ifc aj ?_ ?_)))))))))))
 intro ba cp
 refine zu (ZI (fun h=>h ba.out)) (kN (sR (.fl 0 (.fx 1 (.fx 2 (wRq (.nil)) .stop) .stop)) Z (oM Z Z ?_)))
 have q:=br.freezeRR (R:=wGO) (k:=1) rfl bG rfl (by decide)
 obtain ⟨bw,bt,ct,bR⟩:=q
 have bS:sW w φ bw [B1,.blk b2 27 B0] ak:=bR
 have bH:=bE.le bt
 have bI:=bF.le bt
 refine bnK cp fun aw bJ cq=>zM 1 Z Z Z Z (zL Z Z Tryz.call86 (zC Z zQ) Z) bS (fun hs=>wDp ab aX bf bj bg bk aU aY ak bw hs bH bI ct bJ) (.inl Z) ?_
 rintro cD cH cN am cK bT ⟨bh,bl,aV,bb,bm,rfl,rfl,bK⟩
 have bU:sW w φ cD [.row bh bl 3 1 (nA KL.encI aw.Bibs),.row aV bb 22 1 bm,B1,.blk b2 27 B0] am:=bT
 have q:=bU.freezeR (k:=0) (n:=aw.Bibs.length) rfl (wAK (f:=KL.encI) (sz:=1) (fun _=>rfl) aw.Bibs) (by decide)
 obtain ⟨cE,cy,cu,bV⟩:=q
 have bW:sW w φ cE [.row aV bb 22 1 bm,B1,.blk b2 27 B0] am:=bV
 have bM:=bK.le cy
 have q:=bW.freezeRR (R:=wGO) (k:=0) rfl bM rfl (by decide)
 obtain ⟨bz,cz,cw,bX⟩:=q
 have bY:sW w φ bz [B1,.blk b2 27 B0] am:=bX
 have bN:=cu.le cz
 have q:=bnd cq
 obtain ⟨⟨bv,cC⟩,bO,bs⟩:=q
 try dsimp only at bs
 refine zM 0 Z Z Z Z (zL Z Z Tryz.call44 (zC Z zQ) Z) bY (fun hs=>wFs aw bh bl aV bb am bz hs bN cw bO) (.inr Z) ?_
 rintro bA cI cO bC cL bZ ⟨aW,bd,rfl,rfl⟩
 have b5:sW w φ bA [.row aW bd 45 4 (nA wAS bv),B1,.blk b2 27 B0] bC:=bZ
 refine oR Z (ZX Z Z (v:=.slice aW bv.length bd) Z) (oR Z (ZX Z Z (v:=jV cC) Z) (oA Z Z (oA Z Z (eN (zP ?_)))))
 cases bs
 exact ⟨rfl,_,(wNX rfl rfl),bA,_,(b5.pick [0] _ (by decide) rfl),aW,bd,rfl,rfl⟩
 intro ba cr
 refine cT Z ba (sR fL3 Z (oM Z Z (oA Z Z (oA Z Z (eN (zP (zN ?_)))))))
 have cd:=br.nilrow 45 4
 cases cr
 exact ⟨rfl,_,(wNX rfl rfl),az,_,(cd.pick [0] _ (by decide) rfl),none,0,rfl,rfl⟩
theorem wEC (p0:wAF) (ah:Option Addr) (aj:Nat) (ai:Option Addr) (ak:Nat) (p1:wAA) (am:Nat) (w:World) (φ:PHeap) (hS:St0 w φ []) (av:Sl φ 1 ah aj p0.Classes.length (nA KL.encI p0.Classes)) (aw:SlR φ wGN ai ak p0.Legs) (ap:Cl φ am 0 [jV p1.Bib,jV p1.Place,jV p1.Time]) {r:Bool} (hm:wAf p0 p1=some r):Gv Tryz.prog 37 [.agg #[jV p0.Bib,.slice ah p0.Classes.length aj,.slice ai p0.Legs.length ak],.pointer (some ⟨am,0,none⟩)] w (wCM w [] φ (fun φ_ L_ v=>v=.bool r/\L_=[])):=by
 unfold wAf at hm
 refine Gv.of Tryz.func37 rfl Tryz.ntmps37 Tryz.results37 rfl (sR gBc rfl (Za (cs:=[jV p0.Bib,.slice ah p0.Classes.length aj,.slice ai p0.Legs.length ak]) rfl rfl rfl rfl rfl rfl (by rfl) hS ?_))
 intro W1 b2 ae
 refine oA Z Z (eN (sR fL6 Z (oR Z (zD Z Z zZ Z zF) (oL Z (ae.ldB (j:=0) Z Z Z zK (v:=jV p0.Bib) Z) (oR Z (zD Z Z zq Z zF) (oL Z (ae.ldC (f:=0) ap (v:=jV p1.Bib) Z Z zK Z) (oR Z (yQ Z Z Z) (oA Z Z (eN (zP ?_))))))))))
 cases hm
 exact ⟨rfl,_,(zw rfl),φ,_,(ae.pick [] _ (by decide) rfl),rfl,rfl⟩
theorem wED (p0:wAA) (p1:wAA) (ah:Nat) (w:World) (φ:PHeap) (hS:St0 w φ []) (ai:Cl φ ah 0 [jV p1.Bib,jV p1.Place,jV p1.Time]) {r:Bool} (hm:wAg p0 p1=some r):Gv Tryz.prog 39 [.agg #[jV p0.Bib,jV p0.Place,jV p0.Time],.pointer (some ⟨ah,0,none⟩)] w (wCM w [] φ (fun φ_ L_ v=>v=.bool r/\L_=[])):=by
 unfold wAg at hm
 refine Gv.of Tryz.func39 rfl Tryz.ntmps39 Tryz.results39 rfl (sR gBc rfl (Za (cs:=[jV p0.Bib,jV p0.Place,jV p0.Time]) rfl rfl rfl rfl rfl rfl (by rfl) hS ?_))
 intro W1 b2 ae
 refine oA Z Z (eN (sR fL6 Z (oR Z (zD Z Z zq Z zF) (oL Z (ae.ldB (j:=0) Z Z Z zK (v:=jV p0.Bib) Z) (oR Z (zD Z Z zq Z zF) (oL Z (ae.ldC (f:=0) ai (v:=jV p1.Bib) Z Z zK Z) (oR Z (yQ Z Z Z) (oA Z Z (eN (zP ?_))))))))))
 cases hm
 exact ⟨rfl,_,(zw rfl),φ,_,(ae.pick [] _ (by decide) rfl),rfl,rfl⟩
theorem wCv (p0:List wAA) (aq:Option Addr) (au:Nat) (p1:(wAA->Option Bool)) (av:Value) (w:World) (φ:PHeap) (hS:St0 w φ []) (br:Sl φ 3 aq au p0.length (nA wAE p0)) (bs:FnOK Tryz.prog φ av wTW wTX p1) {r:Int} (hm:wAk p0 p1=some r):Gv Tryz.prog 47 [.slice aq p0.length au,av] w (wCM w [] φ (fun φ_ L_ v=>v=jV r/\L_=[])):=by
 unfold wAk at hm
 refine Gv.of Tryz.func47 Z Tryz.ntmps47 Tryz.results47 Z (sR fL1 Z (oA Z Z (eN (zG (sR fL3 Z (oM Z Z (oR Z (zd Z Z ZA) (oM Z Z (eN (zR ?_))))))))))
 have q:=wCc hm
 obtain ⟨r3,aj⟩:=q
 have q:=wCj aj
 obtain ⟨am,bv⟩:=q
 replace am:=zH am
 refine yG (fun k2 _ σ_ w_=>∃ (φ_:PHeap),σ_ 8=jV (↑k2:Int)/\σ_ 0=.slice aq p0.length au/\σ_ 1=av/\σ_ 7=jV (↑p0.length:Int)/\PHeap.Le φ φ_/\sW w φ φ_ [] w_) bv ?_ ?_ ?_
 exact ⟨φ,Z,Z,Z,Z,(zS _),hS⟩
 rintro k2 ⟨⟩ bR bT W8 ak ⟨bU,ai,aU,aV,aW,ap,aY⟩ bb bt
 try dsimp only at bb
 have az:Hid ((↑k2:Int) < (↑p0.length:Int)):=zH (wBI ak)
 replace ak:=zH ak
 have bw:Hid (w64 ((↑k2:Int) + 1)=(↑(k2 + 1):Int)):=zH (by have h1:=am.out;have h2:=az.out;rw [wAU] <;> omega)
 refine sR fL1 Z (oR Z (zU Z ai aW) (eN (zG (cT Z az (kN (zG (zR (sR fL2 Z (oM Z ai (oA Z Z (eN (sR (wKd (.fx 5 .nil .stop)) Z (oM Z aV (oM Z aU (oM Z Z (bnK bb fun ae aX bz=>?_))))))))))))))))
 have bj:=br.le ap
 have q:=bj.el (fun _=>rfl) (wAZ aX)
 obtain ⟨bK,bO,bm,bn⟩:=q
 refine oR Z (ZH Z Z bm Z ZA ZV (wBT aX)) (oL Z (aY.ldCA (f:=0) bn Z Z Tryz.isAgg59 ZV (us:=[jV ae.Bib,jV ae.Place,jV ae.Time]) Z Z) (bnK bz fun x30 bk bA=>?_))
 have bl:=bs.le ap
 refine yY (a:=ae) Z Z Z Z Z Z (zC Z zQ) aY bl Z bk ?_
 rintro aw bH bQ be bE bp ⟨rfl,rfl⟩
 have aZ:sW w φ aw [] be:=bp
 refine eN (ifc bA ?_ ?_)
 intro ah bB
 refine ZG (congrArg nD ah.out) (sR fL2 Z (oM Z Z (oA Z Z (eN (zP (zg (zN ?_)))))))
 have q:=wAW bB
 obtain ⟨bF,bC,bg⟩:=q
 obtain rfl:=wBQ hm aj (bt bF bg)
 refine zN (zg (zN ?_))
 cases bC
 exact ⟨Z,_,(zw Z),aw,_,aZ,Z,Z⟩
 intro ah bD
 refine zu (congrArg nD (nE.2 ah.out)) (Zf (ze (zI (rR fL2 Z (oR Z (ZC (zY Z ai Z) (congrArg (jV) bw.out)) (oM Z Z (zn ?_)))))))
 obtain rfl:=nB bD
 exact zI ⟨Z,_,Z,⟨aw,Z,aU,aV,aW,(ap.trans bE),aZ⟩⟩
 rintro ⟨⟩ bS bI ⟨bG,bi,bL,bM,bh,bN,bq⟩ bu
 have ba:=wDL hm aj bu
 try dsimp only at ba
 have bf:Hid (¬ ((↑(((↑p0.length:Int):Int) - 0).toNat:Int) < (↑p0.length:Int))):=zH (wAp)
 refine sR fL1 Z (oR Z (zU Z bi bh) (eN (zG (cF Z bf (ZJ (zX (zX (ZB (zI (sR fL1 Z (oA Z Z (eN (zP ?_)))))))))))))
 cases ba
 exact ⟨Z,_,(zw Z),bG,_,bq,Z,Z⟩
theorem wCn (p0:List wAA) (ae:Option Addr) (ah:Nat) (p1:(wAA->Option Bool)) (ai:Value) (w:World) (φ:PHeap) (hS:St0 w φ []) (au:Sl φ 3 ae ah p0.length (nA wAE p0)) (av:FnOK Tryz.prog φ ai wTW wTX p1) {r:Bool} (hm:wAT p0 p1=some r):Gv Tryz.prog 38 [.slice ae p0.length ah,ai] w (wCM w [] φ (fun φ_ L_ v=>v=.bool r/\L_=[])):=by
 unfold wAT at hm
 refine Gv.of Tryz.func38 Z Tryz.ntmps38 Tryz.results38 Z (sR fL1 Z (oA Z Z (eN (sR gBy Z (oM Z Z (oM Z Z (bnK hm fun x1 h2 aw=>zM 0 Z Z Z Z (zL Z Z Tryz.call47 (zC Z (zC Z zQ)) Z) hS (fun hs=>wCv p0 ae ah p1 ai w φ hs au av h2) (.inr Z) ?_)))))))
 rintro aj L5 v6 W7 aU aq ⟨rfl,rfl⟩
 have ap:sW w φ aj [] W7:=aq
 refine oR Z (yb Z Z Z) (oA Z Z (eN (zP ?_)))
 cases aw
 exact ⟨Z,_,(zw Z),aj,_,ap,Z,Z⟩
theorem wEE (p0:wAD) (p1:wAA) (ah:Nat) (w:World) (φ:PHeap) (hS:St0 w φ []) (ai:Cl φ ah 0 [jV p1.Bib,jV p1.Place,jV p1.Time]) {r:Bool} (hm:wAh p0 p1=some r):Gv Tryz.prog 41 [.agg #[jV p0.Bib,jV p0.Done,jV p0.Time,jV p0.By],.pointer (some ⟨ah,0,none⟩)] w (wCM w [] φ (fun φ_ L_ v=>v=.bool r/\L_=[])):=by
 unfold wAh at hm
 refine Gv.of Tryz.func41 rfl Tryz.ntmps41 Tryz.results41 rfl (sR gBc rfl (Za (cs:=[jV p0.Bib,jV p0.Done,jV p0.Time,jV p0.By]) rfl rfl rfl rfl rfl rfl (by rfl) hS ?_))
 intro W1 b2 ae
 refine oA Z Z (eN (sR fL6 Z (oR Z (zD Z Z yP Z zF) (oL Z (ae.ldB (j:=0) Z Z Z zK (v:=jV p0.Bib) Z) (oR Z (zD Z Z zq Z zF) (oL Z (ae.ldC (f:=0) ai (v:=jV p1.Bib) Z Z zK Z) (oR Z (yQ Z Z Z) (oA Z Z (eN (zP ?_))))))))))
 cases hm
 exact ⟨rfl,_,(zw rfl),φ,_,(ae.pick [] _ (by decide) rfl),rfl,rfl⟩
theorem wDJ (p0:List wAD) (aq:Option Addr) (au:Nat) (p1:(wAD->Option Bool)) (av:Value) (w:World) (φ:PHeap) (hS:St0 w φ []) (br:Sl φ 4 aq au p0.length (nA wAS p0)) (bs:FnOK Tryz.prog φ av wTY wTZ p1) {r:Int} (hm:wAu p0 p1=some r):Gv Tryz.prog 108 [.slice aq p0.length au,av] w (wCM w [] φ (fun φ_ L_ v=>v=jV r/\L_=[])):=by
 unfold wAu at hm
 refine Gv.of Tryz.func108 Z Tryz.ntmps108 Tryz.results108 Z (sR fL1 Z (oA Z Z (eN (zG (sR fL3 Z (oM Z Z (oR Z (zd Z Z Tryz.runUnderlying36) (oM Z Z (eN (zR ?_))))))))))
 have q:=wCc hm
 obtain ⟨r3,aj⟩:=q
 have q:=wCj aj
 obtain ⟨am,bv⟩:=q
 replace am:=zH am
 refine yG (fun k2 _ σ_ w_=>∃ (φ_:PHeap),σ_ 8=jV (↑k2:Int)/\σ_ 0=.slice aq p0.length au/\σ_ 1=av/\σ_ 7=jV (↑p0.length:Int)/\PHeap.Le φ φ_/\sW w φ φ_ [] w_) bv ?_ ?_ ?_
 exact ⟨φ,Z,Z,Z,Z,(zS _),hS⟩
 rintro k2 ⟨⟩ bR bT W8 ak ⟨bU,ai,aU,aV,aW,ap,aY⟩ bb bt
 try dsimp only at bb
 have az:Hid ((↑k2:Int) < (↑p0.length:Int)):=zH (wBI ak)
 replace ak:=zH ak
 have bw:Hid (w64 ((↑k2:Int) + 1)=(↑(k2 + 1):Int)):=zH (by have h1:=am.out;have h2:=az.out;rw [wAU] <;> omega)
 refine sR fL1 Z (oR Z (zU Z ai aW) (eN (zG (cT Z az (kN (zG (zR (sR fL2 Z (oM Z ai (oA Z Z (eN (sR (wKd (.fx 5 .nil .stop)) Z (oM Z aV (oM Z aU (oM Z Z (bnK bb fun ae aX bz=>?_))))))))))))))))
 have bj:=br.le ap
 have q:=bj.el (fun _=>rfl) (wAZ aX)
 obtain ⟨bK,bO,bm,bn⟩:=q
 refine oR Z (ZH Z Z bm Z Tryz.runUnderlying36 ye (wBT aX)) (oL Z (aY.ldCA (f:=0) bn Z Z Tryz.isAgg45 ye (us:=[jV ae.Bib,jV ae.Done,jV ae.Time,jV ae.By]) Z Z) (bnK bz fun x30 bk bA=>?_))
 have bl:=bs.le ap
 refine yY (a:=ae) Z Z Z Z Z Z (zC Z zQ) aY bl Z bk ?_
 rintro aw bH bQ be bE bp ⟨rfl,rfl⟩
 have aZ:sW w φ aw [] be:=bp
 refine eN (ifc bA ?_ ?_)
 intro ah bB
 refine ZG (congrArg nD ah.out) (sR fL2 Z (oM Z Z (oA Z Z (eN (zP (zg (zN ?_)))))))
 have q:=wAW bB
 obtain ⟨bF,bC,bg⟩:=q
 obtain rfl:=wBQ hm aj (bt bF bg)
 refine zN (zg (zN ?_))
 cases bC
 exact ⟨Z,_,(zw Z),aw,_,aZ,Z,Z⟩
 intro ah bD
 refine zu (congrArg nD (nE.2 ah.out)) (Zf (ze (zI (rR fL2 Z (oR Z (ZC (zY Z ai Z) (congrArg (jV) bw.out)) (oM Z Z (zn ?_)))))))
 obtain rfl:=nB bD
 exact zI ⟨Z,_,Z,⟨aw,Z,aU,aV,aW,(ap.trans bE),aZ⟩⟩
 rintro ⟨⟩ bS bI ⟨bG,bi,bL,bM,bh,bN,bq⟩ bu
 have ba:=wDL hm aj bu
 try dsimp only at ba
 have bf:Hid (¬ ((↑(((↑p0.length:Int):Int) - 0).toNat:Int) < (↑p0.length:Int))):=zH (wAp)
 refine sR fL1 Z (oR Z (zU Z bi bh) (eN (zG (cF Z bf (ZJ (zX (zX (ZB (zI (sR fL1 Z (oA Z Z (eN (zP ?_)))))))))))))
 cases ba
 exact ⟨Z,_,(zw Z),bG,_,bq,Z,Z⟩
theorem wDD (p0:List wAD) (ae:Option Addr) (ah:Nat) (p1:(wAD->Option Bool)) (ai:Value) (w:World) (φ:PHeap) (hS:St0 w φ []) (au:Sl φ 4 ae ah p0.length (nA wAS p0)) (av:FnOK Tryz.prog φ ai wTY wTZ p1) {r:Bool} (hm:wAY p0 p1=some r):Gv Tryz.prog 40 [.slice ae p0.length ah,ai] w (wCM w [] φ (fun φ_ L_ v=>v=.bool r/\L_=[])):=by
 unfold wAY at hm
 refine Gv.of Tryz.func40 Z Tryz.ntmps40 Tryz.results40 Z (sR fL1 Z (oA Z Z (eN (sR gBy Z (oM Z Z (oM Z Z (bnK hm fun x1 h2 aw=>zM 0 Z Z Z Z (zL Z Z Tryz.call108 (zC Z (zC Z zQ)) Z) hS (fun hs=>wDJ p0 ae ah p1 ai w φ hs au av h2) (.inr Z) ?_)))))))
 rintro aj L5 v6 W7 aU aq ⟨rfl,rfl⟩
 have ap:sW w φ aj [] W7:=aq
 refine oR Z (yb Z Z Z) (oA Z Z (eN (zP ?_)))
 cases aw
 exact ⟨Z,_,(zw Z),aj,_,ap,Z,Z⟩
theorem wCZ (p0:List Int) (ak:Option Addr) (am:Nat) (w:World) (φ:PHeap) (hS:St0 w φ []) (aU:Sl φ 1 ak am p0.length (nA KL.encI p0)) {r:(List Int)} (hm:wBC p0=some r):Gv Tryz.prog 50 [.slice ak p0.length am] w (wCM w [] φ (fun φ_ L_ v=>∃ (A0:Option Addr) (c0:Nat),v=.slice A0 r.length c0/\L_=[.row A0 c0 3 1 (nA KL.encI r)])):=by
 unfold wBC at hm
 refine Gv.of Tryz.func50 Z Tryz.ntmps50 Tryz.results50 Z (sR fL1 Z (oA Z Z (eN (sR gBj Z (oM Z Z ?_)))))
 have av:=hS.nilrow 3 1
 have aj:sW w φ φ [.row none 0 3 1 (nA KL.encI ([]:List Int))] w:=av
 refine bnK hm fun x4 h5 aV=>Zu (j:=0) (enc:=KL.encI) (xs:=([]:List Int)) (ys:=p0) (zs:=x4) Z Z Z Z Z Zr wFU Z Z Z Z Z Z aj Z Z Z (aj.srcS aU) (fun _=>Z) (fun _=>Z) h5 Z ?_
 intro A7 c8 W9 aw
 have az:sW w φ φ [.row A7 c8 3 1 (nA KL.encI x4)] W9:=aw
 refine oA Z Z (eN (zP ?_))
 have hE:=nB aV;first | subst r | cases hE
 exact ⟨Z,_,(zw Z),φ,_,az,A7,c8,Z,Z⟩
theorem wDP (p0:wAJ) (ae:Option Addr) (ah:Nat) (w:World) (φ:PHeap) (hS:St0 w φ []) (bj:Sl φ 1 ae ah p0.Classes.length (nA KL.encI p0.Classes)) {r:wAJ} (hm:wBW p0=some r):Gv Tryz.prog 33 [.agg #[.slice ae p0.Classes.length ah,jV p0.Each,jV p0.Laps,jV p0.Spare,jV p0.Loop,jV p0.Unused]] w (wCM w [] φ (fun φ_ L_ v=>∃ (aw:Option Addr) (aU:Nat),v=.agg #[.slice aw r.Classes.length aU,jV r.Each,jV r.Laps,jV r.Spare,jV r.Loop,jV r.Unused]/\L_=[.row aw aU 3 1 (nA KL.encI r.Classes)])):=by
 unfold wBW at hm
 refine Gv.of Tryz.func33 Z Tryz.ntmps33 Tryz.results33 Z (sR gBd Z ?_)
 let B0:List Value:=[.slice ae p0.Classes.length ah,jV p0.Each,jV p0.Laps,jV p0.Spare,jV p0.Loop,jV p0.Unused]
 refine Za (cs:=B0) rfl rfl rfl rfl rfl rfl (by rfl) hS ?_
 intro W1 b2 bi
 let B1:List Value:=[.slice none 0 0,jV 0,jV 0,jV 0,jV 0,jV 0]
 refine ZD (cs:=B1) Z Z Z Z Z Tryz.zeroValue24 Z bi ?_
 intro W5 b6 aX
 refine eN (sR (.fl 0 (.fl 1 gBn)) Z (oR Z (zD Z Z ZE Z zW) (oL Z (aX.ldB (j:=1) Z Z Z zm (v:=.slice ae p0.Classes.length ah) Z) (bnK hm fun x9 bd bk=>zM 0 Z Z Z Z (zL Z Z Tryz.call50 (zC Z zQ) Z) aX (fun hs=>wCZ p0.Classes ae ah W5 φ hs bj bd) (.inr Z) ?_))))
 rintro ak bl bp aY bn be ⟨ai,aj,rfl,rfl⟩
 let B2:Res:=.row ai aj 3 1 (nA KL.encI x9)
 have bf:sW w φ ak [B2,.blk b6 24 B1,.blk b2 24 B0] aY:=be
 refine oR Z (zD Z Z ZE Z zW) (zx (j:=2) (vs:=[.slice ai x9.length aj]) Z Z Z Z bf Z Z Z Z zW (zA Z) Z Z Z ?_)
 intro aZ bg
 let B3:List Value:=[.slice ai x9.length aj,jV p0.Each,jV p0.Laps,jV p0.Spare,jV p0.Loop,jV p0.Unused]
 have aV:sW w φ ak [B2,.blk b6 24 B1,.blk b2 24 B3] aZ:=bg
 refine eN (sR gBe Z (oL Z (aV.ldBA (j:=2) Z Z Z yZ ZY (vs:=B3) Z Z) (zx (j:=1) (vs:=B3) Z Z Z Z aV Z Z Z Z ZY (zA Z) Z Z Z ?_)))
 intro ba bh
 have aW:sW w φ ak [B2,.blk b6 24 B3,.blk b2 24 B3] ba:=bh
 refine eN (zP ?_)
 cases bk
 exact ⟨rfl,_,(wFl (v:=.agg B3.toArray) ⟨⟨_,rfl,(wFD yZ ZY (aW.blkAt (k:=1) rfl) (vs:=B3) rfl rfl)⟩,trivial⟩),ak,_,(aW.pick [0] _ (by decide) rfl),ai,aj,rfl,rfl⟩
theorem wFB (p0:List Bool) (ak:Option Addr) (am:Nat) (w:World) (φ:PHeap) (hS:St0 w φ []) (aU:Sl φ 1 ak am p0.length (nA KL.encT p0)) {r:(List Bool)} (hm:wBd p0=some r):Gv Tryz.prog 161 [.slice ak p0.length am] w (wCM w [] φ (fun φ_ L_ v=>∃ (A0:Option Addr) (c0:Nat),v=.slice A0 r.length c0/\L_=[.row A0 c0 4 1 (nA KL.encT r)])):=by
 unfold wBd at hm
 refine Gv.of Tryz.func161 Z Tryz.ntmps161 Tryz.results161 Z (sR fL1 Z (oA Z Z (eN (sR gBj Z (oM Z Z ?_)))))
 have av:=hS.nilrow 4 1
 have aj:sW w φ φ [.row none 0 4 1 (nA KL.encT ([]:List Bool))] w:=av
 refine bnK hm fun x4 h5 aV=>Zu (j:=0) (enc:=KL.encT) (xs:=([]:List Bool)) (ys:=p0) (zs:=x4) Z Z Z Z Z Tryz.underlying77 wMO Z Z Z Z Z Z aj Z Z Z (aj.srcS aU) (fun _=>Z) (fun _=>Z) h5 Z ?_
 intro A7 c8 W9 aw
 have az:sW w φ φ [.row A7 c8 4 1 (nA KL.encT x4)] W9:=aw
 refine oA Z Z (eN (zP ?_))
 have hE:=nB aV;first | subst r | cases hE
 exact ⟨Z,_,(zw Z),φ,_,az,A7,c8,Z,Z⟩
theorem wET (p0:List (List Bool)) (aW:Option Addr) (aY:Nat) (w:World) (φ:PHeap) (hS:St0 w φ []) (ci:SlR φ wJF aW aY p0) {r:(List (List Bool))} (hm:wBR p0=some r):Gv Tryz.prog 84 [.slice aW p0.length aY] w (wCM w [] φ (fun φ_ L_ v=>∃ (A0:Option Addr) (c0:Nat) (bj:List Value),v=.slice A0 r.length c0/\L_=[.row A0 c0 77 1 bj]/\RlL φ_ wJF r bj)):=by
 unfold wBR at hm
 refine Gv.of Tryz.func84 Z Tryz.ntmps84 Tryz.results84 Z (sR fL1 Z (oA Z Z (eN (sR fL1 Z (oA Z Z (eN (zG (sR fL3 Z (oM Z Z (oR Z (zd Z Z Zg) (oM Z Z (eN (zR (bnK hm fun cN cj cq=>?_))))))))))))))
 have q:=wBU cj
 obtain ⟨aV,cm⟩:=q
 replace aV:=zH aV
 refine CK.forN' (fun ae au σ_ w_=>∃ (φ_:PHeap) (ai:Option Addr) (am:Nat) (aq:List Value),σ_ 8=jV (↑ae:Int)/\σ_ 3=.slice ai au.length am/\σ_ 6=.slice aW p0.length aY/\σ_ 7=jV (↑p0.length:Int)/\PHeap.Le φ φ_/\sW w φ φ_ [.row ai am 77 1 aq] w_/\RlL φ_ wJF au aq) cm ?_ ?_ ?_
 have bV:=hS.nilrow 77 1
 exact ⟨φ,none,0,[],Z,Z,Z,Z,(zS _),bV,RlL.nil⟩
 rintro ae au cM cO bz aU ⟨bv,ai,am,aq,aw,bJ,bl,bm,bs,bp,bM⟩ cA
 have bh:Hid ((↑ae:Int) < (↑p0.length:Int)):=zH (wBI aU)
 replace aU:=zH aU
 have cp:Hid (w64 ((↑ae:Int) + 1)=(↑(ae + 1):Int)):=zH (by have h1:=aV.out;have h2:=bh.out;rw [wAU] <;> omega)
 refine sR fL1 Z (oR Z (zU Z aw bm) (eN (zG (cT Z bh (kN (zG (zR (sR fL3 Z (bnK cA fun ba bn cr=>?_)))))))))
 have bN:=ci.le bs
 have q:=bN.el (wAZ bn)
 obtain ⟨bC,cC,cL,bT,az,cw⟩:=q
 obtain ⟨aX,aZ,rfl,bO⟩:=cw
 replace az:Cl bv bC (cC + ae * 1) [.slice aX ba.length aZ]:=az
 refine oR Z (ZH Z bl bT aw Zg yC (wBT bn)) (oL Z (bp.ldC (f:=0) az (v:=.slice aX ba.length aZ) Z Z yS Z) (oA Z Z (eN (rR (.fl 0 (.fl 1 (.fx 2 (.fx 3 (.fx 4 (.fl 5 .nil) .stop) .stop) .stop))) Z (oM Z bJ (oM Z Z (bnK cr fun ab bP ct=>zM 0 Z Z Z Z (zL Z Z Tryz.call161 (zC Z zQ) Z) bp (fun hs=>wFB ba aX aZ bz bv hs bO bP) (.inr Z) ?_)))))))
 rintro cE cG cK bf bt bW ⟨aj,ap,rfl,rfl⟩
 let B0:Res:=.row ai am 77 1 aq
 have bX:sW w φ cE [.row aj ap 4 1 (nA KL.encT ab),B0] bf:=bW
 have q:=bX.freezeR (k:=0) (n:=ab.length) rfl (wAK (f:=KL.encT) (sz:=1) (fun _=>rfl) ab) (by decide)
 obtain ⟨ah,bu,cz,bZ⟩:=q
 have b5:sW w φ ah [B0] bf:=bZ
 let B1:List Value:=[.slice aj ab.length ap]
 refine ZF (pv:=[(0,.slice aj ab.length ap)]) (zs:=[.slice none 0 0]) (cs:=B1) Z Z Z Z Z (wAN Z wAa) Zg yC Tryz.zeroValue77 Z Z Z Z Z b5 ?_
 intro bA bD bY
 have br:RlL ah wJF [ab] B1:=(RlL.cons (R:=wJF) (x:=ab) (vs:=B1) ⟨aj,ap,rfl,cz⟩ RlL.nil)
 let B2:Res:=.row (some ⟨bD,0,none⟩) 1 77 1 B1
 have bq:sW w φ ah [B2,B0] bA:=bY
 refine bnK ct fun x83 bQ cu=>?_
 have bR:=bM.le bt
 have bS:=bR.le bu
 refine yF (R:=wJF) (j:=1) (xs:=au) (ys:=[ab]) (zs:=x83) rfl rfl rfl rfl rfl Tryz.underlying74 wQJ rfl rfl rfl rfl rfl rfl rfl bq rfl rfl rfl bS br (bq.srcR (j:=0) rfl (by decide) (RlL.len br)) bQ rfl ?_
 intro bd bi bk bB cd cy
 have cg:sW w φ ah [B2,.row bd bi 77 1 bk] bB:=cd
 refine oA Z Z (zn (ze (zI (rR fL2 Z (oR Z (ZC (zY Z aw Z) (congrArg (jV) cp.out)) (oM Z Z (zn ?_)))))))
 cases cu
 exact zI ⟨rfl,⟨ah,bd,bi,bk,rfl,rfl,bl,bm,((bs.trans bt).trans bu),(cg.pick [1] _ (by decide) rfl),cy⟩⟩
 rintro cP cH ⟨cD,bw,bE,bF,bK,bH,cI,bI,cJ,bU,bL⟩
 have bG:Hid (¬ ((↑(((↑p0.length:Int):Int) - 0).toNat:Int) < (↑p0.length:Int))):=zH (wAp)
 refine sR fL1 Z (oR Z (zU Z bK bI) (eN (zG (cF Z bG (ZJ (zX (zX (ZB (zI (sR fL2 Z (oM Z bH (oA Z Z (eN (zP ?_))))))))))))))
 have hE:=nB cq;first | subst r | cases hE
 exact ⟨Z,_,(zw Z),cD,_,bU,bw,bE,bF,Z,Z,bL⟩
theorem wFo (p0:wAL) (bz:Option Addr) (bB:Nat) (bj:Option Addr) (bk:Nat) (w:World) (φ:PHeap) (hS:St0 w φ []) (eI:Sl φ 1 bz bB p0.Rules.Classes.length (nA KL.encI p0.Rules.Classes)) (jf:SlR φ wFr bj bk p0.Teams) {r:wAL} (hm:wBg p0=some r):Gv Tryz.prog 13 [.agg #[.slice bz p0.Rules.Classes.length bB,jV p0.Rules.Each,jV p0.Rules.Laps,jV p0.Rules.Spare,jV p0.Rules.Loop,jV p0.Rules.Unused,jV p0.Start,.slice bj p0.Teams.length bk]] w (wCM w [] φ (fun φ_ L_ v=>∃ (dA:Option Addr) (dL:Nat) (dB:Option Addr) (dM:Nat) (dR:List Value),v=.agg #[.slice dA r.Rules.Classes.length dL,jV r.Rules.Each,jV r.Rules.Laps,jV r.Rules.Spare,jV r.Rules.Loop,jV r.Rules.Unused,jV r.Start,.slice dB r.Teams.length dM]/\L_=[.row dA dL 3 1 (nA KL.encI r.Rules.Classes),.row dB dM 73 3 dR]/\RlL φ_ wFr r.Teams dR)):=by
 unfold wBg at hm
 refine Gv.of Tryz.func13 Z Tryz.ntmps13 Tryz.results13 Z (sR gBd Z ?_)
 let B0:List Value:=[.slice bz p0.Rules.Classes.length bB,jV p0.Rules.Each,jV p0.Rules.Laps,jV p0.Rules.Spare,jV p0.Rules.Loop,jV p0.Rules.Unused,jV p0.Start,.slice bj p0.Teams.length bk]
 refine Za (cs:=B0) rfl rfl rfl rfl rfl rfl (by rfl) hS ?_
 intro W1 b2 iv
 let B1:List Value:=[.slice none 0 0,jV 0,jV 0,jV 0,jV 0,jV 0,jV 0,.slice none 0 0]
 refine ZD (cs:=B1) Z Z Z Z Z yA Z iv ?_
 intro W5 b6 i9
 refine eN ?_
 have q:=bnd hm
 obtain ⟨⟨bd,bT,bU,bV,x17,bW⟩,jJ,eK⟩:=q
 try dsimp only at eK
 refine CK.cut (fun σ_ w_=>∃ (φ_:PHeap) (ba:Nat) (aU:Option Addr) (aW:Nat),σ_ 1=.pointer (some ⟨b2,0,none⟩)/\σ_ 2=.pointer (some ⟨b6,0,none⟩)/\σ_ 3=.pointer (some ⟨ba,0,none⟩)/\PHeap.Le φ φ_/\sW w φ φ_ [.blk b6 27 B1,.blk b2 27 B0,.blk ba 27 [.slice aU bd.length aW,jV bT,jV bU,jV bV,jV x17,jV bW,jV p0.Start,.slice none 0 0],.row aU aW 3 1 (nA KL.encI bd)] w_) ?_ ?_
 refine bnK jJ fun ak d7 eM=>Zb ZT [3,1,2,3,1,3,2,0] (.fl 0 (.fl 1 (.fl 3 (.fl 4 (.fx 2 gBp (.fx 6 (.fx 2 gBi .stop) .stop)))))) (by kernel_rfl) ?_
 have bM:=i9.drew
 generalize hw_W44:({ W5 with drawn:=W5.drawn + 1 }:World)=fm at bM ⊢
 refine oR Z (zD Z Z zV Z ZY) (oL Z (bM.ldBA (j:=1) Z Z Z yZ ZY (vs:=[.slice bz p0.Rules.Classes.length bB,jV p0.Rules.Each,jV p0.Rules.Laps,jV p0.Rules.Spare,jV p0.Rules.Loop,jV p0.Rules.Unused]) Z Z) (oR Z (zD Z Z zV Z zF) (oL Z (bM.ldB (j:=1) Z Z Z zK (v:=jV p0.Start) Z) (OKS.both ?_ ?_))))
 refine zM 0 Z Z Z Z (zL Z Z Tryz.call33 (zC Z zQ) Z) bM (fun hs=>wDP p0.Rules bz bB fm φ hs eI d7) (.inr Z) ?_
 rintro dy j6 lA fu jO iY ⟨cd,cp,rfl,rfl⟩
 let B2:Res:=.row cd cp 3 1 (nA KL.encI ak.Classes)
 have iZ:sW w φ dy [B2,.blk b6 27 B1,.blk b2 27 B0] fu:=iY
 let B3:List Value:=[.slice cd ak.Classes.length cp,jV ak.Each,jV ak.Laps,jV ak.Spare,jV ak.Loop,jV ak.Unused,jV p0.Start,.slice none 0 0]
 refine oR Z (Zd (pv:=[(0,.agg #[.slice cd ak.Classes.length cp,jV ak.Each,jV ak.Laps,jV ak.Spare,jV ak.Loop,jV ak.Unused]),(1,jV p0.Start)]) (z:=B1) (cs:=B3) Z (wAN Z (wAN Z wAa)) yA wKJ Z Z) (ZD (cs:=B1) Z Z Z Z Z yA Z iZ ?_)
 intro lq dK i6
 refine zx (j:=0) (vs:=B3) Z Z Z Z i6 Z Z Z Z ZN (zA Z) Z Z Z ?_
 intro fy i7
 have i8:sW w φ dy [.blk dK 27 B3,B2,.blk b6 27 B1,.blk b2 27 B0] fy:=i7
 refine zn ?_
 cases eM
 exact zI ⟨rfl,⟨dy,dK,cd,cp,rfl,rfl,rfl,jO,(i8.pick [2,3,0,1] _ (by decide) rfl)⟩⟩
 refine ZD (cs:=B1) Z Z Z Z Z yA Z bM ?_
 intro fz cM ja
 refine zM 0 Z Z Z Z (zL Z Z Tryz.call33 (zC Z zQ) Z) ja (fun hs=>wDP p0.Rules bz bB fz φ hs eI d7) (.inr Z) ?_
 rintro dz j7 lB fA jP jb ⟨cg,cq,rfl,rfl⟩
 let B4:Res:=.row cg cq 3 1 (nA KL.encI ak.Classes)
 have jc:sW w φ dz [B4,.blk cM 27 B1,.blk b6 27 B1,.blk b2 27 B0] fA:=jb
 let B5:List Value:=[.slice cg ak.Classes.length cq,jV ak.Each,jV ak.Laps,jV ak.Spare,jV ak.Loop,jV ak.Unused,jV p0.Start,.slice none 0 0]
 refine oR Z (Zd (pv:=[(0,.agg #[.slice cg ak.Classes.length cq,jV ak.Each,jV ak.Laps,jV ak.Spare,jV ak.Loop,jV ak.Unused]),(1,jV p0.Start)]) (z:=B1) (cs:=B5) Z (wAN Z (wAN Z wAa)) yA wKJ Z Z) (zx (j:=1) (vs:=B5) Z Z Z Z jc Z Z Z Z ZN (zA Z) Z Z Z ?_)
 intro fB jd
 have je:sW w φ dz [B4,.blk cM 27 B5,.blk b6 27 B1,.blk b2 27 B0] fB:=jd
 refine zn ?_
 cases eM
 exact zI ⟨rfl,⟨dz,cM,cg,cq,rfl,rfl,rfl,jP,(je.pick [2,3,1,0] _ (by decide) rfl)⟩⟩
 rintro lH j9 ⟨eV,ba,aU,aW,fL,fM,fN,jL,d9⟩
 refine zG (sR fL4 Z (oR Z (zD Z fL zV Z ZL) (oL Z (d9.ldB (j:=1) Z Z Z Zh (v:=.slice bj p0.Teams.length bk) Z) (oR Z (zd Z Z zt) (oM Z Z (eN (zR (bnK eK fun jS jg jm=>?_))))))))
 have q:=wBU jg
 obtain ⟨de,jh⟩:=q
 replace de:=zH de
 refine CK.forN' (fun bh bv σ_ w_=>∃ (φ_:PHeap) (bl:Option Addr) (br:Nat) (cr:List Value),σ_ 18=jV (↑bh:Int)/\σ_ 2=.pointer (some ⟨b6,0,none⟩)/\σ_ 3=.pointer (some ⟨ba,0,none⟩)/\σ_ 16=.slice bj p0.Teams.length bk/\σ_ 17=jV (↑p0.Teams.length:Int)/\PHeap.Le eV φ_/\sW w φ φ_ [.blk b6 27 B1,.blk b2 27 B0,.row aU aW 3 1 (nA KL.encI bd),.row bl br 73 3 cr,.blk ba 27 [.slice aU bd.length aW,jV bT,jV bU,jV bV,jV x17,jV bW,jV p0.Start,.slice bl bv.length br]] w_/\RlL φ_ wFr bv cr) jh ?_ ?_ ?_
 have ib:=d9.nilrow 73 3
 exact ⟨eV,none,0,[],rfl,fM,fN,rfl,rfl,(zS _),(ib.pick [1,2,4,0,3] _ (by decide) rfl),RlL.nil⟩
 rintro bh bv lF lI k9 da ⟨bX,bl,br,cr,cu,dS,dT,cR,cS,eR,ef,gv⟩ jG
 have dN:Hid ((↑bh:Int) < (↑p0.Teams.length:Int)):=zH (wBI da)
 replace da:=zH da
 have jk:Hid (w64 ((↑bh:Int) + 1)=(↑(bh + 1):Int)):=zH (by have h1:=de.out;have h2:=dN.out;rw [wAU] <;> omega)
 refine sR fL1 Z (oR Z (zU Z cu cS) (eN (zG (cT Z dN (kN (zG (zR (sR gBu Z (bnK jG fun ah dX jo=>?_)))))))))
 have gw:=jf.le jL
 have gx:=gw.le eR
 have q:=gx.el (wAZ dX)
 obtain ⟨fC,jQ,lD,g8,cX,jx⟩:=q
 obtain ⟨bA,bC,bN,bQ,rfl,dY,gy⟩:=jx
 replace cX:Cl bX fC (jQ + bh * 3) [jV ah.Bib,.slice bA ah.Classes.length bC,.slice bN ah.Legs.length bQ]:=cX
 refine oR Z (ZH Z cR g8 cu zt zy (wBT dX)) (oL Z (ef.ldCA (f:=0) cX Z Z Zy zy (us:=[jV ah.Bib,.slice bA ah.Classes.length bC,.slice bN ah.Legs.length bQ]) Z Z) ?_)
 let B6:List Value:=[jV 0,.slice none 0 0,.slice none 0 0]
 refine ZD (cs:=B6) Z Z Z Z Z Zi Z ef ?_
 intro lc ap ic
 let B7:List Value:=[jV ah.Bib,.slice bA ah.Classes.length bC,.slice bN ah.Legs.length bQ]
 refine zx (j:=0) (vs:=B7) Z Z Z Z ic Z Z Z Z zy (zA Z) Z Z Z ?_
 intro cI ie
 let B8:Res:=.blk ba 27 [.slice aU bd.length aW,jV bT,jV bU,jV bV,jV x17,jV bW,jV p0.Start,.slice bl bv.length br]
 let B9:Res:=.row aU aW 3 1 (nA KL.encI bd)
 let aw:Res:=.row bl br 73 3 cr
 have ig:sW w φ bX [.blk ap 73 B7,.blk b6 27 B1,.blk b2 27 B0,B9,aw,B8] cI:=ie
 refine eN (bnK jo fun az jH jp=>CK.cut (fun σ_ w_=>∃ (φ_:PHeap) (aV:Nat) (aY:Option Addr) (bb:Nat),σ_ 2=.pointer (some ⟨b6,0,none⟩)/\σ_ 3=.pointer (some ⟨ba,0,none⟩)/\σ_ 5=.pointer (some ⟨ap,0,none⟩)/\σ_ 6=.pointer (some ⟨aV,0,none⟩)/\σ_ 16=.slice bj p0.Teams.length bk/\σ_ 17=jV (↑p0.Teams.length:Int)/\σ_ 18=jV (↑bh:Int)/\PHeap.Le bX φ_/\sW w φ φ_ [.blk ap 73 B7,.blk b6 27 B1,.blk b2 27 B0,B9,aw,B8,.blk aV 73 [jV ah.Bib,.slice aY az.length bb,.slice none 0 0],.row aY bb 3 1 (nA KL.encI az)] w_) ?_ ?_)
 refine bnK jH fun x187 dZ eJ=>Zb ZT [3,1,3,1,2,3,2,0] (wHQ (.fx 4 gBp (.fx 6 (.fx 4 gBi .stop) .stop))) (by kernel_rfl) ?_
 have bL:=ig.drew
 generalize hw_W209:({ cI with drawn:=cI.drawn + 1 }:World)=eZ at bL ⊢
 refine oR Z (zD Z Z zZ Z zF) (oL Z (bL.ldB (j:=0) Z Z Z zK (v:=jV ah.Bib) Z) (oR Z (zD Z Z zZ Z zW) (oL Z (bL.ldB (j:=0) Z Z Z zm (v:=.slice bA ah.Classes.length bC) Z) (OKS.both ?_ ?_))))
 refine zM 0 Z Z Z Z (zL Z Z Tryz.call50 (zC Z zQ) Z) bL (fun hs=>wCZ ah.Classes bA bC eZ bX hs dY dZ) (.inr Z) ?_
 rintro dv jY lw e8 jM ii ⟨bY,ci,rfl,rfl⟩
 let dC:Res:=.row bY ci 3 1 (nA KL.encI x187)
 have ij:sW w φ dv [dC,.blk ap 73 B7,.blk b6 27 B1,.blk b2 27 B0,B9,aw,B8] e8:=ii
 let cA:List Value:=[jV ah.Bib,.slice bY x187.length ci,.slice none 0 0]
 refine oR Z (Zd (pv:=[(0,jV ah.Bib),(1,.slice bY x187.length ci)]) (z:=B6) (cs:=cA) Z (wAN Z (wAN Z wAa)) Zi wKM Z Z) (ZD (cs:=B6) Z Z Z Z Z Zi Z ij ?_)
 intro lh dJ ik
 refine zx (j:=0) (vs:=cA) Z Z Z Z ik Z Z Z Z zy (zA Z) Z Z Z ?_
 intro e9 il
 have im:sW w φ dv [.blk dJ 73 cA,dC,.blk ap 73 B7,.blk b6 27 B1,.blk b2 27 B0,B9,aw,B8] e9:=il
 refine zn ?_
 cases eJ
 exact zI ⟨rfl,⟨dv,dJ,bY,ci,dS,dT,rfl,rfl,cR,cS,cu,jM,(im.pick [2,3,4,5,6,7,0,1] _ (by decide) rfl)⟩⟩
 refine ZD (cs:=B6) Z Z Z Z Z Zi Z bL ?_
 intro fb cL io
 refine zM 0 Z Z Z Z (zL Z Z Tryz.call50 (zC Z zQ) Z) io (fun hs=>wCZ ah.Classes bA bC fb bX hs dY dZ) (.inr Z) ?_
 rintro dw jZ lx fc jN ip ⟨bZ,cj,rfl,rfl⟩
 let dD:Res:=.row bZ cj 3 1 (nA KL.encI x187)
 have iq:sW w φ dw [dD,.blk cL 73 B6,.blk ap 73 B7,.blk b6 27 B1,.blk b2 27 B0,B9,aw,B8] fc:=ip
 let cC:List Value:=[jV ah.Bib,.slice bZ x187.length cj,.slice none 0 0]
 refine oR Z (Zd (pv:=[(0,jV ah.Bib),(1,.slice bZ x187.length cj)]) (z:=B6) (cs:=cC) Z (wAN Z (wAN Z wAa)) Zi wKM Z Z) (zx (j:=1) (vs:=cC) Z Z Z Z iq Z Z Z Z zy (zA Z) Z Z Z ?_)
 intro fd ir
 have it:sW w φ dw [dD,.blk cL 73 cC,.blk ap 73 B7,.blk b6 27 B1,.blk b2 27 B0,B9,aw,B8] fd:=ir
 refine zn ?_
 cases eJ
 exact zI ⟨rfl,⟨dw,cL,bZ,cj,dS,dT,rfl,rfl,cR,cS,cu,jN,(it.pick [2,3,4,5,6,7,1,0] _ (by decide) rfl)⟩⟩
 rintro lJ li ⟨eW,aV,aY,bb,fO,fP,fQ,fR,fS,fT,fU,dg,eh⟩
 refine zG (sR fL4 Z (oR Z (zD Z fQ zZ Z Ze) (oL Z (eh.ldB (j:=0) Z Z Z yD (v:=.slice bN ah.Legs.length bQ) Z) (oR Z (zd Z Z ZP) (oM Z Z (eN (zR (bnK jp fun cw ji jq=>?_))))))))
 have q:=wBU ji
 obtain ⟨df,jj⟩:=q
 replace df:=zH df
 refine CK.forN' (fun bu bw σ_ w_=>∃ (φ_:PHeap) (bm:Option Addr) (bs:Nat) (ct:List Value),σ_ 31=jV (↑bu:Int)/\σ_ 2=.pointer (some ⟨b6,0,none⟩)/\σ_ 3=.pointer (some ⟨ba,0,none⟩)/\σ_ 6=.pointer (some ⟨aV,0,none⟩)/\σ_ 16=.slice bj p0.Teams.length bk/\σ_ 17=jV (↑p0.Teams.length:Int)/\σ_ 18=jV (↑bh:Int)/\σ_ 29=.slice bN ah.Legs.length bQ/\σ_ 30=jV (↑ah.Legs.length:Int)/\PHeap.Le eW φ_/\sW w φ φ_ [.blk ap 73 B7,.blk b6 27 B1,.blk b2 27 B0,.row aU aW 3 1 (nA KL.encI bd),aw,B8,.row aY bb 3 1 (nA KL.encI az),.row bm bs 76 3 ct,.blk aV 73 [jV ah.Bib,.slice aY az.length bb,.slice bm bw.length bs]] w_/\RlL φ_ wGN bw ct) jj ?_ ?_ ?_
 have iu:=eh.nilrow 76 3
 exact ⟨eW,none,0,[],rfl,fO,fP,fR,fS,fT,fU,rfl,rfl,(zS _),(iu.pick [1,2,3,4,5,6,8,0,7] _ (by decide) rfl),RlL.nil⟩
 rintro bu bw lG lK lj db ⟨dx,bm,bs,ct,cW,fV,fW,cU,fY,fZ,gb,dU,dV,eS,eu,gz⟩ jK
 have dO:Hid ((↑bu:Int) < (↑ah.Legs.length:Int)):=zH (wBI db)
 replace db:=zH db
 have jl:Hid (w64 ((↑bu:Int) + 1)=(↑(bu + 1):Int)):=zH (by have h1:=df.out;have h2:=dO.out;rw [wAU] <;> omega)
 refine sR fL1 Z (oR Z (zU Z cW dV) (eN (zG (cT Z dO (kN (zG (zR (sR gBu Z (bnK jK fun av d8 jr=>?_)))))))))
 have gA:=gy.le dg
 have gB:=gA.le eS
 have q:=gB.el (wAZ d8)
 obtain ⟨fD,jR,lE,g9,cY,jy⟩:=q
 obtain ⟨bO,bR,bP,bS,rfl,gC,gD⟩:=jy
 replace cY:Cl dx fD (jR + bu * 3) [jV av.Skier,.slice bO av.Loops.length bR,.slice bP av.Bouts.length bS]:=cY
 refine oR Z (ZH Z dU g9 cW ZP ZK (wBT d8)) (oL Z (eu.ldCA (f:=0) cY Z Z yI ZK (us:=[jV av.Skier,.slice bO av.Loops.length bR,.slice bP av.Bouts.length bS]) Z Z) (ZD (cs:=B6) Z Z Z Z Z Zc Z eu ?_))
 intro lm bg iw
 let be:List Value:=[jV av.Skier,.slice bO av.Loops.length bR,.slice bP av.Bouts.length bS]
 refine zx (j:=0) (vs:=be) Z Z Z Z iw Z Z Z Z ZK (zA Z) Z Z Z ?_
 intro cJ iy
 let bi:Res:=.blk aV 73 [jV ah.Bib,.slice aY az.length bb,.slice bm bw.length bs]
 let bf:Res:=.row aY bb 3 1 (nA KL.encI az)
 let bn:Res:=.row bm bs 76 3 ct
 have iz:sW w φ dx [.blk bg 76 be,.blk ap 73 B7,.blk b6 27 B1,.blk b2 27 B0,B9,aw,B8,bf,bn,bi] cJ:=iy
 refine eN (Zb ZT [3,1,3,1,3,1,2,3,1,2,3,2,0,3,0] (wMe (.fl 7 (.fl 8 (.fx 6 (.fx 9 (.fl 10 (.fx 11 (.fx 12 (.fl 13 (.fx 14 .nil .stop)) .stop) .stop)) .stop) .stop)))) (by kernel_rfl) ?_)
 have bt:=iz.drew
 generalize hw_W343:({ cJ with drawn:=cJ.drawn + 1 }:World)=fe at bt ⊢
 refine oR Z (zD Z cU zZ Z Ze) (oL Z (bt.ldB (j:=9) Z Z Z yD (v:=.slice bm bw.length bs) Z) (oR Z (zD Z Z zz Z zF) (oL Z (bt.ldB (j:=0) Z Z Z zK (v:=jV av.Skier) Z) (oR Z (zD Z Z zz Z zW) (oL Z (bt.ldB (j:=0) Z Z Z zm (v:=.slice bO av.Loops.length bR) Z) (oR Z (zD Z Z zz Z Zx) (oL Z (bt.ldB (j:=0) Z Z Z yR (v:=.slice bP av.Bouts.length bS) Z) (bnK jr fun x344 gE jt=>zM 0 Z Z Z Z (zL Z Z Tryz.call50 (zC Z zQ) Z) bt (fun hs=>wCZ av.Loops bO bR fe dx hs gC gE) (.inr Z) ?_))))))))
 rintro eX j4 ly dG dh iA ⟨b5,cm,rfl,rfl⟩
 let dE:Res:=.row b5 cm 3 1 (nA KL.encI x344)
 have iB:sW w φ eX [dE,.blk bg 76 be,.blk ap 73 B7,.blk b6 27 B1,.blk b2 27 B0,B9,aw,B8,bf,bn,bi] dG:=iA
 have gF:=gD.le dh
 refine bnK jt fun x358 gG ju=>zM 0 Z Z Z Z (zL Z Z Tryz.call84 (zC Z zQ) Z) iB (fun hs=>wET av.Bouts bP bS dG eX hs gF gG) (.inr Z) ?_
 rintro jU j5 lz cK eT iC ⟨bF,bI,dP,rfl,rfl,gH⟩
 have iD:sW w φ jU [.row bF bI 77 1 dP,dE,.blk bg 76 be,.blk ap 73 B7,.blk b6 27 B1,.blk b2 27 B0,B9,aw,B8,bf,bn,bi] cK:=iC
 let bp:List Value:=[jV av.Skier,.slice b5 x344.length cm,.slice bF x358.length bI]
 refine oR Z (Zd (pv:=[(0,jV av.Skier),(1,.slice b5 x344.length cm),(2,.slice bF x358.length bI)]) (z:=B6) (cs:=bp) Z (wAN Z (wAN Z (wAN Z wAa))) Zc wKN Z Z) ?_
 have q:=iD.freezeR (k:=1) (n:=x344.length) rfl (wAK (f:=KL.encI) (sz:=1) (fun _=>rfl) x344) (by decide)
 obtain ⟨jW,dm,jB,iF⟩:=q
 have iG:sW w φ jW [.row bF bI 77 1 dP,.blk bg 76 be,.blk ap 73 B7,.blk b6 27 B1,.blk b2 27 B0,B9,aw,B8,bf,bn,bi] cK:=iF
 have gI:=gH.le dm
 have q:=iG.freezeRR (R:=wJF) (k:=0) rfl gI rfl (by decide)
 obtain ⟨bD,dp,jC,iH⟩:=q
 have iI:sW w φ bD [.blk bg 76 be,.blk ap 73 B7,.blk b6 27 B1,.blk b2 27 B0,B9,aw,B8,bf,bn,bi] cK:=iH
 refine ZF (pv:=[(0,.agg bp.toArray)]) (zs:=B6) (cs:=bp) Z Z Z Z Z (wAN Z wAa) ZP ZK Zc Z Z Z Z Z iI ?_
 intro ff fE iE
 have gJ:=jB.le dp
 have eP:RlL bD wGN [(⟨av.Skier,x344,x358⟩:wAG)] bp:=(RlL.cons (R:=wGN) (x:=(⟨av.Skier,x344,x358⟩:wAG)) (vs:=bp) ⟨b5,cm,bF,bI,rfl,gJ,jC⟩ RlL.nil)
 let cD:Res:=.row (some ⟨fE,0,none⟩) 1 76 3 bp
 have eC:sW w φ bD [cD,.blk bg 76 be,.blk ap 73 B7,.blk b6 27 B1,.blk b2 27 B0,B9,aw,B8,bf,bn,bi] ff:=iE
 refine bnK ju fun dt gK jv=>?_
 have gL:=gz.le dh
 have gM:=gL.le eT
 have gN:=gM.le dm
 have gO:=gN.le dp
 refine yF (R:=wGN) (j:=9) (xs:=bw) (ys:=[(⟨av.Skier,x344,x358⟩:wAG)]) (zs:=dt) rfl rfl rfl rfl rfl Tryz.underlying71 wLJ rfl rfl rfl rfl rfl rfl rfl eC rfl rfl rfl gO eP (eC.srcR (j:=0) rfl (by decide) (RlL.len eP)) gK rfl ?_
 intro bG bJ cP fg iJ jz
 have iK:sW w φ bD [cD,.blk bg 76 be,.blk ap 73 B7,.blk b6 27 B1,.blk b2 27 B0,B9,aw,B8,bf,.row bG bJ 76 3 cP,bi] fg:=iJ
 refine oR Z (zD Z cU zZ Z Ze) (zx (j:=10) (vs:=[.slice bG dt.length bJ]) Z Z Z Z iK Z Z Z Z Ze (zA Z) Z Z Z ?_)
 intro fh iL
 have iM:sW w φ bD [cD,.blk bg 76 be,.blk ap 73 B7,.blk b6 27 B1,.blk b2 27 B0,B9,aw,B8,bf,.row bG bJ 76 3 cP,.blk aV 73 [jV ah.Bib,.slice aY az.length bb,.slice bG dt.length bJ]] fh:=iL
 refine zn (ze (zI (rR fL2 Z (oR Z (ZC (zY Z cW Z) (congrArg (jV) jl.out)) (oM Z Z (zn ?_))))))
 cases jv
 exact zI ⟨rfl,⟨bD,bG,bJ,cP,rfl,fV,fW,cU,fY,fZ,gb,dU,dV,((((eS.trans dh).trans eT).trans dm).trans dp),(iM.pick [2,3,4,5,6,7,8,9,10] _ (by decide) rfl),jz⟩⟩
 rintro lL dH ⟨lN,cy,cN,fH,gq,gc,cV,ge,gf,gg,gh,ls,gi,eU,cZ,gP⟩
 have fJ:Hid (¬ ((↑(((↑ah.Legs.length:Int):Int) - 0).toNat:Int) < (↑ah.Legs.length:Int))):=zH (wAp)
 refine sR fL1 Z (oR Z (zU Z gq gi) (eN (zG (cF Z fJ (ZJ (zX (zX (ZB (zI (rR (wDy (.fx 3 (.fx 4 (.fl 5 (.fx 6 .nil .stop)) .stop) .stop)) Z (oR Z (zD Z cV zV Z ZL) (oL Z (cZ.ldB (j:=5) Z Z Z Zh (v:=.slice bl bv.length br) Z) ?_))))))))))))
 let aX:List Value:=[jV ah.Bib,.slice aY az.length bb,.slice cy cw.length cN]
 refine oL Z (cZ.ldBA (j:=8) Z Z ge Zy zy (vs:=aX) Z Z) ?_
 have q:=cZ.freezeR (k:=6) (n:=az.length) rfl (wAK (f:=KL.encI) (sz:=1) (fun _=>rfl) az) (by decide)
 obtain ⟨jX,dq,jD,iO⟩:=q
 have iP:sW w φ jX [.blk ap 73 B7,.blk b6 27 B1,.blk b2 27 B0,B9,aw,B8,.row cy cN 76 3 fH,.blk aV 73 aX] dH:=iO
 have gQ:=gP.le dq
 have q:=iP.freezeRR (R:=wGN) (k:=6) rfl gQ rfl (by decide)
 obtain ⟨bE,dr,jE,iQ⟩:=q
 have iR:sW w φ bE [.blk ap 73 B7,.blk b6 27 B1,.blk b2 27 B0,B9,aw,B8,.blk aV 73 aX] dH:=iQ
 refine ZF (pv:=[(0,.agg aX.toArray)]) (zs:=B6) (cs:=aX) Z Z Z Z Z (wAN Z wAa) zt zy Zi Z Z Z Z Z iR ?_
 intro fj fG iN
 have gR:=jD.le dr
 have eQ:RlL bE wFr [(⟨ah.Bib,az,cw⟩:wAF)] aX:=(RlL.cons (R:=wFr) (x:=(⟨ah.Bib,az,cw⟩:wAF)) (vs:=aX) ⟨aY,bb,cy,cN,rfl,gR,jE⟩ RlL.nil)
 let cE:Res:=.row (some ⟨fG,0,none⟩) 1 73 3 aX
 have eD:sW w φ bE [cE,.blk ap 73 B7,.blk b6 27 B1,.blk b2 27 B0,B9,aw,B8,.blk aV 73 aX] fj:=iN
 refine bnK jq fun du gS jw=>?_
 have gT:=gv.le dg
 have gU:=gT.le eU
 have gW:=gU.le dq
 have gX:=gW.le dr
 refine yF (R:=wFr) (j:=5) (xs:=bv) (ys:=[(⟨ah.Bib,az,cw⟩:wAF)]) (zs:=du) rfl rfl rfl rfl rfl Tryz.underlying25 wNH rfl rfl rfl rfl rfl rfl rfl eD rfl rfl rfl gX eQ (eD.srcR (j:=0) rfl (by decide) (RlL.len eQ)) gS rfl ?_
 intro bH bK cQ fq iT jA
 have iU:sW w φ bE [cE,.blk ap 73 B7,.blk b6 27 B1,.blk b2 27 B0,B9,.row bH bK 73 3 cQ,B8,.blk aV 73 aX] fq:=iT
 refine oR Z (zD Z cV zV Z ZL) (zx (j:=6) (vs:=[.slice bH du.length bK]) Z Z Z Z iU Z Z Z Z ZL (zA Z) Z Z Z ?_)
 intro ft iV
 have iW:sW w φ bE [cE,.blk ap 73 B7,.blk b6 27 B1,.blk b2 27 B0,B9,.row bH bK 73 3 cQ,.blk ba 27 [.slice aU bd.length aW,jV bT,jV bU,jV bV,jV x17,jV bW,jV p0.Start,.slice bH du.length bK],.blk aV 73 aX] ft:=iV
 refine zn (ze (zI (rR fL2 Z (oR Z (ZC (zY Z gh Z) (congrArg (jV) jk.out)) (oM Z Z (zn ?_))))))
 cases jw
 exact zI ⟨rfl,⟨bE,bH,bK,cQ,rfl,gc,cV,gf,gg,((((eR.trans dg).trans eU).trans dq).trans dr),(iW.pick [2,3,4,5,6] _ (by decide) rfl),jA⟩⟩
 rintro lM ln ⟨eY,cz,cO,dQ,gu,dW,gj,lu,gm,lv,eG,gZ⟩
 have fK:Hid (¬ ((↑(((↑p0.Teams.length:Int):Int) - 0).toNat:Int) < (↑p0.Teams.length:Int))):=zH (wAp)
 refine sR fL1 Z (oR Z (zU Z gu gm) (eN (zG (cF Z fK (ZJ (zX (zX (ZB (zI (sR gBe Z ?_))))))))))
 let bq:List Value:=[.slice aU bd.length aW,jV bT,jV bU,jV bV,jV x17,jV bW,jV p0.Start,.slice cz jS.length cO]
 refine oL Z (eG.ldBA (j:=4) Z Z gj Zt ZN (vs:=bq) Z Z) (zx (j:=0) (vs:=bq) Z Z Z Z eG Z dW Z Z ZN (zA Z) Z Z Z ?_)
 intro fw iX
 have eH:sW w φ eY [.blk b6 27 bq,.blk b2 27 B0,.row aU aW 3 1 (nA KL.encI bd),.row cz cO 73 3 dQ,.blk ba 27 bq] fw:=iX
 refine eN (zP ?_)
 cases jm
 exact ⟨rfl,_,(wFl (v:=.agg bq.toArray) ⟨⟨_,dW,(wFD Zt ZN (eH.blkAt (k:=0) rfl) (vs:=bq) rfl rfl)⟩,trivial⟩),eY,_,(eH.pick [2,3] _ (by decide) rfl),aU,aW,cz,cO,dQ,rfl,rfl,gZ⟩
end Go.Proofs.YtglpalgiipahjaaGreat
